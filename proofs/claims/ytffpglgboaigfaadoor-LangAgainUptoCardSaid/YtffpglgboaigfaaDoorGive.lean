/-
  A part of what one owns is handed to a call, which hands back another part.
-/
import Derived.Test.YtffpglgboaigfaaDoorDeep
namespace Go.Proofs.YtffpglgboaigfaaDoor
namespace Ex
/-- the blocks that these parts let one write -/
def fpOf (A : List Own) : Nat → Prop := fun b => ∃ o ∈ A, o.mut = true ∧ o.fp b
section
variable {P : Program} {N : Nat} {D : List Deferred} {E : Env} {S S' : World → Prop} {Q : Exit → Act → World → Prop} {K : Act → World → Prop} {w0 w w' : World} {M : Fp} {L A A' R : List Own} {Pb : Nat → Prop}
  {ops : Array Oper} {rest : List Oper} {d : Nat} {ty T : TypeId} {pos : String} {aft : Array Edge} {g : Option (Nat × Bool)} {v u : Value} {x y : Operand}
theorem Mem.give (h : Mem w0 M (A ++ R) w) (pp : Pubs w0 M (A ++ R) w Pb) : Mem w ⟨fpOf A, Pb⟩ A w := by
  have hin : ∀ (i : Nat) (o : Own), A[i]? = some o → (A ++ R)[i]? = some o := fun i o hi => by rw [List.getElem?_append_left (List.getElem?_eq_some_iff.1 hi).1]; exact hi
  refine ⟨Fr.refl _ _, fun i o hi => ?_, fun i j o o' hi hj hij hm => h.dj i j o o' (hin i o hi) (hin j o' hj) hij hm, Pb, fun b hb => .inl hb, pp.lt, fun i o hi => pp.dj i o (hin i o hi), fun i F hi => pp.at_ i F (hin i _ hi)⟩
  obtain ⟨h1, h2, _⟩ := h.ok i o (hin i o hi)
  exact ⟨h1, h2, fun hm b hb => .inr ⟨o, List.mem_of_getElem? hi, hm, hb⟩⟩
theorem Mem.take (h : Mem w0 M (A ++ R) w) (pp : Pubs w0 M (A ++ R) w Pb) (k : Mem w ⟨fpOf A, Pb⟩ A' w') (hq : A'.all (fun o => o.mut || o.isPub) = true) : Mem w0 M (A' ++ R) w' := by
  have hA : ∀ (o : Own), o ∈ A → ∃ i, (A ++ R)[i]? = some o ∧ i < A.length := fun o ho => by
    obtain ⟨i, hi, rfl⟩ := List.mem_iff_getElem.1 ho
    exact ⟨i, by rw [List.getElem?_append_left hi]; exact List.getElem?_eq_getElem hi, hi⟩
  have hR : ∀ (j : Nat) (o : Own), R[j]? = some o → (A ++ R)[A.length + j]? = some o := fun j o hj => by rw [List.getElem?_append_right (by omega)]; simpa using hj
  have hfA : ∀ b, fpOf A b → b < w.heap.size ∧ (w0.heap.size ≤ b ∨ M.m b) ∧ ¬ Pb b ∧ ∀ (j : Nat) (o : Own), R[j]? = some o → ¬ o.fp b := by
    rintro b ⟨o, ho, hm, hb⟩
    obtain ⟨i, hi, hil⟩ := hA o ho
    obtain ⟨_, h2, h3⟩ := h.ok i o hi
    exact ⟨h2 b hb, h3 hm b hb, fun hp => pp.dj i o hi hm b hp hb, fun j o' hj hb' => h.dj i (A.length + j) o o' hi (hR j o' hj) (by omega) (.inl hm) b hb hb'⟩
  have hRk : ∀ (j : Nat) (o : Own), R[j]? = some o → ∀ b, o.fp b → w'.heap[b]? = w.heap[b]? := fun j o hj b hb => k.fr.block b ((h.ok _ o (hR j o hj)).2.1 b hb) fun hf => (hfA b hf).2.2.2 j o hj hb
  have hsz := k.fr.size
  have hsz0 := h.fr.size
  have key : ∀ (i : Nat) (o : Own), (A' ++ R)[i]? = some o → (i < A'.length ∧ A'[i]? = some o) ∨ (A'.length ≤ i ∧ R[i - A'.length]? = some o) := fun i o hi => by
    rcases Nat.lt_or_ge i A'.length with h1 | h1
    · rw [List.getElem?_append_left h1] at hi; exact .inl ⟨h1, hi⟩
    · rw [List.getElem?_append_right h1] at hi; exact .inr ⟨h1, hi⟩
  have hA' : ∀ (i : Nat) (o : Own), A'[i]? = some o → ∀ b, o.fp b → o.mut = true := fun i o hi b hb => by
    have := List.all_eq_true.1 hq o (List.mem_of_getElem? hi)
    simp only [Bool.or_eq_true] at this
    rcases this with h1 | h1
    · exact h1
    · cases o <;> first | exact (show False from hb).elim | cases h1
  have hcross : ∀ (i j : Nat) (o o' : Own), A'[i]? = some o → R[j]? = some o' → ∀ b, o.fp b → ¬ o'.fp b := fun i j o o' hi hj b hb hb' => by
    rcases (k.ok i o hi).2.2 (hA' i o hi b hb) b hb with h1 | h1
    · have := (h.ok _ o' (hR j o' hj)).2.1 b hb'; omega
    · exact (hfA b h1).2.2.2 j o' hj hb'
  refine ⟨h.fr.trans k.fr fun b hb hf => (hfA b hf).2.1.resolve_left (by omega), fun i o hi => ?_, fun i j o o' hi hj hij hmm b hb hb' => ?_, ?_⟩
  · rcases key i o hi with ⟨_, h1⟩ | ⟨_, h1⟩
    · obtain ⟨a1, a2, a3⟩ := k.ok i o h1
      exact ⟨a1, a2, fun hm b hb => (a3 hm b hb).elim (fun e => .inl (by omega)) fun e => (hfA b e).2.1⟩
    · obtain ⟨a1, a2, a3⟩ := h.ok _ o (hR _ o h1)
      exact ⟨Own.holds_keep a1 (hRk _ o h1), fun b hb => Nat.lt_of_lt_of_le (a2 b hb) hsz, a3⟩
  · rcases key i o hi with ⟨a1, h1⟩ | ⟨a1, h1⟩ <;> rcases key j o' hj with ⟨a2, h2⟩ | ⟨a2, h2⟩
    · exact k.dj i j o o' h1 h2 hij hmm b hb hb'
    · exact hcross _ _ o o' h1 h2 b hb hb'
    · exact hcross _ _ o' o h2 h1 b hb' hb
    · exact h.dj _ _ o o' (hR _ o h1) (hR _ o' h2) (by omega) hmm b hb hb'
  · obtain ⟨Pb', qq⟩ := k.pb
    refine ⟨fun b => Pb b ∨ Pb' b, fun b hb => ?_, fun b hb => ?_, fun i o hi hm b hb hf => ?_, fun i F hi => ?_⟩
    · rcases hb with hb | hb
      · exact pp.sub b hb
      · rcases qq.sub b hb with h1 | h1
        · exact pp.sub b h1
        · exact .inr (by omega)
    · rcases hb with hb | hb
      · exact Nat.lt_of_lt_of_le (pp.lt b hb) hsz
      · exact qq.lt b hb
    · rcases key i o hi with ⟨_, h1⟩ | ⟨_, h1⟩
      · rcases hb with hb | hb
        · rcases (k.ok i o h1).2.2 hm b hf with h2 | h2
          · have := pp.lt b hb; omega
          · exact (hfA b h2).2.2.1 hb
        · exact qq.dj i o h1 hm b hb hf
      · rcases hb with hb | hb
        · exact pp.dj _ o (hR _ o h1) hm b hb hf
        · rcases qq.sub b hb with h2 | h2
          · exact pp.dj _ o (hR _ o h1) hm b h2 hf
          · have := (h.ok _ o (hR _ o h1)).2.1 b hf; omega
    · rcases key i _ hi with ⟨_, h1⟩ | ⟨_, h1⟩
      · exact (k.ok i _ h1).1 Pb' _ w' w' (fun b hb => .inr hb) (fun _ _ => rfl) (qq.at_ i F h1)
      · exact (h.ok _ _ (hR _ _ h1)).1 Pb _ w w' (fun b hb => .inl hb) (fun b hb => k.fr.block b (pp.lt b hb) fun hf => (hfA b hf).2.2.1 hb) (pp.at_ _ F (hR _ _ h1))
/-- hands back a value and other parts -/
def RetA {α : Type} (w : World) (A : List Own) (Pb : Nat → Prop) (mk : α → Value) (pure : α → Prop) (A' : α → List Own) : Ending → World → Prop := fun e w' => ∃ z, e = .returned (mk z) ∧ pure z ∧ Mem w ⟨fpOf A, Pb⟩ (A' z) w'
theorem l_callA {α : Type} {f : Nat} {args : Array Operand} {ts : Array TypeId} {vs : List Value} {cap : Array Value} (A R : List Own) (mk : α → Value) (pure : α → Prop) (A' : α → List Own) (hA : ∀ w, Mem w0 M L w → Mem w0 M (A ++ R) w) (hq : ∀ z, (A' z).all (fun o => o.mut || o.isPub) = true)
    (hw : Want N D ops E g true) (hx : ev E x = some (.func (.func f) #[] cap)) (hargs : evs E args.toList = some vs)
    (hcall : ∀ vs w, (callFunc f vs).run P w = .ok (.enter f vs) w) (hd : Nat.blt d N = true)
    (hc : ∀ w Pb, Mem w ⟨fpOf A, Pb⟩ A w → Calls P f (vs.toArray ++ cap) w (RetA w A Pb mk pure A'))
    (h : ∀ z, pure z → WL P N D ops Q rest ((d, mk z) :: E) (Mem w0 M (A' z ++ R))) :
    WL P N D ops Q (⟨some d, .call { callee := .value x, args := args, argTypes := ts }, ty, pos, aft, g⟩ :: rest) E (Mem w0 M L) :=
  l_call (Φ := fun v w' => ∃ z, v = mk z ∧ pure z ∧ Mem w0 M (A' z ++ R) w') hw hx hargs hcall hd (fun w hS => by
    have hS := hA w hS
    obtain ⟨Pb, pp⟩ := hS.pb
    exact (hc w Pb (hS.give pp)).mono fun e w' ⟨z, he, hz, hk⟩ => ⟨mk z, he, z, rfl, hz, hS.take pp hk (hq z)⟩) (fun v w hw a ha => by obtain ⟨z, rfl, hz, hm⟩ := hw; exact h z hz w hm a ha)
/-- as l_callA, with all that is known behind it written down -/
theorem l_give {α : Type} {f : Nat} {args : Array Operand} {ts : Array TypeId} {vs cap : List Value} (A R : List Own) (mk : α → Value) (pure : α → Prop) (A' L' : α → List Own) (hL' : ∀ z, A' z ++ R = L' z) (hA : ∀ w, Mem w0 M L w → Mem w0 M (A ++ R) w) (hq : ∀ z, (A' z).all (fun o => o.mut || o.isPub) = true)
    (hw : Want N D ops E g true) (hx : ev E x = some (.func (.func f) #[] cap.toArray)) (hargs : evs E args.toList = some vs)
    (hcall : ∀ vs w, (callFunc f vs).run P w = .ok (.enter f vs) w) (hd : Nat.blt d N = true)
    (hc : ∀ w Pb, Mem w ⟨fpOf A, Pb⟩ A w → Calls P f (vs ++ cap).toArray w (RetA w A Pb mk pure A'))
    (h : ∀ z, pure z → WL P N D ops Q rest ((d, mk z) :: E) (Mem w0 M (L' z))) :
    WL P N D ops Q (⟨some d, .call { callee := .value x, args := args, argTypes := ts }, ty, pos, aft, g⟩ :: rest) E (Mem w0 M L) :=
  l_callA A R mk pure A' hA hq hw hx hargs hcall hd (fun w Pb hG => by have := hc w Pb hG; rwa [← List.append_toArray] at this) fun z hz => by rw [hL' z]; exact h z hz
/-- one that hands back nothing -/
theorem l_callA0 {α : Type} {f : Nat} {args : Array Operand} {ts : Array TypeId} {vs : List Value} {cap : Array Value} (A R : List Own) (pure : α → Prop) (A' : α → List Own) (mk : α → Value) (hA : ∀ w, Mem w0 M L w → Mem w0 M (A ++ R) w) (hq : ∀ z, (A' z).all (fun o => o.mut || o.isPub) = true)
    (hw : Want N D ops E g true) (hx : ev E x = some (.func (.func f) #[] cap)) (hargs : evs E args.toList = some vs)
    (hcall : ∀ vs w, (callFunc f vs).run P w = .ok (.enter f vs) w)
    (hc : ∀ w Pb, Mem w ⟨fpOf A, Pb⟩ A w → Calls P f (vs.toArray ++ cap) w (RetA w A Pb mk pure A'))
    (h : ∀ z, pure z → WL P N D ops Q rest E (Mem w0 M (A' z ++ R))) :
    WL P N D ops Q (⟨none, .call { callee := .value x, args := args, argTypes := ts }, ty, pos, aft, g⟩ :: rest) E (Mem w0 M L) :=
  l_call0 (S' := fun w' => ∃ z, pure z ∧ Mem w0 M (A' z ++ R) w') hw hx hargs hcall (fun w hS => by
    have hS := hA w hS
    obtain ⟨Pb, pp⟩ := hS.pb
    exact (hc w Pb (hS.give pp)).mono fun e w' ⟨z, he, hz, hk⟩ => ⟨mk z, he, z, hz, hS.take pp hk (hq z)⟩) (fun w hw a ha => by obtain ⟨z, hz, hm⟩ := hw; exact h z hz w hm a ha)
theorem Mem.all0 {α : Type} {ok : (Nat → Prop) → α → World → Prop} (hl : ∀ x, Loc (fun S => ok S x)) (h : Mem w0 M L w) : Mem w0 M (allP ok [] :: L) w := h.note (all_loc hl []) fun _ _ x hx => by cases hx
/-- one more cell -/
theorem Mem.allCell {l : List CellX} {sA : Option Addr} {sc : Nat} {sl : List Label} {n : Int} (h : Mem w0 M L w) (q q2 : Nat) (hi : L[q]? = some (allP CellX.Ok l)) (hi2 : L[q2]? = some (slP 2 labelE (.slice sA sl.length sc) sl)) : Mem w0 M (allP CellX.Ok (l ++ [CellX.mk ⟨sA, sc, sl⟩ n]) :: L) w :=
  h.note (all_loc CellX.Ok.loc _) fun Pb pp x hx => by
    rcases List.mem_append.1 hx with h1 | h1
    · exact pp.at_ q _ hi x h1
    · obtain rfl : x = CellX.mk ⟨sA, sc, sl⟩ n := by simpa using h1
      exact ⟨pp.at_ q2 _ hi2⟩
theorem Mem.retA {α : Type} {L : List Own} {mk : α → Value} {pure : α → Prop} {A' : α → List Own} (h : Mem w ⟨fpOf A, Pb⟩ L w') (z : α) (hv : v = mk z) (hz : pure z) (hs : Mem w ⟨fpOf A, Pb⟩ L w' → Mem w ⟨fpOf A, Pb⟩ (A' z) w') : RetA w A Pb mk pure A' (.returned v) w' := ⟨z, by rw [hv], hz, hs h⟩
/-! ## Something that the call lays out as it likes -/
def RetE {β : Type} (w : World) (P0 : Nat → Prop) (mk : β → Value) (pure : β → Prop) (F : β → (Nat → Prop) → World → Prop) : Ending → World → Prop := fun e w' =>
  ∃ z Pb, e = .returned (mk z) ∧ pure z ∧ Fr no w w' ∧ (∀ b, Pb b → (P0 b ∨ w.heap.size ≤ b) ∧ b < w'.heap.size) ∧ F z Pb w'
theorem l_callE {β : Type} {f : Nat} {args : Array Operand} {ts : Array TypeId} {vs : List Value} {cap : Array Value} (mk : β → Value) (pure : β → Prop) (F : β → (Nat → Prop) → World → Prop) (hl : ∀ z, Loc (F z)) (hw : Want N D ops E g true) (hx : ev E x = some (.func (.func f) #[] cap)) (hargs : evs E args.toList = some vs)
    (hcall : ∀ vs w, (callFunc f vs).run P w = .ok (.enter f vs) w) (hd : Nat.blt d N = true)
    (hc : ∀ w Pb, Mem w0 M L w → Pubs w0 M L w Pb → Calls P f (vs.toArray ++ cap) w (RetE w Pb mk pure F))
    (h : ∀ z, pure z → WL P N D ops Q rest ((d, mk z) :: E) (Mem w0 M (.pub (F z) :: L))) :
    WL P N D ops Q (⟨some d, .call { callee := .value x, args := args, argTypes := ts }, ty, pos, aft, g⟩ :: rest) E (Mem w0 M L) :=
  l_call (Φ := fun v w' => ∃ z, v = mk z ∧ pure z ∧ Mem w0 M (.pub (F z) :: L) w') hw hx hargs hcall hd (fun w hS => by
    obtain ⟨Pb, pp⟩ := hS.pb
    refine (hc w Pb hS pp).mono fun e w' ⟨z, Pb', he, hz, hf, hPb, hF⟩ => ⟨mk z, he, z, rfl, hz, ?_⟩
    exact (hS.keep hf).lay' (hl z) w.heap.size hS.fr.size (fun j o hj hm b hb => (hS.ok j o hj).2.1 b hb) (hS.keepP pp hf) hPb hF) (fun v w hw a ha => by obtain ⟨z, rfl, hz, hm⟩ := hw; exact h z hz w hm a ha)
theorem Mem.retE {β : Type} {w1 : World} {P0 : Nat → Prop} {mk : β → Value} {pure : β → Prop} {F : β → (Nat → Prop) → World → Prop} (h : Mem w ⟨no, P0⟩ L w1) (z : β) (hv : v = mk z) (hz : pure z) (hF : ∀ Pb, Pubs w ⟨no, P0⟩ L w1 Pb → F z Pb w1) : RetE w P0 mk pure F (.returned v) w1 := by
  obtain ⟨Pb, pp⟩ := h.pb
  exact ⟨z, Pb, by rw [hv], hz, h.fr, fun b hb => ⟨pp.sub b hb, pp.lt b hb⟩, hF Pb pp⟩
end
end Ex
end Go.Proofs.YtffpglgboaigfaaDoor
