/-
  Calls that are handed the address of a block of the caller's own, and turn it.
-/
import Derived.Test.YtffpglgboaigfaaDoorBits
namespace Go.Proofs.YtffpglgboaigfaaDoor
namespace Ex
section
variable {P : Program} {N : Nat} {D : List Deferred} {E : Env} {S : World → Prop} {Q : Exit → Act → World → Prop} {w0 w w' : World} {M : Fp} {L : List Own}
  {ops : Array Oper} {rest : List Oper} {d : Nat} {ty T : TypeId} {pos : String} {aft : Array Edge} {g : Option (Nat × Bool)} {v u : Value} {x : Operand}

/-- Something more is laid down for good: of blocks from number n on, of which none is one's own. -/
theorem Mem.lay' (h : Mem w0 M L w) {F : (Nat → Prop) → World → Prop} (hl : Loc F) (n : Nat) (hn0 : w0.heap.size ≤ n) (hn : ∀ (i : Nat) (o : Own), L[i]? = some o → o.mut = true → ∀ b, o.fp b → b < n)
    {Pb Pb' : Nat → Prop} (pp : Pubs w0 M L w Pb) (hs : ∀ b, Pb' b → (Pb b ∨ n ≤ b) ∧ b < w.heap.size) (hF' : F Pb' w) : Mem w0 M (.pub F :: L) w := by
  refine ⟨h.fr, fun i p hi => ?_, ?_, ?_⟩
  · cases i with
    | zero => obtain rfl : Own.pub F = p := by simpa using hi
              exact ⟨hl, fun b hb => hb.elim, fun hm => by cases hm⟩
    | succ i => exact h.ok i p (by simpa using hi)
  · intro i j p q hi hj hij hm b hb hb'
    cases i with
    | zero =>
      obtain rfl : Own.pub F = p := by simpa using hi
      exact hb
    | succ i =>
      cases j with
      | zero => obtain rfl : Own.pub F = q := by simpa using hj
                exact hb'
      | succ j => exact h.dj i j p q (by simpa using hi) (by simpa using hj) (by omega) hm b hb hb'
  · refine ⟨fun b => Pb b ∨ Pb' b, ?_, ?_, ?_, ?_⟩
    · rintro b (hb | hb)
      · exact pp.sub b hb
      · rcases (hs b hb).1 with h1 | h1
        · exact pp.sub b h1
        · right; omega
    · rintro b (hb | hb)
      · exact pp.lt b hb
      · exact (hs b hb).2
    · intro i p hi hm b hb hb'
      cases i with
      | zero => obtain rfl : Own.pub F = p := by simpa using hi
                cases hm
      | succ i =>
        have hi' : L[i]? = some p := by simpa using hi
        rcases hb with hb | hb
        · exact pp.dj i p hi' hm b hb hb'
        · rcases (hs b hb).1 with h1 | h1
          · exact pp.dj i p hi' hm b h1 hb'
          · have := hn i p hi' hm b hb'; omega
    · intro i G hi
      cases i with
      | zero => obtain rfl : F = G := by simpa using hi
                exact hl Pb' _ w w (fun b hb => .inr hb) (fun _ _ => rfl) hF'
      | succ i =>
        have hi' : L[i]? = some (.pub G) := by simpa using hi
        exact ((h.ok i _ hi').1 : Loc G) Pb _ w w (fun b hb => .inl hb) (fun _ _ => rfl) (pp.at_ i G hi')

theorem Mem.updP {o o' : Own} (h : Mem w0 M L w) {Pb : Nat → Prop} (pp : Pubs w0 M L w Pb) {i : Nat} (hi : L[i]? = some o) (hm : o.mut = true) (hf : Fr o.fp w w')
    (hp : ∀ b, o'.fp b → (o.fp b ∨ w.heap.size ≤ b) ∧ b < w'.heap.size) (hq : o'.isPub = false := by rfl) : Pubs w0 M (L.set i o') w' Pb := by
  have hil : i < L.length := (List.getElem?_eq_some_iff.1 hi).1
  refine ⟨pp.sub, fun b hb => Nat.lt_of_lt_of_le (pp.lt b hb) hf.size, fun j p hj hmp b hb hb' => ?_, fun j F hj => ?_⟩
  · rw [List.getElem?_set] at hj
    by_cases e : i = j
    · rw [if_pos e, if_pos hil] at hj
      obtain rfl : o' = p := by simpa using hj
      rcases (hp b hb').1 with h1 | h1
      · exact pp.dj i o hi hm b hb h1
      · have := pp.lt b hb; omega
    · rw [if_neg e] at hj
      exact pp.dj j p hj hmp b hb hb'
  · rw [List.getElem?_set] at hj
    by_cases e : i = j
    · rw [if_pos e, if_pos hil] at hj
      exact absurd (by simpa using hj) (Own.not_pub hq F)
    · rw [if_neg e] at hj
      exact pp.stay (fun i o hi => (h.ok i o hi).1) (fun b hb => hf.block b (pp.lt b hb) (pp.dj i o hi hm b hb)) hj
/-- what a call that is handed the address of block p hands back: v; the block holds cs then; and F of what was laid down for good -/
def RetPtr (w : World) (P0 : Nat → Prop) (p : Nat) (T : TypeId) (Ψ : Value → List Value → Prop) (F : List Value → (Nat → Prop) → World → Prop) : Ending → World → Prop := fun e w' =>
  ∃ v cs Pb, e = .returned v ∧ Ψ v cs ∧ Fr (· = p) w w' ∧ w'.heap[p]? = some (.cells cs.toArray T (0, 0)) ∧ (∀ b, Pb b → (P0 b ∨ w.heap.size ≤ b) ∧ b < w'.heap.size) ∧ F cs Pb w'
theorem l_callPtr (i : Nat) {f p : Nat} {args : Array Operand} {ts : Array TypeId} {vs cs0 : List Value} (Ψ : Value → List Value → Prop) (F : List Value → (Nat → Prop) → World → Prop) (hl : ∀ cs, Loc (F cs)) (hw : Want N D ops E g true) (hL : L[i]? = some (.blk p cs0 T)) (hargs : evs E args.toList = some vs)
    (hcall : ∀ vs w, (callFunc f vs).run P w = .ok (.enter f vs) w) (hd : Nat.blt d N = true)
    (hc : ∀ w Pb, Mem w0 M L w → Pubs w0 M L w Pb → Calls P f vs.toArray w (RetPtr w Pb p T Ψ F))
    (h : ∀ v cs, Ψ v cs → WL P N D ops Q rest ((d, v) :: E) (Mem w0 M (.pub (F cs) :: L.set i (.blk p cs T)))) :
    WL P N D ops Q (⟨some d, .call { callee := .value (.func f), args := args, argTypes := ts }, ty, pos, aft, g⟩ :: rest) E (Mem w0 M L) :=
  l_call (Φ := fun v w' => ∃ cs, Ψ v cs ∧ Mem w0 M (.pub (F cs) :: L.set i (.blk p cs T)) w') hw (by rfl) hargs hcall hd (fun w hS => by
    obtain ⟨Pb, pp⟩ := hS.pb
    have hc' := hc w Pb hS pp
    simp only [Array.append_empty]
    refine hc'.mono fun e w' ⟨v, cs, Pb', he, hΨ, hf, hh, hPb, hF⟩ => ⟨v, he, cs, hΨ, ?_⟩
    have hp : p < w.heap.size := (hS.ok i _ hL).2.1 p rfl
    have hp' : ∀ b, (Own.blk p cs T).fp b → ((Own.blk p cs0 T).fp b ∨ w.heap.size ≤ b) ∧ b < w'.heap.size := fun b hb => ⟨.inl hb, by have hb' : b = p := hb; subst hb'; exact Nat.lt_of_lt_of_le hp hf.size⟩
    have hu := hS.upd (o := .blk p cs0 T) (o' := .blk p cs T) hL rfl hf hh hp'
    refine hu.lay' (hl cs) w.heap.size hS.fr.size (fun j o hj hm b hb => ?_) (hS.updP pp (o := .blk p cs0 T) (o' := .blk p cs T) hL rfl hf hp') hPb hF
    rw [List.getElem?_set] at hj
    by_cases e : i = j
    · rw [if_pos e] at hj
      split at hj
      · obtain rfl : Own.blk p cs T = o := by simpa using hj
        have hb' : b = p := hb
        omega
      · cases hj
    · rw [if_neg e] at hj
      exact (hS.ok j o hj).2.1 b hb) (fun v w hw a ha => by obtain ⟨cs, hΨ, hm⟩ := hw; exact h v cs hΨ w hm a ha)
/-- its beginning -/
theorem Mem.ptrArg {p : Nat} {cs : List Value} {P0 : Nat → Prop} (hp : w.heap[p]? = some (.cells cs.toArray T (0, 0))) (hP : ∀ b, P0 b → b < w.heap.size ∧ b ≠ p) {F : (Nat → Prop) → World → Prop} (hl : Loc F) (hF : F P0 w) : Mem w ⟨(· = p), P0⟩ [.blk p cs T, .pub F] w := by
  have hlt : p < w.heap.size := (Array.getElem?_eq_some_iff.1 hp).1
  refine ⟨Fr.refl _ _, fun i o hi => ?_, fun i j o o' hi hj hij hm b hb hb' => ?_, P0, fun _ hb => .inl hb, fun b hb => (hP b hb).1, fun i o hi hm b hb hb' => ?_, fun i G hi => ?_⟩
  · match i, hi with
    | 0, hi => obtain rfl : Own.blk p cs T = o := by simpa using hi
               exact ⟨hp, fun b hb => by have hb' : b = p := hb; omega, fun _ b hb => .inr hb⟩
    | 1, hi => obtain rfl : Own.pub F = o := by simpa using hi
               exact ⟨hl, fun b hb => hb.elim, fun hm => by cases hm⟩
  · match i, j, hi, hj with
    | 0, 0, _, _ => exact hij rfl
    | 0, 1, _, hj => obtain rfl : Own.pub F = o' := by simpa using hj
                     exact hb'
    | 1, _, hi, _ => obtain rfl : Own.pub F = o := by simpa using hi
                     exact hb
  · match i, hi with
    | 0, hi => obtain rfl : Own.blk p cs T = o := by simpa using hi
               exact (hP b hb).2 hb'
    | 1, hi => obtain rfl : Own.pub F = o := by simpa using hi
               cases hm
  · match i, hi with
    | 0, hi => cases hi
    | 1, hi => obtain rfl : F = G := by simpa using hi
               exact hF
/-- its end -/
theorem Mem.retPtr {w1 : World} {p : Nat} {P0 : Nat → Prop} {cs : List Value} {Ψ : Value → List Value → Prop} {F : List Value → (Nat → Prop) → World → Prop} (h : Mem w ⟨(· = p), P0⟩ L w1) (i q : Nat) (hL : L[i]? = some (.blk p cs T)) (hq : L[q]? = some (.pub (F cs))) (hΨ : Ψ v cs) : RetPtr w P0 p T Ψ F (.returned v) w1 := by
  obtain ⟨Pb, pp⟩ := h.pb
  exact ⟨v, cs, Pb, rfl, hΨ, h.fr, h.blk hL, fun b hb => ⟨pp.sub b hb, pp.lt b hb⟩, pp.at_ q _ hq⟩

/-! ## A struct whose first part is a slice -/
section
variable {α : Type} {enc : α → List Value} {k : Nat} {l l' : List α}
def RetPS (w : World) (P0 : Nat → Prop) (p : Nat) (T : TypeId) (k : Nat) {α : Type} (enc : α → List Value) (v : Value) (l' : List α) (tail : List Value) : Ending → World → Prop :=
  RetPtr w P0 p T (fun u cs => u = v ∧ ∃ bv, cs = bv :: tail) (fun cs Pb w => FlatSl Pb k enc (cs.headD undef) l' w)
theorem l_openP (q : Nat) (hL : L[q]? = some (slP k enc v l)) (h : ∀ A c, v = .slice A l.length c → l.length ≤ c → c ≤ 9223372036854775807 → (l ≠ [] → ∃ ad, A = some ad) → WL P N D ops Q rest E (Mem w0 M L)) : WL P N D ops Q rest E (Mem w0 M L) :=
  fun w hS => by obtain ⟨A, c, h1, h2, h3, h4⟩ := (hS.slp q hL).form; exact h A c h1 h2 h3 h4 w hS
theorem c_openP {cd : Code} (q : Nat) (hL : L[q]? = some (slP k enc v l)) (h : ∀ A c, v = .slice A l.length c → l.length ≤ c → c ≤ 9223372036854775807 → (l ≠ [] → ∃ ad, A = some ad) → WC P N D cd Q E (Mem w0 M L)) : WC P N D cd Q E (Mem w0 M L) :=
  fun w hS => by obtain ⟨A, c, h1, h2, h3, h4⟩ := (hS.slp q hL).form; exact h A c h1 h2 h3 h4 w hS
theorem l_callPS (i : Nat) {f p : Nat} {args : Array Operand} {ts : Array TypeId} {vs cs0 : List Value} (v : Value) (l' : List α) (tail : List Value) (hw : Want N D ops E g true) (hL : L[i]? = some (.blk p cs0 T)) (hargs : evs E args.toList = some vs)
    (hcall : ∀ vs w, (callFunc f vs).run P w = .ok (.enter f vs) w) (hd : Nat.blt d N = true)
    (hc : ∀ w Pb, Mem w0 M L w → Pubs w0 M L w Pb → Calls P f vs.toArray w (RetPS w Pb p T k enc v l' tail))
    (h : ∀ A c, l'.length ≤ c → c ≤ 9223372036854775807 → (l' ≠ [] → ∃ ad, A = some ad) → WL P N D ops Q rest ((d, v) :: E) (Mem w0 M (slP k enc (.slice A l'.length c) l' :: L.set i (.blk p (.slice A l'.length c :: tail) T)))) :
    WL P N D ops Q (⟨some d, .call { callee := .value (.func f), args := args, argTypes := ts }, ty, pos, aft, g⟩ :: rest) E (Mem w0 M L) :=
  l_callPtr i _ _ (fun _ => FlatSl.loc _ _ _ _) hw hL hargs hcall hd hc (fun u cs hΨ => by
    obtain ⟨rfl, bv, rfl⟩ := hΨ
    refine l_openP 0 rfl fun A c e h1 h2 h3 => ?_
    have e' : bv = .slice A l'.length c := e
    subst e'
    exact h A c h1 h2 h3)
theorem Mem.retPS {w1 : World} {p : Nat} {P0 : Nat → Prop} {bv : Value} {tail tail0 : List Value} {u : Value} {l0 : List α} (h : Mem w ⟨(· = p), P0⟩ L w1) (i q : Nat) (hL : L[i]? = some (.blk p (bv :: tail0) T)) (hq : L[q]? = some (slP k enc bv l0)) (hl : l0 = l') (hv : u = v) (ht : tail0 = tail) : RetPS w P0 p T k enc v l' tail (.returned u) w1 := by
  subst hl hv ht
  exact Mem.retPtr h i q hL hq ⟨rfl, bv, rfl⟩
theorem Pubs.sub' {w : World} {Pb : Nat → Prop} (pp : Pubs w0 M L w Pb) {i p : Nat} {cs : List Value} (hL : L[i]? = some (.blk p cs T)) : ∀ b, Pb b → b < w.heap.size ∧ b ≠ p := fun b hb => ⟨pp.lt b hb, fun e => pp.dj i _ hL rfl b hb e⟩
end
end
end Ex
end Go.Proofs.YtffpglgboaigfaaDoor
