/-
  Values that hold slices: shelves. What a call hands back of such, and how it is opened; blocks that are only read; function values that are called.
-/
import Derived.Test.YtffpglgboaigfaaDoorPtr
import Derived.Laws.Cover3
namespace Go.Proofs.YtffpglgboaigfaaDoor

structure Shelf where (series : List Label) (raw : List Sample) (fine coarse : List Bucket) (rawFrom fineFrom fineTo coarseFrom coarseTo : Int) deriving DecidableEq
structure Tri where (a b c : Int) deriving DecidableEq

namespace Ex
@[reducible] def triE (t : Tri) : List Value := [.int .i64 t.a, .int .i64 t.b, .int .i64 t.c]
theorem encTri : Enc triE 3 := ⟨fun _ => rfl, fun _ v hv => by simp [triE] at hv; rcases hv with rfl | rfl | rfl <;> rfl, by decide⟩
@[reducible] def shelfC (v0 v1 v2 v3 : Value) (s : Shelf) : List Value := [v0, v1, v2, v3, .int .i64 s.rawFrom, .int .i64 s.fineFrom, .int .i64 s.fineTo, .int .i64 s.coarseFrom, .int .i64 s.coarseTo]
/-- a value that reads as a shelf, its slices in blocks of S -/
def ShelfAt (S : Nat → Prop) (v : Value) (s : Shelf) (w : World) : Prop :=
  ∃ v0 v1 v2 v3, v = .agg (shelfC v0 v1 v2 v3 s).toArray ∧ FlatSl S 2 labelE v0 s.series w ∧ FlatSl S 2 sampleE v1 s.raw w ∧ FlatSl S 8 bucketE v2 s.fine w ∧ FlatSl S 8 bucketE v3 s.coarse w
theorem ShelfAt.loc (v : Value) (s : Shelf) : Loc (fun S => ShelfAt S v s) := fun S S' u u' hs hk ⟨v0, v1, v2, v3, e, h0, h1, h2, h3⟩ =>
  ⟨v0, v1, v2, v3, e, FlatSl.loc _ _ _ _ S S' u u' hs hk h0, FlatSl.loc _ _ _ _ S S' u u' hs hk h1, FlatSl.loc _ _ _ _ S S' u u' hs hk h2, FlatSl.loc _ _ _ _ S S' u u' hs hk h3⟩
theorem ShelfAt.open {S : Nat → Prop} {v0 v1 v2 v3 : Value} {s t : Shelf} {w : World} (h : ShelfAt S (.agg (shelfC v0 v1 v2 v3 t).toArray) s w) : FlatSl S 2 labelE v0 s.series w ∧ FlatSl S 2 sampleE v1 s.raw w ∧ FlatSl S 8 bucketE v2 s.fine w ∧ FlatSl S 8 bucketE v3 s.coarse w := by
  obtain ⟨u0, u1, u2, u3, e, h0, h1, h2, h3⟩ := h
  simp [shelfC] at e
  obtain ⟨rfl, rfl, rfl, rfl, _⟩ := e
  exact ⟨h0, h1, h2, h3⟩

section
variable {P : Program} {N : Nat} {D : List Deferred} {E : Env} {S : World → Prop} {Q : Exit → Act → World → Prop} {K : Act → World → Prop} {w0 w w' : World} {M : Fp} {L : List Own}
  {ops : Array Oper} {rest : List Oper} {d : Nat} {ty T : TypeId} {pos : String} {aft : Array Edge} {g : Option (Nat × Bool)} {v u : Value} {x y : Operand}

theorem Mem.emb {L' : List Own} (h : Mem w0 M L w) (f : Nat → Nat) (hf : ∀ i j, f i = f j → i = j) (he : ∀ j o, L'[j]? = some o → L[f j]? = some o) : Mem w0 M L' w := by
  refine ⟨h.fr, fun j o hj => h.ok _ o (he j o hj), fun j k o o' hj hk hjk hm => h.dj _ _ o o' (he j o hj) (he k o' hk) (fun e => hjk (hf _ _ e)) hm, ?_⟩
  obtain ⟨Pb, pp⟩ := h.pb
  exact ⟨Pb, pp.sub, pp.lt, fun j o hj => pp.dj _ o (he j o hj), fun j F hj => pp.at_ _ F (he j _ hj)⟩
theorem Mem.drop4 {a b c d e : Own} (h : Mem w0 M (a :: b :: c :: d :: e :: L) w) : Mem w0 M (a :: b :: c :: d :: L) w :=
  h.emb (fun j => if j < 4 then j else j + 1) (fun i j e => by split at e <;> split at e <;> omega) fun j o hj => by
    match j, hj with
    | 0, hj => simpa using hj
    | 1, hj => simpa using hj
    | 2, hj => simpa using hj
    | 3, hj => simpa using hj
    | j + 4, hj =>
      rw [if_neg (by omega)]
      simpa using hj
theorem Mem.keepP {Pb : Nat → Prop} (h : Mem w0 M L w) (pp : Pubs w0 M L w Pb) (hf : Fr no w w') : Pubs w0 M L w' Pb :=
  ⟨pp.sub, fun b hb => Nat.lt_of_lt_of_le (pp.lt b hb) hf.size, pp.dj, fun _ _ hi => pp.stay (fun i o hi => (h.ok i o hi).1) (fun b hb => hf.block b (pp.lt b hb) id) hi⟩
/-- hands back something whose parts are laid down for good: new ones, or such as were handed on -/
def RetP (w : World) (P0 : Nat → Prop) (mk : Value → Value) (F : Value → (Nat → Prop) → World → Prop) : Ending → World → Prop := fun e w' =>
  ∃ u Pb, e = .returned (mk u) ∧ Fr no w w' ∧ (∀ b, Pb b → (P0 b ∨ w.heap.size ≤ b) ∧ b < w'.heap.size) ∧ F u Pb w'
theorem l_callP {f : Nat} {args : Array Operand} {ts : Array TypeId} {vs : List Value} (mk : Value → Value) (F : Value → (Nat → Prop) → World → Prop) (hl : ∀ u, Loc (F u)) (hw : Want N D ops E g true) (hargs : evs E args.toList = some vs)
    (hcall : ∀ vs w, (callFunc f vs).run P w = .ok (.enter f vs) w) (hd : Nat.blt d N = true)
    (hc : ∀ w Pb, Mem w0 M L w → Pubs w0 M L w Pb → Calls P f vs.toArray w (RetP w Pb mk F))
    (h : ∀ u, WL P N D ops Q rest ((d, mk u) :: E) (Mem w0 M (.pub (F u) :: L))) :
    WL P N D ops Q (⟨some d, .call { callee := .value (.func f), args := args, argTypes := ts }, ty, pos, aft, g⟩ :: rest) E (Mem w0 M L) :=
  l_call (Φ := fun v w' => ∃ u, v = mk u ∧ Mem w0 M (.pub (F u) :: L) w') hw (by rfl) hargs hcall hd (fun w hS => by
    obtain ⟨Pb, pp⟩ := hS.pb
    have hc' := hc w Pb hS pp
    simp only [Array.append_empty]
    refine hc'.mono fun e w' ⟨u, Pb', he, hf, hPb, hF⟩ => ⟨mk u, he, u, rfl, ?_⟩
    exact (hS.keep hf).lay' (hl u) w.heap.size hS.fr.size (fun j o hj hm b hb => (hS.ok j o hj).2.1 b hb) (hS.keepP pp hf) hPb hF) (fun v w hw a ha => by obtain ⟨u, rfl, hm⟩ := hw; exact h u w hm a ha)
theorem Mem.retP {w1 : World} {P0 : Nat → Prop} (h : Mem w ⟨no, P0⟩ L w1) (mk : Value → Value) (F : Value → (Nat → Prop) → World → Prop) (u : Value) (hv : v = mk u) (hF : ∀ Pb, Pubs w ⟨no, P0⟩ L w1 Pb → F u Pb w1) : RetP w P0 mk F (.returned v) w1 := by
  obtain ⟨Pb, pp⟩ := h.pb
  exact ⟨u, Pb, by rw [hv], h.fr, fun b hb => ⟨pp.sub b hb, pp.lt b hb⟩, hF Pb pp⟩

/-! ## Rows that are laid down for good -/
theorem Mem.sealRow {α : Type} {enc : α → List Value} {k : Nat} {e : TypeId} {l : List α} (he : Enc enc k) (h : Mem w0 M L w) {i : Nat} (hi : L[i]? = some (Row v e k enc l)) (hM : M.m = no) : Mem w0 M (L.set i (slP k enc v l)) w := by
  refine h.seal hi rfl (fun b hb => ?_) (FlatSl.loc _ _ _ _) fun Pb pp => ?_
  · rcases (h.ok i _ hi).2.2 rfl b hb with h1 | h1
    · exact .inl h1
    · rw [hM] at h1; exact h1.elim
  · have hrow := h.row hi
    obtain ⟨A, c, rfl, e2, e3, e4⟩ := row_form' hrow
    refine ⟨A, c, rfl, e2, by simpa [maxLen] using e3, fun hne => ?_⟩
    obtain ⟨ad, rfl⟩ := e4 hne
    have hb : (Value.slice (some ad) l.length c).ownBlock = some ad.block := by
      rcases hrow.2 with ⟨h1, h2⟩ | ⟨gb, cap, cur, h1, _⟩
      · cases h1
      · injection h1 with h1 _ _; injection h1 with h1; subst h1; rfl
    refine ⟨ad, rfl, .inr hb, fun i' x hx j u hu => ?_⟩
    exact (RowSl he h i hi).cell rfl hx hu
theorem l_seal {α : Type} {enc : α → List Value} {k : Nat} {e : TypeId} {l : List α} (i : Nat) (he : Enc enc k) (hi : L[i]? = some (Row v e k enc l)) (hM : M.m = no) (h : WL P N D ops Q rest E (Mem w0 M (L.set i (slP k enc v l)))) : WL P N D ops Q rest E (Mem w0 M L) :=
  fun w hS => h w (hS.sealRow he hi hM)

/-! ## Shelves -/
def RetSh (w : World) (P0 : Nat → Prop) (mk : Value → Value) (s : Shelf) : Ending → World → Prop := RetP w P0 mk (fun u Pb w => ShelfAt Pb u s w)
/-- the slices of a shelf -/
theorem l_openSh (q : Nat) {s : Shelf} {mk : Value → Value} (hL : L[q]? = some (.pub (fun Pb => ShelfAt Pb u s)))
    (h : ∀ A0 c0 A1 c1 A2 c2 A3 c3, u = .agg (shelfC (.slice A0 s.series.length c0) (.slice A1 s.raw.length c1) (.slice A2 s.fine.length c2) (.slice A3 s.coarse.length c3) s).toArray →
      s.series.length ≤ c0 ∧ c0 ≤ 9223372036854775807 ∧ s.raw.length ≤ c1 ∧ c1 ≤ 9223372036854775807 ∧ s.fine.length ≤ c2 ∧ c2 ≤ 9223372036854775807 ∧ s.coarse.length ≤ c3 ∧ c3 ≤ 9223372036854775807 →
      (s.series ≠ [] → ∃ ad, A0 = some ad) → (s.raw ≠ [] → ∃ ad, A1 = some ad) → (s.fine ≠ [] → ∃ ad, A2 = some ad) → (s.coarse ≠ [] → ∃ ad, A3 = some ad) →
      WL P N D ops Q rest ((d, mk u) :: E) (Mem w0 M (slP 2 labelE (.slice A0 s.series.length c0) s.series :: slP 2 sampleE (.slice A1 s.raw.length c1) s.raw :: slP 8 bucketE (.slice A2 s.fine.length c2) s.fine :: slP 8 bucketE (.slice A3 s.coarse.length c3) s.coarse :: L))) :
    WL P N D ops Q rest ((d, mk u) :: E) (Mem w0 M L) := fun w hS => by
  obtain ⟨Pb, pp⟩ := hS.pb
  obtain ⟨v0, v1, v2, v3, rfl, h0, h1, h2, h3⟩ := pp.at_ q _ hL
  obtain ⟨A0, c0, rfl, a0, b0, d0⟩ := h0.form
  obtain ⟨A1, c1, rfl, a1, b1, d1⟩ := h1.form
  obtain ⟨A2, c2, rfl, a2, b2, d2⟩ := h2.form
  obtain ⟨A3, c3, rfl, a3, b3, d3⟩ := h3.form
  refine h A0 c0 A1 c1 A2 c2 A3 c3 rfl ⟨a0, b0, a1, b1, a2, b2, a3, b3⟩ d0 d1 d2 d3 w ?_
  have n3 := hS.note (F := fun S => FlatSl S 8 bucketE (.slice A3 s.coarse.length c3) s.coarse) (FlatSl.loc _ _ _ _) fun Pb pp => (ShelfAt.open (pp.at_ q _ hL)).2.2.2
  have n2 := n3.note (F := fun S => FlatSl S 8 bucketE (.slice A2 s.fine.length c2) s.fine) (FlatSl.loc _ _ _ _) fun Pb pp => (ShelfAt.open (pp.at_ (q + 1) _ hL)).2.2.1
  have n1 := n2.note (F := fun S => FlatSl S 2 sampleE (.slice A1 s.raw.length c1) s.raw) (FlatSl.loc _ _ _ _) fun Pb pp => (ShelfAt.open (pp.at_ (q + 2) _ hL)).2.1
  exact n1.note (F := fun S => FlatSl S 2 labelE (.slice A0 s.series.length c0) s.series) (FlatSl.loc _ _ _ _) fun Pb pp => (ShelfAt.open (pp.at_ (q + 3) _ hL)).1
theorem l_callSh {f : Nat} {args : Array Operand} {ts : Array TypeId} {vs : List Value} (mk : Value → Value) (s : Shelf) (hw : Want N D ops E g true) (hargs : evs E args.toList = some vs)
    (hcall : ∀ vs w, (callFunc f vs).run P w = .ok (.enter f vs) w) (hd : Nat.blt d N = true)
    (hc : ∀ w Pb, Mem w0 M L w → Pubs w0 M L w Pb → Calls P f vs.toArray w (RetSh w Pb mk s))
    (h : ∀ A0 c0 A1 c1 A2 c2 A3 c3,
      s.series.length ≤ c0 ∧ c0 ≤ 9223372036854775807 ∧ s.raw.length ≤ c1 ∧ c1 ≤ 9223372036854775807 ∧ s.fine.length ≤ c2 ∧ c2 ≤ 9223372036854775807 ∧ s.coarse.length ≤ c3 ∧ c3 ≤ 9223372036854775807 →
      (s.series ≠ [] → ∃ ad, A0 = some ad) → (s.raw ≠ [] → ∃ ad, A1 = some ad) → (s.fine ≠ [] → ∃ ad, A2 = some ad) → (s.coarse ≠ [] → ∃ ad, A3 = some ad) →
      WL P N D ops Q rest ((d, mk (.agg (shelfC (.slice A0 s.series.length c0) (.slice A1 s.raw.length c1) (.slice A2 s.fine.length c2) (.slice A3 s.coarse.length c3) s).toArray)) :: E) (Mem w0 M (slP 2 labelE (.slice A0 s.series.length c0) s.series :: slP 2 sampleE (.slice A1 s.raw.length c1) s.raw :: slP 8 bucketE (.slice A2 s.fine.length c2) s.fine :: slP 8 bucketE (.slice A3 s.coarse.length c3) s.coarse :: L))) :
    WL P N D ops Q (⟨some d, .call { callee := .value (.func f), args := args, argTypes := ts }, ty, pos, aft, g⟩ :: rest) E (Mem w0 M L) :=
  l_callP mk _ (fun u => ShelfAt.loc u s) hw hargs hcall hd hc fun u => l_openSh 0 rfl fun A0 c0 A1 c1 A2 c2 A3 c3 e hb e0 e1 e2 e3 => by
    subst e
    intro w hS
    exact h A0 c0 A1 c1 A2 c2 A3 c3 hb e0 e1 e2 e3 w hS.drop4
theorem Mem.retSh {w1 : World} {P0 : Nat → Prop} {v0 v1 v2 v3 : Value} {s s' : Shelf} (h : Mem w ⟨no, P0⟩ L w1) (mk : Value → Value) (hv : v = mk (.agg (shelfC v0 v1 v2 v3 s').toArray)) (hs : s' = s)
    (h0 : ∀ Pb, Pubs w ⟨no, P0⟩ L w1 Pb → FlatSl Pb 2 labelE v0 s'.series w1) (h1 : ∀ Pb, Pubs w ⟨no, P0⟩ L w1 Pb → FlatSl Pb 2 sampleE v1 s'.raw w1)
    (h2 : ∀ Pb, Pubs w ⟨no, P0⟩ L w1 Pb → FlatSl Pb 8 bucketE v2 s'.fine w1) (h3 : ∀ Pb, Pubs w ⟨no, P0⟩ L w1 Pb → FlatSl Pb 8 bucketE v3 s'.coarse w1) : RetSh w P0 mk s (.returned v) w1 :=
  h.retP mk _ _ hv fun Pb pp => hs ▸ ⟨v0, v1, v2, v3, rfl, h0 Pb pp, h1 Pb pp, h2 Pb pp, h3 Pb pp⟩

/-! ## Copies -/
/-- Parts of one's own that a call made beside what there is. -/
theorem Mem.join {L2 : List Own} (h : Mem w0 M L w) (k : Mem w no L2 w') (hm : L2.all Own.mut = true) : Mem w0 M (L2 ++ L) w' := by
  have h' := h.keep k.fr
  have hsz := h.fr.size
  have key : ∀ (i : Nat) (o : Own), (L2 ++ L)[i]? = some o → (i < L2.length ∧ L2[i]? = some o) ∨ (L2.length ≤ i ∧ L[i - L2.length]? = some o) := fun i o hi => by
    rcases Nat.lt_or_ge i L2.length with h1 | h1
    · rw [List.getElem?_append_left h1] at hi; exact .inl ⟨h1, hi⟩
    · rw [List.getElem?_append_right h1] at hi; exact .inr ⟨h1, hi⟩
  have hnew : ∀ (i : Nat) (o : Own), L2[i]? = some o → o.mut = true ∧ ∀ b, o.fp b → w.heap.size ≤ b := fun i o hi => by
    have hmu : o.mut = true := List.all_eq_true.1 hm o (List.mem_of_getElem? hi)
    exact ⟨hmu, fun b hb => ((k.ok i o hi).2.2 hmu b hb).resolve_right fun e => e⟩
  refine ⟨h'.fr, fun i o hi => ?_, fun i j o o' hi hj hij hmm b hb hb' => ?_, ?_⟩
  · rcases key i o hi with ⟨_, h1⟩ | ⟨_, h1⟩
    · exact ⟨(k.ok i o h1).1, (k.ok i o h1).2.1, fun _ b hb => .inl (by have := (hnew i o h1).2 b hb; omega)⟩
    · exact h'.ok _ o h1
  · rcases key i o hi with ⟨a1, h1⟩ | ⟨a1, h1⟩ <;> rcases key j o' hj with ⟨a2, h2⟩ | ⟨a2, h2⟩
    · exact k.dj i j o o' h1 h2 hij hmm b hb hb'
    · have := (hnew i o h1).2 b hb; have := (h.ok _ o' h2).2.1 b hb'; omega
    · have := (hnew j o' h2).2 b hb'; have := (h.ok _ o h1).2.1 b hb; omega
    · exact h.dj _ _ o o' h1 h2 (by omega) hmm b hb hb'
  · obtain ⟨Pb, pp⟩ := h.pb
    refine ⟨Pb, pp.sub, fun b hb => Nat.lt_of_lt_of_le (pp.lt b hb) k.fr.size, fun i o hi hmu b hb hb' => ?_, fun i F hi => ?_⟩
    · rcases key i o hi with ⟨_, h1⟩ | ⟨_, h1⟩
      · have := (hnew i o h1).2 b hb'; have := pp.lt b hb; omega
      · exact pp.dj _ o h1 hmu b hb hb'
    · rcases key i _ hi with ⟨_, h1⟩ | ⟨_, h1⟩
      · have := (hnew i _ h1).1; cases this
      · exact pp.stay (fun i o hi => (h.ok i o hi).1) (fun b hb => k.fr.block b (pp.lt b hb) id) h1
theorem Mem.noPub {p : Nat → Prop} (h : Mem w ⟨no, p⟩ L w') (hm : L.all Own.mut = true) : Mem w no L w' :=
  ⟨h.fr, h.ok, h.dj, fun _ => False, by simp, by simp, by simp, fun i F hi => by have : Own.mut (.pub F) = true := List.all_eq_true.1 hm _ (List.mem_of_getElem? hi); cases this⟩
/-- hands back a shelf whose slices are all one's own -/
def RetOwn (w : World) (e0 e1 e2 e3 : TypeId) (s : Shelf) : Ending → World → Prop := fun e w' => ∃ v0 v1 v2 v3, e = .returned (.agg (shelfC v0 v1 v2 v3 s).toArray) ∧
  Mem w no [Row v0 e0 2 labelE s.series, Row v1 e1 2 sampleE s.raw, Row v2 e2 8 bucketE s.fine, Row v3 e3 8 bucketE s.coarse] w'
theorem l_callOwn {f : Nat} {args : Array Operand} {ts : Array TypeId} {vs : List Value} {e0 e1 e2 e3 : TypeId} (s : Shelf) (hw : Want N D ops E g true) (hargs : evs E args.toList = some vs)
    (hcall : ∀ vs w, (callFunc f vs).run P w = .ok (.enter f vs) w) (hd : Nat.blt d N = true)
    (hc : ∀ w, Mem w0 M L w → Calls P f vs.toArray w (RetOwn w e0 e1 e2 e3 s))
    (h : ∀ A0 c0 A1 c1 A2 c2 A3 c3,
      s.series.length ≤ c0 ∧ c0 ≤ 9223372036854775807 ∧ s.raw.length ≤ c1 ∧ c1 ≤ 9223372036854775807 ∧ s.fine.length ≤ c2 ∧ c2 ≤ 9223372036854775807 ∧ s.coarse.length ≤ c3 ∧ c3 ≤ 9223372036854775807 →
      (s.series ≠ [] → ∃ ad, A0 = some ad) → (s.raw ≠ [] → ∃ ad, A1 = some ad) → (s.fine ≠ [] → ∃ ad, A2 = some ad) → (s.coarse ≠ [] → ∃ ad, A3 = some ad) →
      WL P N D ops Q rest ((d, (.agg (shelfC (.slice A0 s.series.length c0) (.slice A1 s.raw.length c1) (.slice A2 s.fine.length c2) (.slice A3 s.coarse.length c3) s).toArray)) :: E) (Mem w0 M (Row (.slice A0 s.series.length c0) e0 2 labelE s.series :: Row (.slice A1 s.raw.length c1) e1 2 sampleE s.raw :: Row (.slice A2 s.fine.length c2) e2 8 bucketE s.fine :: Row (.slice A3 s.coarse.length c3) e3 8 bucketE s.coarse :: L))) :
    WL P N D ops Q (⟨some d, .call { callee := .value (.func f), args := args, argTypes := ts }, ty, pos, aft, g⟩ :: rest) E (Mem w0 M L) :=
  l_callN (Φ := fun v w' => ∃ v0 v1 v2 v3, v = .agg (shelfC v0 v1 v2 v3 s).toArray ∧ Mem w0 M (Row v0 e0 2 labelE s.series :: Row v1 e1 2 sampleE s.raw :: Row v2 e2 8 bucketE s.fine :: Row v3 e3 8 bucketE s.coarse :: L) w') hw hargs hcall hd
    (fun w hS => (hc w hS).mono fun _ _ ⟨v0, v1, v2, v3, he, hk⟩ => ⟨_, he, v0, v1, v2, v3, rfl, hS.join hk rfl⟩) fun v w hw a ha => by
    obtain ⟨v0, v1, v2, v3, rfl, hS⟩ := hw
    obtain ⟨A0, c0, rfl, a0, b0, d0⟩ := row_form' (hS.row (i := 0) rfl)
    obtain ⟨A1, c1, rfl, a1, b1, d1⟩ := row_form' (hS.row (i := 1) rfl)
    obtain ⟨A2, c2, rfl, a2, b2, d2⟩ := row_form' (hS.row (i := 2) rfl)
    obtain ⟨A3, c3, rfl, a3, b3, d3⟩ := row_form' (hS.row (i := 3) rfl)
    exact h A0 c0 A1 c1 A2 c2 A3 c3 ⟨a0, b0, a1, b1, a2, b2, a3, b3⟩ d0 d1 d2 d3 w hS a ha
theorem Mem.retOwn {p : Nat → Prop} {w1 : World} {v0 v1 v2 v3 : Value} {e0 e1 e2 e3 : TypeId} {s : Shelf} (h : Mem w ⟨no, p⟩ [Row v0 e0 2 labelE s.series, Row v1 e1 2 sampleE s.raw, Row v2 e2 8 bucketE s.fine, Row v3 e3 8 bucketE s.coarse] w1) : RetOwn w e0 e1 e2 e3 s (.returned (.agg (shelfC v0 v1 v2 v3 s).toArray)) w1 :=
  ⟨v0, v1, v2, v3, rfl, h.noPub rfl⟩

/-- hands back something new, and what it hangs on -/
def RetMk (w : World) (mk : Nat → Value) (o : Nat → Own) : Ending → World → Prop := fun e w' => ∃ b, e = .returned (mk b) ∧ Mem w no [o b] w'
theorem l_callMk {f : Nat} {args : Array Operand} {ts : Array TypeId} {vs : List Value} (mk : Nat → Value) (o : Nat → Own) (ho : ∀ b, (o b).mut = true) (hw : Want N D ops E g true) (hx : ev E x = some (.func (.func f) #[] #[])) (hargs : evs E args.toList = some vs)
    (hcall : ∀ vs w, (callFunc f vs).run P w = .ok (.enter f vs) w) (hd : Nat.blt d N = true)
    (hc : ∀ w, Mem w0 M L w → Calls P f vs.toArray w (RetMk w mk o)) (h : ∀ b, WL P N D ops Q rest ((d, mk b) :: E) (Mem w0 M (o b :: L))) :
    WL P N D ops Q (⟨some d, .call { callee := .value x, args := args, argTypes := ts }, ty, pos, aft, g⟩ :: rest) E (Mem w0 M L) :=
  l_call (Φ := fun v w' => ∃ b, v = mk b ∧ Mem w0 M (o b :: L) w') hw hx hargs hcall hd (fun w hS => by
    have := hc w hS
    simp only [Array.append_empty]
    exact this.mono fun e w' ⟨b, he, hk⟩ => ⟨_, he, b, rfl, hS.join (L2 := [o b]) hk (by simp [ho b])⟩) fun v w hw a ha => by
    obtain ⟨b, rfl, hS⟩ := hw
    exact h b w hS a ha
theorem Mem.blkKeep {i b : Nat} {cs : List Value} {t : TypeId} (h : Mem w0 M L w) (hi : L[i]? = some (.blk b cs t)) (hf : Fr no w w') : w'.heap[b]? = some (.cells cs.toArray t (0, 0)) := (h.keep hf).blk hi
/-- a block beside a row that a call turns -/
theorem Mem.blkStay {i j b k n : Nat} {cs : List Value} {t e : TypeId} {xs : List Value} (h : Mem w0 M L w) (hi : L[i]? = some (.blk b cs t)) (hj : L[j]? = some (.row v e k n xs)) (hf : Fr (fun b => v.ownBlock = some b) w w') : w'.heap[b]? = some (.cells cs.toArray t (0, 0)) :=
  (hf.block b ((h.ok i _ hi).2.1 b rfl) (fun hb => h.dj i j _ _ hi hj (fun e => by subst e; rw [hi] at hj; cases hj) (.inl rfl) b rfl hb)).trans (h.blk hi)

/-! ## Blocks that are only read -/
def datB (b : Nat) (cs : List Value) (t : TypeId) : Own := .dat (· = b) (fun w => w.heap[b]? = some (.cells cs.toArray t (0, 0)))
theorem Mem.datb {i b : Nat} {cs : List Value} {t : TypeId} (h : Mem w0 M L w) (hi : L[i]? = some (datB b cs t)) : w.heap[b]? = some (.cells cs.toArray t (0, 0)) := h.dat hi
theorem Mem.datCell {i b j : Nat} {cs : List Value} {t : TypeId} (h : Mem w0 M L w) (hi : L[i]? = some (datB b cs t)) (hu : cs[j]? = some u) : w.cell? ⟨b, j, none⟩ = some u := by
  have := h.datb hi
  simp [World.cell?, this, hu]
theorem r_ldb (i : Nat) {b j : Nat} {cs : List Value} {t : TypeId} (hx : ev E x = some (.pointer (some ⟨b, j, none⟩))) (hL : L[i]? = some (datB b cs t)) (hu : cs[j]? = some u) (hf : flatT P T = true) : Runs P N D E (Mem w0 M L) (.load T x) ty u :=
  r_load1 hx hf fun _ h => h.datCell hL hu
theorem r_ldbn (i : Nat) {b j k1 by1 : Nat} {z1 : Value} {cs : List Value} {t : TypeId} (vs : List Value) (hx : ev E x = some (.pointer (some ⟨b, j, none⟩))) (hL : L[i]? = some (datB b cs t)) (hv : (cs.drop j).take k1 = vs) (hl : vs.length = k1) (hg : aggT P T = true) (hs : Inf P T k1 by1 z1) : Runs P N D E (Mem w0 M L) (.load T x) ty (.agg vs.toArray) :=
  r_loadn vs hx hg hs hl fun _ h p u hu => by
    rw [add_lit]
    rw [← hv, List.getElem?_take] at hu
    split at hu
    · exact h.datCell hL (by simpa using hu)
    · cases hu
theorem ddb {P0 : Nat → Prop} {b : Nat} {cs : List Value} {t : TypeId} (h : w.heap[b]? = some (.cells cs.toArray t (0, 0))) : dOk P0 (datB b cs t) w :=
  ⟨rfl, ⟨h, fun _ _ hs hf => (hs b rfl).trans hf⟩, fun b' hb => by have hb' : b' = b := hb; subst hb'; exact (Array.getElem?_eq_some_iff.1 h).1, fun F hF => by cases hF⟩

/-! ## A slice that may be nil -/
theorem r_slnil {A : Option Addr} {len c : Nat} {t e ot : TypeId} (hx : ev E x = some (.slice A len c)) (hy : ev E y = some (.slice none 0 0)) (hu : P.underlying t = some (.slice e)) : Runs P N D E S (.binOp .eql t x y ot) ty (.bool A.isNone) := fun o ho hty a w ha _ => by
  unfold execOp; rw [ho]
  simp [ha.eval hx, ha.eval hy, binOp, eqGuard, run_equal_slice_nil w t e A len c hu]
end
section
variable {P : Program} {N : Nat} {D : List Deferred} {E : Env} {Q : Exit → Act → World → Prop} {w0 : World} {M : Fp} {L : List Own} {α : Type} {enc : α → List Value} {k e : Nat} {l : List α} {A : Option Addr} {c : Nat}
  {ops : Array Oper} {rest : List Oper} {d : Nat} {T ty : TypeId} {pos : String} {aft : Array Edge} {g : Option (Nat × Bool)} {v u : Value} {x y : Operand} {ad : Addr}
theorem l_actV {op : Op} {S S' : World → Prop} (hw : Want N D ops E g true)
    (h : ∀ o : Oper, o.op = op → o.type = ty → ∀ a w, Has N D a E → S w → ∃ v w', (execOp a.eval o).run P w = .ok (.value v) w' ∧ S' w')
    (hk : WL P N D ops Q rest E S') : WL P N D ops Q (⟨none, op, ty, pos, aft, g⟩ :: rest) E S := fun w hS a ha => by
  unfold wpList
  rw [if_pos (hw _ rfl a ha)]
  left
  obtain ⟨v, w', hr, hS'⟩ := h ⟨none, op, ty, pos, aft, g⟩ rfl rfl a w ha hS
  unfold Oper.wp
  rw [hr]
  exact hk w' hS' _ ha
theorem zeroCells_one {z : Array Value} {n : Nat} (hz : ∀ v ∈ z.toList, v.oneCell' = true) : ∀ v ∈ (Builtin.zeroCells z n).toList, v.oneCell' = true := by
  intro v hv
  simp only [Builtin.zeroCells, Array.toList_map, List.mem_map] at hv
  obtain ⟨i, hi, rfl⟩ := hv
  have h0 : 0 < z.size := by
    rcases Nat.eq_zero_or_pos z.size with h | h
    · simp [h] at hi
    · exact h
  have h1 := Nat.mod_lt i h0
  rw [getElem!_pos z _ h1]
  exact hz _ (by simp)
/-- the built-in clear, of the end of a row of one's own: what is ahead of it stays -/
theorem l_clear (q : Nat) {lo by1 : Nat} {zv : Value} (he : Enc enc k) (hw : Want N D ops E g true) (hx : ev E x = some (.slice (subA A k c lo) (l.length - lo) (c - lo))) (hL : L[q]? = some (Row (.slice A l.length c) e k enc l)) (hA : A = some ad) (hu : P.underlying T = some (.slice e)) (hs : Inf P e k by1 zv) (hz : zv.cells.size = k) (hz1 : zv.cells.toList.all (·.oneCell') = true) (hlo : lo < l.length)
    (h : WL P N D ops Q rest E (Mem w0 M (L.set q (Row (.slice A (l.take lo).length c) e k enc (l.take lo))))) : WL P N D ops Q (⟨none, .call { callee := .builtin .clear, args := #[x], argTypes := #[T] }, ty, pos, aft, g⟩ :: rest) E (Mem w0 M L) := by
  refine l_actV hw (fun o ho hty ac w ha hS => ?_) h
  have hown := hS.row hL
  subst hA
  rcases hown.2 with ⟨h0, _⟩ | ⟨gb, cap, cur, h0, hbg, hg, hnc, hcm, hcs, htk⟩
  · cases h0
  injection h0 with e1 e2 e3
  injection e1 with e1
  subst e1 e3
  have hcl : cur.toList.length = c * k := by simpa using hcs
  have hle : l.length * k ≤ c * k := Nat.mul_le_mul_right k hnc
  have e2 : lo * k + (l.length - lo) * k = l.length * k := by rw [← Nat.add_mul]; congr 1; omega
  have hsub : subA (some ⟨gb, 0, none⟩) k c lo = some ⟨gb, lo * k, none⟩ := by
    unfold subA; rw [if_neg (by omega)]; simp [add_lit]
  rw [hsub] at hx
  obtain ⟨m, hm⟩ : ∃ m, l.length - lo = m + 1 := ⟨l.length - lo - 1, by omega⟩
  obtain ⟨zs, hzs⟩ : ∃ zs, zs = (Builtin.zeroCells zv.cells (m + 1)).toList := ⟨_, rfl⟩
  have hzl : zs.length = (l.length - lo) * k := by rw [hzs, hm]; simp [size_zeroCells, hz]
  have hst := run_storeCells_at P gb (lo * k) e zs 0 cur w (by simpa using hg) (by
    rw [hzl]; have : cur.size = c * k := hcs
    omega) (by rw [hzs]; exact zeroCells_one (List.all_eq_true.1 hz1))
  simp only [Nat.add_zero] at hst
  refine ⟨.tuple #[], w.setRow gb (cur.toList.take (lo * k) ++ zs ++ cur.toList.drop (lo * k + zs.length)).toArray, ?_, ?_⟩
  · unfold execOp; rw [ho]
    simp [resolve, invoke, builtin, ha.eval hx, hm, Builtin.clear_, run_underlying hu, run_zeroValue' hs, ← hzs, hst]
  · refine hS.upd hL rfl ⟨rfl, rfl, rfl, by simp, fun b _ hk => setRow_other w gb b _ (fun e => hk (by simp [Own.fp, Value.ownBlock, e]))⟩ ?_ (fun b hb => ⟨.inl hb, ?_⟩)
    · have hl2 : (l.take lo).length = lo := by rw [List.length_take]; omega
      refine ⟨by rw [flat_len he.len], .inr ⟨gb, c, _, rfl, hbg, setRow_heap w gb _ _ e _ hg, by omega, hcm, ?_, ?_⟩⟩
      · simp only [List.size_toArray, List.length_append, List.length_take, List.length_drop]; omega
      · rw [hl2]
        rw [List.append_assoc, List.take_append_of_le_length (by rw [List.length_take]; omega), List.take_of_length_le (by rw [List.length_take]; omega)]
        have h1 : (List.take lo l ++ List.drop lo l).flatMap enc = cur.toList.take (l.length * k) := by rw [List.take_append_drop]; exact htk.symm
        rw [List.flatMap_append] at h1
        have h2 : ((List.take lo l).flatMap enc).length = lo * k := by rw [flat_len he.len, hl2]
        have h3 := congrArg (List.take (lo * k)) h1
        rw [List.take_left' h2, List.take_take, Nat.min_eq_left (by omega)] at h3
        exact h3.symm
    · have := (hS.ok q _ hL).2.1 b hb
      simpa using this
/-- the beginning of a slice, as a value -/
theorem r_take {len hi by1 : Nat} {zv : Value} {z : Operand} (l : List α) (hx : ev E x = some (.slice A len c)) (hz : hib E len (some z) hi) (h2 : hi ≤ len) (h3 : len ≤ c) (hl : l.length = hi) (hu : P.underlying T = some (.slice e)) (hs : Inf P e k by1 zv) {S : World → Prop} : Runs P N D E S (.slice T x none (some z) none) ty (.slice A l.length c) := by
  have h := r_dsl (P := P) (N := N) (D := D) (S := S) (ty := ty) (lo := 0) hx lo0 hz (Nat.zero_le _) h2 h3 hu hs
  have e1 : subA A k c 0 = A := by
    unfold subA; split
    · rfl
    · cases A with
      | none => rfl
      | some a => simp [Addr.add]
  rw [e1] at h
  rw [hl]
  exact h
end
end Ex
end Go.Proofs.YtffpglgboaigfaaDoor
