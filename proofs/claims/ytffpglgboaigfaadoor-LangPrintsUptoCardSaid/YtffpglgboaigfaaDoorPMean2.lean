/-
  Cells put together, by labels: in plain terms.
-/
import Derived.Test.YtffpglgboaigfaaDoorPMean
import Derived.Test.YtffpglgboaigfaaDoorIns
namespace Go.Proofs.YtffpglgboaigfaaDoor
namespace Mn
open Ex
def Asc (l : List Cell) : Prop := l.Pairwise fun c d => Names.compare c.sr d.sr < 0
def pos (l : List Cell) (s : List Label) : Nat := (l.takeWhile fun c => decide (Names.compare c.sr s < 0)).length
def has (l : List Cell) (s : List Label) : Bool := l.any fun c => decide (c.sr = s)
def comb (w : ByteArray) (a x : Int) : Int := if w = ⟨#[109, 97, 120]⟩ then max a x else if w = ⟨#[109, 105, 110]⟩ then min a x else a + x
theorem cmp_lt_ne {a b : List Label} (h : Names.compare a b < 0) : a ≠ b := fun e => by
  have := (Names.compare_is.zero a b).2 e; omega
theorem pos_eq {l : List Cell} {s : List Label} {i : Nat} (hi : i ≤ l.length) (h1 : ∀ (q : Nat) (y : Cell), l[q]? = some y → q < i → Names.compare y.sr s < 0) (h2 : ∀ (q : Nat) (y : Cell), l[q]? = some y → i ≤ q → ¬ Names.compare y.sr s < 0) : pos l s = i := by
  induction l generalizing i with
  | nil => simp at hi; subst hi; rfl
  | cons c r ih =>
    cases i with
    | zero =>
      have := h2 0 c rfl (Nat.le_refl _)
      simp [pos, this]
    | succ i =>
      have h3 := h1 0 c rfl (by omega)
      have := ih (i := i) (by simpa using hi) (fun q y hq hlt => h1 (q + 1) y (by simpa using hq) (by omega)) (fun q y hq hle => h2 (q + 1) y (by simpa using hq) (by omega))
      simp only [pos] at this ⊢
      rw [List.takeWhile_cons, if_pos (by simpa using h3), List.length_cons, this]
theorem pos_le (l : List Cell) (s : List Label) : pos l s ≤ l.length := by
  unfold pos
  induction l with
  | nil => simp
  | cons c r ih => rw [List.takeWhile_cons]; split <;> simp; exact ih
theorem Asc.at_ {l : List Cell} (h : Asc l) {i j : Nat} {x y : Cell} (hx : l[i]? = some x) (hy : l[j]? = some y) (hij : i < j) : Names.compare x.sr y.sr < 0 := by
  obtain ⟨h1, rfl⟩ := List.getElem?_eq_some_iff.1 hx
  obtain ⟨h2, rfl⟩ := List.getElem?_eq_some_iff.1 hy
  exact List.pairwise_iff_getElem.1 h i j h1 h2 hij
theorem asc_lt {l : List Cell} {s : List Label} (h : Asc l) {k : Nat} {x : Cell} (hx : l[k]? = some x) (hc : Names.compare x.sr s < 0) : ∀ (q : Nat) (y : Cell), l[q]? = some y → q < k + 1 → Names.compare y.sr s < 0 := fun q y hy hq => by
  by_cases hqk : q = k
  · subst hqk; rw [hx] at hy; injection hy with hy; subst hy; exact hc
  · exact Names.compare_is.trans _ _ _ (h.at_ hy hx (by omega)) hc
theorem asc_ge {l : List Cell} {s : List Label} (h : Asc l) {k : Nat} {x : Cell} (hx : l[k]? = some x) (hc : ¬ Names.compare x.sr s < 0) : ∀ (q : Nat) (y : Cell), l[q]? = some y → k ≤ q → ¬ Names.compare y.sr s < 0 := fun q y hy hq hlt => by
  by_cases hqk : q = k
  · subst hqk; rw [hx] at hy; injection hy with hy; subst hy; exact hc hlt
  · exact hc (Names.compare_is.trans _ _ _ (h.at_ hx hy (by omega)) hlt)
theorem bs_has {l : List Cell} {s : List Label} (h : Asc l) {i : Nat} {x : Cell} (hx : l[i]? = some x) (h1 : ∀ (q : Nat) (y : Cell), l[q]? = some y → q < i → Names.compare y.sr s < 0) (h2 : ¬ Names.compare x.sr s < 0) : has l s = decide (Names.compare x.sr s = 0) := by
  rw [Bool.eq_iff_iff, decide_eq_true_iff, has, List.any_eq_true]
  constructor
  · rintro ⟨y, hy, hs⟩
    obtain ⟨q, hq⟩ := List.mem_iff_getElem?.1 hy
    have hs : y.sr = s := by simpa using hs
    rcases Nat.lt_trichotomy q i with h3 | h3 | h3
    · exact absurd hs (cmp_lt_ne (h1 q y hq h3))
    · subst h3; rw [hx] at hq; injection hq with hq; subst hq; exact (Names.compare_is.zero _ _).2 hs
    · have h4 := h.at_ hx hq h3
      rw [hs] at h4; exact absurd h4 h2
  · intro h3
    exact ⟨x, List.mem_of_getElem? hx, by simpa using (Names.compare_is.zero _ _).1 h3⟩
theorem bs_no {l : List Cell} {s : List Label} {i : Nat} (hi : l.length ≤ i) (h1 : ∀ (q : Nat) (y : Cell), l[q]? = some y → q < i → Names.compare y.sr s < 0) : has l s = false := by
  rw [Bool.eq_false_iff]
  intro h
  obtain ⟨y, hy, hs⟩ := List.any_eq_true.1 h
  obtain ⟨q, hq⟩ := List.mem_iff_getElem?.1 hy
  have := (List.getElem?_eq_some_iff.1 hq).1
  exact cmp_lt_ne (h1 q y hq (by omega)) (by simpa using hs)
/-! ## One more cell -/
theorem Asc.tail {c : Cell} {r : List Cell} (h : Asc (c :: r)) : Asc r := (List.pairwise_cons.1 h).2
theorem Asc.head {c : Cell} {r : List Cell} (h : Asc (c :: r)) : ∀ d ∈ r, Names.compare c.sr d.sr < 0 := (List.pairwise_cons.1 h).1
theorem put_ins (w : ByteArray) {l : List Cell} {s : List Label} (x : Int) (hh : has l s = false) : put w l s x = l.take (pos l s) ++ ⟨s, x⟩ :: l.drop (pos l s) := by
  induction l with
  | nil => rfl
  | cons c r ih =>
    have h1 : ¬ c.sr = s := fun e => by simp [has, e] at hh
    have h2 : has r s = false := by simp only [has, List.any_cons, Bool.or_eq_false_iff] at hh; exact hh.2
    have ih := ih h2
    by_cases hc : Names.compare c.sr s < 0
    · have hp : pos (c :: r) s = pos r s + 1 := by simp [pos, hc]
      rw [put, if_neg h1, if_pos hc, hp, ih]; rfl
    · have hp : pos (c :: r) s = 0 := by simp [pos, hc]
      rw [put, if_neg h1, if_neg hc, hp]; rfl
theorem put_set (w : ByteArray) {l : List Cell} {s : List Label} (x : Int) (h : Asc l) (hh : has l s = true) : ∃ c, l[pos l s]? = some c ∧ c.sr = s ∧ put w l s x = l.set (pos l s) ⟨s, comb w c.value x⟩ := by
  induction l with
  | nil => cases hh
  | cons c r ih =>
    by_cases h1 : c.sr = s
    · have hn : ¬ Names.compare c.sr s < 0 := fun g => cmp_lt_ne g h1
      have hp : pos (c :: r) s = 0 := by simp [pos, hn]
      refine ⟨c, by rw [hp]; rfl, h1, ?_⟩
      rw [hp, put, if_pos h1]; rfl
    · have h2 : has r s = true := by simp only [has, List.any_cons, Bool.or_eq_true] at hh; exact hh.resolve_left (by simpa using h1)
      obtain ⟨d, hd1, hd2, hd3⟩ := ih h.tail h2
      have hc : Names.compare c.sr s < 0 := by
        have := h.head d (List.mem_of_getElem? hd1)
        rwa [hd2] at this
      have hp : pos (c :: r) s = pos r s + 1 := by simp [pos, hc]
      refine ⟨d, by rw [hp]; simpa using hd1, hd2, ?_⟩
      rw [put, if_neg h1, if_pos hc, hp, hd3]; rfl
theorem put_mem {w : ByteArray} {l : List Cell} {s : List Label} {x : Int} : ∀ d ∈ put w l s x, d.sr = s ∨ ∃ c ∈ l, c.sr = d.sr := by
  induction l with
  | nil => intro d hd; simp [put] at hd; exact .inl (by rw [hd])
  | cons c r ih =>
    intro d hd
    rw [put] at hd
    split at hd
    · rcases List.mem_cons.1 hd with h | h
      · exact .inl (by rw [h])
      · exact .inr ⟨d, List.mem_cons_of_mem _ h, rfl⟩
    · split at hd
      · rcases List.mem_cons.1 hd with h | h
        · exact .inr ⟨c, List.mem_cons_self, by rw [h]⟩
        · rcases ih d h with h1 | ⟨e, h1, h2⟩
          · exact .inl h1
          · exact .inr ⟨e, List.mem_cons_of_mem _ h1, h2⟩
      · rcases List.mem_cons.1 hd with h | h
        · exact .inl (by rw [h])
        · exact .inr ⟨d, h, rfl⟩
theorem cmp_gt {a b : List Label} (h1 : ¬ a = b) (h2 : ¬ Names.compare a b < 0) : Names.compare b a < 0 := by
  have h3 := Names.compare_is.anti a b
  have h4 : Names.compare a b ≠ 0 := fun e => h1 ((Names.compare_is.zero _ _).1 e)
  omega
theorem put_asc {w : ByteArray} {l : List Cell} {s : List Label} {x : Int} (h : Asc l) : Asc (put w l s x) := by
  induction l with
  | nil => simp [put, Asc]
  | cons c r ih =>
    rw [put]
    split
    · rename_i h1
      refine List.pairwise_cons.2 ⟨fun d hd => ?_, h.tail⟩
      rw [← h1]; exact h.head d hd
    · rename_i h1
      split
      · rename_i h2
        refine List.pairwise_cons.2 ⟨fun d hd => ?_, ih h.tail⟩
        rcases put_mem d hd with h3 | ⟨e, h3, h4⟩
        · rw [h3]; exact h2
        · rw [← h4]; exact h.head e h3
      · rename_i h2
        have h3 := cmp_gt h1 h2
        refine List.pairwise_cons.2 ⟨fun d hd => ?_, h⟩
        rcases List.mem_cons.1 hd with h4 | h4
        · rw [h4]; exact h3
        · exact Names.compare_is.trans _ _ _ h3 (h.head d h4)
theorem fits_iff {n : Int} : fits n = true ↔ -1125899906842624 ≤ n ∧ n ≤ 1125899906842624 := by simp [fits]
def Fit (l : List Cell) : Prop := ∀ c ∈ l, fits c.value = true
theorem unit_rng {w : ByteArray} {x : Int} (h : -1125899906842624 ≤ x ∧ x ≤ 1125899906842624) : -1125899906842624 ≤ unit w x ∧ unit w x ≤ 1125899906842624 := by unfold unit; split <;> omega
/-- one round of all, where a cell comes in -/
theorem all_ins {w : ByteArray} {by_ : List ByteArray} {cs : List CellX} {c : Cell} {r : List Cell} {s : List Label} {x : Int} {z : CellX} (hs : s = Names.only c.sr by_) (hx : x = unit w c.value) (hz : z.e = ⟨s, x⟩) (hh : has (cs.map CellX.e) s = false) (hf : Fit (cs.map CellX.e)) (hr : -1125899906842624 ≤ c.value ∧ c.value ≤ 1125899906842624) :
    (cs.take (pos (cs.map CellX.e) s) ++ z :: cs.drop (pos (cs.map CellX.e) s)).map CellX.e = put w (cs.map CellX.e) s x ∧ Fit (put w (cs.map CellX.e) s x) ∧ allFrom w by_ (cs.map CellX.e) (c :: r) = allFrom w by_ (put w (cs.map CellX.e) s x) r := by
  have h1 := put_ins w x hh
  have h2 : Fit (put w (cs.map CellX.e) s x) := fun d hd => by
    rw [h1] at hd
    rcases List.mem_append.1 hd with h3 | h3
    · exact hf d (List.mem_of_mem_take h3)
    · rcases List.mem_cons.1 h3 with h4 | h4
      · rw [h4]; exact fits_iff.2 (by rw [hx]; exact unit_rng hr)
      · exact hf d (List.mem_of_mem_drop h4)
  refine ⟨?_, h2, ?_⟩
  · rw [h1, List.map_append, List.map_take, List.map_cons, List.map_drop, hz]
  · subst hs hx
    rw [allFrom, if_pos (List.all_eq_true.2 h2)]
/-- .. where one turns -/
theorem all_set {w : ByteArray} {by_ : List ByteArray} {cs : List CellX} {c : Cell} {r : List Cell} {s : List Label} {x : Int} {d z : CellX} (hs : s = Names.only c.sr by_) (hx : x = unit w c.value) (ha : Asc (cs.map CellX.e)) (hh : has (cs.map CellX.e) s = true) (hf : Fit (cs.map CellX.e)) (hd : cs[pos (cs.map CellX.e) s]? = some d) (hzs : z.sr.l = d.sr.l) (hz : z.value = comb w d.value x) :
    (cs.set (pos (cs.map CellX.e) s) z).map CellX.e = put w (cs.map CellX.e) s x ∧ (fits z.value = true → Fit (put w (cs.map CellX.e) s x) ∧ allFrom w by_ (cs.map CellX.e) (c :: r) = allFrom w by_ (put w (cs.map CellX.e) s x) r) ∧ (fits z.value = false → allFrom w by_ (cs.map CellX.e) (c :: r) = (zero, 3)) := by
  obtain ⟨e, h1, h2, h3⟩ := put_set w x ha hh
  rw [List.getElem?_map, hd] at h1
  have h1 : d.e = e := by simpa using h1
  have hze : z.e = ⟨s, comb w e.value x⟩ := by rw [← h1, CellX.e, hz, hzs, ← h2, ← h1]; rfl
  have h4 : (cs.set (pos (cs.map CellX.e) s) z).map CellX.e = put w (cs.map CellX.e) s x := by rw [h3, List.map_set, hze]
  have hlt : pos (cs.map CellX.e) s < cs.length := (List.getElem?_eq_some_iff.1 hd).1
  have hm : z ∈ cs.set (pos (cs.map CellX.e) s) z := List.mem_set hlt z
  refine ⟨h4, fun hfz => ?_, fun hfz => ?_⟩
  · have h5 : Fit (put w (cs.map CellX.e) s x) := fun y hy => by
      rw [← h4] at hy
      obtain ⟨t, ht, rfl⟩ := List.mem_map.1 hy
      rcases List.mem_or_eq_of_mem_set ht with h6 | h6
      · exact hf _ (List.mem_map_of_mem h6)
      · rw [h6]; exact hfz
    refine ⟨h5, ?_⟩
    subst hs hx
    rw [allFrom, if_pos (List.all_eq_true.2 h5)]
  · subst hs hx
    rw [allFrom, if_neg]
    intro h6
    have h7 := List.all_eq_true.1 h6 z.e (by rw [← h4]; exact List.mem_map_of_mem hm)
    rw [show z.e.value = z.value from rfl, hfz] at h7; cases h7
theorem drop_map {l : List CellX} {k : Nat} {s : CellX} (h : l[k]? = some s) : (l.drop k).map CellX.e = s.e :: (l.drop (k + 1)).map CellX.e := by
  obtain ⟨h1, rfl⟩ := List.getElem?_eq_some_iff.1 h
  rw [List.drop_eq_getElem_cons h1, List.map_cons]
theorem drop_end {l : List CellX} {k : Nat} (h : l.length ≤ k) : (l.drop k).map CellX.e = [] := by rw [List.drop_of_length_le h]; rfl
theorem pos_lt {cs : List CellX} {s : List Label} (ha : Asc (cs.map CellX.e)) (hh : has (cs.map CellX.e) s = true) : pos (cs.map CellX.e) s < cs.length := by
  obtain ⟨c, h1, _⟩ := put_set ⟨#[]⟩ 0 ha hh
  have := (List.getElem?_eq_some_iff.1 h1).1
  simpa using this
theorem pos_le' {cs : List CellX} {s : List Label} : pos (cs.map CellX.e) s ≤ cs.length := by have := pos_le (cs.map CellX.e) s; simpa using this
theorem Fit.at_ {cs : List CellX} {i : Nat} {d : CellX} (h : Fit (cs.map CellX.e)) (hd : cs[i]? = some d) : -1125899906842624 ≤ d.value ∧ d.value ≤ 1125899906842624 := fits_iff.1 (h d.e (List.mem_map.2 ⟨d, List.mem_of_getElem? hd, rfl⟩))
end Mn
namespace Ex
variable {w0 w : World} {M : Fp} {L : List Own}
/-- all of a list, where more is told of no other -/
theorem Mem.allOf {l l' : List CellX} (h : Mem w0 M L w) (q : Nat) (hi : L[q]? = some (allP CellX.Ok l)) (hs : ∀ y ∈ l', ∃ x ∈ l, y.sr = x.sr) : Mem w0 M (allP CellX.Ok l' :: L) w :=
  h.note (all_loc CellX.Ok.loc _) fun Pb pp x hx => by
    obtain ⟨y, hy, e⟩ := hs x hx
    exact ⟨by rw [e]; exact (pp.at_ q _ hi y hy).sr⟩
theorem Mem.allIns {l l' : List CellX} {sA : Option Addr} {sc : Nat} {sl : List Label} (h : Mem w0 M L w) (q q2 : Nat) (hi : L[q]? = some (allP CellX.Ok l)) (hi2 : L[q2]? = some (slP 2 labelE (.slice sA sl.length sc) sl)) (hs : ∀ y ∈ l', y ∈ l ∨ y.sr = ⟨sA, sc, sl⟩) : Mem w0 M (allP CellX.Ok l' :: L) w :=
  h.note (all_loc CellX.Ok.loc _) fun Pb pp x hx => by
    rcases hs x hx with h1 | h1
    · exact pp.at_ q _ hi x h1
    · exact ⟨by rw [h1]; exact pp.at_ q2 _ hi2⟩
theorem set_at {α : Type} {l : List α} {i : Nat} {a b : α} (h : l[i]? = some a) : (l.set i b)[i]? = some b := by
  rw [List.getElem?_set_self (List.getElem?_eq_some_iff.1 h).1]
theorem ins_of {l : List CellX} {i : Nat} {z : CellX} : ∀ y ∈ l.take i ++ z :: l.drop i, y ∈ l ∨ y.sr = z.sr := fun y hy => by
  rcases List.mem_append.1 hy with h | h
  · exact .inl (List.mem_of_mem_take h)
  · rcases List.mem_cons.1 h with h | h
    · exact .inr (by rw [h])
    · exact .inl (List.mem_of_mem_drop h)
theorem set_of {l : List CellX} {i : Nat} {d z : CellX} (hd : l[i]? = some d) (hz : z.sr = d.sr) : ∀ y ∈ l.set i z, ∃ x ∈ l, y.sr = x.sr := fun y hy => by
  rcases List.mem_or_eq_of_mem_set hy with h | h
  · exact ⟨y, h, rfl⟩
  · exact ⟨d, List.mem_of_getElem? hd, by rw [h, hz]⟩
end Ex
end Go.Proofs.YtffpglgboaigfaaDoor
