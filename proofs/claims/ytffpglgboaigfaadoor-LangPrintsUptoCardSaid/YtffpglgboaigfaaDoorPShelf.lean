/-
  What the functions of shelves compute, in plain Lean.
-/
import Derived.Test.YtffpglgboaigfaaDoorShelf
import Derived.Test.YtffpglgboaigfaaDoorPGroup
import Derived.Test.YtffpglgboaigfaaDoorPNames
namespace Go.Proofs.YtffpglgboaigfaaDoor

namespace Sh
def zero : Shelf := ⟨[], [], [], [], 0, 0, 0, 0, 0⟩
def mx (a b : Int) : Int := if a < b then b else a
def mn (a b : Int) : Int := if b < a then b else a
def badT (t : Tri) : Prop := t.a < 0 ∨ t.b < t.a ∨ 1000000 < t.b ∨ t.a % t.c ≠ 0 ∨ t.b % t.c ≠ 0
instance (t : Tri) : Decidable (badT t) := by unfold badT; infer_instance
def times (s : Shelf) : Prop := (¬ badT ⟨s.fineFrom, s.fineTo, 10⟩ ∧ ¬ badT ⟨s.coarseFrom, s.coarseTo, 60⟩) ∧ 0 ≤ s.rawFrom ∧ s.rawFrom ≤ s.fineTo ∧ s.fineFrom ≤ s.coarseTo ∧ s.coarseTo ≤ s.fineTo
instance (s : Shelf) : Decidable (times s) := by unfold times; infer_instance
def within (l : List Bucket) (f t : Int) : Bool := l.all fun b => decide (f ≤ b.at_ ∧ b.at_ < t)
def headOk (l : List Sample) (f : Int) : Bool := match l with
  | [] => true
  | x :: _ => decide (f ≤ x.time)
def fits (s : Shelf) : Prop := times s ∧ headOk s.raw s.rawFrom = true ∧ within s.fine s.fineFrom s.fineTo = true ∧ within s.coarse s.coarseFrom s.coarseTo = true
instance (s : Shelf) : Decidable (fits s) := by unfold fits; infer_instance
def wrong (s : Shelf) : Int := if Names.wrong s.series ≠ 0 then Names.wrong s.series else if (Codec.wrong s.raw).err ≠ 0 then (Codec.wrong s.raw).err else if (Roll.wrong s.fine 1).err ≠ 0 then (Roll.wrong s.fine 1).err
  else if (Roll.wrong s.coarse 2).err ≠ 0 then (Roll.wrong s.coarse 2).err else if fits s then 0 else 8
def late (l : List Sample) (x : Sample) : Bool := match l.getLast? with
  | some y => decide (x.time ≤ y.time)
  | none => false
def append (s : Shelf) (x : Sample) : Shelf × Int :=
  if wrong s ≠ 0 then (zero, wrong s) else if (Codec.wrong [x]).err ≠ 0 then (zero, (Codec.wrong [x]).err) else if x.time < s.fineTo ∨ late s.raw x = true then (zero, 9)
  else if s.raw.length = 500 then (zero, 5) else (⟨s.series, s.raw ++ [x], s.fine, s.coarse, s.rawFrom, s.fineFrom, s.fineTo, s.coarseFrom, s.coarseTo⟩, 0)
def bIn (l : List Bucket) (f t : Int) : List Bucket := l.filter fun b => decide (f ≤ b.at_ ∧ b.at_ < t)
def fineTo (s : Shelf) (to : Int) : Int := mx s.fineTo (to - to % 10)
def coarseTo (s : Shelf) (to : Int) : Int := mx s.coarseTo (fineTo s to - fineTo s to % 60)
def fineL (s : Shelf) (to : Int) : List Bucket := s.fine ++ Roll.up (Roll.inT s.raw s.fineTo (fineTo s to)) 1
def coarseL (s : Shelf) (to : Int) : List Bucket := s.coarse ++ Roll.greater (bIn (fineL s to) s.coarseTo (coarseTo s to))
def roll (s : Shelf) (to : Int) : Shelf × Int :=
  if wrong s ≠ 0 then (zero, wrong s) else if to < 0 ∨ 1000000 < to then (zero, 3) else if 500 < (fineL s to).length ∨ 500 < (coarseL s to).length then (zero, 5)
  else (⟨s.series, s.raw, fineL s to, coarseL s to, s.rawFrom, s.fineFrom, fineTo s to, s.coarseFrom, coarseTo s to⟩, 0)
def fromS (l : List Sample) (f : Int) : List Sample := l.filter fun x => !decide (x.time < f)
def fromB (l : List Bucket) (f : Int) : List Bucket := l.filter fun b => !decide (b.at_ < f)
def rawF (s : Shelf) (to : Int) : Int := mx s.rawFrom (mn to s.fineTo)
def fineF (s : Shelf) (to : Int) : Int := mx s.fineFrom (mn to s.coarseTo - mn to s.coarseTo % 10)
def coarseF (s : Shelf) (to : Int) : Int := mx s.coarseFrom (mn to s.coarseTo - mn to s.coarseTo % 60)
def forget (s : Shelf) (tier to : Int) : Shelf × Int :=
  if wrong s ≠ 0 then (zero, wrong s) else if to < 0 ∨ 1000000 < to then (zero, 3)
  else if tier = 0 then (⟨s.series, fromS s.raw (rawF s to), s.fine, s.coarse, rawF s to, s.fineFrom, s.fineTo, s.coarseFrom, s.coarseTo⟩, 0)
  else if tier = 1 then (⟨s.series, s.raw, fromB s.fine (fineF s to), s.coarse, s.rawFrom, fineF s to, s.fineTo, s.coarseFrom, s.coarseTo⟩, 0)
  else if tier = 2 then (⟨s.series, s.raw, s.fine, fromB s.coarse (coarseF s to), s.rawFrom, s.fineFrom, s.fineTo, coarseF s to, s.coarseTo⟩, 0)
  else (zero, 1)

theorem two {a b s : Tri} {k : Nat} (h : [a, b][k]? = some s) : s = a ∨ s = b := by
  have := List.mem_of_getElem? h
  simpa using this
theorem headOk_none {l : List Sample} {f : Int} (h : ¬ (0 : Int) < l.length) : headOk l f = true := by
  have : l = [] := List.eq_nil_of_length_eq_zero (by omega)
  subst this; rfl
theorem headOk_some {l : List Sample} {f : Int} {x : Sample} (h : l[0]? = some x) : headOk l f = decide (f ≤ x.time) := by
  cases l with
  | nil => cases h
  | cons y r => obtain rfl : y = x := by simpa using h
                rfl
theorem wrong_end {s : Shelf} (h1 : ¬ Names.wrong s.series ≠ 0) (h2 : ¬ (Codec.wrong s.raw).err ≠ 0) (h3 : ¬ (Roll.wrong s.fine 1).err ≠ 0) (h4 : ¬ (Roll.wrong s.coarse 2).err ≠ 0) : wrong s = if fits s then 0 else 8 := by
  rw [wrong, if_neg h1, if_neg h2, if_neg h3, if_neg h4]

theorem isNone_nil {α : Type} {l : List α} {A : Option Addr} (hA : l ≠ [] → ∃ ad, A = some ad) (h : A.isNone = true) : [] = l := by
  rcases Decidable.em (l = []) with e | e
  · exact e.symm
  · obtain ⟨ad, rfl⟩ := hA e
    cases h
/-- a shelf with which nothing is wrong -/
structure OK (s : Shelf) : Prop where
  series : Names.wrong s.series = 0
  raw : (Codec.wrong s.raw).err = 0
  fine : (Roll.wrong s.fine 1).err = 0
  coarse : (Roll.wrong s.coarse 2).err = 0
  fit : fits s
theorem ok_of {s : Shelf} (h : ¬ wrong s ≠ 0) : OK s := by
  have h := Classical.not_not.1 h
  unfold wrong at h
  by_cases h1 : Names.wrong s.series ≠ 0
  · rw [if_pos h1] at h; exact absurd h h1
  rw [if_neg h1] at h
  by_cases h2 : (Codec.wrong s.raw).err ≠ 0
  · rw [if_pos h2] at h; exact absurd h h2
  rw [if_neg h2] at h
  by_cases h3 : (Roll.wrong s.fine 1).err ≠ 0
  · rw [if_pos h3] at h; exact absurd h h3
  rw [if_neg h3] at h
  by_cases h4 : (Roll.wrong s.coarse 2).err ≠ 0
  · rw [if_pos h4] at h; exact absurd h h4
  rw [if_neg h4] at h
  by_cases h5 : fits s
  · exact ⟨Classical.not_not.1 h1, Classical.not_not.1 h2, Classical.not_not.1 h3, Classical.not_not.1 h4, h5⟩
  · rw [if_neg h5] at h; exact absurd h (by decide)
theorem OK.wrong {s : Shelf} (h : OK s) : wrong s = 0 := by
  rw [Sh.wrong, if_neg (by rw [h.series]; simp), if_neg (by rw [h.raw]; simp), if_neg (by rw [h.fine]; simp), if_neg (by rw [h.coarse]; simp), if_pos h.fit]
theorem names_len {l : List Label} (h : Names.wrong l = 0) : l.length ≤ 4 := by
  unfold Names.wrong at h; split at h
  · exact absurd h (by decide)
  · omega
theorem roll_len {l : List Bucket} {t : Int} (h : (Roll.wrong l t).err = 0) : l.length ≤ 500 := by
  unfold Roll.wrong at h; split at h
  · exact absurd h (by decide)
  · split at h
    · exact absurd h (by decide)
    · omega
theorem OK.lens {s : Shelf} (h : OK s) : s.series.length ≤ 4 ∧ s.raw.length ≤ 500 ∧ s.fine.length ≤ 500 ∧ s.coarse.length ≤ 500 :=
  ⟨names_len h.series, (Codec.right_of h.raw).len, roll_len h.fine, roll_len h.coarse⟩
theorem wrong_lens {s : Shelf} (h : ¬ Sh.wrong s ≠ 0) : s.series.length ≤ 1048576 ∧ s.raw.length ≤ 1048576 ∧ s.fine.length ≤ 1048576 ∧ s.coarse.length ≤ 1048576 := by
  have := (ok_of h).lens; omega

/-! ## The first that is so; all that are not -/
def idx {α : Type} (p : α → Bool) (l : List α) : Int := if l.any p = true then (l.findIdx p : Int) else -1
theorem none_step {α : Type} {p : α → Bool} {l : List α} {k : Nat} {x : α} (h : ∀ y ∈ l.take k, p y = false) (hx : l[k]? = some x) (hp : p x = false) : ∀ y ∈ l.take (k + 1), p y = false := by
  intro y hy
  rw [List.take_add_one, hx] at hy
  rcases List.mem_append.1 hy with h1 | h1
  · exact h y h1
  · obtain rfl : y = x := by simpa using h1
    exact hp
theorem idx_at {α : Type} {p : α → Bool} {l : List α} {k : Nat} {x : α} (h : ∀ y ∈ l.take k, p y = false) (hx : l[k]? = some x) (hp : p x = true) : (k : Int) = idx p l := by
  obtain ⟨hk, rfl⟩ := List.getElem?_eq_some_iff.1 hx
  have h1 : l.any p = true := List.any_eq_true.2 ⟨l[k], List.getElem_mem hk, hp⟩
  have h2 : l.findIdx p = k := (List.findIdx_eq hk).2 ⟨hp, fun j hj => h _ (by
    have : (l.take k)[j]'(by simp; omega) = l[j] := by simp
    rw [← this]; exact List.getElem_mem _)⟩
  rw [idx, if_pos h1, h2]
theorem idx_none {α : Type} {p : α → Bool} {l : List α} {k : Nat} (h : ∀ y ∈ l.take k, p y = false) (hk : l.length ≤ k) : (-1 : Int) = idx p l := by
  rw [List.take_of_length_le hk] at h
  rw [idx, if_neg (by simpa using h)]
theorem idx_any {α : Type} {p : α → Bool} {l : List α} : (0 ≤ idx p l) ↔ l.any p = true := by
  unfold idx; split
  · simp_all
  · simp_all
theorem idx_cases {α : Type} (p : α → Bool) (l : List α) : (idx p l = -1 ∧ ∀ y ∈ l, p y = false) ∨ ∃ (i : Nat) (x : α), idx p l = (i : Int) ∧ l[i]? = some x ∧ p x = true ∧ ∀ y ∈ l.take i, p y = false := by
  by_cases h : l.any p = true
  · right
    obtain ⟨x, hx, hp⟩ := List.any_eq_true.1 h
    have hlt := List.findIdx_lt_length_of_exists ⟨x, hx, hp⟩
    refine ⟨l.findIdx p, l[l.findIdx p], by rw [idx, if_pos h], List.getElem?_eq_getElem hlt, List.findIdx_getElem, fun y hy => ?_⟩
    obtain ⟨j, hj, rfl⟩ := List.mem_iff_getElem.1 hy
    have hj' : j < l.findIdx p := by simp at hj; omega
    rw [List.getElem_take]
    simpa using List.not_of_lt_findIdx hj'
  · left
    refine ⟨by rw [idx, if_neg h], fun y hy => ?_⟩
    simpa using fun e => h (List.any_eq_true.2 ⟨y, hy, e⟩)
structure Del {α : Type} (p : α → Bool) (l r : List α) (i j : Nat) : Prop where
  len : r.length = l.length
  lt : i < j
  le : j ≤ l.length
  hd : r.take i = (l.take j).filter fun x => !p x
  tl : r.drop j = l.drop j
theorem Del.start {α : Type} {p : α → Bool} {l : List α} {i : Nat} {x : α} (hx : l[i]? = some x) (hp : p x = true) (h : ∀ y ∈ l.take i, p y = false) : Del p l l i (i + 1) := by
  have hlt := (List.getElem?_eq_some_iff.1 hx).1
  refine ⟨rfl, by omega, hlt, ?_, rfl⟩
  rw [List.take_add_one, hx, List.filter_append]
  have : (l.take i).filter (fun x => !p x) = l.take i := List.filter_eq_self.2 fun y hy => by simp [h y hy]
  simp [this, hp]
theorem Del.at {α : Type} {p : α → Bool} {l r : List α} {i j : Nat} {x : α} (d : Del p l r i j) (hx : r[j]? = some x) : l[j]? = some x := by
  have := congrArg (·[0]?) d.tl
  simp only [List.getElem?_drop, Nat.add_zero] at this
  rw [← this]; exact hx
theorem Del.drop {α : Type} {p : α → Bool} {l r : List α} {i j : Nat} {x : α} (d : Del p l r i j) (hx : r[j]? = some x) (hp : p x = true) : Del p l r i (j + 1) := by
  have hl := d.at hx
  have hlt := (List.getElem?_eq_some_iff.1 hl).1
  refine ⟨d.len, by have := d.lt; omega, hlt, ?_, ?_⟩
  · rw [d.hd, List.take_add_one, hl, List.filter_append]; simp [hp]
  · have := congrArg (List.drop 1) d.tl
    rw [List.drop_drop, List.drop_drop] at this
    exact this
theorem Del.keep {α : Type} {p : α → Bool} {l r : List α} {i j : Nat} {x : α} (d : Del p l r i j) (hx : r[j]? = some x) (hp : ¬ p x = true) : Del p l (r.set i x) (i + 1) (j + 1) := by
  have hl := d.at hx
  have hlt := (List.getElem?_eq_some_iff.1 hl).1
  have h1 := d.lt
  have h2 := d.len
  refine ⟨by rw [List.length_set]; exact d.len, by omega, hlt, ?_, ?_⟩
  · have e1 : l.take (j + 1) = l.take j ++ [x] := by rw [List.take_add_one, hl]; rfl
    have e2 : (r.set i x).take (i + 1) = r.take i ++ [x] := by rw [List.take_add_one, List.take_set_of_le (Nat.le_refl i), List.getElem?_set_self (by omega)]; rfl
    rw [e1, e2, List.filter_append, ← d.hd]
    simp [hp]
  · rw [List.drop_set_of_lt (by omega)]
    have := congrArg (List.drop 1) d.tl
    rw [List.drop_drop, List.drop_drop] at this
    exact this
theorem Del.done {α : Type} {p : α → Bool} {l r : List α} {i j : Nat} (d : Del p l r i j) (h : r.length ≤ j) : r.take i = l.filter fun x => !p x := by
  have h1 := d.hd
  have h2 := d.len
  rw [h1, List.take_of_length_le (by omega)]
end Sh
end Go.Proofs.YtffpglgboaigfaaDoor
