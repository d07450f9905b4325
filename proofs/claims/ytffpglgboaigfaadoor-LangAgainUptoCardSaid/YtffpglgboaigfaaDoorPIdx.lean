/-
  The first of a list that is so.
-/
import Derived.Test.YtffpglgboaigfaaDoorPure
namespace Go.Proofs.YtffpglgboaigfaaDoor
namespace Sh
/-! ## The first that is so; all that are not -/
def idx {α : Type} (p : α → Bool) (l : List α) : Int := if l.any p = true then (l.findIdx p : Int) else -1
theorem none_step {α : Type} {p : α → Bool} {l : List α} {k : Nat} {x : α} (h : ∀ y ∈ l.take k, p y = false) (hx : l[k]? = some x) (hp : p x = false) : ∀ y ∈ l.take (k + 1), p y = false := by
  intro y hy
  rw [List.take_add_one, hx] at hy
  rcases List.mem_append.1 hy with h1 | h1
  · exact h y h1
  · obtain rfl : y = x := by simpa using h1
    exact hp
theorem idx_at {α : Type} {p : α → Bool} {l : List α} {k : Nat} {x : α} (h : ∀ y ∈ l.take k, p y = false) (hx : l[k]? = some x) (hp : p x = true) : (k : Int) = idx p l := by
  obtain ⟨hk, rfl⟩ := List.getElem?_eq_some_iff.1 hx
  have h1 : l.any p = true := List.any_eq_true.2 ⟨l[k], List.getElem_mem hk, hp⟩
  have h2 : l.findIdx p = k := (List.findIdx_eq hk).2 ⟨hp, fun j hj => h _ (by
    have : (l.take k)[j]'(by simp; omega) = l[j] := by simp
    rw [← this]; exact List.getElem_mem _)⟩
  rw [idx, if_pos h1, h2]
theorem idx_none {α : Type} {p : α → Bool} {l : List α} {k : Nat} (h : ∀ y ∈ l.take k, p y = false) (hk : l.length ≤ k) : (-1 : Int) = idx p l := by
  rw [List.take_of_length_le hk] at h
  rw [idx, if_neg (by simpa using h)]
theorem idx_any {α : Type} {p : α → Bool} {l : List α} : (0 ≤ idx p l) ↔ l.any p = true := by
  unfold idx; split
  · simp_all
  · simp_all
theorem idx_cases {α : Type} (p : α → Bool) (l : List α) : (idx p l = -1 ∧ ∀ y ∈ l, p y = false) ∨ ∃ (i : Nat) (x : α), idx p l = (i : Int) ∧ l[i]? = some x ∧ p x = true ∧ ∀ y ∈ l.take i, p y = false := by
  by_cases h : l.any p = true
  · right
    obtain ⟨x, hx, hp⟩ := List.any_eq_true.1 h
    have hlt := List.findIdx_lt_length_of_exists ⟨x, hx, hp⟩
    refine ⟨l.findIdx p, l[l.findIdx p], by rw [idx, if_pos h], List.getElem?_eq_getElem hlt, List.findIdx_getElem, fun y hy => ?_⟩
    obtain ⟨j, hj, rfl⟩ := List.mem_iff_getElem.1 hy
    have hj' : j < l.findIdx p := by simp at hj; omega
    rw [List.getElem_take]
    simpa using List.not_of_lt_findIdx hj'
  · left
    refine ⟨by rw [idx, if_neg h], fun y hy => ?_⟩
    simpa using fun e => h (List.any_eq_true.2 ⟨y, hy, e⟩)
end Sh
end Go.Proofs.YtffpglgboaigfaaDoor
