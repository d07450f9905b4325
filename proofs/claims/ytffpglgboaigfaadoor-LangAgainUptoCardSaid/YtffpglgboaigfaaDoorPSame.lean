/-
  Whether two expressions are the same.
-/
import Derived.Test.YtffpglgboaigfaaDoorPShape
namespace Go.Proofs.YtffpglgboaigfaaDoor
namespace Pz
open Ex Mn
set_option linter.unusedVariables false
/-! ## The same -/
mutual
def eqE : Expr → Expr → Bool
  | .mk k n r w ms bs ks, .mk k' n' r' w' ms' bs' ks' => decide (k = k' ∧ n = n' ∧ r = r' ∧ w = w' ∧ ms = ms' ∧ bs = bs') && eqEs ks ks'
def eqEs : List Expr → List Expr → Bool
  | [], [] => true
  | x :: xs, y :: ys => eqE x y && eqEs xs ys
  | [], _ :: _ => false
  | _ :: _, [] => false
end
mutual
theorem eqE_iff : ∀ (a b : Expr), eqE a b = true ↔ a = b
  | .mk k n r w ms bs ks, .mk k' n' r' w' ms' bs' ks' => by
    rw [eqE, Bool.and_eq_true, decide_eq_true_iff, eqEs_iff ks ks']
    constructor
    · rintro ⟨⟨h1, h2, h3, h4, h5, h6⟩, h7⟩; rw [h1, h2, h3, h4, h5, h6, h7]
    · intro h; injection h with h1 h2 h3 h4 h5 h6 h7; exact ⟨⟨h1, h2, h3, h4, h5, h6⟩, h7⟩
theorem eqEs_iff : ∀ (a b : List Expr), eqEs a b = true ↔ a = b
  | [], [] => by rw [eqEs]; simp
  | x :: xs, y :: ys => by
    rw [eqEs, Bool.and_eq_true, eqE_iff x y, eqEs_iff xs ys, List.cons.injEq]
  | [], _ :: _ => by rw [eqEs]; simp
  | _ :: _, [] => by rw [eqEs]; simp
end
instance : DecidableEq Expr := fun a b => decidable_of_iff (eqE a b = true) (eqE_iff a b)
theorem e_same {a b : ExprX} : a.e = b.e ↔ a.kind = b.kind ∧ a.n = b.n ∧ a.range = b.range ∧ a.word = b.word ∧ a.ms.l = b.ms.l ∧ a.by_.l = b.by_.l ∧ a.kids.l.map ExprX.e = b.kids.l.map ExprX.e := by
  rw [ExprX.e_eq a, ExprX.e_eq b]
  constructor
  · intro h; injection h with h1 h2 h3 h4 h5 h6 h7; exact ⟨h1, h2, h3, h4, h5, h6, h7⟩
  · rintro ⟨h1, h2, h3, h4, h5, h6, h7⟩; rw [h1, h2, h3, h4, h5, h6, h7]
theorem take_next {α : Type} {l m : List α} {k : Nat} {x y : α} (h : l.take k = m.take k) (hx : l[k]? = some x) (hy : m[k]? = some y) (e : x = y) : l.take (k + 1) = m.take (k + 1) := by
  rw [List.take_add_one, List.take_add_one, hx, hy, h, e]
theorem take_ne {α : Type} {l m : List α} {k : Nat} {x y : α} (hx : l[k]? = some x) (hy : m[k]? = some y) (e : x ≠ y) : l ≠ m := fun h => e (by rw [h, hy] at hx; exact (Option.some.inj hx).symm)
theorem take_all {α : Type} {l m : List α} {k : Nat} (h : l.take k = m.take k) (h1 : l.length ≤ k) (h2 : (l.length : Int) = m.length) : l = m := by
  rwa [List.take_of_length_le h1, List.take_of_length_le (by omega)] at h
theorem e_at {l : List ExprX} {k : Nat} {x : ExprX} (h : l[k]? = some x) : (l.map ExprX.e)[k]? = some x.e := by rw [List.getElem?_map, h]; rfl
end Pz
end Go.Proofs.YtffpglgboaigfaaDoor
