/-
  How much of an expression there is, and whether it is right.
-/
import Derived.Test.YtffpglgboaigfaaDoorPLang
namespace Go.Proofs.YtffpglgboaigfaaDoor
namespace Mn
open Ex
mutual
def nodes : Expr → Int
  | .mk _ _ _ _ _ _ ks => 1 + nodess ks
def nodess : List Expr → Int
  | [] => 0
  | x :: xs => nodes x + nodess xs
end
mutual
/-- right, but for how deep, and how much it is -/
def fineE : Expr → Prop
  | .mk k n r w ms bs ks => (1 ≤ k ∧ k ≤ 4) ∧ (ks.length : Int) = Lg.arity k ∧ Lg.ownW k n r w ms bs = 0 ∧ fineEs ks
def fineEs : List Expr → Prop
  | [] => True
  | x :: xs => fineE x ∧ fineEs xs
end
mutual
def low (d : Int) : Expr → Prop
  | .mk _ _ _ _ _ _ ks => d ≤ 20 ∧ lows (d + 1) ks
def lows (d : Int) : List Expr → Prop
  | [] => True
  | x :: xs => low d x ∧ lows d xs
end
mutual
theorem nodes_pos : ∀ (e : Expr), 1 ≤ nodes e
  | .mk _ _ _ _ _ _ ks => by rw [nodes]; have := nodess_pos ks; omega
theorem nodess_pos : ∀ (l : List Expr), 0 ≤ nodess l
  | [] => by rw [nodess]; omega
  | x :: xs => by rw [nodess]; have := nodes_pos x; have := nodess_pos xs; omega
end
mutual
theorem shape_ok : ∀ (e : Expr) (d c : Int), fineE e → c + nodes e ≤ 100 → low d e → Lg.shape e d c = (0, c + nodes e)
  | .mk k n r w ms bs ks, d, c, hf, hn, hl => by
    rw [fineE] at hf; rw [nodes] at hn ⊢; rw [low] at hl
    have h0 := nodess_pos ks
    rw [Lg.shape, if_neg (by omega), if_neg (by omega), if_neg (by rw [hf.2.1]; simp), if_neg (by rw [hf.2.2.1]; simp), shapes_ok ks _ _ hf.2.2.2 (by omega) hl.2]
    rw [Int.add_assoc]
theorem shapes_ok : ∀ (l : List Expr) (d c : Int), fineEs l → c + nodess l ≤ 100 → lows d l → Lg.shapes l d c = (0, c + nodess l)
  | [], d, c, _, _, _ => by rw [Lg.shapes, nodess, Int.add_zero]
  | x :: xs, d, c, hf, hn, hl => by
    rw [fineEs] at hf; rw [nodess] at hn ⊢; rw [lows] at hl
    have h0 := nodess_pos xs
    rw [Lg.shapes, shape_ok x d c hf.1 (by omega) hl.1, if_neg (by simp), shapes_ok xs d _ hf.2 (by omega) hl.2, Int.add_assoc]
end
mutual
theorem shape_of : ∀ (e : Expr) (d c : Int), (Lg.shape e d c).1 = 0 → fineE e ∧ (Lg.shape e d c).2 = c + nodes e ∧ c + 1 ≤ 100 ∧ low d e
  | .mk k n r w ms bs ks, d, c, h => by
    rw [Lg.shape] at h ⊢
    split at h
    · cases h
    rename_i a1
    split at h
    · cases h
    rename_i a2
    split at h
    · cases h
    rename_i a3
    split at h
    · rename_i h2; exact absurd h h2
    rename_i a4
    obtain ⟨h1, h2, h3⟩ := shapes_of ks _ _ h
    rw [if_neg a1, if_neg a2, if_neg a3, if_neg a4, fineE, nodes, low]
    exact ⟨⟨by omega, by omega, Classical.not_not.1 a4, h1⟩, by omega, by omega, by omega, h3⟩
theorem shapes_of : ∀ (l : List Expr) (d c : Int), (Lg.shapes l d c).1 = 0 → fineEs l ∧ (Lg.shapes l d c).2 = c + nodess l ∧ lows d l
  | [], d, c, _ => by rw [Lg.shapes, fineEs, nodess, lows]; simp
  | x :: xs, d, c, h => by
    rw [Lg.shapes] at h ⊢
    split at h
    · rename_i h2; exact absurd h h2
    rename_i h2
    have h2 := Classical.not_not.1 h2
    obtain ⟨a1, a2, _, a3⟩ := shape_of x d c h2
    obtain ⟨b1, b2, b3⟩ := shapes_of xs d _ h
    rw [if_neg (by simpa using h2), fineEs, nodess, lows]
    exact ⟨⟨a1, b1⟩, by omega, a3, b3⟩
end
mutual
/-- all that may be wrong is that it is too much -/
theorem shape_4 : ∀ (e : Expr) (d c : Int), fineE e → (Lg.shape e d c).1 = 0 ∨ (Lg.shape e d c).1 = 4
  | .mk k n r w ms bs ks, d, c, hf => by
    rw [fineE] at hf
    rw [Lg.shape]
    split
    · exact .inr rfl
    rw [if_neg (by omega), if_neg (by rw [hf.2.1]; simp), if_neg (by rw [hf.2.2.1]; simp)]
    exact shapes_4 ks _ _ hf.2.2.2
theorem shapes_4 : ∀ (l : List Expr) (d c : Int), fineEs l → (Lg.shapes l d c).1 = 0 ∨ (Lg.shapes l d c).1 = 4
  | [], d, c, _ => by rw [Lg.shapes]; exact .inl rfl
  | x :: xs, d, c, hf => by
    rw [fineEs] at hf
    rw [Lg.shapes]
    split
    · exact shape_4 x d c hf.1
    · exact shapes_4 xs d _ hf.2
end
mutual
theorem low_le : ∀ (e : Expr) (d d' : Int), d' ≤ d → low d e → low d' e
  | .mk _ _ _ _ _ _ ks, d, d', h, hl => by rw [low] at hl ⊢; exact ⟨by omega, lows_le ks _ _ (by omega) hl.2⟩
theorem lows_le : ∀ (l : List Expr) (d d' : Int), d' ≤ d → lows d l → lows d' l
  | [], _, _, _, _ => by rw [lows]; trivial
  | x :: xs, d, d', h, hl => by rw [lows] at hl ⊢; exact ⟨low_le x d d' h hl.1, lows_le xs d d' h hl.2⟩
end
end Mn
end Go.Proofs.YtffpglgboaigfaaDoor
