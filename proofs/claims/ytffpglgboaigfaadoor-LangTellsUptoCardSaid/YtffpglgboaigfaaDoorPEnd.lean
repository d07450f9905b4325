/-
  The document's reader at its end, how deep expressions are, and whether two are the same.
-/
import Derived.Test.YtffpglgboaigfaaDoorPTurn
import Derived.Test.YtffpglgboaigfaaDoorSeq
namespace Go.Proofs.YtffpglgboaigfaaDoor
namespace Pz
open Ex Mn
set_option linter.unusedVariables false
theorem Sim.bad_ {α : Type} {s : ByteArray} {be ba : Int} {P : Res (α × St)} {a : α} {r : RS} (h : Sim s be ba P a r) (h0 : be = 0) (hn : ¬ r.be = 0) : P = .no (r.be, r.ba) := by
  cases P with
  | ok x => exact absurd ((h.2.2 h0).1 x rfl).1 hn
  | no f => obtain ⟨_, e1, e2⟩ := (h.2.2 h0).2 f rfl; rw [e1, e2]
mutual
theorem depth_nodes : ∀ (e : Expr), depth e ≤ nodes e
  | .mk _ _ _ _ _ _ ks => by rw [depth, nodes]; have := depths_nodes ks; omega
theorem depths_nodes : ∀ (l : List Expr), depths l ≤ nodess l
  | [] => by rw [depths, nodess]; omega
  | x :: xs => by
    rw [depths, nodess]
    have := depth_nodes x; have := depths_nodes xs; have := nodess_pos xs; have := nodes_pos x
    split <;> omega
end
theorem depths_snoc : ∀ (l : List Expr) (x : Expr), depths (l ++ [x]) = if depths l < depth x then depth x else depths l
  | [], x => by rw [List.nil_append, depths, depths, depths]
  | y :: l, x => by
    rw [List.cons_append, depths, depths_snoc l x, depths]
    have := depth_pos x
    repeat' split
    all_goals omega
theorem depths_next {l : List ExprX} {k : Nat} {x : ExprX} (h : l[k]? = some x) : depths ((l.take (k + 1)).map ExprX.e) = if depths ((l.take k).map ExprX.e) < depth x.e then depth x.e else depths ((l.take k).map ExprX.e) := by
  rw [List.take_add_one, h, Option.toList_some, List.map_append, List.map_cons, List.map_nil, depths_snoc]
theorem depth_e (x : ExprX) : depth x.e = depths (x.kids.l.map ExprX.e) + 1 := by rw [ExprX.e_eq x, depth]
theorem depths_mem : ∀ {l : List Expr} {x : Expr}, x ∈ l → depth x ≤ depths l
  | y :: l, x, h => by
    rw [depths]
    rcases List.mem_cons.1 h with rfl | h
    · split <;> omega
    · have := depths_mem h; split <;> omega
theorem depth_kid {e k : ExprX} (h : k ∈ e.kids.l) : depth k.e + 1 ≤ depth e.e := by
  rw [depth_e e]
  have := depths_mem (List.mem_map_of_mem (f := ExprX.e) h)
  omega
theorem ref_read {s : ByteArray} {x : Expr} {j : Nat} {m : Int} (hx : xpr s 20 ⟨0, 0⟩ = .ok (x, ⟨j, m⟩)) : Read x 0 m := xpr_post s 20 ⟨0, 0⟩ _ hx
theorem ref_deep {s : ByteArray} {x : Expr} {j : Nat} {m : Int} (hx : xpr s 20 ⟨0, 0⟩ = .ok (x, ⟨j, m⟩)) (hm : m ≤ 100) : depth x ≤ 1000 := by
  have h := ref_read hx; have := h.nd; have := depth_nodes x; omega
theorem ref_much {s : ByteArray} {x : Expr} {j : Nat} {m : Int} (hx : xpr s 20 ⟨0, 0⟩ = .ok (x, ⟨j, m⟩)) (hm : m ≤ 100) (hd : 20 < depth x) : (Lg.shape x 1 0).1 ≠ 0 := (read_wrong (ref_read hx) hm).2 hd
theorem ref_fine {s : ByteArray} {x : Expr} {j : Nat} {m : Int} (hx : xpr s 20 ⟨0, 0⟩ = .ok (x, ⟨j, m⟩)) (hm : m ≤ 100) (hd : ¬ 20 < depth x) : ¬ (Lg.shape x 1 0).1 ≠ 0 := fun h => hd ((read_wrong (ref_read hx) hm).1 h)
/-! ## The same -/
mutual
def eqE : Expr → Expr → Bool
  | .mk k n r w ms bs ks, .mk k' n' r' w' ms' bs' ks' => decide (k = k' ∧ n = n' ∧ r = r' ∧ w = w' ∧ ms = ms' ∧ bs = bs') && eqEs ks ks'
def eqEs : List Expr → List Expr → Bool
  | [], [] => true
  | x :: xs, y :: ys => eqE x y && eqEs xs ys
  | [], _ :: _ => false
  | _ :: _, [] => false
end
mutual
theorem eqE_iff : ∀ (a b : Expr), eqE a b = true ↔ a = b
  | .mk k n r w ms bs ks, .mk k' n' r' w' ms' bs' ks' => by
    rw [eqE, Bool.and_eq_true, decide_eq_true_iff, eqEs_iff ks ks']
    constructor
    · rintro ⟨⟨h1, h2, h3, h4, h5, h6⟩, h7⟩; rw [h1, h2, h3, h4, h5, h6, h7]
    · intro h; injection h with h1 h2 h3 h4 h5 h6 h7; exact ⟨⟨h1, h2, h3, h4, h5, h6⟩, h7⟩
theorem eqEs_iff : ∀ (a b : List Expr), eqEs a b = true ↔ a = b
  | [], [] => by rw [eqEs]; simp
  | x :: xs, y :: ys => by
    rw [eqEs, Bool.and_eq_true, eqE_iff x y, eqEs_iff xs ys, List.cons.injEq]
  | [], _ :: _ => by rw [eqEs]; simp
  | _ :: _, [] => by rw [eqEs]; simp
end
instance : DecidableEq Expr := fun a b => decidable_of_iff (eqE a b = true) (eqE_iff a b)
theorem e_same {a b : ExprX} : a.e = b.e ↔ a.kind = b.kind ∧ a.n = b.n ∧ a.range = b.range ∧ a.word = b.word ∧ a.ms.l = b.ms.l ∧ a.by_.l = b.by_.l ∧ a.kids.l.map ExprX.e = b.kids.l.map ExprX.e := by
  rw [ExprX.e_eq a, ExprX.e_eq b]
  constructor
  · intro h; injection h with h1 h2 h3 h4 h5 h6 h7; exact ⟨h1, h2, h3, h4, h5, h6, h7⟩
  · rintro ⟨h1, h2, h3, h4, h5, h6, h7⟩; rw [h1, h2, h3, h4, h5, h6, h7]
theorem take_next {α : Type} {l m : List α} {k : Nat} {x y : α} (h : l.take k = m.take k) (hx : l[k]? = some x) (hy : m[k]? = some y) (e : x = y) : l.take (k + 1) = m.take (k + 1) := by
  rw [List.take_add_one, List.take_add_one, hx, hy, h, e]
theorem take_ne {α : Type} {l m : List α} {k : Nat} {x y : α} (hx : l[k]? = some x) (hy : m[k]? = some y) (e : x ≠ y) : l ≠ m := fun h => e (by rw [h, hy] at hx; exact (Option.some.inj hx).symm)
theorem take_all {α : Type} {l m : List α} {k : Nat} (h : l.take k = m.take k) (h1 : l.length ≤ k) (h2 : (l.length : Int) = m.length) : l = m := by
  rwa [List.take_of_length_le h1, List.take_of_length_le (by omega)] at h
theorem e_at {l : List ExprX} {k : Nat} {x : ExprX} (h : l[k]? = some x) : (l.map ExprX.e)[k]? = some x.e := by rw [List.getElem?_map, h]; rfl
end Pz
end Go.Proofs.YtffpglgboaigfaaDoor
