/-
  Expressions: what is told of them, in plain terms.
-/
import Derived.Test.YtffpglgboaigfaaDoorDeep
import Derived.Test.YtffpglgboaigfaaDoorPNames
import Derived.Test.YtffpglgboaigfaaDoorPAgg
import Derived.Test.YtffpglgboaigfaaDoorPIdx
namespace Go.Proofs.YtffpglgboaigfaaDoor
namespace Lg
open Ex
mutual
def vector : Expr → Bool
  | .mk kind _ _ _ _ _ kids => (decide (kind = 2) || decide (kind = 3)) || vectors kids
def vectors : List Expr → Bool
  | [] => false
  | x :: xs => vector x || vectors xs
end
theorem vectors_any : ∀ l, vectors l = l.any vector
  | [] => rfl
  | x :: xs => by rw [vectors, List.any_cons, vectors_any xs]
theorem vector_e (x : ExprX) : vector x.e = ((decide (x.kind = 2) || decide (x.kind = 3)) || x.kids.l.any fun k => vector k.e) := by
  rw [ExprX.e_eq, vector, vectors_any, List.any_map]; rfl
theorem vector_yes {x : ExprX} (h : x.kind = 2 ∨ x.kind = 3) : vector x.e = true := by
  rw [vector_e]; rcases h with h | h <;> simp [h]
theorem vector_no {x : ExprX} (h : ¬ (x.kind = 2 ∨ x.kind = 3)) : vector x.e = x.kids.l.any fun k => vector k.e := by
  rw [vector_e]; simp only [not_or] at h; simp [h.1, h.2]
mutual
def typed : Expr → Int
  | .mk kind _ _ _ _ _ kids => if kind = 3 ∧ kids.length = 1 ∧ vectors kids = false then 8 else typeds kids
def typeds : List Expr → Int
  | [] => 0
  | x :: xs => if typed x ≠ 0 then typed x else typeds xs
end
theorem typed_e (x : ExprX) : typed x.e = if x.kind = 3 ∧ x.kids.l.length = 1 ∧ (x.kids.l.any fun k => vector k.e) = false then 8 else typeds (x.kids.l.map ExprX.e) := by
  rw [ExprX.e_eq, typed, vectors_any, List.any_map, List.length_map]; rfl
theorem typed_8 {x : ExprX} (h : x.kind = 3 ∧ ((x.kids.l.length : Int) = 1 ∧ (!(x.kids.l.any fun k => vector k.e)) = true)) : typed x.e = 8 := by
  rw [typed_e, if_pos ⟨h.1, by omega, by simpa using h.2.2⟩]
theorem typed_rest {x : ExprX} (h : ¬ (x.kind = 3 ∧ ((x.kids.l.length : Int) = 1 ∧ (!(x.kids.l.any fun k => vector k.e)) = true))) : typed x.e = typeds (x.kids.l.map ExprX.e) := by
  rw [typed_e, if_neg fun g => h ⟨g.1, by omega, by simp [g.2.2]⟩]
theorem any_one {α : Type} {l : List α} {p : α → Bool} {s : α} (h : l.length = 1) (hs : l[0]? = some s) : l.any p = p s := by
  match l, h with
  | [a], _ => obtain rfl : a = s := by simpa using hs
              simp
theorem any_none {α : Type} {l : List α} {p : α → Bool} {k : Nat} (h : ∀ y ∈ l.take k, p y = false) (hk : l.length ≤ k) : l.any p = false := by
  rw [List.take_of_length_le hk] at h
  rw [List.any_eq_false]
  intro y hy; simp [h y hy]
theorem typeds_take {l : List Expr} {k : Nat} {x : Expr} (h : typeds (l.take k) = 0) (hx : l[k]? = some x) : typeds (l.take (k + 1)) = typed x ∧ (typed x ≠ 0 → typeds l = typed x) := by
  induction l generalizing k with
  | nil => simp at hx
  | cons y l ih =>
    cases k with
    | zero =>
      obtain rfl : y = x := by simpa using hx
      refine ⟨by simp only [List.take_succ_cons, List.take_zero, typeds]; split <;> simp_all, fun h => by rw [typeds, if_pos h]⟩
    | succ k =>
      rw [List.take_succ_cons, typeds] at h
      have hy : ¬ typed y ≠ 0 := fun e => by rw [if_pos e] at h; exact e h
      rw [if_neg hy] at h
      obtain ⟨h1, h2⟩ := ih h (by simpa using hx)
      rw [List.take_succ_cons, typeds, if_neg hy]
      refine ⟨h1, fun e => by rw [typeds, if_neg hy]; exact h2 e⟩
theorem typeds_next {l : List ExprX} {k : Nat} {x : ExprX} (h : typeds ((l.take k).map ExprX.e) = 0) (hx : l[k]? = some x) : typeds ((l.take (k + 1)).map ExprX.e) = typed x.e ∧ (typed x.e ≠ 0 → typeds (l.map ExprX.e) = typed x.e) := by
  rw [List.map_take] at h ⊢
  exact typeds_take h (by rw [List.getElem?_map, hx]; rfl)
/-! ## What is wrong with an expression -/
def totals : List ByteArray := [⟨#[99, 111, 117, 110, 116]⟩, ⟨#[109, 97, 120]⟩, ⟨#[109, 105, 110]⟩, ⟨#[115, 117, 109]⟩]
def signs : List ByteArray := [⟨#[43]⟩, ⟨#[45]⟩, ⟨#[42]⟩]
def matchW (m : Match) : Int := if m.kind < 1 ∨ 4 < m.kind then 1 else if Names.named m.key = false ∨ ((m.kind = 1 ∨ m.kind = 2) ∧ Names.named m.val = false) then 7 else 0
def matchesW : List Match → Int
  | [] => 0
  | m :: r => if matchW m ≠ 0 then matchW m else matchesW r
theorem matchesW_step {l : List Match} {k : Nat} {x : Match} (h : l[k]? = some x) : matchesW (l.drop k) = if matchW x ≠ 0 then matchW x else matchesW (l.drop (k + 1)) := by
  obtain ⟨h1, rfl⟩ := List.getElem?_eq_some_iff.1 h
  rw [List.drop_eq_getElem_cons h1, matchesW]
theorem matchesW_end {l : List Match} {k : Nat} (h : l.length ≤ k) : matchesW (l.drop k) = 0 := by rw [List.drop_of_length_le h, matchesW]
def windowW (word : ByteArray) (ms : List Match) (range : Int) : Int :=
  if ¬ 0 ≤ Names.indexOf Agg.words word 0 then 7 else if 5 < ms.length then 5 else if matchesW ms ≠ 0 then matchesW ms else if range < 1 ∨ 100000 < range then 3 else 0
def ownW (kind n range : Int) (word : ByteArray) (ms : List Match) (by_ : List ByteArray) : Int :=
  if kind = 1 then (if n < 0 ∨ 1000000 < n then 3 else 0)
  else if kind = 2 then windowW word ms range
  else if kind = 3 then (if ¬ 0 ≤ Names.indexOf totals word 0 then 7 else if 4 < by_.length then 5 else if (by_.any fun k => !Names.named k) = true then 7 else 0)
  else if ¬ 0 ≤ Names.indexOf signs word 0 then 7 else 0
theorem signs_iff (v : ByteArray) : 0 ≤ Names.indexOf signs v 0 ↔ (v = ⟨#[43]⟩ ∨ v = ⟨#[45]⟩ ∨ v = ⟨#[42]⟩) := by
  rw [Names.index_mem]; simp [signs]
def arity (kind : Int) : Int := if kind = 3 then 1 else if kind = 4 then 2 else 0
theorem arity_at {kind x : Int} (h1 : 1 ≤ kind) (h2 : kind ≤ 4) (h : ([0, 0, 0, 1, 2] : List Int)[kind.toNat]? = some x) : x = arity kind := by
  have : kind = 1 ∨ kind = 2 ∨ kind = 3 ∨ kind = 4 := by omega
  rcases this with rfl | rfl | rfl | rfl <;> simp [arity] at h ⊢ <;> omega
theorem arity_assoc {a b c d : Nat} (k : Int) : (Value.tuple (List.toArray [.int .i64 ((assoc ([(a, 1, 0), (b, 2, 0), (c, 3, 1), (d, 4, 2)] : List (Nat × Int × Int)) k).getD 0), .bool (assoc ([(a, 1, 0), (b, 2, 0), (c, 3, 1), (d, 4, 2)] : List (Nat × Int × Int)) k).isSome])) = .tuple (List.toArray [.int .i64 (arity k), .bool (decide (1 ≤ k ∧ k ≤ 4))]) := by
  simp only [assoc, arity]
  by_cases h1 : k = 1
  · subst h1; rfl
  by_cases h2 : k = 2
  · subst h2; rfl
  by_cases h3 : k = 3
  · subst h3; rfl
  by_cases h4 : k = 4
  · subst h4; rfl
  rw [if_neg h1, if_neg h2, if_neg h3, if_neg h4, if_neg h3, if_neg h4, decide_eq_false (by omega)]; rfl
mutual
def shape : Expr → Int → Int → Int × Int
  | .mk kind n range word ms by_ kids, deep, c =>
    if 100 < c + 1 ∨ 20 < deep then (4, c + 1) else if kind < 1 ∨ 4 < kind then (1, c + 1) else if (kids.length : Int) ≠ arity kind then (5, c + 1)
    else if ownW kind n range word ms by_ ≠ 0 then (ownW kind n range word ms by_, c + 1) else shapes kids (deep + 1) (c + 1)
def shapes : List Expr → Int → Int → Int × Int
  | [], _, c => (0, c)
  | x :: xs, deep, c => if (shape x deep c).1 ≠ 0 then shape x deep c else shapes xs deep (shape x deep c).2
end
theorem shape_e (x : ExprX) (deep c : Int) : shape x.e deep c = if 100 < c + 1 ∨ 20 < deep then (4, c + 1) else if x.kind < 1 ∨ 4 < x.kind then (1, c + 1) else if (x.kids.l.length : Int) ≠ arity x.kind then (5, c + 1)
    else if ownW x.kind x.n x.range x.word x.ms.l x.by_.l ≠ 0 then (ownW x.kind x.n x.range x.word x.ms.l x.by_.l, c + 1) else shapes (x.kids.l.map ExprX.e) (deep + 1) (c + 1) := by
  rw [ExprX.e_eq, shape, List.length_map]
mutual
theorem shape_le : ∀ (e : Expr) (d c : Int), 0 ≤ c → c ≤ 100 → (shape e d c).1 = 0 → 0 ≤ (shape e d c).2 ∧ (shape e d c).2 ≤ 100
  | .mk kind n range word ms by_ kids, d, c, h0, h1, h => by
    rw [shape] at h ⊢
    split at h
    · cases h
    split at h
    · cases h
    split at h
    · cases h
    split at h
    · rename_i h2; exact absurd h h2
    rename_i a1 a2 a3 a4
    rw [if_neg a1, if_neg a2, if_neg a3, if_neg a4]
    exact shapes_le kids (d + 1) (c + 1) (by omega) (by omega) h
theorem shapes_le : ∀ (l : List Expr) (d c : Int), 0 ≤ c → c ≤ 100 → (shapes l d c).1 = 0 → 0 ≤ (shapes l d c).2 ∧ (shapes l d c).2 ≤ 100
  | [], d, c, h0, h1, h => by rw [shapes]; exact ⟨h0, h1⟩
  | x :: xs, d, c, h0, h1, h => by
    rw [shapes] at h ⊢
    split at h
    · rename_i h2; exact absurd h h2
    rename_i h2
    rw [if_neg h2]
    have := shape_le x d c h0 h1 (Classical.not_not.1 h2)
    exact shapes_le xs d _ this.1 this.2 h
end
theorem shapes_take {l : List Expr} {k : Nat} {x : Expr} {d c n : Int} (h : shapes (l.take k) d c = (0, n)) (hx : l[k]? = some x) :
    ((shape x d n).1 = 0 → shapes (l.take (k + 1)) d c = (0, (shape x d n).2)) ∧ ((shape x d n).1 ≠ 0 → shapes l d c = shape x d n) := by
  induction l generalizing k c with
  | nil => simp at hx
  | cons y l ih =>
    cases k with
    | zero =>
      obtain rfl : y = x := by simpa using hx
      obtain rfl : c = n := by rw [List.take_zero, shapes] at h; exact congrArg (·.2) h
      refine ⟨fun h => ?_, fun h => by rw [shapes, if_pos h]⟩
      rw [List.take_succ_cons, List.take_zero, shapes, if_neg (by simp [h]), shapes]
    | succ k =>
      rw [List.take_succ_cons, shapes] at h
      have hy : ¬ (shape y d c).1 ≠ 0 := fun e => by rw [if_pos e] at h; exact e (congrArg (·.1) h)
      rw [if_neg hy] at h
      obtain ⟨h1, h2⟩ := ih h (by simpa using hx)
      rw [List.take_succ_cons, shapes, if_neg hy, shapes, if_neg hy]
      exact ⟨h1, h2⟩
theorem shapes_next {l : List ExprX} {k : Nat} {x : ExprX} {d c n : Int} (h : shapes ((l.take k).map ExprX.e) d c = (0, n)) (hx : l[k]? = some x) :
    ((shape x.e d n).1 = 0 → shapes ((l.take (k + 1)).map ExprX.e) d c = (0, (shape x.e d n).2)) ∧ ((shape x.e d n).1 ≠ 0 → shapes (l.map ExprX.e) d c = shape x.e d n) := by
  rw [List.map_take] at h ⊢
  exact shapes_take h (by rw [List.getElem?_map, hx]; rfl)
def wrong (e : Expr) : Int := (shape e 1 0).1
end Lg
end Go.Proofs.YtffpglgboaigfaaDoor
