/-
  What the functions of buckets compute, in plain Lean.
-/
import Derived.Test.YtffpglgboaigfaaDoorPure
namespace Go.Proofs.YtffpglgboaigfaaDoor

namespace Roll
def step (tier : Int) : Int := if tier = 1 then 10 else if tier = 2 then 60 else 0
/-- where the bucket begins in which a time is -/
def at' (t step : Int) : Int := wr (t - Int.tmod t step)
def add (l : List Bucket) (t step : Int) (s : Sum) : List Bucket := match l.getLast? with
  | some b => if b.at_ = at' t step then l.set (l.length - 1) ⟨b.at_, Agg.join b.sum s⟩ else l ++ [⟨at' t step, s⟩]
  | none => l ++ [⟨at' t step, s⟩]
def ups (l : List Sample) (step : Int) : List Bucket := l.foldl (fun b s => add b s.time step (Agg.one s.value)) []
def up (l : List Sample) (tier : Int) : List Bucket := if step tier = 0 then [] else ups l (step tier)
def greater (l : List Bucket) : List Bucket := l.foldl (fun b x => add b x.at_ 60 x.sum) []
def of (l : List Bucket) (frm to : Int) : Sum := l.foldl (fun s b => if frm ≤ b.at_ ∧ b.at_ < to then Agg.join s b.sum else s) Sum.zero
theorem ups_succ (l : List Sample) (st : Int) (k : Nat) (x : Sample) (h : l[k]? = some x) : ups (l.take (k + 1)) st = add (ups (l.take k) st) x.time st (Agg.one x.value) := by
  unfold ups; rw [List.take_add_one, h]; simp
theorem greater_succ (l : List Bucket) (k : Nat) (x : Bucket) (h : l[k]? = some x) : greater (l.take (k + 1)) = add (greater (l.take k)) x.at_ 60 x.sum := by
  unfold greater; rw [List.take_add_one, h]; simp
theorem of_succ (l : List Bucket) (f t : Int) (k : Nat) (x : Bucket) (h : l[k]? = some x) : of (l.take (k + 1)) f t = if f ≤ x.at_ ∧ x.at_ < t then Agg.join (of (l.take k) f t) x.sum else of (l.take k) f t := by
  unfold of; rw [List.take_add_one, h]; simp
theorem add_len (l : List Bucket) (t st : Int) (s : Sum) : (add l t st s).length ≤ l.length + 1 := by
  unfold add; split
  · split <;> simp
  · simp
theorem ups_len (l : List Sample) (st : Int) : (ups l st).length ≤ l.length := by
  induction l using List.reverseRecOn' with
  | nil => simp [ups]
  | snoc l x ih =>
    have e : ups (l ++ [x]) st = add (ups l st) x.time st (Agg.one x.value) := by simp [ups]
    have := add_len (ups l st) x.time st (Agg.one x.value)
    rw [e, List.length_append]; simp only [List.length_cons, List.length_nil]; omega
theorem greater_len (l : List Bucket) : (greater l).length ≤ l.length := by
  induction l using List.reverseRecOn' with
  | nil => simp [greater]
  | snoc l x ih =>
    have e : greater (l ++ [x]) = add (greater l) x.at_ 60 x.sum := by simp [greater]
    have := add_len (greater l) x.at_ 60 x.sum
    rw [e, List.length_append]; simp only [List.length_cons, List.length_nil]; omega
theorem up_len (l : List Sample) (t : Int) : (up l t).length ≤ l.length := by
  unfold up; split
  · simp
  · exact ups_len _ _
theorem add_last {l : List Bucket} {b : Bucket} {t st : Int} {s : Sum} (h : l[l.length - 1]? = some b) (he : b.at_ = at' t st) : l.set (l.length - 1) ⟨b.at_, Agg.join b.sum s⟩ = add l t st s := by
  unfold add; rw [List.getLast?_eq_getElem?, h]; simp [he]
theorem add_new {l : List Bucket} {b : Bucket} {t st : Int} {s : Sum} (h : l[l.length - 1]? = some b) (he : ¬ b.at_ = at' t st) : l ++ [⟨at' t st, s⟩] = add l t st s := by
  unfold add; rw [List.getLast?_eq_getElem?, h]; simp [he]
theorem add_nil {l : List Bucket} {t st : Int} {s : Sum} (h : ¬ 0 ≤ (l.length : Int) - 1) : l ++ [⟨at' t st, s⟩] = add l t st s := by
  have : l = [] := List.eq_nil_of_length_eq_zero (by omega)
  subst this; rfl
end Roll

namespace Codec
def prevOf (l : List Sample) (k : Nat) : Option Sample := if k = 0 then none else l[k - 1]?
theorem wrong_start (l : List Sample) : wrongFrom 0 none l = wrongFrom 0 (prevOf l 0) (l.drop 0) := by simp [prevOf]
theorem wrong_step {l : List Sample} {k : Nat} {s : Sample} (h : l[k]? = some s) : wrongFrom k (prevOf l k) (l.drop k) = if badRange s then ⟨3, k⟩ else if notAhead (prevOf l k) s then ⟨2, k⟩ else wrongFrom (k + 1) (prevOf l (k + 1)) (l.drop (k + 1)) := by
  obtain ⟨hk, e⟩ := List.getElem?_eq_some_iff.1 h
  rw [List.drop_eq_getElem_cons hk, e]
  have : prevOf l (k + 1) = some s := by unfold prevOf; rw [if_neg (by omega)]; simpa using h
  rw [this]; rfl
theorem wrong_end {l : List Sample} {k : Nat} {p : Option Sample} (h : l.length ≤ k) : wrongFrom k p (l.drop k) = ⟨0, 0⟩ := by
  rw [List.drop_of_length_le h]; rfl
end Codec

theorem same_step {α : Type} {a b : List α} {k : Nat} {x y : α} (h : a.take k = b.take k) (hx : a[k]? = some x) (hy : b[k]? = some y) (e : x = y) : a.take (k + 1) = b.take (k + 1) := by
  rw [List.take_add_one, List.take_add_one, hx, hy, h, e]
theorem same_done {α : Type} {a b : List α} {k : Nat} (ha : a.length ≤ k) (hb : b.length ≤ k) (h : a.take k = b.take k) : a = b := by
  rwa [List.take_of_length_le ha, List.take_of_length_le hb] at h

end Go.Proofs.YtffpglgboaigfaaDoor
