/-
  Shelves: what is rolled is right; what the document's answer does to a shelf is that too.
-/
import Derived.Test.YtnbkennlmnnbeaaPShelf2
namespace Go.Proofs.Ytnbkennlmnnbeaa
namespace Roll
/-- buckets of a tier, one behind the other -/
structure Tier (l : List Bucket) (st lo hi : Int) : Prop where
  ok : ∀ x ∈ l, lo ≤ x.at_ ∧ x.at_ < hi ∧ x.at_ % st = 0 ∧ 1 ≤ x.sum.count ∧ x.sum.count ≤ st
  inc : l.Pairwise (fun x y => x.at_ < y.at_)
theorem Tier.rises {l : List Bucket} {st lo hi : Int} (h : Tier l st lo hi) (h0 : 0 ≤ lo) (h1 : hi ≤ 1000001) : Rises Bucket.at_ l := ⟨fun x hx => by have := h.ok x hx; omega, h.inc⟩
theorem Tier.append {a b : List Bucket} {st lo m hi : Int} (ha : Tier a st lo m) (hb : Tier b st m hi) (h1 : lo ≤ m) (h2 : m ≤ hi) : Tier (a ++ b) st lo hi :=
  ⟨fun x hx => by
    rcases List.mem_append.1 hx with h | h
    · have := ha.ok x h; omega
    · have := hb.ok x h; omega, List.pairwise_append.2 ⟨ha.inc, hb.inc, fun x hx y hy => by have := ha.ok x hx; have := hb.ok y hy; omega⟩⟩
theorem RightB.tier {l : List Bucket} {st lo hi : Int} (h : RightB l st) (hs : st = 10 ∨ st = 60) (hw : Sh.within l lo hi = true) : Tier l st lo hi :=
  ⟨fun x hx => by
    have h1 := h.ok x hx
    rw [badB_iff hs] at h1
    have h2 := List.all_eq_true.1 hw x hx
    have h2 := of_decide_eq_true h2
    rcases hs with rfl | rfl <;> omega, h.inc⟩
theorem Tier.right {l : List Bucket} {st lo hi : Int} (h : Tier l st lo hi) (hs : st = 10 ∨ st = 60) (h0 : 0 ≤ lo) (h1 : hi ≤ 1000001) (hl : l.length ≤ 500) : RightB l st :=
  ⟨hl, fun x hx => by
    rw [badB_iff hs]
    have := h.ok x hx
    rcases hs with rfl | rfl <;> omega, h.inc⟩
theorem Tier.within {l : List Bucket} {st lo hi : Int} (h : Tier l st lo hi) : Sh.within l lo hi = true :=
  List.all_eq_true.2 fun x hx => by have := h.ok x hx; exact decide_eq_true ⟨this.1, this.2.1⟩
theorem wrong_right {l : List Bucket} {tier : Int} (h : RightB l (step tier)) (ht : step tier ≠ 0) : (wrong l tier).err = 0 := by
  have hlen := h.len
  rw [wrong, if_neg ht, if_neg (by omega), from_ok _ _ _ _ h.ok h.inc (by simp)]
theorem up_tier {l : List Sample} {a b : Int} (hr : Rises Sample.time l) (hl : l.length ≤ 1048576) (ha : a % 10 = 0) (hb : b % 10 = 0) : Tier (up (inT l a b) 1) 10 a b := by
  rw [up_win]
  obtain ⟨h1, h2⟩ := gf_to (s := fun x => Agg.one x.value) (.inl rfl) hr ha hb
  refine ⟨fun x hx => ?_, h2⟩
  obtain ⟨m, g1, g2, g3, g4, rfl⟩ := h1 x hx
  have hlen := List.length_filter_le (fun x => decide (m ≤ Sample.time x ∧ Sample.time x < m + 10)) l
  have hw : (win Sample.time l m (m + 10)).length ≤ l.length := hlen
  have hc := gsum_count (s := fun x : Sample => Agg.one x.value) 1 (by omega) (by omega) (win Sample.time l m (m + 10)) (by omega) (fun x _ => by simp [Agg.one])
  have hp : 0 < (win Sample.time l m (m + 10)).length := List.length_pos_iff.2 g4
  have hk := rise_len (t := Sample.time) (b := m + 10) 1 (by decide) (win Sample.time l m (m + 10)) m (win_rises hr).inc (fun x hx => by have := win_mem.1 hx; omega) (by omega) (by omega) (by omega)
  simp only
  omega
theorem greater_tier {l : List Bucket} {a b lo hi : Int} (hr : Tier l 10 lo hi) (h0 : 0 ≤ lo) (h1 : hi ≤ 1000001) (hl : l.length ≤ 1048576) (ha : a % 60 = 0) (hb : b % 60 = 0) : Tier (greater (Sh.bIn l a b)) 60 a b := by
  rw [greater_win]
  have hR := hr.rises h0 h1
  obtain ⟨h1, h2⟩ := gf_to (s := Bucket.sum) (.inr rfl) hR ha hb
  refine ⟨fun x hx => ?_, h2⟩
  obtain ⟨m, g1, g2, g3, g4, rfl⟩ := h1 x hx
  have hlen := List.length_filter_le (fun x => decide (m ≤ Bucket.at_ x ∧ Bucket.at_ x < m + 60)) l
  have hw : (win Bucket.at_ l m (m + 60)).length ≤ l.length := hlen
  have hc := gsum_count (s := Bucket.sum) 10 (by omega) (by omega) (win Bucket.at_ l m (m + 60)) (by omega) (fun x hx => by have := hr.ok x (win_mem.1 hx).1; omega)
  have hp : 0 < (win Bucket.at_ l m (m + 60)).length := List.length_pos_iff.2 g4
  have hk := rise_len (t := Bucket.at_) (b := m + 60) 10 (by decide) (win Bucket.at_ l m (m + 60)) m (win_rises hR).inc (fun x hx => by have h3 := win_mem.1 hx; have := hr.ok x h3.1; omega) (by omega) (by omega) (by omega)
  simp only
  omega
theorem of_pos {l : List Bucket} {lo hi : Int} (hr : Tier l 10 lo hi) (hl : l.length ≤ 1048576) (m n : Int) : (0 < (of l m n).count) ↔ Sh.bIn l m n ≠ [] := by
  rw [of_win]
  have hw : (win Bucket.at_ l m n).length ≤ l.length := List.length_filter_le ..
  have hc := gsum_count (s := Bucket.sum) 10 (by omega) (by omega) (win Bucket.at_ l m n) (by omega) (fun x hx => by have := hr.ok x (win_mem.1 hx).1; omega)
  show _ ↔ win Bucket.at_ l m n ≠ []
  rw [← List.length_pos_iff]
  omega
end Roll
namespace Sh
section
variable {z : Shelf} {to : Int}
theorem OK.rawR (h : OK z) : Codec.Right z.raw := Codec.right_of h.raw
theorem OK.rawRises (h : OK z) : Roll.Rises Sample.time z.raw := Roll.rises_of h.rawR
theorem OK.fineT (h : OK z) : Roll.Tier z.fine 10 z.fineFrom z.fineTo := (Roll.rightB_of h.fine).1.tier (.inl rfl) h.fit.2.2.1
theorem OK.coarseT (h : OK z) : Roll.Tier z.coarse 60 z.coarseFrom z.coarseTo := (Roll.rightB_of h.coarse).1.tier (.inr rfl) h.fit.2.2.2
theorem fineL_len (h : OK z) : (fineL z to).length ≤ 1000 := by
  have h1 := h.lens
  have h2 := Nat.le_trans (Roll.up_len (Roll.inT z.raw z.fineTo (fineTo z to)) 1) (Roll.inT_len _ _ _)
  unfold fineL
  rw [List.length_append]
  omega
theorem fineL_tier (h : OK z) (h1 : 0 ≤ to) (h2 : to ≤ 1000000) : Roll.Tier (fineL z to) 10 z.fineFrom (fineTo z to) := by
  obtain ⟨⟨g1, g2, g3, g4⟩, ⟨g5, g6, g7, g8, g9⟩, g10, g11, g12, g13, g14⟩ := h.rng
  obtain ⟨f1, f2, f3, f4⟩ := fineTo_rng h h1 h2
  have hl := h.lens
  exact h.fineT.append (Roll.up_tier h.rawRises (by omega) g9 f4) g6 f1
theorem coarseL_tier (h : OK z) (h1 : 0 ≤ to) (h2 : to ≤ 1000000) : Roll.Tier (coarseL z to) 60 z.coarseFrom (coarseTo z to) := by
  obtain ⟨⟨g1, g2, g3, g4⟩, ⟨g5, g6, g7, g8, g9⟩, g10, g11, g12, g13, g14⟩ := h.rng
  obtain ⟨f1, f2, f3, f4⟩ := fineTo_rng h h1 h2
  obtain ⟨c1, c2, c3⟩ := coarseTo_rng h h1 h2
  have hl := fineL_len (to := to) h
  exact h.coarseT.append (Roll.greater_tier (fineL_tier h h1 h2) g5 (by omega) (by omega) g14 c3) g11 c1
/-- the document's way, round by round -/
theorem fine_start : z.fine ++ Roll.up (Roll.inT z.raw z.fineTo (z.fineTo + 10 * ((0 : Nat) : Int))) 1 = [] ++ z.fine := by
  have : Roll.inT z.raw z.fineTo (z.fineTo + 10 * ((0 : Nat) : Int)) = [] := Roll.win_self (by simp)
  rw [this]; simp [Roll.up_one, Roll.ups]
theorem fine_next (h : OK z) (k : Nat) : z.fine ++ Roll.up (Roll.inT z.raw z.fineTo (z.fineTo + 10 * ((k + 1 : Nat) : Int))) 1 = if Roll.inT z.raw (z.fineTo + 10 * (k : Int)) (z.fineTo + 10 * (k : Int) + 10) = [] then z.fine ++ Roll.up (Roll.inT z.raw z.fineTo (z.fineTo + 10 * (k : Int))) 1
    else (z.fine ++ Roll.up (Roll.inT z.raw z.fineTo (z.fineTo + 10 * (k : Int))) 1) ++ [⟨z.fineTo + 10 * (k : Int), Agg.of (Roll.inT z.raw (z.fineTo + 10 * (k : Int)) (z.fineTo + 10 * (k : Int) + 10))⟩] := by
  obtain ⟨⟨g1, g2, g3, g4⟩, ⟨g5, g6, g7, g8, g9⟩, _⟩ := h.rng
  have e : z.fineTo + 10 * ((k + 1 : Nat) : Int) = z.fineTo + 10 * (k : Int) + 10 := by push_cast; omega
  rw [e, Roll.up_next h.rawRises (by omega) (by omega)]
  split
  · rfl
  · rw [List.append_assoc]
theorem coarse_start : z.coarse ++ Roll.greater (bIn (fineL z to) z.coarseTo (z.coarseTo + 60 * ((0 : Nat) : Int))) = [] ++ z.coarse := by
  have : bIn (fineL z to) z.coarseTo (z.coarseTo + 60 * ((0 : Nat) : Int)) = [] := Roll.win_self (by simp)
  rw [this]; simp [Roll.greater]
theorem coarse_next (h : OK z) (h1 : 0 ≤ to) (h2 : to ≤ 1000000) (k : Nat) : z.coarse ++ Roll.greater (bIn (fineL z to) z.coarseTo (z.coarseTo + 60 * ((k + 1 : Nat) : Int))) = if 0 < (Roll.of (fineL z to) (z.coarseTo + 60 * (k : Int)) (z.coarseTo + 60 * (k : Int) + 60)).count
    then (z.coarse ++ Roll.greater (bIn (fineL z to) z.coarseTo (z.coarseTo + 60 * (k : Int)))) ++ [⟨z.coarseTo + 60 * (k : Int), Roll.of (fineL z to) (z.coarseTo + 60 * (k : Int)) (z.coarseTo + 60 * (k : Int) + 60)⟩]
    else z.coarse ++ Roll.greater (bIn (fineL z to) z.coarseTo (z.coarseTo + 60 * (k : Int))) := by
  obtain ⟨⟨g1, g2, g3, g4⟩, ⟨g5, g6, g7, g8, g9⟩, g10, g11, g12, g13, g14⟩ := h.rng
  obtain ⟨f1, f2, f3, f4⟩ := fineTo_rng h h1 h2
  have ht := fineL_tier h h1 h2
  have hl := fineL_len (to := to) h
  have e : z.coarseTo + 60 * ((k + 1 : Nat) : Int) = z.coarseTo + 60 * (k : Int) + 60 := by push_cast; omega
  rw [e, Roll.greater_next (ht.rises g5 (by omega)) (by omega) (by omega)]
  by_cases hc : 0 < (Roll.of (fineL z to) (z.coarseTo + 60 * (k : Int)) (z.coarseTo + 60 * (k : Int) + 60)).count
  · rw [if_pos hc, if_neg ((Roll.of_pos ht (by omega) _ _).1 hc), List.append_assoc]
  · rw [if_neg hc, if_pos (Classical.not_not.1 fun g => hc ((Roll.of_pos ht (by omega) _ _).2 g))]
theorem fine_len (h : OK z) (k : Nat) : (z.fine ++ Roll.up (Roll.inT z.raw z.fineTo (z.fineTo + 10 * (k : Int))) 1).length ≤ 1000 := by
  have h1 := h.lens
  have h2 := Nat.le_trans (Roll.up_len (Roll.inT z.raw z.fineTo (z.fineTo + 10 * (k : Int))) 1) (Roll.inT_len _ _ _)
  rw [List.length_append]
  omega
theorem coarse_len (h : OK z) (a b : Int) : (z.coarse ++ Roll.greater (bIn (fineL z to) a b)).length ≤ 2000 := by
  have h1 := h.lens
  have h2 := Nat.le_trans (Roll.greater_len (bIn (fineL z to) a b)) (bIn_len _ _ _)
  have h3 := fineL_len (to := to) h
  rw [List.length_append]
  omega
end
theorem all_succ {α : Type} {p : α → Bool} {l : List α} {k : Nat} {x : α} (h : l[k]? = some x) : (l.take (k + 1)).all p = ((l.take k).all p && p x) := by
  rw [List.take_add_one, h, List.all_append]; simp
theorem any_succ {α : Type} {p : α → Bool} {l : List α} {k : Nat} {x : α} (h : l[k]? = some x) : (l.take (k + 1)).any p = ((l.take k).any p || p x) := by
  rw [List.take_add_one, h, List.any_append]; simp
def fromAll (l : List Sample) (f : Int) : Bool := l.all fun x => decide (f ≤ x.time)
theorem fromAll_succ {l : List Sample} {f : Int} {k : Nat} {x : Sample} (h : l[k]? = some x) : fromAll (l.take (k + 1)) f = (fromAll (l.take k) f && decide (f ≤ x.time)) := all_succ h
theorem within_succ {l : List Bucket} {f t : Int} {k : Nat} {x : Bucket} (h : l[k]? = some x) : within (l.take (k + 1)) f t = (within (l.take k) f t && decide (f ≤ x.at_ ∧ x.at_ < t)) := all_succ h
def lateAny (l : List Sample) (x : Sample) : Bool := l.any fun y => decide (x.time ≤ y.time)
theorem lateAny_succ {l : List Sample} {x y : Sample} {k : Nat} (h : l[k]? = some y) : lateAny (l.take (k + 1)) x = (lateAny (l.take k) x || decide (x.time ≤ y.time)) := any_succ h
theorem jb_t {g c : Bool} (h : g = true) : Value.bool c = Value.bool (g && c) := by rw [h, Bool.true_and]
theorem jb_f {g c : Bool} (h : ¬ g = true) : Value.bool false = Value.bool (g && c) := by rw [Bool.not_eq_true] at h; rw [h, Bool.false_and]
theorem jb_t2 {g : Bool} {a b : Prop} [Decidable a] [Decidable b] (h : g = true) (ha : a) : Value.bool (decide b) = Value.bool (g && decide (a ∧ b)) := by simp [h, ha]
theorem jb_f2 {g : Bool} {a b : Prop} [Decidable a] [Decidable b] (ha : ¬ a) : Value.bool false = Value.bool (g && decide (a ∧ b)) := by simp [ha]
theorem jb_o {g c : Bool} (h : ¬ g = true) : Value.bool c = Value.bool (g || c) := by rw [Bool.not_eq_true] at h; rw [h, Bool.false_or]
theorem jb_ot {g c : Bool} (h : g = true) : Value.bool true = Value.bool (g || c) := by rw [h, Bool.true_or]
theorem good_iff {z : Shelf} (h : ¬ (Codec.wrong z.raw).err ≠ 0) : (((decide (times z) && fromAll z.raw z.rawFrom) && within z.fine z.fineFrom z.fineTo) && within z.coarse z.coarseFrom z.coarseTo) = true ↔ fits z := by
  have hr := Roll.rises_of (Codec.right_of (Classical.not_not.1 h))
  rw [fits, head_all hr]
  simp only [Bool.and_eq_true, decide_eq_true_eq, fromAll, and_assoc]
theorem eq_iff {a b : Shelf} : a = b ↔ a.series = b.series ∧ a.raw = b.raw ∧ a.fine = b.fine ∧ a.coarse = b.coarse ∧ a.rawFrom = b.rawFrom ∧ a.fineFrom = b.fineFrom ∧ a.fineTo = b.fineTo ∧ a.coarseFrom = b.coarseFrom ∧ a.coarseTo = b.coarseTo := by
  cases a; cases b; simp
theorem fromB_succ {l : List Bucket} {f : Int} {k : Nat} {x : Bucket} (h : l[k]? = some x) : fromB (l.take (k + 1)) f = if f ≤ x.at_ then fromB (l.take k) f ++ [x] else fromB (l.take k) f := by
  unfold fromB
  rw [List.take_add_one, h, List.filter_append]
  by_cases hc : f ≤ x.at_ <;> simp [hc]
theorem fromS_succ {l : List Sample} {f : Int} {k : Nat} {x : Sample} (h : l[k]? = some x) : fromS (l.take (k + 1)) f = if f ≤ x.time then fromS (l.take k) f ++ [x] else fromS (l.take k) f := by
  unfold fromS
  rw [List.take_add_one, h, List.filter_append]
  by_cases hc : f ≤ x.time <;> simp [hc]
theorem fromB_len (l : List Bucket) (f : Int) : (fromB l f).length ≤ l.length := List.length_filter_le ..
theorem fromS_len (l : List Sample) (f : Int) : (fromS l f).length ≤ l.length := List.length_filter_le ..
end Sh
end Go.Proofs.Ytnbkennlmnnbeaa
