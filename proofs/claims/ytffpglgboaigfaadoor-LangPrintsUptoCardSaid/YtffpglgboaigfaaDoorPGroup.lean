/-
  Buckets, group by group: what the document's answer goes through is what comes of adding one by one.
-/
import Derived.Test.YtffpglgboaigfaaDoorPExact
namespace Go.Proofs.YtffpglgboaigfaaDoor
namespace Roll
section
variable {α : Type} (t : α → Int) (s : α → Sum) (st : Int)
def gf (l : List α) : List Bucket := l.foldl (fun b x => add b (t x) st (s x)) []
def gsum (l : List α) : Sum := l.foldl (fun a x => Agg.join a (s x)) Sum.zero
/-- rising, and none too late -/
structure Rises (l : List α) : Prop where
  rng : ∀ x ∈ l, 0 ≤ t x ∧ t x ≤ 1000000
  inc : l.Pairwise (fun x y => t x < t y)
variable {t s st} {l : List α} {a : Int} {i j : Nat}
theorem fold_last : ∀ (seg : List α) (s0 : Sum) (out : List Bucket), (∀ x ∈ seg, at' (t x) st = a) →
    seg.foldl (fun b x => add b (t x) st (s x)) (out ++ [⟨a, s0⟩]) = out ++ [⟨a, seg.foldl (fun u x => Agg.join u (s x)) s0⟩]
  | [], _, _, _ => rfl
  | x :: seg, s0, out, h => by
    simp only [List.foldl_cons]
    rw [add_snoc, if_pos (h x (List.mem_cons_self ..)).symm]
    exact fold_last seg _ out fun y hy => h y (List.mem_cons_of_mem _ hy)
theorem fold_new {seg : List α} {out : List Bucket} (hne : seg ≠ []) (h : ∀ x ∈ seg, at' (t x) st = a) (hb : ∀ b, out.getLast? = some b → b.at_ ≠ a) :
    seg.foldl (fun b x => add b (t x) st (s x)) out = out ++ [⟨a, gsum s seg⟩] := by
  cases seg with
  | nil => exact absurd rfl hne
  | cons x seg =>
    have hx := h x (List.mem_cons_self ..)
    have e : add out (t x) st (s x) = out ++ [⟨a, s x⟩] := by
      unfold add
      split
      · rename_i b hl
        rw [if_neg (by rw [hx]; exact hb b hl), hx]
      · rw [hx]
    simp only [List.foldl_cons]
    rw [e, fold_last seg _ out fun y hy => h y (List.mem_cons_of_mem _ hy)]
    have e0 : Agg.join Sum.zero (s x) = s x := Agg.none_join _
    simp only [gsum, List.foldl_cons, e0]
theorem gf_group (hij : i < j) (hj : j ≤ l.length) (h : ∀ x ∈ (l.take j).drop i, at' (t x) st = a) (hb : ∀ b, (gf t s st (l.take i)).getLast? = some b → b.at_ ≠ a) :
    gf t s st (l.take j) = gf t s st (l.take i) ++ [⟨a, gsum s ((l.take j).drop i)⟩] := by
  have e : l.take j = l.take i ++ (l.take j).drop i := by
    have := List.take_append_drop i (l.take j)
    rw [List.take_take, Nat.min_eq_left (by omega)] at this
    exact this.symm
  have hne : (l.take j).drop i ≠ [] := by
    intro h0
    have := congrArg List.length h0
    simp at this; omega
  conv => lhs; rw [e]
  unfold gf
  rw [List.foldl_append]
  exact fold_new hne h hb
/-- so far as a group goes -/
structure Grp (t : α → Int) (st : Int) (l : List α) (a : Int) (i j : Nat) : Prop where
  le : i ≤ j
  len : j ≤ l.length
  all : ∀ x ∈ (l.take j).drop i, a ≤ t x ∧ t x < a + st
theorem Grp.start (h : i ≤ l.length) : Grp t st l a i i := ⟨Nat.le_refl _, h, fun x hx => by rw [List.drop_of_length_le (by simp; omega)] at hx; cases hx⟩
theorem Rises.le (h : Rises t l) {x y : α} (hi : l[i]? = some y) (hj : l[j]? = some x) (hij : i ≤ j) : t y ≤ t x := by
  rcases Nat.lt_or_ge i j with hlt | hge
  · obtain ⟨h1, rfl⟩ := List.getElem?_eq_some_iff.1 hi
    obtain ⟨h2, rfl⟩ := List.getElem?_eq_some_iff.1 hj
    have := List.pairwise_iff_getElem.1 h.inc i j h1 h2 hlt
    omega
  · obtain rfl : i = j := by omega
    rw [hi] at hj; cases hj; omega
theorem seg_succ {x : α} (hij : i ≤ j) (hx : l[j]? = some x) : (l.take (j + 1)).drop i = (l.take j).drop i ++ [x] := by
  have hj : j < l.length := (List.getElem?_eq_some_iff.1 hx).1
  rw [List.take_add_one, hx, List.drop_append_of_le_length (by simp; omega)]; rfl
theorem gsum_succ {x : α} (hij : i ≤ j) (hx : l[j]? = some x) : gsum s ((l.take (j + 1)).drop i) = Agg.join (gsum s ((l.take j).drop i)) (s x) := by
  rw [seg_succ hij hx]; simp [gsum]
theorem gsum_self (i : Nat) : gsum s ((l.take i).drop i) = Sum.zero := by rw [List.drop_of_length_le (by simp; omega)]; rfl
theorem Grp.step {x y : α} (g : Grp t st l a i j) (hr : Rises t l) (hi : l[i]? = some y) (ha : a ≤ t y) (hx : l[j]? = some x) (h : t x < a + st) : Grp t st l a i (j + 1) := by
  have hj : j < l.length := (List.getElem?_eq_some_iff.1 hx).1
  have hle := hr.le hi hx g.le
  refine ⟨by have := g.le; omega, by omega, fun z hz => ?_⟩
  rw [seg_succ g.le hx] at hz
  rcases List.mem_append.1 hz with h1 | h1
  · exact g.all z h1
  · obtain rfl : z = x := by simpa using h1
    omega
theorem at_of {n : Int} (hst : st = 10 ∨ st = 60) (h0 : 0 ≤ n ∧ n ≤ 1000000) {q : Int} (h1 : q * st ≤ n) (h2 : n < q * st + st) : at' n st = q * st := by
  unfold at'
  rw [Int.tmod_eq_emod_of_nonneg h0.1]
  rcases hst with rfl | rfl <;> (rw [wr_id (by omega) (by omega)]; omega)
theorem at_le {n : Int} (hst : st = 10 ∨ st = 60) (h0 : 0 ≤ n ∧ n ≤ 1000000) : at' n st ≤ n ∧ n < at' n st + st := by
  unfold at'
  rw [Int.tmod_eq_emod_of_nonneg h0.1]
  rcases hst with rfl | rfl <;> (rw [wr_id (by omega) (by omega)]; omega)
/-- no group is cut -/
def Whole (t : α → Int) (s : α → Sum) (st : Int) (l : List α) (i : Nat) : Prop := ∀ b, (gf t s st (l.take i)).getLast? = some b → ∀ x, l[i]? = some x → b.at_ ≠ at' (t x) st
theorem Whole.start : Whole t s st l 0 := fun b h => by simp [gf] at h
theorem Grp.done {y : α} (hst : st = 10 ∨ st = 60) (hr : Rises t l) (hi : l[i]? = some y) (hw : Whole t s st l i) (g : Grp t st l (t y / st * st) i j) (hex : l.length ≤ j ∨ ∃ x, l[j]? = some x ∧ t y / st * st + st ≤ t x) :
    i < j ∧ gf t s st (l.take j) = gf t s st (l.take i) ++ [⟨t y / st * st, gsum s ((l.take j).drop i)⟩] ∧ Whole t s st l j := by
  have hil : i < l.length := (List.getElem?_eq_some_iff.1 hi).1
  have hy := hr.rng y (List.mem_of_getElem? hi)
  have hq : t y / st * st ≤ t y ∧ t y < t y / st * st + st := by rcases hst with rfl | rfl <;> omega
  have hij : i < j := by
    rcases Nat.lt_or_ge i j with h | h
    · exact h
    · have := g.le
      obtain rfl : i = j := by omega
      rcases hex with h1 | ⟨x, hx, h1⟩
      · omega
      · rw [hi] at hx; cases hx; omega
  have hay := at_of hst hy hq.1 hq.2
  have e := gf_group (t := t) (s := s) (st := st) (a := t y / st * st) hij g.len (fun x hx => by
      have h1 := g.all x hx
      have h2 := hr.rng x (List.mem_of_mem_take (List.mem_of_mem_drop hx))
      exact at_of hst h2 h1.1 h1.2) (fun b hb => by rw [← hay]; exact hw b hb y hi)
  refine ⟨hij, e, fun b hb x hx => ?_⟩
  rw [e, List.getLast?_append] at hb
  have hb' : b = ⟨t y / st * st, gsum s ((l.take j).drop i)⟩ := by simpa using hb.symm
  subst hb'
  rcases hex with h1 | ⟨z, hz, h1⟩
  · have := (List.getElem?_eq_some_iff.1 hx).1; omega
  · rw [hx] at hz; cases hz
    have h2 := at_le hst (hr.rng x (List.mem_of_getElem? hx))
    intro h3
    simp only at h3
    omega
end
theorem ups_gf (l : List Sample) (st : Int) : ups l st = gf Sample.time (fun x => Agg.one x.value) st l := rfl
theorem greater_gf (l : List Bucket) : greater l = gf Bucket.at_ Bucket.sum 60 l := rfl
theorem of_gsum (l : List Sample) : Agg.of l = gsum (fun x => Agg.one x.value) l := rfl
theorem rises_of {l : List Sample} (h : Codec.Right l) : Rises Sample.time l := ⟨fun x hx => ⟨(h.rng x hx).1, (h.rng x hx).2.1⟩, h.inc⟩
theorem from_right (st : Int) : ∀ (l : List Bucket) (k : Nat) (p : Option Bucket), (wrongFrom st k p l).err = 0 →
    (∀ x ∈ l, ¬ badB x st) ∧ l.Pairwise (fun x y => x.at_ < y.at_) ∧ (∀ q, p = some q → ∀ x ∈ l, q.at_ < x.at_)
  | [], _, _, _ => ⟨by simp, by simp, by simp⟩
  | s :: r, k, p, h => by
    unfold wrongFrom at h
    split at h
    · simp at h
    · rename_i hb
      split at h
      · simp at h
      · rename_i hn
        obtain ⟨h1, h2, h3⟩ := from_right st r (k + 1) (some s) h
        have h4 := h3 s rfl
        refine ⟨?_, List.pairwise_cons.2 ⟨h4, h2⟩, ?_⟩
        · intro x hx
          rcases List.mem_cons.1 hx with rfl | hx
          · exact hb
          · exact h1 x hx
        · rintro q rfl x hx
          have h5 : q.at_ < s.at_ := by simpa [behind] using hn
          rcases List.mem_cons.1 hx with rfl | hx
          · exact h5
          · have := h4 x hx; omega
structure RightB (l : List Bucket) (st : Int) : Prop where
  len : l.length ≤ 500
  ok : ∀ x ∈ l, ¬ badB x st
  inc : l.Pairwise (fun x y => x.at_ < y.at_)
theorem rightB_of {l : List Bucket} {tier : Int} (h : (wrong l tier).err = 0) : RightB l (step tier) ∧ step tier ≠ 0 := by
  unfold wrong at h
  split at h
  · simp at h
  · rename_i hs
    split at h
    · simp at h
    · obtain ⟨h1, h2, _⟩ := from_right _ l 0 none h
      exact ⟨⟨by omega, h1, h2⟩, hs⟩
theorem RightB.rises {l : List Bucket} {st : Int} (h : RightB l st) : Rises Bucket.at_ l := ⟨fun x hx => by have := h.ok x hx; unfold badB at this; omega, h.inc⟩
theorem badB_iff {b : Bucket} {st : Int} (hst : st = 10 ∨ st = 60) : badB b st ↔ b.at_ < 0 ∨ 1000000 < b.at_ ∨ b.at_ / st * st ≠ b.at_ ∨ b.sum.count < 1 ∨ st < b.sum.count := by
  unfold badB
  by_cases h0 : b.at_ < 0
  · simp [h0]
  · rw [Int.tmod_eq_emod_of_nonneg (by omega)]
    rcases hst with rfl | rfl <;> omega
theorem step_two {tier : Int} (h : ¬ step tier = 0) : step tier = 10 ∨ step tier = 60 := by
  unfold step at *; repeat' split
  all_goals simp_all
theorem up_one (l : List Sample) : up l 1 = ups l 10 := rfl
theorem up_two (l : List Sample) : up l 2 = ups l 60 := rfl
theorem up_none (l : List Sample) : (up l 0).length = 0 := rfl
theorem step_assoc (tier : Int) (a b : Nat) : (Ex.assoc ([(a, 1, 10), (b, 2, 60)] : List (Nat × Int × Int)) tier).getD 0 = step tier := by
  simp only [Ex.assoc, step]
  repeat' split
  all_goals first | rfl | simp_all
theorem step_assoc' (tier : Int) (a b : Nat) : (Ex.assoc ([(a, 2, 60), (b, 1, 10)] : List (Nat × Int × Int)) tier).getD 0 = step tier := by
  simp only [Ex.assoc, step]
  repeat' split
  all_goals first | rfl | simp_all
end Roll
end Go.Proofs.YtffpglgboaigfaaDoor
