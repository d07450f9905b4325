/-
  Plans: which parts of a shelf's tiers may be read, which are chosen, and what they come to.
-/
import Derived.Test.YtnbkennlmnnbeaaPShelf5
namespace Go.Proofs.Ytnbkennlmnnbeaa
namespace Sh
def spanFrom (z : Shelf) (t : Int) : Int := if t = 1 then z.fineFrom else if t = 2 then z.coarseFrom else z.rawFrom
def spanTo (z : Shelf) (t : Int) : Int := if t = 1 then z.fineTo else if t = 2 then z.coarseTo else 1000001
def stepOf (t : Int) : Int := mx (Roll.step t) 1
def may (z : Shelf) (p : Part) : Prop := ¬ (p.tier < 0 ∨ 2 < p.tier ∨ p.to ≤ p.frm) ∧ spanFrom z p.tier ≤ p.frm ∧ p.to ≤ spanTo z p.tier ∧ Int.tmod p.frm (stepOf p.tier) = 0 ∧ Int.tmod p.to (stepOf p.tier) = 0
instance (z : Shelf) (p : Part) : Decidable (may z p) := by unfold may; infer_instance
theorem stepOf_pos (t : Int) : stepOf t ≠ 0 := by unfold stepOf mx Roll.step; (repeat' split) <;> omega
section
variable {z : Shelf} {p : Part}
theorem may0 (h : ¬ p.to ≤ p.frm) (ht : p.tier = 0) : may z p ↔ z.rawFrom ≤ p.frm ∧ p.to ≤ 1000001 := by
  unfold may spanFrom spanTo
  rw [show stepOf p.tier = 1 by rw [ht]; rfl, Int.tmod_one, Int.tmod_one, ht]
  simp; omega
theorem may1 (h : ¬ p.to ≤ p.frm) (ht : p.tier = 1) : may z p ↔ z.fineFrom ≤ p.frm ∧ p.to ≤ z.fineTo ∧ Int.tmod p.frm 10 = 0 ∧ Int.tmod p.to 10 = 0 := by
  unfold may spanFrom spanTo
  rw [show stepOf p.tier = 10 by rw [ht]; rfl, ht]
  simp; omega
theorem may2 (h : ¬ p.to ≤ p.frm) (ht : p.tier = 2) : may z p ↔ z.coarseFrom ≤ p.frm ∧ p.to ≤ z.coarseTo ∧ Int.tmod p.frm 60 = 0 ∧ Int.tmod p.to 60 = 0 := by
  unfold may spanFrom spanTo
  rw [show stepOf p.tier = 60 by rw [ht]; rfl, ht]
  simp; omega
theorem may_none (h0 : ¬ p.tier = 0) (h1 : ¬ p.tier = 1) (h2 : ¬ p.tier = 2) : ¬ may z p := fun h => h.1 (by omega)
theorem may_lt (h : may z p) : p.frm < p.to := by have := h.1; omega
theorem may_tier (h : may z p) : p.tier = 0 ∨ p.tier = 1 ∨ p.tier = 2 := by have := h.1; omega
/-- where a part of a right shelf may lie -/
theorem may_rng (ho : OK z) (h : may z p) : 0 ≤ p.frm ∧ p.frm < p.to ∧ p.to ≤ 1000001 := by
  have hl := may_lt h
  have hr := ho.rng
  rcases may_tier h with e | e | e
  · rw [may0 (by omega) e] at h; omega
  · rw [may1 (by omega) e] at h; omega
  · rw [may2 (by omega) e] at h; omega
end
/-! ## Covers -/
def covers (z : Shelf) : List Part → Int → Int → Bool
  | [], f, t => decide (f = t)
  | p :: r, f, t => decide (p.frm = f) && decide (may z p) && covers z r p.to t
theorem covers_step {z : Shelf} {l : List Part} {k : Nat} {p : Part} (h : l[k]? = some p) (f t : Int) : covers z (l.drop k) f t = (decide (p.frm = f) && decide (may z p) && covers z (l.drop (k + 1)) p.to t) := by
  obtain ⟨hk, rfl⟩ := List.getElem?_eq_some_iff.1 h
  rw [List.drop_eq_getElem_cons hk, covers]
theorem covers_end {z : Shelf} {l : List Part} {k : Nat} (h : l.length ≤ k) (f t : Int) : covers z (l.drop k) f t = decide (f = t) := by
  rw [List.drop_of_length_le h, covers]
/-! ## Choose -/
def pick (z : Shelf) (f t : Int) : Part :=
  if f + Roll.step 2 ≤ t ∧ may z ⟨2, f, f + Roll.step 2⟩ then ⟨2, f, f + Roll.step 2⟩
  else if f + Roll.step 1 ≤ t ∧ may z ⟨1, f, f + Roll.step 1⟩ then ⟨1, f, f + Roll.step 1⟩
  else if mn (f - f % 10 + 10) t ≤ t ∧ may z ⟨0, f, mn (f - f % 10 + 10) t⟩ then ⟨0, f, mn (f - f % 10 + 10) t⟩
  else ⟨-1, 0, 0⟩
section
variable {z : Shelf} {f t : Int}
theorem pick_2 (h1 : f + Roll.step 2 ≤ t) (h2 : may z ⟨2, f, f + Roll.step 2⟩) : pick z f t = ⟨2, f, f + Roll.step 2⟩ := by rw [pick, if_pos ⟨h1, h2⟩]
theorem pick_1 (n : ¬ (f + Roll.step 2 ≤ t ∧ may z ⟨2, f, f + Roll.step 2⟩)) (h1 : f + Roll.step 1 ≤ t) (h2 : may z ⟨1, f, f + Roll.step 1⟩) : pick z f t = ⟨1, f, f + Roll.step 1⟩ := by rw [pick, if_neg n, if_pos ⟨h1, h2⟩]
theorem pick_0 (n : ¬ (f + Roll.step 2 ≤ t ∧ may z ⟨2, f, f + Roll.step 2⟩)) (m : ¬ (f + Roll.step 1 ≤ t ∧ may z ⟨1, f, f + Roll.step 1⟩)) (h1 : mn (f - f % 10 + 10) t ≤ t) (h2 : may z ⟨0, f, mn (f - f % 10 + 10) t⟩) : pick z f t = ⟨0, f, mn (f - f % 10 + 10) t⟩ := by rw [pick, if_neg n, if_neg m, if_pos ⟨h1, h2⟩]
theorem pick_no (n : ¬ (f + Roll.step 2 ≤ t ∧ may z ⟨2, f, f + Roll.step 2⟩)) (m : ¬ (f + Roll.step 1 ≤ t ∧ may z ⟨1, f, f + Roll.step 1⟩)) (q : ¬ (mn (f - f % 10 + 10) t ≤ t ∧ may z ⟨0, f, mn (f - f % 10 + 10) t⟩)) : pick z f t = ⟨-1, 0, 0⟩ := by rw [pick, if_neg n, if_neg m, if_neg q]
theorem pick_may (h : ¬ (pick z f t).tier < 0) : may z (pick z f t) ∧ (pick z f t).frm = f ∧ (pick z f t).to ≤ t := by
  by_cases c2 : f + Roll.step 2 ≤ t ∧ may z ⟨2, f, f + Roll.step 2⟩
  · rw [pick_2 c2.1 c2.2]; exact ⟨c2.2, rfl, c2.1⟩
  by_cases c1 : f + Roll.step 1 ≤ t ∧ may z ⟨1, f, f + Roll.step 1⟩
  · rw [pick_1 c2 c1.1 c1.2]; exact ⟨c1.2, rfl, c1.1⟩
  by_cases c0 : mn (f - f % 10 + 10) t ≤ t ∧ may z ⟨0, f, mn (f - f % 10 + 10) t⟩
  · rw [pick_0 c2 c1 c0.1 c0.2]; exact ⟨c0.2, rfl, c0.1⟩
  · rw [pick_no c2 c1 c0] at h; exact absurd (by decide) h
theorem pick_to (h : ¬ (pick z f t).tier < 0) : f < (pick z f t).to ∧ (pick z f t).to ≤ t := by
  obtain ⟨h1, h2, h3⟩ := pick_may h
  have := may_lt h1; omega
end
def push (out : List Part) (p : Part) : List Part := match out.getLast? with
  | some q => if q.tier = p.tier then out.set (out.length - 1) ⟨q.tier, q.frm, p.to⟩ else out ++ [p]
  | none => out ++ [p]
theorem push_last {out : List Part} {q p : Part} (h : out[out.length - 1]? = some q) (he : q.tier = p.tier) : push out p = out.set (out.length - 1) ⟨q.tier, q.frm, p.to⟩ := by
  unfold push; rw [List.getLast?_eq_getElem?, h]; simp only; rw [if_pos he]
theorem push_new {out : List Part} {q p : Part} (h : out[out.length - 1]? = some q) (he : ¬ q.tier = p.tier) : push out p = out ++ [p] := by
  unfold push; rw [List.getLast?_eq_getElem?, h]; simp only; rw [if_neg he]
theorem push_nil {out : List Part} {p : Part} (h : out.length = 0) : push out p = out ++ [p] := by
  have : out = [] := List.eq_nil_of_length_eq_zero h
  subst this; rfl
theorem push_len (out : List Part) (p : Part) : (push out p).length ≤ out.length + 1 := by
  unfold push; split
  · split <;> simp
  · simp
def chooseN (z : Shelf) (t : Int) : Nat → Int → List Part → Option (List Part)
  | 0, f, out => if f < t then none else some out
  | n + 1, f, out => if f < t then (if (pick z f t).tier < 0 then none else chooseN z t n (pick z f t).to (push out (pick z f t))) else some out
section
variable {z : Shelf} {t : Int}
theorem chooseN_enough : ∀ (n m : Nat) (f : Int) (out : List Part), (t - f).toNat ≤ n → (t - f).toNat ≤ m → chooseN z t n f out = chooseN z t m f out
  | 0, 0, _, _, _, _ => rfl
  | 0, m + 1, f, out, h, _ => by
    have : ¬ f < t := by omega
    rw [chooseN, chooseN, if_neg this, if_neg this]
  | n + 1, 0, f, out, _, h => by
    have : ¬ f < t := by omega
    rw [chooseN, chooseN, if_neg this, if_neg this]
  | n + 1, m + 1, f, out, h1, h2 => by
    rw [chooseN, chooseN]
    by_cases hf : f < t
    · rw [if_pos hf, if_pos hf]
      by_cases hp : (pick z f t).tier < 0
      · rw [if_pos hp, if_pos hp]
      · rw [if_neg hp, if_neg hp]
        have := pick_to hp
        exact chooseN_enough n m _ _ (by omega) (by omega)
    · rw [if_neg hf, if_neg hf]
def chooseL (z : Shelf) (f t : Int) (out : List Part) : Option (List Part) := chooseN z t (t - f).toNat f out
theorem chooseL_next {f : Int} {out : List Part} (hf : f < t) (hp : ¬ (pick z f t).tier < 0) : chooseL z f t out = chooseL z (pick z f t).to t (push out (pick z f t)) := by
  have h1 := pick_to hp
  obtain ⟨n, hn⟩ : ∃ n, (t - f).toNat = n + 1 := ⟨(t - f).toNat - 1, by omega⟩
  unfold chooseL
  rw [hn, chooseN, if_pos hf, if_neg hp]
  exact chooseN_enough _ _ _ _ (by omega) (Nat.le_refl _)
theorem chooseL_gone {f : Int} {out : List Part} (hf : f < t) (hp : (pick z f t).tier < 0) : chooseL z f t out = none := by
  obtain ⟨n, hn⟩ : ∃ n, (t - f).toNat = n + 1 := ⟨(t - f).toNat - 1, by omega⟩
  unfold chooseL
  rw [hn, chooseN, if_pos hf, if_pos hp]
theorem chooseL_end {f : Int} {out : List Part} (hf : ¬ f < t) : chooseL z f t out = some out := by
  have : (t - f).toNat = 0 := by omega
  unfold chooseL
  rw [this, chooseN, if_neg hf]
end
def choose (z : Shelf) (f t : Int) : List Part × Int := if wrong z ≠ 0 then ([], wrong z) else if f < 0 ∨ t < f ∨ 1000000 < t then ([], 3) else match chooseL z f t [] with
  | none => ([], 10)
  | some l => (l, 0)
section
variable {z : Shelf} {f t : Int}
theorem choose_wrong (h : wrong z ≠ 0) : choose z f t = ([], wrong z) := by rw [choose, if_pos h]
theorem choose_range (h : ¬ wrong z ≠ 0) (h2 : f < 0 ∨ t < f ∨ 1000000 < t) : choose z f t = ([], 3) := by rw [choose, if_neg h, if_pos h2]
theorem choose_gone (h : ¬ wrong z ≠ 0) (h2 : ¬ (f < 0 ∨ t < f ∨ 1000000 < t)) {g : Int} {out : List Part} (e : chooseL z f t [] = chooseL z g t out) (hg : g < t) (hp : (pick z g t).tier < 0) : choose z f t = ([], 10) := by
  rw [choose, if_neg h, if_neg h2, e, chooseL_gone hg hp]
theorem choose_end (h : ¬ wrong z ≠ 0) (h2 : ¬ (f < 0 ∨ t < f ∨ 1000000 < t)) {g : Int} {out : List Part} (e : chooseL z f t [] = chooseL z g t out) (hg : ¬ g < t) : choose z f t = (out, 0) := by
  rw [choose, if_neg h, if_neg h2, e, chooseL_end hg]
theorem choose_done (h : (choose z f t).2 = 0) : OK z ∧ 0 ≤ f ∧ f ≤ t ∧ t ≤ 1000000 ∧ chooseL z f t [] = some (choose z f t).1 := by
  by_cases h1 : wrong z ≠ 0
  · rw [choose_wrong h1] at h; exact absurd h h1
  by_cases h2 : f < 0 ∨ t < f ∨ 1000000 < t
  · rw [choose_range h1 h2] at h; exact absurd h (by decide)
  refine ⟨ok_of h1, by omega, by omega, by omega, ?_⟩
  rw [choose, if_neg h1, if_neg h2] at h ⊢
  cases hc : chooseL z f t [] with
  | none => rw [hc] at h; exact absurd h (by simp)
  | some l => rfl
theorem choose_fail (h : (choose z f t).2 ≠ 0) : (choose z f t).1 = [] := by
  unfold choose at h ⊢
  split
  · rfl
  · split
    · rfl
    · rename_i h1 h2
      rw [if_neg h1, if_neg h2] at h
      split
      · rfl
      · rename_i l hl; rw [hl] at h; simp at h
end
/-! ## Read -/
def partSum (z : Shelf) (p : Part) : Sum := if p.tier = 1 then Roll.of z.fine p.frm p.to else if p.tier = 2 then Roll.of z.coarse p.frm p.to else Agg.of (Roll.inT z.raw p.frm p.to)
def partCost (z : Shelf) (p : Part) : Int := if p.tier = 1 then (bIn z.fine p.frm p.to).length else if p.tier = 2 then (bIn z.coarse p.frm p.to).length else (Roll.inT z.raw p.frm p.to).length
def apart (prev : Option Part) (p : Part) : Bool := match prev with
  | none => false
  | some q => decide (q.to ≠ p.frm)
def readN (z : Shelf) : Option Part → List Part → Sum → Int → Sum × Int × Int
  | _, [], s, c => (s, c, 0)
  | prev, p :: r, s, c => if ¬ may z p ∨ apart prev p = true then (Sum.zero, 0, 8) else readN z (some p) r (Agg.join s (partSum z p)) (c + partCost z p)
def read (z : Shelf) (l : List Part) : Sum × Int × Int := if wrong z ≠ 0 then (Sum.zero, 0, wrong z) else readN z none l Sum.zero 0
def prevP (l : List Part) (k : Nat) : Option Part := if k = 0 then none else l[k - 1]?
section
variable {z : Shelf} {l : List Part} {k : Nat} {p q : Part} {s : Sum} {c : Int}
theorem read_step (h : l[k]? = some p) : readN z (prevP l k) (l.drop k) s c = if ¬ may z p ∨ apart (prevP l k) p = true then (Sum.zero, 0, 8) else readN z (prevP l (k + 1)) (l.drop (k + 1)) (Agg.join s (partSum z p)) (c + partCost z p) := by
  obtain ⟨hk, rfl⟩ := List.getElem?_eq_some_iff.1 h
  rw [List.drop_eq_getElem_cons hk, readN]
  have : prevP l (k + 1) = some l[k] := by rw [prevP, if_neg (by omega)]; simp
  rw [this]
theorem read_end (h : l.length ≤ k) {o : Option Part} : readN z o (l.drop k) s c = (s, c, 0) := by rw [List.drop_of_length_le h, readN]
theorem apart_zero (h : k = 0) : ¬ (apart (prevP l k) p = true) := by rw [prevP, if_pos h]; simp [apart]
theorem apart_pos (h : ¬ k = 0) (hq : l[k - 1]? = some q) : (apart (prevP l k) p = true) ↔ q.to ≠ p.frm := by rw [prevP, if_neg h, hq]; simp [apart]
end
theorem partCost_rng {z : Shelf} (h : OK z) (p : Part) : 0 ≤ partCost z p ∧ partCost z p ≤ 500 := by
  have hl := h.lens
  have h1 := bIn_len z.fine p.frm p.to
  have h2 := bIn_len z.coarse p.frm p.to
  have h3 := Roll.inT_len z.raw p.frm p.to
  unfold partCost
  split
  · omega
  · split <;> omega
end Sh
end Go.Proofs.Ytnbkennlmnnbeaa
namespace Go.Proofs.Ytnbkennlmnnbeaa
namespace Sh
theorem cov_yes {a b : Prop} [Decidable a] [Decidable b] {c : Bool} (h : ¬ (¬ a ∨ ¬ b)) : (decide a && decide b && c) = c := by
  have ha : a := Classical.not_not.1 fun g => h (.inl g)
  have hb : b := Classical.not_not.1 fun g => h (.inr g)
  simp [ha, hb]
theorem cov_no {a b : Prop} [Decidable a] [Decidable b] {c : Bool} (h : ¬ a ∨ ¬ b) : (decide a && decide b && c) = false := by
  rcases h with h | h <;> simp [h]
theorem cov_yes' {a b : Prop} [Decidable a] [Decidable b] {c : Bool} (h : ¬ (¬ b ∨ ¬ a)) : (decide a && decide b && c) = c := cov_yes fun g => h g.symm
theorem cov_no' {a b : Prop} [Decidable a] [Decidable b] {c : Bool} (h : ¬ b ∨ ¬ a) : (decide a && decide b && c) = false := cov_no h.symm
end Sh
end Go.Proofs.Ytnbkennlmnnbeaa
namespace Go.Proofs.Ytnbkennlmnnbeaa
namespace Sh
/-! ## Sums as they are joined -/
/-- of at most n samples; of none: nothing -/
def good (u : Sum) (n : Int) : Prop := 0 ≤ u.count ∧ u.count ≤ n ∧ (u.count = 0 → u = Sum.zero)
theorem good_zero : good Sum.zero 0 := ⟨Int.le_refl _, Int.le_refl _, fun _ => rfl⟩
theorem good.mono {u : Sum} {n m : Int} (h : good u n) (hn : n ≤ m) : good u m := ⟨h.1, Int.le_trans h.2.1 hn, h.2.2⟩
theorem join_zero {u : Sum} {n : Int} (h : good u n) : Agg.join u Sum.zero = u := by
  show Agg.join u ⟨0, 0, 0, 0, 0, 0, 0⟩ = u
  rw [Agg.join_none]
  split
  · rename_i h0; rw [h.2.2 h0]; rfl
  · rfl
theorem zero_join (u : Sum) : Agg.join Sum.zero u = u := Agg.none_join u
theorem good.join {u x : Sum} {n m : Int} (h : good u n) (hx : good x m) (hb : n + m ≤ 9223372036854775807) : good (Agg.join u x) (n + m) := by
  have h1 := h.1; have h2 := h.2.1; have h3 := hx.1; have h4 := hx.2.1
  have hc := Agg.join_count h1 h3 (by omega)
  refine ⟨by omega, by omega, fun h0 => ?_⟩
  have e1 : u = Sum.zero := h.2.2 (by omega)
  have e2 : x = Sum.zero := hx.2.2 (by omega)
  rw [e1, e2]; rfl
theorem gsum_good {α : Type} {s : α → Sum} (m : Int) (hm : 0 ≤ m) : ∀ (l : List α), m * l.length ≤ 9223372036854775807 → (∀ x ∈ l, 1 ≤ (s x).count ∧ (s x).count ≤ m) → good (Roll.gsum s l) (m * l.length) := by
  intro l
  induction l using List.reverseRecOn' with
  | nil =>
    intro _ _
    rw [show m * (([] : List α).length : Int) = 0 by simp]
    exact good_zero
  | snoc l x ih =>
    intro hl h
    have e : m * ((l ++ [x]).length : Int) = m * l.length + m := by
      rw [List.length_append]; push_cast; rw [Int.mul_add]; simp
    rw [e] at hl ⊢
    have hx := h x (by simp)
    rw [Roll.gsum_snoc]
    exact (ih (by omega) fun y hy => h y (by simp [hy])).join ⟨by omega, hx.2, fun h0 => by omega⟩ (by omega)
def rawB (l : List Sample) : List Bucket := l.map fun x => ⟨x.time, Agg.of [x]⟩
theorem rawB_succ {l : List Sample} {k : Nat} {x : Sample} (h : l[k]? = some x) : rawB (l.take (k + 1)) = rawB (l.take k) ++ [⟨x.time, Agg.of [x]⟩] := by
  unfold rawB; rw [List.take_add_one, h, List.map_append]; rfl
theorem rawB_len (l : List Sample) : (rawB l).length = l.length := by simp [rawB]
theorem rawB_bIn (l : List Sample) (a b : Int) : bIn (rawB l) a b = rawB (Roll.inT l a b) := by
  unfold bIn rawB Roll.inT
  rw [List.filter_map]; rfl
theorem gsum_rawB (l : List Sample) : Roll.gsum Bucket.sum (rawB l) = Agg.of l := by
  induction l using List.reverseRecOn' with
  | nil => rfl
  | snoc l x ih =>
    have : rawB (l ++ [x]) = rawB l ++ [⟨x.time, Agg.of [x]⟩] := by simp [rawB]
    rw [this, Roll.gsum_snoc, ih, Agg.of_snoc, Agg.of_one]
theorem rawB_of (l : List Sample) (a b : Int) : Roll.of (rawB l) a b = Agg.of (Roll.inT l a b) := by
  rw [Roll.of_win, ← Roll.win_bIn, rawB_bIn, gsum_rawB]
/-- what is looked at for a part -/
def bucketsOf (z : Shelf) (p : Part) : List Bucket := if p.tier = 2 then z.coarse else if p.tier = 0 then rawB z.raw else z.fine
theorem bucketsOf_sum {z : Shelf} {p : Part} (h : may z p) : Roll.of (bucketsOf z p) p.frm p.to = partSum z p := by
  unfold bucketsOf partSum
  rcases may_tier h with e | e | e
  · rw [if_neg (by omega), if_pos e, if_neg (by omega), if_neg (by omega), rawB_of]
  · rw [if_neg (by omega), if_neg (by omega), if_pos e]
  · rw [if_pos e, if_neg (by omega), if_pos e]
theorem bucketsOf_cost {z : Shelf} {p : Part} (h : may z p) : ((bIn (bucketsOf z p) p.frm p.to).length : Int) = partCost z p := by
  unfold bucketsOf partCost
  rcases may_tier h with e | e | e
  · rw [if_neg (by omega), if_pos e, if_neg (by omega), if_neg (by omega), rawB_bIn, rawB_len]
  · rw [if_neg (by omega), if_neg (by omega), if_pos e]
  · rw [if_pos e, if_neg (by omega), if_pos e]
theorem bucketsOf_ok {z : Shelf} (h : OK z) (p : Part) : (bucketsOf z p).length ≤ 500 ∧ ∀ x ∈ bucketsOf z p, 1 ≤ x.sum.count ∧ x.sum.count ≤ 60 := by
  have hl := h.lens
  have hc := h.coarseT; have hf := h.fineT
  unfold bucketsOf
  split
  · exact ⟨hl.2.2.2, fun x hx => by have := hc.ok x hx; omega⟩
  · split
    · exact ⟨by rw [rawB_len]; exact hl.2.1, fun x hx => by
        obtain ⟨y, hy, rfl⟩ := List.mem_map.1 hx
        simp [Agg.of_one, Agg.one]⟩
    · exact ⟨hl.2.2.1, fun x hx => by have := hf.ok x hx; omega⟩
/-- any of its beginnings comes to a good sum -/
theorem of_good {l : List Bucket} (hl : l.length ≤ 500) (h : ∀ x ∈ l, 1 ≤ x.sum.count ∧ x.sum.count ≤ 60) (k : Nat) (a b : Int) : good (Roll.of (l.take k) a b) 30000 := by
  rw [Roll.of_win]
  have h1 : (Roll.win Bucket.at_ (l.take k) a b).length ≤ l.length := Nat.le_trans (List.length_filter_le ..) (List.length_take_le' k l)
  refine (gsum_good (s := Bucket.sum) 60 (by decide) _ (by omega) fun x hx => h x (List.mem_of_mem_take (Roll.win_mem.1 hx).1)).mono (by omega)
theorem of_next {l : List Bucket} {u : Sum} {n : Int} (hg : good u n) (hn : n ≤ 1000000000000) (hl : l.length ≤ 500) (h : ∀ x ∈ l, 1 ≤ x.sum.count ∧ x.sum.count ≤ 60) {k : Nat} {x : Bucket} (hx : l[k]? = some x) (a b : Int) :
    Agg.join u (Roll.of (l.take (k + 1)) a b) = if a ≤ x.at_ ∧ x.at_ < b then Agg.join (Agg.join u (Roll.of (l.take k) a b)) x.sum else Agg.join u (Roll.of (l.take k) a b) := by
  rw [Roll.of_succ l a b k x hx]
  have h1 := of_good hl h k a b
  have h2 := h x (List.mem_of_getElem? hx)
  split
  · rw [← Agg.join_assoc hg.1 h1.1 (by omega) (by have := hg.2.1; have := h1.2.1; omega)]
  · rfl
theorem partSum_good {z : Shelf} (ho : OK z) {p : Part} (h : may z p) : good (partSum z p) 30000 := by
  obtain ⟨h1, h2⟩ := bucketsOf_ok ho p
  have := of_good h1 h2 (bucketsOf z p).length p.frm p.to
  rwa [List.take_length, bucketsOf_sum h] at this
theorem partSum_1 {z : Shelf} {p : Part} (h : p.tier = 1) : partSum z p = Roll.of z.fine p.frm p.to ∧ partCost z p = (bIn z.fine p.frm p.to).length := by unfold partSum partCost; rw [if_pos h, if_pos h]; exact ⟨rfl, rfl⟩
theorem partSum_2 {z : Shelf} {p : Part} (h1 : ¬ p.tier = 1) (h : p.tier = 2) : partSum z p = Roll.of z.coarse p.frm p.to ∧ partCost z p = (bIn z.coarse p.frm p.to).length := by unfold partSum partCost; rw [if_neg h1, if_neg h1, if_pos h, if_pos h]; exact ⟨rfl, rfl⟩
theorem partSum_0 {z : Shelf} {p : Part} (h1 : ¬ p.tier = 1) (h : ¬ p.tier = 2) : partSum z p = Agg.of (Roll.inT z.raw p.frm p.to) ∧ partCost z p = (Roll.inT z.raw p.frm p.to).length := by unfold partSum partCost; rw [if_neg h1, if_neg h1, if_neg h, if_neg h]; exact ⟨rfl, rfl⟩
section
variable {z : Shelf} {l : List Part} {k : Nat} {p : Part} {u : Sum} {c : Int}
theorem read_wrong (h : wrong z ≠ 0) : read z l = (Sum.zero, 0, wrong z) := by rw [read, if_pos h]
theorem read_bad (h : ¬ wrong z ≠ 0) (e : readN z none l Sum.zero 0 = readN z (prevP l k) (l.drop k) u c) (hp : l[k]? = some p) (hb : ¬ may z p ∨ apart (prevP l k) p = true) : read z l = (Sum.zero, 0, 8) := by
  rw [read, if_neg h, e, read_step hp, if_pos hb]
theorem read_ok (h : ¬ wrong z ≠ 0) (e : readN z none l Sum.zero 0 = readN z (prevP l k) (l.drop k) u c) (hk : l.length ≤ k) : read z l = (u, c, 0) := by
  rw [read, if_neg h, e, read_end hk]
theorem read_next (e : readN z none l Sum.zero 0 = readN z (prevP l k) (l.drop k) u c) (hp : l[k]? = some p) (hm : may z p) (ha : ¬ (apart (prevP l k) p = true)) {x : Sum} {n : Int} (hx : partSum z p = x) (hn : partCost z p = n) : readN z none l Sum.zero 0 = readN z (prevP l (k + 1)) (l.drop (k + 1)) (Agg.join u x) (c + n) := by
  rw [e, read_step hp, if_neg (fun g => g.elim (fun g => g hm) ha), hx, hn]
end
theorem inT_of_succ {l : List Sample} {a b : Int} {k : Nat} {x : Sample} (h : l[k]? = some x) : Agg.of (Roll.inT (l.take (k + 1)) a b) = if a ≤ x.time ∧ x.time < b then Agg.join (Agg.of (Roll.inT (l.take k) a b)) (Agg.one x.value) else Agg.of (Roll.inT (l.take k) a b) := by
  rw [Roll.inT_succ h]; split
  · rw [Agg.of_snoc]
  · rfl
theorem mn_ref (g t : Int) : mn t (g / 10 * 10 + 10) = mn (g - g % 10 + 10) t := by unfold mn; (repeat' split) <;> omega
theorem mn_le (a t : Int) : mn a t ≤ t := by unfold mn; split <;> omega
end Sh
end Go.Proofs.Ytnbkennlmnnbeaa
