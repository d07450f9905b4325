/-
  Plain laws of buckets: whole buckets tell what the samples in that time come to; buckets of right samples are right.
-/
import Derived.Test.YtffpglgboaigfaaDoorPRoll
namespace Go.Proofs.YtffpglgboaigfaaDoor

namespace Roll
/-- how roll.Wrong goes -/
def badB (b : Bucket) (st : Int) : Prop := b.at_ < 0 ∨ 1000000 < b.at_ ∨ Int.tmod b.at_ st ≠ 0 ∨ b.sum.count < 1 ∨ st < b.sum.count
instance (b : Bucket) (st : Int) : Decidable (badB b st) := by unfold badB; infer_instance
def behind (prev : Option Bucket) (b : Bucket) : Bool := match prev with
  | some p => decide (b.at_ ≤ p.at_)
  | none => false
def wrongFrom (st : Int) : Nat → Option Bucket → List Bucket → Fault
  | _, _, [] => ⟨0, 0⟩
  | k, prev, b :: r => if badB b st then ⟨3, k⟩ else if behind prev b then ⟨2, k⟩ else wrongFrom st (k + 1) (some b) r
def wrong (l : List Bucket) (tier : Int) : Fault := if step tier = 0 then ⟨1, 0⟩ else if 500 < l.length then ⟨5, 0⟩ else wrongFrom (step tier) 0 none l
def prevOf (l : List Bucket) (k : Nat) : Option Bucket := if k = 0 then none else l[k - 1]?
theorem wrong_start (l : List Bucket) (st : Int) : wrongFrom st 0 none l = wrongFrom st 0 (prevOf l 0) (l.drop 0) := by simp [prevOf]
theorem wrong_step {l : List Bucket} {st : Int} {k : Nat} {s : Bucket} (h : l[k]? = some s) : wrongFrom st k (prevOf l k) (l.drop k) = if badB s st then ⟨3, k⟩ else if behind (prevOf l k) s then ⟨2, k⟩ else wrongFrom st (k + 1) (prevOf l (k + 1)) (l.drop (k + 1)) := by
  obtain ⟨hk, e⟩ := List.getElem?_eq_some_iff.1 h
  rw [List.drop_eq_getElem_cons hk, e]
  have : prevOf l (k + 1) = some s := by unfold prevOf; rw [if_neg (by omega)]; simpa using h
  rw [this]; rfl
theorem wrong_end {l : List Bucket} {st : Int} {k : Nat} {p : Option Bucket} (h : l.length ≤ k) : wrongFrom st k p (l.drop k) = ⟨0, 0⟩ := by
  rw [List.drop_of_length_le h]; rfl
theorem from_ok (st : Int) : ∀ (l : List Bucket) (k : Nat) (p : Option Bucket), (∀ x ∈ l, ¬ badB x st) → l.Pairwise (fun x y => x.at_ < y.at_) → (∀ q, p = some q → ∀ x ∈ l, q.at_ < x.at_) → wrongFrom st k p l = ⟨0, 0⟩
  | [], _, _, _, _, _ => rfl
  | s :: r, k, p, h1, h2, h3 => by
    unfold wrongFrom
    rw [if_neg (h1 s (by simp))]
    have hb : ¬ (behind p s = true) := by
      cases p with
      | none => simp [behind]
      | some q => have := h3 q rfl s (by simp); simp [behind]; omega
    rw [if_neg hb]
    have hp := List.pairwise_cons.1 h2
    exact from_ok st r (k + 1) (some s) (fun x hx => h1 x (by simp [hx])) hp.2 (by rintro q ⟨⟩ x hx; exact hp.1 x hx)

theorem step_cases {tier : Int} (h : step tier ≠ 0) : step tier = 10 ∨ step tier = 60 := by
  unfold step at *; split
  · exact .inl rfl
  · split
    · exact .inr rfl
    · simp_all

/-- buckets of right samples -/
structure Built (l : List Sample) (st : Int) (b : List Bucket) : Prop where
  rng : ∀ x ∈ b, 0 ≤ x.at_ ∧ x.at_ ≤ 1000000 ∧ x.at_ % st = 0
  cnt : ∀ x ∈ b, 1 ≤ x.sum.count ∧ x.sum.count ≤ st
  inc : b.Pairwise (fun x y => x.at_ < y.at_)
  /-- the last bucket has room up to the last sample -/
  last : ∀ x, b.getLast? = some x → ∃ s, l.getLast? = some s ∧ x.at_ ≤ s.time ∧ s.time < x.at_ + st ∧ x.sum.count ≤ s.time - x.at_ + 1
theorem built (st : Int) (hst : 0 < st) (l : List Sample) (h : Codec.Right l) : Built l st (ups l st) := by
  induction l using List.reverseRecOn' with
  | nil => exact ⟨by simp [ups], by simp [ups], by simp [ups], by simp [ups]⟩
  | snoc l x ih =>
    have hb := ih h.init
    have hx := h.rng x (by simp)
    have hat := at_range hx.1 hx.2.1 hst
    have hinc := (List.pairwise_append.1 h.inc).2.2
    have hlen := h.init.len
    have hc := ups_counts l st (by omega)
    rw [ups_snoc]
    have hlast : (l ++ [x]).getLast? = some x := by simp
    rcases List.eq_nil_or_concat (ups l st) with e | ⟨l0, b, e⟩
    · rw [e, add_empty]
      refine ⟨fun y hy => ?_, fun y hy => ?_, by simp, fun y hy => ⟨x, hlast, ?_⟩⟩
      · simp only [List.mem_singleton] at hy; subst hy; exact ⟨hat.1, by show at' x.time st ≤ 1000000; omega, hat.2.2.2⟩
      · simp only [List.mem_singleton] at hy; subst hy; simp [Agg.one]; omega
      · simp at hy; subst hy; simp [Agg.one]; omega
    · rw [List.concat_eq_append] at e
      rw [e] at hb hc
      obtain ⟨s, hs, h1, h2, h3⟩ := hb.last b (by simp)
      have hsx : s.time < x.time := hinc s (List.mem_of_getLast? hs) x (by simp)
      have hbr := hb.rng b (by simp)
      have hbc := hb.cnt b (by simp)
      have hpw := List.pairwise_append.1 hb.inc
      rw [e, add_snoc]
      split
      · rename_i he
        have hj : (Agg.join b.sum (Agg.one x.value)).count = b.sum.count + 1 := by
          rw [Agg.join_count (by omega) (by simp [Agg.one]) (by have := hc.le b (by simp); simp [Agg.one]; omega)]; simp [Agg.one]
        refine ⟨fun y hy => ?_, fun y hy => ?_, ?_, fun y hy => ⟨x, hlast, ?_⟩⟩
        · rcases List.mem_append.1 hy with hy | hy
          · exact hb.rng y (by simp [hy])
          · simp only [List.mem_singleton] at hy; subst hy; exact hbr
        · rcases List.mem_append.1 hy with hy | hy
          · exact hb.cnt y (by simp [hy])
          · simp only [List.mem_singleton] at hy; subst hy
            show 1 ≤ (Agg.join b.sum (Agg.one x.value)).count ∧ (Agg.join b.sum (Agg.one x.value)).count ≤ st
            omega
        · refine List.pairwise_append.2 ⟨hpw.1, by simp, fun y hy z hz => ?_⟩
          simp only [List.mem_singleton] at hz; subst hz
          exact hpw.2.2 y hy b (by simp)
        · simp at hy; subst hy
          show b.at_ ≤ x.time ∧ x.time < b.at_ + st ∧ (Agg.join b.sum (Agg.one x.value)).count ≤ x.time - b.at_ + 1
          omega
      · rename_i he
        have hlt : b.at_ < at' x.time st := by
          have e1 := hbr.2.2
          have e2 := hat.2.2.2
          have d1 := Int.emod_add_mul_ediv b.at_ st
          have d2 := Int.emod_add_mul_ediv (at' x.time st) st
          rw [e1, Int.zero_add] at d1
          rw [e2, Int.zero_add] at d2
          rcases Int.lt_trichotomy (b.at_ / st) (at' x.time st / st) with h | h | h
          · have : st * (b.at_ / st) < st * (at' x.time st / st) := Int.mul_lt_mul_of_pos_left h hst
            omega
          · rw [h] at d1; omega
          · have : st * (at' x.time st / st + 1) ≤ st * (b.at_ / st) := Int.mul_le_mul_of_nonneg_left (by omega) (by omega)
            rw [Int.mul_add, Int.mul_one] at this
            omega
        refine ⟨fun y hy => ?_, fun y hy => ?_, ?_, fun y hy => ⟨x, hlast, ?_⟩⟩
        · rcases List.mem_append.1 hy with hy | hy
          · exact hb.rng y hy
          · simp only [List.mem_singleton] at hy; subst hy; exact ⟨hat.1, by show at' x.time st ≤ 1000000; omega, hat.2.2.2⟩
        · rcases List.mem_append.1 hy with hy | hy
          · exact hb.cnt y hy
          · simp only [List.mem_singleton] at hy; subst hy; simp [Agg.one]; omega
        · refine List.pairwise_append.2 ⟨hb.inc, by simp, fun y hy z hz => ?_⟩
          simp only [List.mem_singleton] at hz; subst hz
          rcases List.mem_append.1 hy with hy | hy
          · exact Int.lt_trans (hpw.2.2 y hy b (by simp)) hlt
          · simp only [List.mem_singleton] at hy; subst hy; exact hlt
        · simp at hy; subst hy; simp [Agg.one]; omega
theorem up_right {l : List Sample} {tier : Int} (h : Codec.Right l) (ht : step tier ≠ 0) : (wrong (up l tier) tier).err = 0 := by
  have hst : 0 < step tier := by rcases step_cases ht with e | e <;> rw [e] <;> decide
  have hb := built (step tier) hst l h
  have hl := h.len
  have hul := up_len l tier
  unfold wrong
  rw [if_neg ht, if_neg (by omega)]
  unfold up
  rw [if_neg ht]
  have := from_ok (step tier) (ups l (step tier)) 0 none (fun x hx => by
    have h1 := hb.rng x hx; have h2 := hb.cnt x hx
    unfold badB
    rw [Int.tmod_eq_emod_of_nonneg h1.1]
    omega) hb.inc (by simp)
  rw [this]

/-- those of a time -/
def inT (l : List Sample) (a b : Int) : List Sample := l.filter fun s => decide (a ≤ s.time ∧ s.time < b)
theorem inT_succ {l : List Sample} {a b : Int} {k : Nat} {x : Sample} (h : l[k]? = some x) : inT (l.take (k + 1)) a b = if a ≤ x.time ∧ x.time < b then inT (l.take k) a b ++ [x] else inT (l.take k) a b := by
  unfold inT
  rw [List.take_add_one, h, List.filter_append]
  simp only [Option.toList_some, List.filter_cons, List.filter_nil, decide_eq_true_eq]
  split <;> simp
theorem inT_len (l : List Sample) (a b : Int) : (inT l a b).length ≤ l.length := List.length_filter_le ..
theorem of_snoc' (l : List Bucket) (b : Bucket) (f t : Int) : of (l ++ [b]) f t = if f ≤ b.at_ ∧ b.at_ < t then Agg.join (of l f t) b.sum else of l f t := by
  unfold of; simp
theorem of_count {l : List Bucket} {n : Int} (h : Counts l n) (hn : n ≤ 1000000000) (f t : Int) : 0 ≤ (of l f t).count ∧ (of l f t).count ≤ n := by
  induction l using List.reverseRecOn' generalizing n with
  | nil => have := h.nonneg; simp [of, Sum.zero]; omega
  | snoc l b ih =>
    have h1 := h.pos b (by simp)
    have h2 := ih h.init (by omega)
    rw [of_snoc']
    split
    · rw [Agg.join_count h2.1 (by omega) (by omega)]; omega
    · omega
/-- whole buckets tell what the samples in their time come to -/
theorem of_ups (st a b : Int) (hst : 0 < st) (l : List Sample) (h : Codec.Right l) : of (ups l st) (a * st) (b * st) = Agg.of (inT l (a * st) (b * st)) := by
  induction l using List.reverseRecOn' with
  | nil => rfl
  | snoc l x ih =>
    have ih' := ih h.init
    have hx := h.rng x (by simp)
    have hat := at_range hx.1 hx.2.1 hst
    have hlen := h.init.len
    have hc := ups_counts l st (by omega)
    have d2 := Int.emod_add_mul_ediv (at' x.time st) st
    rw [hat.2.2.2, Int.zero_add] at d2
    -- the bucket is in that time where the sample is
    have key : (a * st ≤ at' x.time st ∧ at' x.time st < b * st) ↔ (a * st ≤ x.time ∧ x.time < b * st) := by
      have e1 : a * st = st * a := Int.mul_comm ..
      have e2 : b * st = st * b := Int.mul_comm ..
      constructor
      · rintro ⟨h1, h2⟩
        refine ⟨by omega, ?_⟩
        have : at' x.time st / st < b := by
          rcases (show at' x.time st / st < b ∨ b ≤ at' x.time st / st by omega) with g | g
          · exact g
          · have := Int.mul_le_mul_of_nonneg_left g (by omega : 0 ≤ st); omega
        have := Int.mul_le_mul_of_nonneg_left (show at' x.time st / st + 1 ≤ b by omega) (by omega : 0 ≤ st)
        rw [Int.mul_add, Int.mul_one] at this
        omega
      · rintro ⟨h1, h2⟩
        refine ⟨?_, by omega⟩
        rcases (show at' x.time st / st < a ∨ a ≤ at' x.time st / st by omega) with g | g
        · have := Int.mul_le_mul_of_nonneg_left (show at' x.time st / st + 1 ≤ a by omega) (by omega : 0 ≤ st)
          rw [Int.mul_add, Int.mul_one] at this
          omega
        · have := Int.mul_le_mul_of_nonneg_left g (by omega : 0 ≤ st); omega
    have hin : inT (l ++ [x]) (a * st) (b * st) = if a * st ≤ x.time ∧ x.time < b * st then inT l (a * st) (b * st) ++ [x] else inT l (a * st) (b * st) := by
      unfold inT
      rw [List.filter_append]
      simp only [List.filter_cons, List.filter_nil, decide_eq_true_eq]
      split <;> simp
    rw [ups_snoc, hin]
    rcases add_cases (ups l st) x.time st (Agg.one x.value) with e | ⟨l0, c, e0, hb, e⟩
    · rw [e, of_snoc']
      simp only [key]
      split
      · rw [Agg.of_snoc, ih']
      · exact ih'
    · rw [e, of_snoc']
      show (if a * st ≤ c.at_ ∧ c.at_ < b * st then _ else _) = _
      rw [hb]
      simp only [key]
      rw [e0, of_snoc', hb] at ih'
      simp only [key] at ih'
      rw [e0] at hc
      split
      · rename_i hp
        rw [if_pos hp] at ih'
        rw [Agg.of_snoc, ← ih']
        have h1 := hc.pos c (by simp)
        have h2 := hc.le c (by simp)
        have h3 := of_count hc.init (by omega) (a * st) (b * st)
        exact Agg.join_assoc h3.1 (by omega) (by simp [Agg.one]) (by simp [Agg.one]; omega)
      · rename_i hp
        rw [if_neg hp] at ih'
        exact ih'
theorem exact_ {l : List Sample} {tier a b : Int} (h : Codec.Right l) (ht : step tier ≠ 0) (ha : 0 ≤ a) (hab : a ≤ b) (hb : b ≤ 1000000 / step tier) : of (up l tier) (wr (a * step tier)) (wr (b * step tier)) = Agg.of (inT l (wr (a * step tier)) (wr (b * step tier))) := by
  have hst : 0 < step tier := by rcases step_cases ht with e | e <;> rw [e] <;> decide
  have h1 := Int.mul_le_of_le_ediv hst hb
  have h2 : a * step tier ≤ b * step tier := Int.mul_le_mul_of_nonneg_right hab (by omega)
  have h3 : 0 ≤ a * step tier := Int.mul_nonneg ha (by omega)
  rw [wr_id (by omega) (by omega), wr_id (by omega) (by omega)]
  have : up l tier = ups l (step tier) := by unfold up; rw [if_neg ht]
  rw [this]
  exact of_ups (step tier) a b hst l h
end Roll
end Go.Proofs.YtffpglgboaigfaaDoor
