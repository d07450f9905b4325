/-
  Plain laws of buckets: coarse ones of fine ones; how many samples they count.
-/
import Derived.Test.YtffpglgboaigfaaDoorPAgg
import Derived.Test.YtffpglgboaigfaaDoorRoll
namespace Go.Proofs.YtffpglgboaigfaaDoor

namespace Codec
/-- right samples -/
structure Right (l : List Sample) : Prop where
  len : l.length ≤ 500
  rng : ∀ x ∈ l, 0 ≤ x.time ∧ x.time ≤ 1000000 ∧ -1000000000 ≤ x.value ∧ x.value ≤ 1000000000
  inc : l.Pairwise (fun x y => x.time < y.time)
theorem from_right : ∀ (l : List Sample) (k : Nat) (p : Option Sample), (wrongFrom k p l).err = 0 →
    (∀ x ∈ l, ¬ badRange x) ∧ l.Pairwise (fun x y => x.time < y.time) ∧ (∀ q, p = some q → ∀ x ∈ l, q.time < x.time)
  | [], _, _, _ => ⟨by simp, by simp, by simp⟩
  | s :: r, k, p, h => by
    unfold wrongFrom at h
    split at h
    · simp at h
    · rename_i hb
      split at h
      · simp at h
      · rename_i hn
        obtain ⟨h1, h2, h3⟩ := from_right r (k + 1) (some s) h
        have h4 := h3 s rfl
        refine ⟨?_, List.pairwise_cons.2 ⟨h4, h2⟩, ?_⟩
        · intro x hx
          rcases List.mem_cons.1 hx with rfl | hx
          · exact hb
          · exact h1 x hx
        · rintro q rfl x hx
          have h5 : q.time < s.time := by simpa [notAhead] using hn
          rcases List.mem_cons.1 hx with rfl | hx
          · exact h5
          · have := h4 x hx; omega
theorem right_of {l : List Sample} (h : (wrong l).err = 0) : Right l := by
  unfold wrong at h
  split at h
  · simp at h
  · rename_i hl
    obtain ⟨h1, h2, _⟩ := from_right l 0 none h
    refine ⟨by omega, fun x hx => ?_, h2⟩
    have := h1 x hx
    unfold badRange at this
    omega
theorem Right.init {l : List Sample} {x : Sample} (h : Right (l ++ [x])) : Right l :=
  ⟨by have := h.len; simp at this; omega, fun y hy => h.rng y (by simp [hy]), (List.pairwise_append.1 h.inc).1⟩
end Codec

namespace Roll
def tot (b : List Bucket) : Int := (b.map (·.sum.count)).sum
theorem tot_append (a b : List Bucket) : tot (a ++ b) = tot a + tot b := by simp [tot, List.sum_append]
theorem tot_one (b : Bucket) : tot [b] = b.sum.count := by simp [tot]
theorem add_snoc (l : List Bucket) (b : Bucket) (t st : Int) (s : Sum) : add (l ++ [b]) t st s = if b.at_ = at' t st then l ++ [⟨b.at_, Agg.join b.sum s⟩] else l ++ [b] ++ [⟨at' t st, s⟩] := by
  unfold add
  simp only [List.getLast?_append, List.getLast?_singleton, Option.some_or]
  split
  · simp
  · rfl
theorem add_empty (t st : Int) (s : Sum) : add [] t st s = [⟨at' t st, s⟩] := rfl
theorem add_cases (l : List Bucket) (t st : Int) (s : Sum) : add l t st s = l ++ [⟨at' t st, s⟩] ∨ ∃ l0 b, l = l0 ++ [b] ∧ b.at_ = at' t st ∧ add l t st s = l0 ++ [⟨b.at_, Agg.join b.sum s⟩] := by
  rcases List.eq_nil_or_concat l with rfl | ⟨l0, b, rfl⟩
  · exact .inl rfl
  · rw [List.concat_eq_append, add_snoc]
    split
    · rename_i h; exact .inr ⟨l0, b, rfl, h, rfl⟩
    · exact .inl rfl
theorem ups_snoc (l : List Sample) (x : Sample) (st : Int) : ups (l ++ [x]) st = add (ups l st) x.time st (Agg.one x.value) := by simp [ups]
theorem greater_snoc (l : List Bucket) (x : Bucket) : greater (l ++ [x]) = add (greater l) x.at_ 60 x.sum := by simp [greater]
/-- how many samples buckets count -/
structure Counts (b : List Bucket) (n : Int) : Prop where
  pos : ∀ x ∈ b, 1 ≤ x.sum.count
  all : tot b = n
theorem Counts.le {b : List Bucket} {n : Int} (h : Counts b n) : ∀ x ∈ b, x.sum.count ≤ n := by
  obtain ⟨h1, rfl⟩ := h
  induction b with
  | nil => simp
  | cons a r ih =>
    have ht : tot (a :: r) = a.sum.count + tot r := by simp [tot]
    have hp : 0 ≤ tot r := by
      have : ∀ (r : List Bucket), (∀ x ∈ r, 1 ≤ x.sum.count) → 0 ≤ tot r := by
        intro r
        induction r with
        | nil => intro _; simp [tot]
        | cons c r ih => intro h; have := ih (fun x hx => h x (by simp [hx])); have := h c (by simp); simp only [tot, List.map_cons, List.sum_cons] at *; omega
      exact this r fun x hx => h1 x (by simp [hx])
    have ha := h1 a (by simp)
    intro x hx
    rcases List.mem_cons.1 hx with rfl | hx
    · omega
    · have := ih (fun x hx => h1 x (by simp [hx])) x hx; omega
theorem Counts.nonneg {b : List Bucket} {n : Int} (h : Counts b n) : 0 ≤ n := by
  by_cases hb : b = []
  · subst hb; obtain ⟨_, rfl⟩ := h; simp [tot]
  · obtain ⟨x, hx⟩ := List.exists_mem_of_ne_nil b hb
    have := h.pos x hx; have := h.le x hx; omega
theorem Counts.add {b : List Bucket} {n : Int} {t st : Int} {s : Sum} (h : Counts b n) (hs : 1 ≤ s.count) (hn : n + s.count ≤ 1000000000) : Counts (Roll.add b t st s) (n + s.count) := by
  rcases add_cases b t st s with e | ⟨l0, c, rfl, he, e⟩
  · rw [e]
    refine ⟨fun x hx => ?_, by rw [tot_append, tot_one, h.all]⟩
    rcases List.mem_append.1 hx with hx | hx
    · exact h.pos x hx
    · simp only [List.mem_singleton] at hx; subst hx; exact hs
  · have hc := h.pos c (by simp)
    have hcl := h.le c (by simp)
    have hnn := h.nonneg
    have hj : (Agg.join c.sum s).count = c.sum.count + s.count := Agg.join_count (by omega) (by omega) (by omega)
    rw [e]
    refine ⟨fun x hx => ?_, ?_⟩
    · rcases List.mem_append.1 hx with hx | hx
      · exact h.pos x (by simp [hx])
      · simp only [List.mem_singleton] at hx; subst hx; show 1 ≤ (Agg.join c.sum s).count; omega
    · have := h.all
      rw [tot_append, tot_one] at *
      show tot l0 + (Agg.join c.sum s).count = _
      omega
theorem ups_counts (l : List Sample) (st : Int) (h : l.length ≤ 1048576) : Counts (ups l st) l.length := by
  induction l using List.reverseRecOn' with
  | nil => exact ⟨by simp [ups], by simp [ups, tot]⟩
  | snoc l x ih =>
    have hl : (l ++ [x]).length = l.length + 1 := by simp
    rw [hl] at h ⊢
    rw [ups_snoc]
    exact Counts.add (ih (by omega)) (by simp [Agg.one]) (by simp [Agg.one]; omega)
theorem up_counts {l : List Sample} {tier : Int} (h : l.length ≤ 1048576) (ht : step tier ≠ 0) : Counts (up l tier) l.length := by
  unfold up; rw [if_neg ht]; exact ups_counts l _ h
/-- what is known at one of the buckets -/
theorem tot_at {b : List Bucket} {n : Int} (h : Counts b n) {k : Nat} {x : Bucket} (hx : b[k]? = some x) : tot (b.take (k + 1)) = tot (b.take k) + x.sum.count ∧ 1 ≤ x.sum.count ∧ x.sum.count ≤ n ∧ 0 ≤ tot (b.take k) ∧ tot (b.take (k + 1)) ≤ n := by
  have h1 := h.pos x (List.mem_of_getElem? hx)
  have h2 := h.le x (List.mem_of_getElem? hx)
  have e : tot (b.take (k + 1)) = tot (b.take k) + x.sum.count := by rw [List.take_add_one, hx]; simp [tot_append, tot_one]
  have p1 : 0 ≤ tot (b.take k) := Counts.nonneg (b := b.take k) ⟨fun y hy => h.pos y (List.mem_of_mem_take hy), rfl⟩
  have p2 : 0 ≤ tot (b.drop (k + 1)) := Counts.nonneg (b := b.drop (k + 1)) ⟨fun y hy => h.pos y (List.mem_of_mem_drop hy), rfl⟩
  have e2 : tot b = tot (b.take (k + 1)) + tot (b.drop (k + 1)) := by rw [← tot_append, List.take_append_drop]
  have := h.all
  exact ⟨e, h1, h2, p1, by omega⟩
theorem tot_done {b : List Bucket} {n : Int} (h : Counts b n) {k : Nat} (hk : b.length ≤ k) : tot (b.take k) = n := by rw [List.take_of_length_le hk, h.all]

theorem at_eq {t st : Int} (h0 : 0 ≤ t) (h1 : t ≤ 1000000) (hs : 0 < st) : at' t st = t - t % st := by
  unfold at'
  rw [Int.tmod_eq_emod_of_nonneg h0]
  have := Int.emod_nonneg t (by omega : st ≠ 0)
  have := Int.emod_add_mul_ediv t st
  have : 0 ≤ st * (t / st) := Int.mul_nonneg (by omega) (Int.ediv_nonneg h0 (by omega))
  exact wr_id (by omega) (by omega)
theorem at_range {t st : Int} (h0 : 0 ≤ t) (h1 : t ≤ 1000000) (hs : 0 < st) : 0 ≤ at' t st ∧ at' t st ≤ t ∧ t < at' t st + st ∧ at' t st % st = 0 := by
  rw [at_eq h0 h1 hs]
  have := Int.emod_nonneg t (by omega : st ≠ 0)
  have := Int.emod_lt_of_pos t hs
  have e := Int.emod_add_mul_ediv t st
  have : 0 ≤ st * (t / st) := Int.mul_nonneg (by omega) (Int.ediv_nonneg h0 (by omega))
  refine ⟨by omega, by omega, by omega, ?_⟩
  rw [show t - t % st = st * (t / st) by omega]
  exact Int.mul_emod_right _ _
/-- the coarse bucket of a fine bucket is that of its samples -/
theorem at_at {t : Int} (h0 : 0 ≤ t) (h1 : t ≤ 1000000) : at' (at' t 10) 60 = at' t 60 := by
  have h := at_range h0 h1 (by decide : (0 : Int) < 10)
  rw [at_eq h.1 (by omega) (by decide), at_eq h0 h1 (by decide), at_eq h0 h1 (by decide)]
  omega
theorem add_time {l : List Bucket} {t t' st : Int} {s : Sum} (h : at' t st = at' t' st) : add l t st s = add l t' st s := by unfold add; rw [h]
/-- two sums that come to one bucket one after the other -/
theorem add_add {l : List Bucket} {n t t' st : Int} {a b : Sum} (hc : Counts l n) (hn : n + a.count + b.count ≤ 1000000000) (ha : 1 ≤ a.count) (hb : 1 ≤ b.count) (h : at' t st = at' t' st) : add (add l t st a) t' st b = add l t st (Agg.join a b) := by
  have hnn := hc.nonneg
  rcases List.eq_nil_or_concat l with rfl | ⟨l0, c, rfl⟩
  · rw [add_empty, add_empty]
    have := add_snoc [] ⟨at' t st, a⟩ t' st b
    rw [if_pos h] at this
    exact this
  · rw [List.concat_eq_append] at *
    have h1 := hc.pos c (by simp)
    have h2 := hc.le c (by simp)
    rw [add_snoc, add_snoc]
    by_cases e : c.at_ = at' t st
    · rw [if_pos e, if_pos e, add_snoc, if_pos (by rw [← h]; exact e)]
      rw [Agg.join_assoc (by omega) (by omega) (by omega) (by omega)]
    · rw [if_neg e, if_neg e, add_snoc, if_pos h]
theorem Counts.init {l : List Bucket} {b : Bucket} {n : Int} (h : Counts (l ++ [b]) n) : Counts l (n - b.sum.count) :=
  ⟨fun x hx => h.pos x (by simp [hx]), by have := h.all; rw [tot_append, tot_one] at this; omega⟩
theorem greater_counts {b : List Bucket} {n : Int} (h : Counts b n) (hn : n ≤ 1000000) : Counts (greater b) n := by
  induction b using List.reverseRecOn' generalizing n with
  | nil => obtain ⟨_, rfl⟩ := h; exact ⟨by simp [greater], by simp [greater, tot]⟩
  | snoc b x ih =>
    have h1 := h.init
    have h2 := h.pos x (by simp)
    rw [greater_snoc]
    have := Counts.add (t := x.at_) (st := 60) (ih h1 (by omega)) h2 (by omega)
    rwa [show n - x.sum.count + x.sum.count = n by omega] at this
theorem greater_ups : ∀ (l : List Sample), l.length ≤ 1048576 → (∀ x ∈ l, 0 ≤ x.time ∧ x.time ≤ 1000000) → l.length ≤ 1000 → greater (ups l 10) = ups l 60 := by
  intro l
  induction l using List.reverseRecOn' with
  | nil => intro _ _ _; rfl
  | snoc l x ih =>
    intro hl hr hk
    have hlen : (l ++ [x]).length = l.length + 1 := by simp
    rw [hlen] at hl hk
    have hx := hr x (by simp)
    have ih' := ih (by omega) (fun y hy => hr y (by simp [hy])) (by omega)
    rw [ups_snoc, ups_snoc, ← ih']
    have hc := ups_counts l 10 (by omega)
    have hat := at_at hx.1 hx.2
    rcases add_cases (ups l 10) x.time 10 (Agg.one x.value) with e | ⟨l0, b, e0, hb, e⟩
    · rw [e, greater_snoc]
      exact add_time (by exact hat)
    · rw [e0] at hc
      rw [e, e0, greater_snoc, greater_snoc]
      have hci := hc.init
      have hg := greater_counts hci (by have := hc.pos b (by simp); omega)
      have h1 := hc.pos b (by simp)
      show add (greater l0) b.at_ 60 (Agg.join b.sum (Agg.one x.value)) = _
      rw [add_add hg (by simp [Agg.one]; omega) h1 (by simp [Agg.one]) (by rw [hb]; exact hat)]
theorem greater_up {l : List Sample} (h : Codec.Right l) : greater (up l 1) = up l 2 := by
  have hl := h.len
  exact greater_ups l (by omega) (fun x hx => ⟨(h.rng x hx).1, (h.rng x hx).2.1⟩) (by omega)
end Roll
end Go.Proofs.YtffpglgboaigfaaDoor
