/-
  Shelves: buckets window by window; what is appended, rolled or forgotten leaves a right shelf.
-/
import Derived.Test.YtnbkennlmnnbeaaPShelf
namespace Go.Proofs.Ytnbkennlmnnbeaa
namespace Roll
section
variable {α : Type} {t : α → Int} {s : α → Sum} {st : Int} {l : List α} {a b m : Int}
def win (t : α → Int) (l : List α) (a b : Int) : List α := l.filter fun x => decide (a ≤ t x ∧ t x < b)
theorem win_inT (l : List Sample) (a b : Int) : inT l a b = win Sample.time l a b := rfl
theorem win_bIn (l : List Bucket) (a b : Int) : Sh.bIn l a b = win Bucket.at_ l a b := rfl
theorem win_mem {x : α} : x ∈ win t l a b ↔ x ∈ l ∧ a ≤ t x ∧ t x < b := by simp [win]
theorem win_rises (h : Rises t l) : Rises t (win t l a b) := ⟨fun x hx => h.rng x (win_mem.1 hx).1, h.inc.sublist List.filter_sublist⟩
theorem win_nil (h : ∀ x ∈ l, ¬ (a ≤ t x ∧ t x < b)) : win t l a b = [] := List.filter_eq_nil_iff.2 fun x hx => by simpa using h x hx
theorem win_self (h : b ≤ a) : win t l a b = [] := win_nil fun x _ => by omega
theorem win_split (h1 : a ≤ m) (h2 : m ≤ b) : ∀ {l : List α}, l.Pairwise (fun x y => t x < t y) → win t l a b = win t l a m ++ win t l m b
  | [], _ => rfl
  | x :: r, hp => by
    have hr := List.pairwise_cons.1 hp
    have ih := win_split h1 h2 hr.2
    have e : ∀ p q, win t (x :: r) p q = if p ≤ t x ∧ t x < q then x :: win t r p q else win t r p q := fun p q => by
      unfold win; rw [List.filter_cons]; simp
    rw [e, e, e]
    by_cases c : a ≤ t x ∧ t x < b
    · rw [if_pos c]
      by_cases c2 : t x < m
      · rw [if_pos ⟨c.1, c2⟩, if_neg (by omega), ih]; rfl
      · rw [if_neg (by omega), if_pos ⟨by omega, c.2⟩, ih]
        have : win t r a m = [] := win_nil fun y hy => by have := hr.1 y hy; omega
        rw [this]; rfl
    · rw [if_neg c, if_neg (by omega), if_neg (by omega), ih]
theorem gf_snoc (l : List α) (x : α) : gf t s st (l ++ [x]) = add (gf t s st l) (t x) st (s x) := by simp [gf]
theorem gf_ats (l : List α) : ∀ b ∈ gf t s st l, ∃ x ∈ l, b.at_ = at' (t x) st := by
  induction l using List.reverseRecOn' with
  | nil => intro b hb; simp [gf] at hb
  | snoc l x ih =>
    intro b hb
    rw [gf_snoc] at hb
    rcases add_cases (gf t s st l) (t x) st (s x) with e | ⟨l0, b0, e0, e1, e⟩
    · rw [e] at hb
      rcases List.mem_append.1 hb with h | h
      · obtain ⟨y, hy, h2⟩ := ih b h; exact ⟨y, by simp [hy], h2⟩
      · obtain rfl : b = _ := by simpa using h
        exact ⟨x, by simp, rfl⟩
    · rw [e] at hb
      rcases List.mem_append.1 hb with h | h
      · obtain ⟨y, hy, h2⟩ := ih b (by rw [e0]; simp [h]); exact ⟨y, by simp [hy], h2⟩
      · obtain rfl : b = _ := by simpa using h
        exact ⟨x, by simp, e1⟩
/-- one bucket more -/
theorem gf_next (hst : st = 10 ∨ st = 60) (hr : Rises t l) (ha : a ≤ m) (hm : m % st = 0) :
    gf t s st (win t l a (m + st)) = if win t l m (m + st) = [] then gf t s st (win t l a m) else gf t s st (win t l a m) ++ [⟨m, gsum s (win t l m (m + st))⟩] := by
  have hq : m / st * st = m := by rcases hst with rfl | rfl <;> omega
  have hpos : 0 < st := by rcases hst with rfl | rfl <;> decide
  rw [win_split ha (by omega : m ≤ m + st) hr.inc]
  by_cases h : win t l m (m + st) = []
  · rw [if_pos h, h, List.append_nil]
  · rw [if_neg h]
    unfold gf
    rw [List.foldl_append]
    refine fold_new h (fun x hx => ?_) fun b hb => ?_
    · obtain ⟨h1, h2, h3⟩ := win_mem.1 hx
      rw [← hq]
      exact at_of hst (hr.rng x h1) (by omega) (by omega)
    · obtain ⟨x, hx, e⟩ := gf_ats (t := t) (s := s) (st := st) _ b (List.mem_of_getLast? hb)
      obtain ⟨h1, h2, h3⟩ := win_mem.1 hx
      have := at_le hst (hr.rng x h1)
      omega
/-- all of a time, bucket by bucket -/
theorem gf_all (hst : st = 10 ∨ st = 60) (hr : Rises t l) (ha : a % st = 0) : ∀ k : Nat,
    (∀ b ∈ gf t s st (win t l a (a + st * k)), ∃ m, m % st = 0 ∧ a ≤ m ∧ m < a + st * k ∧ win t l m (m + st) ≠ [] ∧ b = ⟨m, gsum s (win t l m (m + st))⟩) ∧ (gf t s st (win t l a (a + st * k))).Pairwise (fun x y => x.at_ < y.at_)
  | 0 => by
    have : win t l a (a + st * (0 : Nat)) = [] := win_self (by simp)
    rw [this]; simp [gf]
  | k + 1 => by
    obtain ⟨h1, h2⟩ := gf_all hst hr ha k
    have hpos : 0 < st := by rcases hst with rfl | rfl <;> decide
    have hk : (0 : Int) ≤ st * k := Int.mul_nonneg (by omega) (by omega)
    have e : a + st * ((k + 1 : Nat) : Int) = a + st * k + st := by push_cast; rw [Int.mul_add]; omega
    rw [e, gf_next hst hr (by omega) (by rcases hst with rfl | rfl <;> omega)]
    by_cases h : win t l (a + st * k) (a + st * k + st) = []
    · rw [if_pos h]
      exact ⟨fun b hb => by obtain ⟨m, x1, x2, x3, x4⟩ := h1 b hb; exact ⟨m, x1, x2, by omega, x4⟩, h2⟩
    · rw [if_neg h]
      refine ⟨fun b hb => ?_, ?_⟩
      · rcases List.mem_append.1 hb with hb | hb
        · obtain ⟨m, x1, x2, x3, x4⟩ := h1 b hb; exact ⟨m, x1, x2, by omega, x4⟩
        · obtain rfl : b = _ := by simpa using hb
          exact ⟨a + st * k, by rcases hst with rfl | rfl <;> omega, by omega, by omega, h, rfl⟩
      · refine List.pairwise_append.2 ⟨h2, by simp, fun x hx y hy => ?_⟩
        obtain ⟨m, x1, x2, x3, x4, rfl⟩ := h1 x hx
        obtain rfl : y = _ := by simpa using hy
        exact x3
theorem gf_to (hst : st = 10 ∨ st = 60) (hr : Rises t l) (ha : a % st = 0) (hb : b % st = 0) :
    (∀ x ∈ gf t s st (win t l a b), ∃ m, m % st = 0 ∧ a ≤ m ∧ m < b ∧ win t l m (m + st) ≠ [] ∧ x = ⟨m, gsum s (win t l m (m + st))⟩) ∧ (gf t s st (win t l a b)).Pairwise (fun x y => x.at_ < y.at_) := by
  rcases Int.lt_or_le a b with h | h
  · have e : b = a + st * ((b - a) / st).toNat := by
      rcases hst with rfl | rfl <;> omega
    have := gf_all (s := s) hst hr ha ((b - a) / st).toNat
    rw [← e] at this
    exact this
  · rw [win_self h]; simp [gf]
/-- numbers that rise, of which all are whole steps -/
theorem rise_len (st : Int) (hs : 0 < st) : ∀ (l : List α) (a : Int), l.Pairwise (fun x y => t x < t y) → (∀ x ∈ l, a ≤ t x ∧ t x < b ∧ t x % st = 0) → a % st = 0 → b % st = 0 → a ≤ b → st * l.length ≤ b - a
  | [], a, _, _, _, _, h => by simpa using h
  | x :: r, a, hp, h, ha, hb, hab => by
    have hr := List.pairwise_cons.1 hp
    obtain ⟨h1, h2, h3⟩ := h x (List.mem_cons_self ..)
    have key : ∀ u v : Int, u % st = 0 → v % st = 0 → u < v → u + st ≤ v := fun u v hu hv huv => by
      have e : (v - u) % st = 0 := by rw [Int.sub_emod, hu, hv]; simp
      have := Int.le_of_dvd (by omega) (Int.dvd_of_emod_eq_zero e)
      omega
    have hxb := key _ _ h3 hb h2
    have := rise_len st hs r (t x + st) hr.2 (fun y hy => by
      obtain ⟨g1, g2, g3⟩ := h y (List.mem_cons_of_mem _ hy)
      exact ⟨key _ _ h3 g3 (hr.1 y hy), g2, g3⟩) (by rw [Int.add_emod, h3]; simp) hb hxb
    simp only [List.length_cons]
    push_cast
    rw [Int.mul_add]
    omega
theorem gsum_snoc (l : List α) (x : α) : gsum s (l ++ [x]) = Agg.join (gsum s l) (s x) := by simp [gsum]
theorem gsum_count (n : Int) (hn : 0 ≤ n) (hn2 : n ≤ 60) (l : List α) : l.length ≤ 10000000 → (∀ x ∈ l, 1 ≤ (s x).count ∧ (s x).count ≤ n) → l.length ≤ (gsum s l).count ∧ (gsum s l).count ≤ n * l.length := by
  induction l using List.reverseRecOn' with
  | nil => intro _ _; simp [gsum, Sum.zero]
  | snoc l x ih =>
    intro hl h
    simp only [List.length_append, List.length_cons, List.length_nil] at hl ⊢
    obtain ⟨h1, h2⟩ := ih (by omega) fun y hy => h y (by simp [hy])
    obtain ⟨g1, g2⟩ := h x (by simp)
    have hb : n * (l.length : Int) ≤ 60 * l.length := Int.mul_le_mul_of_nonneg_right hn2 (by omega)
    rw [gsum_snoc, Agg.join_count (by omega) (by omega) (by omega)]
    push_cast
    rw [Int.mul_add]
    omega
end
theorem of_win (l : List Bucket) (f t : Int) : of l f t = gsum Bucket.sum (win Bucket.at_ l f t) := by
  induction l using List.reverseRecOn' with
  | nil => rfl
  | snoc l x ih =>
    rw [of_snoc', ih]
    unfold win
    rw [List.filter_append]
    by_cases h : f ≤ x.at_ ∧ x.at_ < t
    · rw [if_pos h, List.filter_cons, if_pos (by simpa using h), List.filter_nil, gsum_snoc]
    · rw [if_neg h, List.filter_cons, if_neg (by simpa using h), List.filter_nil, List.append_nil]
theorem up_win (l : List Sample) (a b : Int) : up (inT l a b) 1 = gf Sample.time (fun x => Agg.one x.value) 10 (win Sample.time l a b) := rfl
theorem greater_win (l : List Bucket) (a b : Int) : greater (Sh.bIn l a b) = gf Bucket.at_ Bucket.sum 60 (win Bucket.at_ l a b) := rfl
theorem up_next {l : List Sample} {a m : Int} (hr : Rises Sample.time l) (ha : a ≤ m) (hm : m % 10 = 0) : up (inT l a (m + 10)) 1 = if inT l m (m + 10) = [] then up (inT l a m) 1 else up (inT l a m) 1 ++ [⟨m, Agg.of (inT l m (m + 10))⟩] := by
  rw [up_win, up_win, gf_next (.inl rfl) hr ha hm]; rfl
theorem greater_next {l : List Bucket} {a m : Int} (hr : Rises Bucket.at_ l) (ha : a ≤ m) (hm : m % 60 = 0) : greater (Sh.bIn l a (m + 60)) = if Sh.bIn l m (m + 60) = [] then greater (Sh.bIn l a m) else greater (Sh.bIn l a m) ++ [⟨m, of l m (m + 60)⟩] := by
  rw [greater_win, greater_win, gf_next (.inr rfl) hr ha hm, of_win]; rfl
end Roll
end Go.Proofs.Ytnbkennlmnnbeaa
namespace Go.Proofs.Ytnbkennlmnnbeaa
namespace Sh
/-- where a right shelf's times lie -/
theorem OK.rng {s : Shelf} (h : OK s) : (0 ≤ s.rawFrom ∧ s.rawFrom ≤ s.fineTo ∧ s.fineFrom ≤ s.coarseTo ∧ s.coarseTo ≤ s.fineTo) ∧ (0 ≤ s.fineFrom ∧ s.fineFrom ≤ s.fineTo ∧ s.fineTo ≤ 1000000 ∧ s.fineFrom % 10 = 0 ∧ s.fineTo % 10 = 0) ∧ 0 ≤ s.coarseFrom ∧ s.coarseFrom ≤ s.coarseTo ∧ s.coarseTo ≤ 1000000 ∧ s.coarseFrom % 60 = 0 ∧ s.coarseTo % 60 = 0 := by
  obtain ⟨⟨⟨h1, h2⟩, h3⟩, _⟩ := h.fit
  unfold badT at h1 h2
  simp only at h1 h2
  omega
theorem emod_le {n s : Int} (hn : 0 ≤ n) (hs : 0 < s) : 0 ≤ n % s ∧ n % s ≤ n := by
  obtain ⟨a, rfl⟩ := Int.eq_ofNat_of_zero_le hn
  obtain ⟨b, rfl⟩ := Int.eq_ofNat_of_zero_le (Int.le_of_lt hs)
  have := Nat.mod_le a b
  rw [← Int.natCast_emod]
  omega
theorem fineTo_rng {s : Shelf} (h : OK s) {to : Int} (h1 : 0 ≤ to) (h2 : to ≤ 1000000) : s.fineTo ≤ fineTo s to ∧ 0 ≤ fineTo s to ∧ fineTo s to ≤ 1000000 ∧ fineTo s to % 10 = 0 := by
  obtain ⟨⟨g1, g2, g3, g4⟩, ⟨g5, g6, g7, g8, g9⟩, g10, g11, g12, g13, g14⟩ := h.rng
  unfold fineTo mx; split <;> omega
theorem coarseTo_rng {s : Shelf} (h : OK s) {to : Int} (h1 : 0 ≤ to) (h2 : to ≤ 1000000) : s.coarseTo ≤ coarseTo s to ∧ coarseTo s to ≤ fineTo s to ∧ coarseTo s to % 60 = 0 := by
  obtain ⟨⟨g1, g2, g3, g4⟩, ⟨g5, g6, g7, g8, g9⟩, g10, g11, g12, g13, g14⟩ := h.rng
  obtain ⟨f1, f2, f3, f4⟩ := fineTo_rng h h1 h2
  unfold coarseTo mx; split <;> omega
theorem late_some {l : List Sample} {x y : Sample} (h : l[l.length - 1]? = some y) : late l x = decide (x.time ≤ y.time) := by
  unfold late; rw [List.getLast?_eq_getElem?, h]
theorem late_none {l : List Sample} {x : Sample} (h : ¬ 0 ≤ (l.length : Int) - 1) : late l x = false := by
  have : l = [] := List.eq_nil_of_length_eq_zero (by omega)
  subst this; rfl
theorem bIn_succ {l : List Bucket} {a b : Int} {k : Nat} {x : Bucket} (h : l[k]? = some x) : bIn (l.take (k + 1)) a b = if a ≤ x.at_ ∧ x.at_ < b then bIn (l.take k) a b ++ [x] else bIn (l.take k) a b := by
  unfold bIn
  rw [List.take_add_one, h, List.filter_append]
  by_cases hc : a ≤ x.at_ ∧ x.at_ < b <;> simp [hc]
theorem bIn_len (l : List Bucket) (a b : Int) : (bIn l a b).length ≤ l.length := List.length_filter_le ..
section
variable {z : Shelf} {x : Sample} {to : Int}
theorem append_wrong (h : wrong z ≠ 0) : append z x = (zero, wrong z) := by rw [append, if_pos h]
theorem append_bad (h : ¬ wrong z ≠ 0) (h2 : (Codec.wrong [x]).err ≠ 0) : append z x = (zero, (Codec.wrong [x]).err) := by rw [append, if_neg h, if_pos h2]
theorem append_late (h : ¬ wrong z ≠ 0) (h2 : ¬ (Codec.wrong [x]).err ≠ 0) (h3 : x.time < z.fineTo ∨ late z.raw x = true) : append z x = (zero, 9) := by rw [append, if_neg h, if_neg h2, if_pos h3]
theorem append_many (h : ¬ wrong z ≠ 0) (h2 : ¬ (Codec.wrong [x]).err ≠ 0) (h3 : ¬ (x.time < z.fineTo ∨ late z.raw x = true)) (h4 : (z.raw.length : Int) = 500) : append z x = (zero, 5) := by rw [append, if_neg h, if_neg h2, if_neg h3, if_pos (by omega)]
theorem append_ok (h : ¬ wrong z ≠ 0) (h2 : ¬ (Codec.wrong [x]).err ≠ 0) (h3 : ¬ (x.time < z.fineTo ∨ late z.raw x = true)) (h4 : ¬ (z.raw.length : Int) = 500) : append z x = (⟨z.series, z.raw ++ [x], z.fine, z.coarse, z.rawFrom, z.fineFrom, z.fineTo, z.coarseFrom, z.coarseTo⟩, 0) := by rw [append, if_neg h, if_neg h2, if_neg h3, if_neg (by omega)]
theorem roll_wrong (h : wrong z ≠ 0) : roll z to = (zero, wrong z) := by rw [roll, if_pos h]
theorem roll_range (h : ¬ wrong z ≠ 0) (h2 : to < 0 ∨ 1000000 < to) : roll z to = (zero, 3) := by rw [roll, if_neg h, if_pos h2]
theorem roll_many (h : ¬ wrong z ≠ 0) (h2 : ¬ (to < 0 ∨ 1000000 < to)) (h3 : (500 : Int) < ((fineL z to).length : Int) ∨ (500 : Int) < ((coarseL z to).length : Int)) : roll z to = (zero, 5) := by rw [roll, if_neg h, if_neg h2, if_pos (by omega)]
theorem roll_ok (h : ¬ wrong z ≠ 0) (h2 : ¬ (to < 0 ∨ 1000000 < to)) (h3 : ¬ ((500 : Int) < ((fineL z to).length : Int))) (h4 : ¬ ((500 : Int) < ((coarseL z to).length : Int))) : roll z to = (⟨z.series, z.raw, fineL z to, coarseL z to, z.rawFrom, z.fineFrom, fineTo z to, z.coarseFrom, coarseTo z to⟩, 0) := by rw [roll, if_neg h, if_neg h2, if_neg (by omega)]
variable {tier : Int}
theorem forget_wrong (h : wrong z ≠ 0) : forget z tier to = (zero, wrong z) := by rw [forget, if_pos h]
theorem forget_range (h : ¬ wrong z ≠ 0) (h2 : to < 0 ∨ 1000000 < to) : forget z tier to = (zero, 3) := by rw [forget, if_neg h, if_pos h2]
theorem forget_raw (h : ¬ wrong z ≠ 0) (h2 : ¬ (to < 0 ∨ 1000000 < to)) (h3 : tier = 0) : forget z tier to = (⟨z.series, fromS z.raw (rawF z to), z.fine, z.coarse, rawF z to, z.fineFrom, z.fineTo, z.coarseFrom, z.coarseTo⟩, 0) := by rw [forget, if_neg h, if_neg h2, if_pos h3]
theorem forget_fine (h : ¬ wrong z ≠ 0) (h2 : ¬ (to < 0 ∨ 1000000 < to)) (h3 : ¬ tier = 0) (h4 : tier = 1) : forget z tier to = (⟨z.series, z.raw, fromB z.fine (fineF z to), z.coarse, z.rawFrom, fineF z to, z.fineTo, z.coarseFrom, z.coarseTo⟩, 0) := by rw [forget, if_neg h, if_neg h2, if_neg h3, if_pos h4]
theorem forget_coarse (h : ¬ wrong z ≠ 0) (h2 : ¬ (to < 0 ∨ 1000000 < to)) (h3 : ¬ tier = 0) (h4 : ¬ tier = 1) (h5 : tier = 2) : forget z tier to = (⟨z.series, z.raw, z.fine, fromB z.coarse (coarseF z to), z.rawFrom, z.fineFrom, z.fineTo, coarseF z to, z.coarseTo⟩, 0) := by rw [forget, if_neg h, if_neg h2, if_neg h3, if_neg h4, if_pos h5]
theorem forget_kind (h : ¬ wrong z ≠ 0) (h2 : ¬ (to < 0 ∨ 1000000 < to)) (h3 : ¬ tier = 0) (h4 : ¬ tier = 1) (h5 : ¬ tier = 2) : forget z tier to = (zero, 1) := by rw [forget, if_neg h, if_neg h2, if_neg h3, if_neg h4, if_neg h5]
end
/-- the late ones, by all of them -/
theorem late_any {l : List Sample} (h : Roll.Rises Sample.time l) (x : Sample) : late l x = l.any fun y => decide (x.time ≤ y.time) := by
  unfold late
  cases hl : l.getLast? with
  | none => rw [List.getLast?_eq_none_iff] at hl; subst hl; rfl
  | some y =>
    have hy : y ∈ l := List.mem_of_getLast? hl
    have hmax : ∀ z ∈ l, z.time ≤ y.time := fun z hz => by
      obtain ⟨i, hi, rfl⟩ := List.mem_iff_getElem.1 hz
      rw [List.getLast?_eq_getElem?] at hl
      exact h.le (i := i) (j := l.length - 1) (List.getElem?_eq_getElem hi) hl (by omega)
    simp only
    rw [Bool.eq_iff_iff, decide_eq_true_iff, List.any_eq_true]
    exact ⟨fun h1 => ⟨y, hy, by simpa using h1⟩, fun ⟨z, hz, h1⟩ => by have := hmax z hz; have h1 := of_decide_eq_true h1; omega⟩
theorem head_all {l : List Sample} (h : Roll.Rises Sample.time l) (f : Int) : headOk l f = l.all fun x => decide (f ≤ x.time) := by
  cases l with
  | nil => rfl
  | cons y r =>
    have hr := (List.pairwise_cons.1 h.inc).1
    rw [Bool.eq_iff_iff, List.all_eq_true]
    simp only [headOk, decide_eq_true_iff]
    refine ⟨fun h1 z hz => ?_, fun h1 => by simpa using h1 y (by simp)⟩
    rcases List.mem_cons.1 hz with rfl | hz
    · exact h1
    · have := hr z hz; omega
end Sh
end Go.Proofs.Ytnbkennlmnnbeaa
