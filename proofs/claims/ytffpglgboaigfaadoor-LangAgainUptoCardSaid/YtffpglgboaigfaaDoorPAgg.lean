/-
  Plain laws of sums: between the least and the greatest.
-/
import Derived.Test.YtffpglgboaigfaaDoorPure
namespace Go.Proofs.YtffpglgboaigfaaDoor

theorem all_take {α : Type} {p : α → Prop} {l : List α} {k : Nat} {s : α} (hs : l[k]? = some s) (h : ∀ x ∈ l.take k, p x) (hp : p s) : ∀ x ∈ l.take (k + 1), p x := by
  intro x hx
  rw [List.take_add_one, hs] at hx
  simp only [Option.toList_some, List.mem_append, List.mem_singleton] at hx
  rcases hx with hx | rfl
  · exact h x hx
  · exact hp
theorem all_done {α : Type} {p : α → Prop} {l : List α} {k : Nat} (h : ∀ x ∈ l.take k, p x) (hk : l.length ≤ k) : ∀ x ∈ l, p x := by
  rwa [List.take_of_length_le hk] at h

namespace Agg
structure Fits (l : List Sample) (s : Sum) : Prop where
  count : s.count = l.length
  t1 : -1000000000 * (l.length : Int) ≤ s.total
  t2 : s.total ≤ 1000000000 * (l.length : Int)
  f1 : s.min ≤ s.first
  f2 : s.first ≤ s.max
  l1 : s.min ≤ s.last
  l2 : s.last ≤ s.max
  m1 : -1000000000 ≤ s.min
  m2 : s.max ≤ 1000000000
  s1 : s.min * s.count ≤ s.total
  s2 : s.total ≤ s.max * s.count
theorem fits : ∀ (l : List Sample), l ≠ [] → l.length ≤ 1048576 → (∀ x ∈ l, -1000000000 ≤ x.value ∧ x.value ≤ 1000000000) → Fits l (of l) := by
  intro l
  induction l using List.reverseRecOn' with
  | nil => intro h; exact absurd rfl h
  | snoc l x ih =>
    intro _ hl hb
    have hx := hb x (by simp)
    have hlen : (l ++ [x]).length = l.length + 1 := by simp
    rw [hlen] at hl
    by_cases hne : l = []
    · subst hne
      have : of ([] ++ [x]) = one x.value := by simp [of, join, Sum.zero]
      rw [this]
      constructor <;> simp [one] <;> omega
    · have h := ih hne (by omega) (fun y hy => hb y (by simp [hy]))
      have hc : (of l).count ≠ 0 := by
        rw [h.count]
        have := List.length_pos_iff.2 hne
        omega
      have hpos := List.length_pos_iff.2 hne
      have e : of (l ++ [x]) = ⟨wr ((of l).count + 1), wr ((of l).total + x.value), if x.value < (of l).min then x.value else (of l).min, if (of l).max < x.value then x.value else (of l).max, (of l).first, x.value, wr (wr ((of l).rise + rise (of l).last x.value) + 0)⟩ := by
        rw [of_snoc]; unfold join; rw [if_neg hc, if_neg (by simp [one])]; rfl
      have h1 := h.t1
      have h2 := h.t2
      have h3 := h.count
      have e1 : wr ((of l).count + 1) = (l.length : Int) + 1 := by rw [wr_id (by omega) (by omega), h3]
      have e2 : wr ((of l).total + x.value) = (of l).total + x.value := wr_id (by omega) (by omega)
      rw [e, e1, e2]
      have h4 := h.f1; have h5 := h.f2; have h6 := h.m1; have h7 := h.m2; have h8 := h.s1; have h9 := h.s2
      rw [h3] at h8 h9
      have hmin : (if x.value < (of l).min then x.value else (of l).min) ≤ (of l).min ∧ (if x.value < (of l).min then x.value else (of l).min) ≤ x.value ∧ -1000000000 ≤ (if x.value < (of l).min then x.value else (of l).min) := by split <;> omega
      have hmax : (of l).max ≤ (if (of l).max < x.value then x.value else (of l).max) ∧ x.value ≤ (if (of l).max < x.value then x.value else (of l).max) ∧ (if (of l).max < x.value then x.value else (of l).max) ≤ 1000000000 := by split <;> omega
      generalize (if x.value < (of l).min then x.value else (of l).min) = mn at hmin ⊢
      generalize (if (of l).max < x.value then x.value else (of l).max) = mx at hmax ⊢
      have g1 : mn * (l.length : Int) ≤ (of l).min * (l.length : Int) := Int.mul_le_mul_of_nonneg_right hmin.1 (by omega)
      have g2 : (of l).max * (l.length : Int) ≤ mx * (l.length : Int) := Int.mul_le_mul_of_nonneg_right hmax.1 (by omega)
      have d1 : mn * ((l.length : Int) + 1) = mn * (l.length : Int) + mn := by rw [Int.mul_add, Int.mul_one]
      have d2 : mx * ((l.length : Int) + 1) = mx * (l.length : Int) + mx := by rw [Int.mul_add, Int.mul_one]
      constructor
      · simp
      · simp only [hlen]; omega
      · simp only [hlen]; omega
      all_goals dsimp only
      all_goals first | omega | (rw [d1]; omega) | (rw [d2]; omega)
theorem tdiv_between {t c a b : Int} (hc : 0 < c) (h1 : a * c ≤ t) (h2 : t ≤ b * c) : a ≤ Int.tdiv t c ∧ Int.tdiv t c ≤ b := by
  by_cases ht : 0 ≤ t
  · rw [Int.tdiv_eq_ediv_of_nonneg ht]
    exact ⟨Int.le_ediv_of_mul_le hc h1, Int.le_of_lt_add_one (Int.ediv_lt_of_lt_mul hc (by rw [Int.add_mul]; omega))⟩
  · have e : Int.tdiv t c = -((-t) / c) := by
      have : Int.tdiv (-t) c = (-t) / c := Int.tdiv_eq_ediv_of_nonneg (by omega)
      rw [← this, Int.neg_tdiv]; omega
    rw [e]
    have g1 : (-t) / c < -a + 1 := Int.ediv_lt_of_lt_mul hc (by rw [Int.add_mul, Int.neg_mul]; omega)
    have g2 : -b ≤ (-t) / c := Int.le_ediv_of_mul_le hc (by rw [Int.neg_mul]; omega)
    omega
theorem value_between {l : List Sample} (hne : l ≠ []) (hl : l.length ≤ 1048576) (hb : ∀ x ∈ l, -1000000000 ≤ x.value ∧ x.value ≤ 1000000000) {w : ByteArray} (hw : w ∈ ([⟨#[97, 118, 103]⟩, ⟨#[102, 105, 114, 115, 116]⟩, ⟨#[108, 97, 115, 116]⟩] : List ByteArray)) :
    (value w (of l)).2 = true ∧ (of l).min ≤ (value w (of l)).1 ∧ (value w (of l)).1 ≤ (of l).max := by
  have h := fits l hne hl hb
  have hpos := List.length_pos_iff.2 hne
  have hc : ¬ (of l).count < 1 := by rw [h.count]; omega
  have hd := tdiv_between (t := (of l).total) (c := (of l).count) (by omega) h.s1 h.s2
  have := h.m1
  have := h.m2
  have := h.f1; have := h.f2; have := h.l1; have := h.l2
  simp only [List.mem_cons, List.not_mem_nil, or_false] at hw
  rcases hw with rfl | rfl | rfl
  · unfold value; rw [if_neg hc, if_pos rfl, wr_id (by omega) (by omega)]; exact ⟨rfl, hd⟩
  · unfold value; rw [if_neg hc, if_neg (by decide), if_neg (by decide), if_pos rfl]; exact ⟨rfl, by assumption, by assumption⟩
  · unfold value; rw [if_neg hc, if_neg (by decide), if_neg (by decide), if_neg (by decide), if_pos rfl]; exact ⟨rfl, by assumption, by assumption⟩
theorem total_between {l : List Sample} (hne : l ≠ []) (hl : l.length ≤ 1048576) (hb : ∀ x ∈ l, -1000000000 ≤ x.value ∧ x.value ≤ 1000000000) :
    wr ((of l).min * (of l).count) ≤ (of l).total ∧ (of l).total ≤ wr ((of l).max * (of l).count) := by
  have h := fits l hne hl hb
  have hpos := List.length_pos_iff.2 hne
  have h1 := h.t1; have h2 := h.t2; have h3 := h.s1; have h4 := h.s2; have h5 := h.m1; have h6 := h.m2; have := h.f1; have := h.f2
  rw [h.count] at *
  have g1 : -1000000000 * (l.length : Int) ≤ (of l).min * (l.length : Int) := Int.mul_le_mul_of_nonneg_right h5 (by omega)
  have g2 : (of l).max * (l.length : Int) ≤ 1000000000 * (l.length : Int) := Int.mul_le_mul_of_nonneg_right h6 (by omega)
  rw [wr_id (by omega) (by omega), wr_id (by omega) (by omega)]
  exact ⟨h3, h4⟩
theorem value_assoc {word : ByteArray} {s : Sum} {a b c d e f g h : Nat} (hs : ¬ s.count < 1) :
    value word s = ((Ex.assoc ([(a, ⟨#[97, 118, 103]⟩, wr (Int.tdiv s.total s.count)), (b, ⟨#[99, 111, 117, 110, 116]⟩, s.count), (c, ⟨#[102, 105, 114, 115, 116]⟩, s.first), (d, ⟨#[108, 97, 115, 116]⟩, s.last), (e, ⟨#[109, 97, 120]⟩, s.max), (f, ⟨#[109, 105, 110]⟩, s.min), (g, ⟨#[114, 105, 115, 101]⟩, s.rise), (h, ⟨#[115, 117, 109]⟩, s.total)] : List (Nat × ByteArray × Int)) word).getD 0,
      (Ex.assoc ([(a, ⟨#[97, 118, 103]⟩, wr (Int.tdiv s.total s.count)), (b, ⟨#[99, 111, 117, 110, 116]⟩, s.count), (c, ⟨#[102, 105, 114, 115, 116]⟩, s.first), (d, ⟨#[108, 97, 115, 116]⟩, s.last), (e, ⟨#[109, 97, 120]⟩, s.max), (f, ⟨#[109, 105, 110]⟩, s.min), (g, ⟨#[114, 105, 115, 101]⟩, s.rise), (h, ⟨#[115, 117, 109]⟩, s.total)] : List (Nat × ByteArray × Int)) word).isSome) := by
  unfold value
  rw [if_neg hs]
  simp only [Ex.assoc]
  repeat' split
  all_goals first | rfl | simp_all
theorem value_words {k : Nat} {w s : ByteArray} {a : Sum} (hk : k < 8) (hs : (words ++ [w])[k]? = some s) (ha : 0 < a.count) : (value s a).2 = true := by
  rw [List.getElem?_append_left (by simpa [words] using hk)] at hs
  have hm := List.mem_of_getElem? hs
  unfold value
  rw [if_neg (by omega)]
  simp only [words, List.mem_cons, List.not_mem_nil, or_false] at hm
  repeat' split
  all_goals first | rfl | (exfalso; simp_all)
end Agg
end Go.Proofs.YtffpglgboaigfaaDoor
