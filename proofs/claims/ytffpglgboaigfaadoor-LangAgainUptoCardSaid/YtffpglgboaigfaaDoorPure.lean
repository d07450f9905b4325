/-
  What the functions compute, in plain Lean.
-/
import Derived.Test.YtffpglgboaigfaaDoorSlice
namespace Go.Proofs.YtffpglgboaigfaaDoor

abbrev wr (n : Int) : Int := IntKind.wrap .i64 n
instance : Inhabited Sum := ⟨⟨0, 0, 0, 0, 0, 0, 0⟩⟩
def Sum.zero : Sum := ⟨0, 0, 0, 0, 0, 0, 0⟩

theorem wr_eq (n : Int) : wr n = if n % 18446744073709551616 ≥ 9223372036854775808 then n % 18446744073709551616 - 18446744073709551616 else n % 18446744073709551616 := by
  simp [wr, IntKind.wrap, IntKind.bits, IntKind.signed]
theorem wr_id {n : Int} (h1 : -9223372036854775808 ≤ n) (h2 : n ≤ 9223372036854775807) : wr n = n := by
  rw [wr_eq]; split <;> omega
theorem wr_mod (n : Int) : ∃ q : Int, wr n = n + 18446744073709551616 * q := by
  rw [wr_eq]
  have := Int.emod_add_mul_ediv n 18446744073709551616
  split
  · exact ⟨-(n / 18446744073709551616) - 1, by omega⟩
  · exact ⟨-(n / 18446744073709551616), by omega⟩
theorem wr_range (n : Int) : -9223372036854775808 ≤ wr n ∧ wr n ≤ 9223372036854775807 := by
  rw [wr_eq]; split <;> omega
theorem wr_congr {m n q : Int} (h : m = n + 18446744073709551616 * q) : wr m = wr n := by
  rw [wr_eq, wr_eq]
  have : m % 18446744073709551616 = n % 18446744073709551616 := by rw [h]; exact Int.add_mul_emod_self_left ..
  rw [this]
theorem wr_l (a b : Int) : wr (wr a + b) = wr (a + b) := by
  obtain ⟨q, h⟩ := wr_mod a
  exact wr_congr (q := q) (by omega)
theorem wr_r (a b : Int) : wr (a + wr b) = wr (a + b) := by
  obtain ⟨q, h⟩ := wr_mod b
  exact wr_congr (q := q) (by omega)

theorem List.reverseRecOn' {α : Type} {motive : List α → Prop} (l : List α) (nil : motive []) (snoc : ∀ l x, motive l → motive (l ++ [x])) : motive l := by
  have : ∀ n, ∀ l : List α, l.length = n → motive l := by
    intro n
    induction n with
    | zero => intro l h; rw [List.eq_nil_of_length_eq_zero h]; exact nil
    | succ n ih =>
      intro l h
      have hne : l ≠ [] := by rintro rfl; simp at h
      rw [← List.dropLast_concat_getLast hne]
      exact snoc _ _ (ih _ (by simp; omega))
  exact this _ l rfl

namespace Agg
def rise (a b : Int) : Int := if b < a then b else wr (b - a)
def one (v : Int) : Sum := ⟨1, v, v, v, v, v, 0⟩
def join (a b : Sum) : Sum :=
  if a.count = 0 then b else if b.count = 0 then a else
  ⟨wr (a.count + b.count), wr (a.total + b.total), if b.min < a.min then b.min else a.min, if a.max < b.max then b.max else a.max, a.first, b.last, wr (wr (a.rise + rise a.last b.first) + b.rise)⟩
def of (l : List Sample) : Sum := l.foldl (fun s x => join s (one x.value)) Sum.zero
theorem of_take_succ (l : List Sample) (k : Nat) (x : Sample) (h : l[k]? = some x) : of (l.take (k + 1)) = join (of (l.take k)) (one x.value) := by
  unfold of
  rw [List.take_add_one, h]
  simp
def words : List ByteArray := [⟨#[97, 118, 103]⟩, ⟨#[99, 111, 117, 110, 116]⟩, ⟨#[102, 105, 114, 115, 116]⟩, ⟨#[108, 97, 115, 116]⟩, ⟨#[109, 97, 120]⟩, ⟨#[109, 105, 110]⟩, ⟨#[114, 105, 115, 101]⟩, ⟨#[115, 117, 109]⟩]
def value (word : ByteArray) (s : Sum) : Int × Bool :=
  if s.count < 1 then (0, false) else
  if word = ⟨#[97, 118, 103]⟩ then (wr (Int.tdiv s.total s.count), true) else
  if word = ⟨#[99, 111, 117, 110, 116]⟩ then (s.count, true) else
  if word = ⟨#[102, 105, 114, 115, 116]⟩ then (s.first, true) else
  if word = ⟨#[108, 97, 115, 116]⟩ then (s.last, true) else
  if word = ⟨#[109, 97, 120]⟩ then (s.max, true) else
  if word = ⟨#[109, 105, 110]⟩ then (s.min, true) else
  if word = ⟨#[114, 105, 115, 101]⟩ then (s.rise, true) else
  if word = ⟨#[115, 117, 109]⟩ then (s.total, true) else
  (0, false)
theorem join_none (a : Sum) : join a ⟨0, 0, 0, 0, 0, 0, 0⟩ = if a.count = 0 then ⟨0, 0, 0, 0, 0, 0, 0⟩ else a := by
  unfold join; split <;> simp
theorem none_join (a : Sum) : join ⟨0, 0, 0, 0, 0, 0, 0⟩ a = a := by simp [join]
theorem join_count {a b : Sum} (ha : 0 ≤ a.count) (hb : 0 ≤ b.count) (h : a.count + b.count ≤ 9223372036854775807) : (join a b).count = a.count + b.count := by
  unfold join
  split
  · omega
  · split
    · omega
    · exact wr_id (by omega) (by omega)
theorem min_assoc (a b c : Int) : (if (if c < b then c else b) < a then (if c < b then c else b) else a) = (if c < (if b < a then b else a) then c else (if b < a then b else a)) := by
  repeat' split
  all_goals omega
theorem max_assoc (a b c : Int) : (if a < (if b < c then c else b) then (if b < c then c else b) else a) = (if (if a < b then b else a) < c then c else (if a < b then b else a)) := by
  repeat' split
  all_goals omega
theorem join_assoc {a b c : Sum} (ha : 0 ≤ a.count) (hb : 0 ≤ b.count) (hc : 0 ≤ c.count) (h : a.count + b.count + c.count ≤ 9223372036854775807) : join a (join b c) = join (join a b) c := by
  by_cases a0 : a.count = 0
  · have h1 : ∀ x, join a x = x := fun x => by unfold join; rw [if_pos a0]
    rw [h1, h1]
  by_cases b0 : b.count = 0
  · have h1 : join b c = c := by unfold join; rw [if_pos b0]
    have h2 : join a b = a := by unfold join; rw [if_neg a0, if_pos b0]
    rw [h1, h2]
  by_cases c0 : c.count = 0
  · have h1 : ∀ x, x.count ≠ 0 → join x c = x := fun x hx => by unfold join; rw [if_neg hx, if_pos c0]
    rw [h1 b b0, h1 (join a b) (by rw [join_count ha hb (by omega)]; omega)]
  have e1 : join b c = ⟨wr (b.count + c.count), wr (b.total + c.total), if c.min < b.min then c.min else b.min, if b.max < c.max then c.max else b.max, b.first, c.last, wr (wr (b.rise + rise b.last c.first) + c.rise)⟩ := by
    unfold join; rw [if_neg b0, if_neg c0]
  have e2 : join a b = ⟨wr (a.count + b.count), wr (a.total + b.total), if b.min < a.min then b.min else a.min, if a.max < b.max then b.max else a.max, a.first, b.last, wr (wr (a.rise + rise a.last b.first) + b.rise)⟩ := by
    unfold join; rw [if_neg a0, if_neg b0]
  have n1 : wr (b.count + c.count) ≠ 0 := by rw [wr_id (by omega) (by omega)]; omega
  have n2 : wr (a.count + b.count) ≠ 0 := by rw [wr_id (by omega) (by omega)]; omega
  rw [e1, e2]
  unfold join
  rw [if_neg a0, if_neg n1, if_neg n2, if_neg c0]
  simp only [Sum.mk.injEq, wr_l, wr_r, min_assoc, max_assoc, true_and]
  refine ⟨by rw [Int.add_assoc], by rw [Int.add_assoc], ?_⟩
  congr 1
  omega
theorem of_nil : of [] = ⟨0, 0, 0, 0, 0, 0, 0⟩ := rfl
theorem of_snoc (l : List Sample) (x : Sample) : of (l ++ [x]) = join (of l) (one x.value) := by simp [of]
theorem of_count : ∀ (l : List Sample), l.length ≤ 9223372036854775807 → (of l).count = l.length := by
  intro l
  induction l using List.reverseRecOn' with
  | nil => intro _; rfl
  | snoc l x ih =>
    intro h
    have hl : (l ++ [x]).length = l.length + 1 := by simp
    rw [hl] at h
    have h1 := ih (by omega)
    rw [of_snoc, join_count (by omega) (by simp [one]) (by simp [one]; omega), h1, hl]
    simp [one]
theorem of_append (a b : List Sample) (h : a.length + b.length ≤ 9223372036854775807) : of (a ++ b) = join (of a) (of b) := by
  induction b using List.reverseRecOn' with
  | nil =>
    rw [List.append_nil, of_nil, join_none]
    split
    · have := of_count a (by simpa using h)
      have : a = [] := List.eq_nil_of_length_eq_zero (by omega)
      subst this; rfl
    · rfl
  | snoc b x ih =>
    have hl : (b ++ [x]).length = b.length + 1 := by simp
    rw [hl] at h
    have h1 := of_count a (by omega)
    have h2 := of_count b (by omega)
    rw [← List.append_assoc, of_snoc, of_snoc, ih (by omega), join_assoc (by omega) (by omega) (by simp [one]) (by simp [one]; omega)]
/-- where the document's answer stands behind k samples -/
def rst (l : List Sample) (a z : Int) (k : Nat) : Sum := if k = 0 then ⟨l.length, 0, a, a, a, z, 0⟩ else ⟨l.length, (of (l.take k)).total, (of (l.take k)).min, (of (l.take k)).max, a, z, (of (l.take k)).rise⟩
theorem of_one (x : Sample) : of [x] = one x.value := by simp [of, join, Sum.zero]
theorem of_facts : ∀ (l : List Sample) (a z : Sample), l.length ≤ 9223372036854775807 → l[0]? = some a → l[l.length - 1]? = some z → (of l).first = a.value ∧ (of l).last = z.value := by
  intro l
  induction l using List.reverseRecOn' with
  | nil => intro a z _ h _; simp at h
  | snoc l x ih =>
    intro a z hl h0 h1
    have hlen : (l ++ [x]).length = l.length + 1 := by simp
    rw [hlen] at hl
    have hx : x = z := by simpa using h1
    subst hx
    by_cases hne : l = []
    · subst hne
      have : x = a := by simpa using h0
      subst this
      rw [List.nil_append, of_one]; exact ⟨rfl, rfl⟩
    · have hp := List.length_pos_iff.2 hne
      rw [List.getElem?_append_left hp] at h0
      obtain ⟨y, hy⟩ : ∃ y, l[l.length - 1]? = some y := ⟨_, List.getElem?_eq_getElem (by omega)⟩
      have h2 := (ih a y (by omega) h0 hy).1
      have hc := of_count l (by omega)
      rw [of_snoc]; unfold join; rw [if_neg (by omega), if_neg (by simp [one])]
      exact ⟨h2, rfl⟩
theorem rst_first {l : List Sample} {z : Int} {x : Sample} (hx : l[0]? = some x) (ho : -9223372036854775808 ≤ x.value ∧ x.value ≤ 9223372036854775807) : rst l x.value z (0 + 1) = ⟨(rst l x.value z 0).count, wr ((rst l x.value z 0).total + x.value), if x.value < (rst l x.value z 0).min then x.value else (rst l x.value z 0).min, if (rst l x.value z 0).max < x.value then x.value else (rst l x.value z 0).max, (rst l x.value z 0).first, (rst l x.value z 0).last, (rst l x.value z 0).rise⟩ := by
  have e : l.take (0 + 1) = [x] := by rw [List.take_add_one, hx]; rfl
  unfold rst
  rw [if_neg (by omega), e, of_one, if_pos rfl]
  have := wr_id ho.1 ho.2
  simp [one, this]
theorem rst_zero {l : List Sample} {z : Int} {a x : Sample} {k : Nat} (hk : k = 0) (ha : l[0]? = some a) (hx : l[k]? = some x) (ho : ∀ x ∈ l, -9223372036854775808 ≤ x.value ∧ x.value ≤ 9223372036854775807) : rst l a.value z (k + 1) = ⟨(rst l a.value z k).count, wr ((rst l a.value z k).total + x.value), if x.value < (rst l a.value z k).min then x.value else (rst l a.value z k).min, if (rst l a.value z k).max < x.value then x.value else (rst l a.value z k).max, (rst l a.value z k).first, (rst l a.value z k).last, (rst l a.value z k).rise⟩ := by
  subst hk
  obtain rfl : a = x := Option.some.inj (ha.symm.trans hx)
  exact rst_first ha (ho _ (List.mem_of_getElem? ha))
theorem rst_next {l : List Sample} {a z : Int} {k : Nat} {p x : Sample} (hk : 0 < k) (hl : l.length ≤ 9223372036854775807) (hp : l[k - 1]? = some p) (hx : l[k]? = some x) : rst l a z (k + 1) = ⟨(rst l a z k).count, wr ((rst l a z k).total + x.value), if x.value < (rst l a z k).min then x.value else (rst l a z k).min, if (rst l a z k).max < x.value then x.value else (rst l a z k).max, (rst l a z k).first, (rst l a z k).last, wr ((rst l a z k).rise + rise p.value x.value)⟩ := by
  have hk2 : k < l.length := (List.getElem?_eq_some_iff.1 hx).1
  have hlen : (l.take k).length = k := by simp; omega
  have hc := of_count (l.take k) (by omega)
  obtain ⟨y, hy⟩ : ∃ y, (l.take k)[0]? = some y := ⟨_, List.getElem?_eq_getElem (by omega)⟩
  have hz : (l.take k)[(l.take k).length - 1]? = some p := by rw [hlen, List.getElem?_take, if_pos (by omega)]; exact hp
  have hf := (of_facts (l.take k) y p (by omega) hy hz).2
  unfold rst
  rw [if_neg (by omega), if_neg (by omega), of_take_succ l k x hx]
  unfold join
  rw [if_neg (by omega), if_neg (by simp [one])]
  simp only [one, hf, Int.add_zero, Sum.mk.injEq, true_and]
  exact ⟨by congr, by congr, wr_id (wr_range _).1 (wr_range _).2⟩
theorem rst_done {l : List Sample} {a z : Sample} (hl : l.length ≤ 9223372036854775807) (ha : l[0]? = some a) (hz : l[l.length - 1]? = some z) : rst l a.value z.value l.length = of l := by
  have hk : 0 < l.length := (List.getElem?_eq_some_iff.1 ha).1
  have h := of_facts l a z hl ha hz
  have hc := of_count l hl
  unfold rst
  rw [if_neg (by omega), List.take_length, ← h.1, ← h.2, ← hc]
theorem rst_end {l : List Sample} {a z : Sample} {k : Nat} (h1 : k ≤ l.length) (h2 : l.length ≤ k) (hl : l.length ≤ 9223372036854775807) (ha : l[0]? = some a) (hz : l[l.length - 1]? = some z) : rst l a.value z.value k = of l := by
  rw [show k = l.length by omega, rst_done hl ha hz]
end Agg

namespace Codec
def badRange (s : Sample) : Prop := s.time < 0 ∨ 1000000 < s.time ∨ s.value < -1000000000 ∨ 1000000000 < s.value
instance (s : Sample) : Decidable (badRange s) := by unfold badRange; infer_instance
def notAhead (prev : Option Sample) (s : Sample) : Bool := match prev with
  | some p => decide (s.time ≤ p.time)
  | none => false
/-- the first thing wrong from number k on; 'prev': the one ahead -/
def wrongFrom : Nat → Option Sample → List Sample → Fault
  | _, _, [] => ⟨0, 0⟩
  | k, prev, s :: r => if badRange s then ⟨3, k⟩ else if notAhead prev s then ⟨2, k⟩ else wrongFrom (k + 1) (some s) r
def wrong (l : List Sample) : Fault := if 500 < l.length then ⟨5, 0⟩ else wrongFrom 0 none l
end Codec

end Go.Proofs.YtffpglgboaigfaaDoor
