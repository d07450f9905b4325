/-
  How long bytes are: of samples that are even; of samples that are all later.
-/
import Derived.Test.YtffpglgboaigfaaDoorPCodec2
namespace Go.Proofs.YtffpglgboaigfaaDoor
namespace Codec
def evens (f st v : Int) (k : Nat) : List Sample := (List.range k).map fun (i : Nat) => ⟨f + (i : Int) * st, v⟩
theorem evens_len (f st v : Int) (k : Nat) : (evens f st v k).length = k := by simp [evens]
theorem evens_succ (f st v : Int) (k : Nat) : evens f st v (k + 1) = evens f st v k ++ [⟨f + (k : Int) * st, v⟩] := by
  simp [evens, List.range_succ]
theorem evens_zero (f st v : Int) : evens f st v 0 = [] := rfl
theorem evens_two (f st v : Int) (k : Nat) (hk : 2 ≤ k) : (evens f st v k).take 2 = evens f st v 2 := by
  unfold evens
  rw [← List.map_take, List.take_range, Nat.min_eq_left hk]
/-- right, in the end -/
theorem wrong_ok {l : List Sample} (h : Right l) : (wrong l).err = 0 := by
  have key : ∀ (l : List Sample) (k : Nat) (p : Option Sample), (∀ x ∈ l, ¬ badRange x) → l.Pairwise (fun x y => x.time < y.time) → (∀ q, p = some q → ∀ x ∈ l, q.time < x.time) → wrongFrom k p l = ⟨0, 0⟩ := by
    intro l
    induction l with
    | nil => intro _ _ _ _ _; rfl
    | cons s r ih =>
      intro k p h1 h2 h3
      unfold wrongFrom
      rw [if_neg (h1 s (List.mem_cons_self ..))]
      have : notAhead p s = false := by
        cases p with
        | none => rfl
        | some q => have := h3 q rfl s (List.mem_cons_self ..); simp [notAhead]; omega
      rw [if_neg (by simp [this])]
      exact ih _ _ (fun x hx => h1 x (List.mem_cons_of_mem _ hx)) (List.pairwise_cons.1 h2).2 (fun q hq x hx => by cases hq; exact (List.pairwise_cons.1 h2).1 x hx)
  unfold wrong
  rw [if_neg (by have := h.len; omega), key l 0 none (fun x hx => by have := h.rng x hx; unfold badRange; omega) h.inc (fun q hq => by cases hq)]
theorem evens_right {f st v : Int} {k : Nat} (hf : 0 ≤ f ∧ f ≤ 100000) (hst : 1 ≤ st ∧ st ≤ 1000) (hv : -1000 ≤ v ∧ v ≤ 1000) (hk : k ≤ 100) : Right (evens f st v k) := by
  have hm : ∀ i : Nat, i < k → 0 ≤ (i : Int) * st ∧ (i : Int) * st ≤ 100000 := fun i hi => ⟨Int.mul_nonneg (by omega) (by omega), by have := Int.mul_le_mul (show (i : Int) ≤ 100 by omega) (show st ≤ 1000 by omega) (by omega) (by omega); omega⟩
  refine ⟨by rw [evens_len]; omega, fun x hx => ?_, ?_⟩
  · obtain ⟨i, hi, rfl⟩ := List.mem_map.1 hx
    have := hm i (by simpa using hi)
    simp only; omega
  · unfold evens
    rw [List.pairwise_map]
    refine List.Pairwise.imp ?_ (List.pairwise_lt_range)
    intro i j hij
    have h1 : (i : Int) * st < (j : Int) * st := Int.mul_lt_mul_of_pos_right (by omega) (by omega)
    simp only; omega
theorem evens_at {f st v : Int} : ∀ {k : Nat}, 2 ≤ k → at3 (evens f st v k) = ⟨f + ((k - 1 : Nat) : Int) * st, st, v⟩
  | k + 1, h => by
    rw [evens_succ]
    have e : at3 (evens f st v k ++ [⟨f + (k : Int) * st, v⟩]) = tr (at3 (evens f st v k)) ⟨f + (k : Int) * st, v⟩ := by simp [at3]
    rw [e]
    have hl : (at3 (evens f st v k)).last = f + ((k - 1 : Nat) : Int) * st := by
      by_cases h2 : 2 ≤ k
      · rw [evens_at h2]
      · obtain rfl : k = 1 := by omega
        simp [evens, at3, tr]
    unfold tr
    simp only [hl, T3.mk.injEq, and_true]
    refine ⟨by simp, ?_⟩
    have : ((k : Nat) : Int) = ((k - 1 : Nat) : Int) + 1 := by omega
    rw [this, Int.add_mul]; omega
theorem putB_zero : putB 0 = [0] := by rw [putB]; rw [show zig 0 = 0 from rfl, digs_small (by omega)]; rfl
theorem evens_body {f st v : Int} : ∀ (k : Nat), 2 ≤ k → (body ⟨0, 0, 0⟩ (evens f st v k)).length = (body ⟨0, 0, 0⟩ (evens f st v 2)).length + 2 * (k - 2)
  | k + 1, h => by
    by_cases h2 : 2 ≤ k
    · have ih := evens_body (f := f) (st := st) (v := v) k h2
      rw [evens_succ, body_snoc, List.length_append, ih]
      show _ + (enc1 (at3 (evens f st v k)) _).length = _
      rw [evens_at h2, enc1]
      simp only
      have e : f + (k : Int) * st - (f + ((k - 1 : Nat) : Int) * st) - st = 0 := by
        have : ((k : Nat) : Int) = ((k - 1 : Nat) : Int) + 1 := by omega
        rw [this, Int.add_mul]; omega
      rw [e, show v - v = 0 by omega, putB_zero]
      simp; omega
    · obtain rfl : k = 1 := by omega
      simp
theorem putB_small {n : Int} (h : 0 ≤ n ∧ n ≤ 100) : 1 ≤ (putB n).length ∧ (putB n).length ≤ 2 :=
  ⟨digs_pos _, digs_len 1 _ (by have := zig_lt (B := 101) (n := n) (by omega); omega)⟩
theorem evens_diff {f st v : Int} {k : Nat} (hf : 0 ≤ f ∧ f ≤ 100000) (hst : 1 ≤ st ∧ st ≤ 1000) (hv : -1000 ≤ v ∧ v ≤ 1000) (hk : k ≤ 100) (hk3 : 3 ≤ k) :
    (bytesF ((evens f st v k).take 2)).length + 2 * (k - 2) ≤ (bytesF (evens f st v k)).length ∧ (bytesF (evens f st v k)).length ≤ (bytesF ((evens f st v k).take 2)).length + 2 * (k - 2) + 1 := by
  rw [evens_two f st v k (by omega), bytesF, bytesF, if_pos (wrong_ok (evens_right hf hst hv hk)), if_pos (wrong_ok (evens_right hf hst hv (by omega))), bytesOf, bytesOf, List.length_append, List.length_append, evens_body k (by omega), evens_len, evens_len]
  have h1 := putB_small (n := (k : Int)) (by omega)
  have h2 : putB ((2 : Nat) : Int) = [4] := by
    rw [putB, show zig ((2 : Nat) : Int) = 4 from rfl, digs_small (by omega)]; rfl
  rw [h2]; simp only [List.length_cons, List.length_nil]; omega
/-! ## All later -/
def moved (l : List Sample) (by_ : Int) : List Sample := l.map fun s => ⟨s.time + by_, s.value⟩
theorem moved_succ {l : List Sample} {k : Nat} {s : Sample} {by_ : Int} (h : l[k]? = some s) : moved (l.take (k + 1)) by_ = moved (l.take k) by_ ++ [⟨s.time + by_, s.value⟩] := by
  unfold moved; rw [List.take_add_one, h]; simp
theorem moved_len (l : List Sample) (by_ : Int) : (moved l by_).length = l.length := by simp [moved]
theorem body_moved (by_ : Int) : ∀ (l : List Sample) (t : T3), body ⟨t.last + by_, t.step, t.value⟩ (moved l by_) = body t l
  | [], _ => rfl
  | s :: l, t => by
    have ih := body_moved by_ l (tr t s)
    have e : tr ⟨t.last + by_, t.step, t.value⟩ ⟨s.time + by_, s.value⟩ = ⟨(tr t s).last + by_, (tr t s).step, (tr t s).value⟩ := by
      unfold tr; simp only [T3.mk.injEq, and_true, true_and]; omega
    show body _ (⟨s.time + by_, s.value⟩ :: moved l by_) = _
    rw [body, body, e, ih, enc1, enc1]
    simp only
    rw [show s.time + by_ - (t.last + by_) - t.step = s.time - t.last - t.step by omega]
theorem putB_mid {n : Int} (h : -8000000 ≤ n ∧ n ≤ 8000000) : 1 ≤ (putB n).length ∧ (putB n).length ≤ 4 :=
  ⟨digs_pos _, digs_len 3 _ (by have := zig_lt (B := 8000001) (n := n) (by omega); omega)⟩
theorem moved_diff {l : List Sample} {by_ : Int} (hb : 0 ≤ by_ ∧ by_ ≤ 1000000) (h1 : (wrong l).err = 0) (h2 : (wrong (moved l by_)).err = 0) :
    (bytesF (moved l by_)).length ≤ (bytesF l).length + 8 ∧ (bytesF l).length ≤ (bytesF (moved l by_)).length + 8 := by
  have hr := (right_of h1).rng
  rw [bytesF, bytesF, if_pos h1, if_pos h2, bytesOf, bytesOf, moved_len, List.length_append, List.length_append]
  match l, hr with
  | [], _ => simp [moved]
  | [s], hr =>
    have hs := hr s (by simp)
    have a := putB_mid (n := s.time) (by omega)
    have b := putB_mid (n := s.time + by_) (by omega)
    simp only [moved, List.map_cons, List.map_nil, body, enc1, List.append_nil, List.length_append, Int.sub_zero]
    omega
  | s :: x :: l, hr =>
    have hs := hr s (by simp)
    have hx := hr x (by simp)
    have a := putB_mid (n := s.time) (by omega)
    have b := putB_mid (n := s.time + by_) (by omega)
    have c := putB_mid (n := x.time - s.time - s.time) (by omega)
    have d := putB_mid (n := x.time + by_ - (s.time + by_) - (s.time + by_)) (by omega)
    have e := body_moved by_ l (tr (tr ⟨0, 0, 0⟩ s) x)
    have e2 : tr (tr ⟨0, 0, 0⟩ ⟨s.time + by_, s.value⟩) ⟨x.time + by_, x.value⟩ = ⟨(tr (tr ⟨0, 0, 0⟩ s) x).last + by_, (tr (tr ⟨0, 0, 0⟩ s) x).step, (tr (tr ⟨0, 0, 0⟩ s) x).value⟩ := by
      unfold tr; simp only [T3.mk.injEq, and_true, true_and]; omega
    have e3 : moved (s :: x :: l) by_ = ⟨s.time + by_, s.value⟩ :: ⟨x.time + by_, x.value⟩ :: moved l by_ := rfl
    rw [e3, body, body, e2, e, body, body, enc1, enc1, enc1, enc1]
    simp only [tr, List.length_append, Int.sub_zero]
    omega
end Codec
end Go.Proofs.YtffpglgboaigfaaDoor
