/-
  Numbers and samples as bytes, in plain Lean.
-/
import Derived.Test.YtffpglgboaigfaaDoorPtr
import Derived.Test.YtffpglgboaigfaaDoorPRoll
namespace Go.Proofs.YtffpglgboaigfaaDoor
namespace Codec
def zig (n : Int) : Nat := if n < 0 then (-2 * n - 1).toNat else (2 * n).toNat
def unzig (u : Nat) : Int := if ((u % 2 ^ 1 : Nat) : Int) = 1 then -((u / 2 ^ 1 : Nat) : Int) - 1 else ((u / 2 ^ 1 : Nat) : Int)
theorem unzig_zig (n : Int) : unzig (zig n) = n := by
  unfold unzig zig; split <;> split <;> omega
theorem zig_unzig (u : Nat) : zig (unzig u) = u := by
  unfold unzig zig; split <;> split <;> omega
theorem zig_lt {n : Int} {B : Nat} (h : -(B : Int) ≤ n ∧ n < B) : zig n < 2 * B := by unfold zig; split <;> omega
theorem zig_eq {n : Int} (h : -9223372036854775808 ≤ n ∧ n ≤ 9223372036854775807) : (if n < 0 then 18446744073709551615 - IntKind.u64.wrap (IntKind.u64.wrap n * 2 ^ 1) else IntKind.u64.wrap (IntKind.u64.wrap n * 2 ^ 1)) = (zig n : Int) := by
  simp only [Ex.wrap_u64]
  unfold zig
  split <;> omega
def digs (u : Nat) : List UInt8 := if u < 128 then [UInt8.ofNat u] else (UInt8.ofNat u ||| 128) :: digs (u / 2 ^ 7)
termination_by u
decreasing_by omega
theorem digs_small {u : Nat} (h : u < 128) : digs u = [UInt8.ofNat u] := by rw [digs, if_pos h]
theorem digs_more {u : Nat} (h : ¬ u < 128) : digs u = (UInt8.ofNat u ||| 128) :: digs (u / 2 ^ 7) := by rw [digs, if_neg h]
theorem digs_len : ∀ (j u : Nat), u < 128 ^ (j + 1) → (digs u).length ≤ j + 1
  | 0, u, h => by rw [digs_small (by simpa using h)]; simp
  | j + 1, u, h => by
    by_cases hu : u < 128
    · rw [digs_small hu]; simp
    · rw [digs_more hu, List.length_cons]
      have : u / 2 ^ 7 < 128 ^ (j + 1) := by
        rw [Nat.div_lt_iff_lt_mul (by decide)]
        rw [Nat.pow_succ] at h; exact h
      have := digs_len j _ this
      omega
theorem digs_pos (u : Nat) : 1 ≤ (digs u).length := by
  rw [digs]; split <;> simp
def putB (n : Int) : List UInt8 := digs (zig n)
theorem putB_len {n : Int} (h : -9223372036854775808 ≤ n ∧ n ≤ 9223372036854775807) : (putB n).length ≤ 10 := digs_len 9 _ (by
  have := zig_lt (B := 9223372036854775808) (n := n) (by omega)
  omega)

/-! ## Samples -/
structure T3 where (last step value : Int)
def tr (t : T3) (s : Sample) : T3 := ⟨s.time, s.time - t.last, s.value⟩
def at3 (l : List Sample) : T3 := l.foldl tr ⟨0, 0, 0⟩
def enc1 (t : T3) (s : Sample) : List UInt8 := putB (s.time - t.last - t.step) ++ putB (s.value - t.value)
def body : T3 → List Sample → List UInt8
  | _, [] => []
  | t, s :: r => enc1 t s ++ body (tr t s) r
def bytesOf (l : List Sample) : List UInt8 := putB l.length ++ body ⟨0, 0, 0⟩ l
theorem body_snoc (s : Sample) : ∀ (l : List Sample) (t : T3), body t (l ++ [s]) = body t l ++ enc1 (l.foldl tr t) s
  | [], t => by simp [body]
  | x :: l, t => by simp only [List.cons_append, body, body_snoc s l, List.foldl_cons, List.append_assoc]
theorem at3_succ {l : List Sample} {k : Nat} {s : Sample} (h : l[k]? = some s) : at3 (l.take (k + 1)) = tr (at3 (l.take k)) s := by
  unfold at3; rw [List.take_add_one, h]; simp
theorem body_succ {l : List Sample} {k : Nat} {s : Sample} (h : l[k]? = some s) : body ⟨0, 0, 0⟩ (l.take (k + 1)) = body ⟨0, 0, 0⟩ (l.take k) ++ enc1 (at3 (l.take k)) s := by
  rw [List.take_add_one, h]; exact body_snoc s _ _
theorem at3_bound {l : List Sample} (h : ∀ x ∈ l, 0 ≤ x.time ∧ x.time ≤ 1000000 ∧ -1000000000 ≤ x.value ∧ x.value ≤ 1000000000) :
    (0 ≤ (at3 l).last ∧ (at3 l).last ≤ 1000000) ∧ (-1000000 ≤ (at3 l).step ∧ (at3 l).step ≤ 1000000) ∧ (-1000000000 ≤ (at3 l).value ∧ (at3 l).value ≤ 1000000000) := by
  induction l using List.reverseRecOn' with
  | nil => simp [at3]
  | snoc l x ih =>
    have h1 := ih fun y hy => h y (List.mem_append_left _ hy)
    have h2 := h x (by simp)
    have e : at3 (l ++ [x]) = tr (at3 l) x := by simp [at3]
    rw [e]; simp only [tr]; omega
theorem enc1_len {t : T3} {s : Sample} (h1 : 0 ≤ s.time ∧ s.time ≤ 1000000 ∧ -1000000000 ≤ s.value ∧ s.value ≤ 1000000000) (h2 : (0 ≤ t.last ∧ t.last ≤ 1000000) ∧ (-1000000 ≤ t.step ∧ t.step ≤ 1000000) ∧ (-1000000000 ≤ t.value ∧ t.value ≤ 1000000000)) : (enc1 t s).length ≤ 20 := by
  unfold enc1
  have a := putB_len (n := s.time - t.last - t.step) (by omega)
  have b := putB_len (n := s.value - t.value) (by omega)
  rw [List.length_append]; omega
theorem body_len {l : List Sample} (h : ∀ x ∈ l, 0 ≤ x.time ∧ x.time ≤ 1000000 ∧ -1000000000 ≤ x.value ∧ x.value ≤ 1000000000) : (body ⟨0, 0, 0⟩ l).length ≤ 20 * l.length := by
  induction l using List.reverseRecOn' with
  | nil => simp [body]
  | snoc l x ih =>
    have h0 : ∀ y ∈ l, 0 ≤ y.time ∧ y.time ≤ 1000000 ∧ -1000000000 ≤ y.value ∧ y.value ≤ 1000000000 := fun y hy => h y (List.mem_append_left _ hy)
    have h1 := ih h0
    have h2 := enc1_len (h x (by simp)) (at3_bound h0)
    rw [body_snoc, List.length_append, List.length_append]
    show _ + (enc1 (at3 l) x).length ≤ _
    simp; omega

/-! ## Bytes as numbers -/
def dec : Nat → Nat → List UInt8 → Option (Nat × List UInt8)
  | _, _, [] => none
  | i, u, c :: r => if i = 6 then none else if 128 ≤ c.toNat then dec (i + 1) (u + (c &&& 127).toNat * 2 ^ (7 * i)) r else if 0 < i ∧ c.toNat = 0 then none else some (u + (c &&& 127).toNat * 2 ^ (7 * i), r)
def numV (b : List UInt8) : Int := match dec 0 0 b with
  | some (u, _) => unzig u
  | none => 0
def numR (b : List UInt8) : List UInt8 := match dec 0 0 b with
  | some (_, r) => r
  | none => b
def numOk (b : List UInt8) : Bool := (dec 0 0 b).isSome
theorem dec_step {b : List UInt8} {k u : Nat} {c : UInt8} (h : b[k]? = some c) : dec k u (b.drop k) = if k = 6 then none else if 128 ≤ c.toNat then dec (k + 1) (u + (c &&& 127).toNat * 2 ^ (7 * k)) (b.drop (k + 1)) else if 0 < k ∧ c.toNat = 0 then none else some (u + (c &&& 127).toNat * 2 ^ (7 * k), b.drop (k + 1)) := by
  obtain ⟨h1, rfl⟩ := List.getElem?_eq_some_iff.1 h
  rw [List.drop_eq_getElem_cons h1, dec]
theorem dec_end {b : List UInt8} {k u : Nat} (h : b.length ≤ k) : dec k u (b.drop k) = none := by
  rw [List.drop_of_length_le h, dec]
theorem and127 (c : UInt8) : (c &&& 127).toNat = c.toNat % 128 := by
  rw [UInt8.toNat_and]
  exact Nat.and_two_pow_sub_one_eq_mod c.toNat 7
theorem dec_lt {k u a : Nat} (hu : u < 2 ^ (7 * k)) (ha : a < 128) : u + a * 2 ^ (7 * k) < 2 ^ (7 * (k + 1)) := by
  have e : 2 ^ (7 * (k + 1)) = 128 * 2 ^ (7 * k) := by rw [Nat.mul_add, Nat.pow_add]; omega
  have : a * 2 ^ (7 * k) ≤ 127 * 2 ^ (7 * k) := Nat.mul_le_mul_right _ (by omega)
  omega
theorem pow_small {k : Nat} (h : k ≤ 5) : 2 ^ (7 * k) ≤ 34359738368 := Nat.le_trans (Nat.pow_le_pow_right (by decide) (by omega : 7 * k ≤ 35)) (by decide)
theorem wrong_zero {l : List Sample} (h : (wrong l).err = 0) : wrong l = ⟨0, 0⟩ := by
  have key : ∀ (l : List Sample) (k : Nat) (p : Option Sample), (wrongFrom k p l).err = 0 → wrongFrom k p l = ⟨0, 0⟩ := by
    intro l
    induction l with
    | nil => intro _ _ _; rfl
    | cons s r ih =>
      intro k p h
      unfold wrongFrom at h ⊢
      split
      · rename_i h1; rw [if_pos h1] at h; simp at h
      · rename_i h1; rw [if_neg h1] at h
        split
        · rename_i h2; rw [if_pos h2] at h; simp at h
        · rename_i h2; rw [if_neg h2] at h; exact ih _ _ h
  unfold wrong at h ⊢
  split
  · rename_i h1; rw [if_pos h1] at h; simp at h
  · rename_i h1; rw [if_neg h1] at h; exact key _ _ _ h
def bytesF (l : List Sample) : List UInt8 := if (wrong l).err = 0 then bytesOf l else []
def preB (l : List Sample) (k : Nat) : List UInt8 := putB l.length ++ body ⟨0, 0, 0⟩ (l.take k)
theorem preB_zero (l : List Sample) : preB l 0 = putB l.length := by simp [preB, body]
theorem preB_succ {l : List Sample} {k : Nat} {s : Sample} (h : l[k]? = some s) : preB l (k + 1) = preB l k ++ putB (s.time - (at3 (l.take k)).last - (at3 (l.take k)).step) ++ putB (s.value - (at3 (l.take k)).value) := by
  unfold preB; rw [body_succ h, enc1]; simp
theorem preB_end {l : List Sample} {k : Nat} (h : l.length ≤ k) : preB l k = bytesOf l := by
  unfold preB bytesOf; rw [List.take_of_length_le h]
theorem preB_len {l : List Sample} {k : Nat} (h : ∀ x ∈ l, 0 ≤ x.time ∧ x.time ≤ 1000000 ∧ -1000000000 ≤ x.value ∧ x.value ≤ 1000000000) (hl : l.length ≤ 500) : (preB l k).length ≤ 10010 := by
  unfold preB
  have h1 := putB_len (n := (l.length : Int)) (by omega)
  have h2 := body_len (l := l.take k) (fun x hx => h x (List.mem_of_mem_take hx))
  have h3 : (l.take k).length ≤ 500 := by simp; omega
  rw [List.length_append]; omega
theorem len_app {a : List UInt8} {n : Int} (h : a.length ≤ 100000) (hn : -9223372036854775808 ≤ n ∧ n ≤ 9223372036854775807) : (a ++ putB n).length ≤ 140000000 := by
  have := putB_len hn
  rw [List.length_append]; omega
/-! ## Parse -/
def prs : Nat → List UInt8 → T3 → List Sample → Option (List UInt8 × List Sample)
  | 0, b, _, acc => some (b, acc)
  | n + 1, b, t, acc => if ((true && numOk b) && numOk (numR b)) = true then prs n (numR (numR b)) ⟨wr (t.last + wr (t.step + numV b)), wr (t.step + numV b), wr (t.value + numV (numR b))⟩ (acc ++ [⟨wr (t.last + wr (t.step + numV b)), wr (t.value + numV (numR b))⟩]) else none
def parse (b : List UInt8) : List Sample × Int :=
  if ((!(true && numOk b)) = true) ∨ ((numV b < 0) ∨ (((numR b).length : Int) / 2 < numV b)) then ([], 2) else
  match prs (numV b).toNat (numR b) ⟨0, 0, 0⟩ [] with
  | none => ([], 2)
  | some (r, l) => if r ≠ [] then ([], 2) else if (wrong l).err ≠ 0 then ([], (wrong l).err) else (l, 0)
theorem numR_len (b : List UInt8) : (numR b).length ≤ b.length := by
  have key : ∀ (b : List UInt8) (i u : Nat) (v : Nat) (r : List UInt8), dec i u b = some (v, r) → r.length ≤ b.length := by
    intro b
    induction b with
    | nil => intro i u v r h; simp [dec] at h
    | cons c b ih =>
      intro i u v r h
      unfold dec at h
      split at h
      · cases h
      · split at h
        · have := ih _ _ _ _ h; simp; omega
        · split at h
          · cases h
          · cases h; simp
  unfold numR
  split
  · rename_i u r h; exact key _ _ _ _ _ h
  · exact Nat.le_refl _
theorem prs_step {n k : Nat} {b : List UInt8} {t : T3} {acc : List Sample} (hk : k < n) (h : ((true && numOk b) && numOk (numR b)) = true) : prs (n - k) b t acc = prs (n - (k + 1)) (numR (numR b)) ⟨wr (t.last + wr (t.step + numV b)), wr (t.step + numV b), wr (t.value + numV (numR b))⟩ (acc ++ [⟨wr (t.last + wr (t.step + numV b)), wr (t.value + numV (numR b))⟩]) := by
  rw [show n - k = (n - (k + 1)) + 1 by omega, prs, if_pos h]
theorem ok_of {b : List UInt8} {P : Prop} (h : ¬ (((!(true && numOk b)) = true) ∨ P)) : (true && numOk b) = true := by
  cases hx : (true && numOk b) with
  | true => rfl
  | false => exact absurd (.inl (by rw [hx]; rfl)) h
theorem parse_bad {b : List UInt8} (h : ((!(true && numOk b)) = true) ∨ ((numV b < 0) ∨ (((numR b).length : Int) / 2 < numV b))) : parse b = ([], 2) := by unfold parse; rw [if_pos h]
section
variable {b bs : List UInt8} {t : T3} {acc : List Sample} {k : Nat} (h0 : ¬ (((!(true && numOk b)) = true) ∨ ((numV b < 0) ∨ (((numR b).length : Int) / 2 < numV b)))) (h1 : prs (numV b).toNat (numR b) ⟨0, 0, 0⟩ [] = prs ((numV b).toNat - k) bs t acc)
include h0 h1
theorem parse_stop (hk : k < (numV b).toNat) (h : ((true && numOk bs) && numOk (numR bs)) = false) : parse b = ([], 2) := by
  unfold parse; rw [if_neg h0, h1, show (numV b).toNat - k = ((numV b).toNat - (k + 1)) + 1 by omega, prs, if_neg (by rw [h]; simp)]
theorem parse_over (hk : (numV b).toNat ≤ k) (h : 0 < bs.length) : parse b = ([], 2) := by
  unfold parse; rw [if_neg h0, h1, show (numV b).toNat - k = 0 by omega, prs]
  show (if bs ≠ [] then _ else _) = _
  rw [if_pos (List.length_pos_iff.1 h)]
theorem parse_done (hk : (numV b).toNat ≤ k) (h : bs.length ≤ 0) : parse b = if (wrong acc).err ≠ 0 then ([], (wrong acc).err) else (acc, 0) := by
  unfold parse; rw [if_neg h0, h1, show (numV b).toNat - k = 0 by omega, prs]
  show (if bs ≠ [] then _ else _) = _
  rw [if_neg (by simp; exact List.eq_nil_of_length_eq_zero (by omega))]
end
end Codec
end Go.Proofs.YtffpglgboaigfaaDoor
