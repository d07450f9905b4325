/-
  Numbers as bits: shifts, masks, bytes.
-/
import Derived.Test.YtffpglgboaigfaaDoorSlice
namespace Go.Proofs.YtffpglgboaigfaaDoor
namespace Ex
set_option linter.unusedSimpArgs false
section
variable {P : Program} {N : Nat} {D : List Deferred} {E : Env} {S : World → Prop} {T T' ty : TypeId} {x y : Operand} {m n : Int} {k : IntKind}
theorem wrap_u64 (m : Int) : IntKind.u64.wrap m = m % 18446744073709551616 := by simp [IntKind.wrap, IntKind.bits, IntKind.signed]
theorem wrap_u8 (m : Int) : IntKind.u8.wrap m = m % 256 := by simp [IntKind.wrap, IntKind.bits, IntKind.signed]
theorem u64_rng (m : Int) : 0 ≤ IntKind.u64.wrap m ∧ IntKind.u64.wrap m ≤ 18446744073709551615 := by rw [wrap_u64]; omega
theorem wrap_u64n {a : Nat} (h : a < 18446744073709551616) : IntKind.u64.wrap (a : Int) = (a : Int) := by rw [wrap_u64]; omega
theorem run_and64 (a b : Int) (w : World) : (Op.intBits .and .u64 a b).run P w = .ok (.int .u64 (IntKind.u64.wrap ((BitVec.ofInt 64 a &&& BitVec.ofInt 64 b).toNat : Int))) w := rfl
theorem run_or64 (a b : Int) (w : World) : (Op.intBits .or .u64 a b).run P w = .ok (.int .u64 (IntKind.u64.wrap ((BitVec.ofInt 64 a ||| BitVec.ofInt 64 b).toNat : Int))) w := rfl
theorem run_xor64 (a b : Int) (w : World) : (Op.intBits .xor .u64 a b).run P w = .ok (.int .u64 (IntKind.u64.wrap ((BitVec.ofInt 64 a ^^^ BitVec.ofInt 64 b).toNat : Int))) w := rfl
theorem run_and8 (a b : Int) (w : World) : (Op.intBits .and .u8 a b).run P w = .ok (.int .u8 (IntKind.u8.wrap ((BitVec.ofInt 8 a &&& BitVec.ofInt 8 b).toNat : Int))) w := rfl
theorem run_or8 (a b : Int) (w : World) : (Op.intBits .or .u8 a b).run P w = .ok (.int .u8 (IntKind.u8.wrap ((BitVec.ofInt 8 a ||| BitVec.ofInt 8 b).toNat : Int))) w := rfl
theorem r_remk (hx : ev E x = some (.int k m)) (hy : ev E y = some (.int k n)) (hm : 0 ≤ m) (hn : 0 < n) : Runs P N D E S (.binOp .rem T x y T') ty (.int k (m % n)) := by
  have h1 := r_rem (P := P) (N := N) (D := D) (S := S) (T := T) (T' := T') (ty := ty) hx hy (by omega)
  rwa [Int.tmod_eq_emod_of_nonneg hm] at h1
/-- so many bits to the left -/
theorem r_shl {j : Nat} {k' : IntKind} (hx : ev E x = some (.int .u64 m)) (hy : ev E y = some (.int k' n)) (hn : n = (j : Int)) (hj : j < 64) : Runs P N D E S (.binOp .shl T x y T') ty (.int .u64 (IntKind.u64.wrap (m * 2 ^ j))) := fun o ho _ a w ha _ => by
  subst hn
  have h1 : min j 64 = j := by omega
  unfold execOp; rw [ho]; simp [ha.eval hx, ha.eval hy, binOp_shl, Op.shift, eqGuard_at_int, IntKind.bits, h1]
theorem r_shlN {j a : Nat} {k' : IntKind} (hx : ev E x = some (.int .u64 (a : Int))) (hy : ev E y = some (.int k' n)) (hn : n = (j : Int)) (hj : j < 64) (hb : a * 2 ^ j < 18446744073709551616) : Runs P N D E S (.binOp .shl T x y T') ty (.int .u64 ((a * 2 ^ j : Nat) : Int)) := by
  have := r_shl (P := P) (N := N) (D := D) (S := S) (T := T) (T' := T') (ty := ty) hx hy hn hj
  rwa [show ((a : Int) * 2 ^ j) = ((a * 2 ^ j : Nat) : Int) from by simp, wrap_u64n hb] at this
theorem r_shr {j u : Nat} {k' : IntKind} (hx : ev E x = some (.int .u64 (u : Int))) (hy : ev E y = some (.int k' n)) (hn : n = (j : Int)) (hj : j < 64) : Runs P N D E S (.binOp .shr T x y T') ty (.int .u64 ((u / 2 ^ j : Nat) : Int)) := fun o ho _ a w ha _ => by
  subst hn
  have h1 : min j 64 = j := by omega
  unfold execOp; rw [ho]; simp [ha.eval hx, ha.eval hy, binOp_shr, Op.shift, eqGuard_at_int, IntKind.bits, h1]
/-- all bits turned -/
theorem r_cpl (hx : ev E x = some (.int .u64 m)) (h : 0 ≤ m ∧ m ≤ 18446744073709551615) : Runs P N D E S (.unOp .xor T x) ty (.int .u64 (18446744073709551615 - m)) := fun o ho _ a w ha _ => by
  obtain ⟨q, rfl⟩ := Int.eq_ofNat_of_zero_le h.1
  have hq : q < 2 ^ 64 := by omega
  unfold execOp; rw [ho]
  have e : (BitVec.ofInt 64 18446744073709551615 ^^^ BitVec.ofInt 64 (q : Int)).toNat = 18446744073709551615 - q := by
    have h1 : BitVec.ofInt 64 18446744073709551615 = BitVec.allOnes 64 := by decide
    have h2 : BitVec.ofInt 64 (q : Int) = BitVec.ofNat 64 q := by simp
    rw [h1, h2, BitVec.allOnes_xor, BitVec.toNat_not, BitVec.toNat_ofNat, Nat.mod_eq_of_lt hq]
  have e2 : (IntKind.u64.max : Int) = 18446744073709551615 := by decide
  simp only [ha.eval hx, Op.unary, IntKind.signed, Bool.false_eq_true, if_false, e2, Sem.run_bind, run_xor64, e, Result.andThen_ok, Sem.run_pure]
  rw [wrap_u64n (by omega)]
  congr 3
  omega
/-- a mask of the lowest bits -/
theorem nat_mask (a j : Nat) : a &&& (2 ^ j - 1) = a % 2 ^ j := Nat.and_two_pow_sub_one_eq_mod a j
theorem r_and {j a : Nat} (hx : ev E x = some (.int .u64 (a : Int))) (hy : ev E y = some (.int .u64 n)) (hn : n = ((2 ^ j - 1 : Nat) : Int)) (ha : a < 18446744073709551616) (hj : j < 64) : Runs P N D E S (.binOp .and T x y T') ty (.int .u64 ((a % 2 ^ j : Nat) : Int)) := fun o ho _ ac w hac _ => by
  subst hn
  have hp : 2 ^ j ≤ 2 ^ 63 := Nat.pow_le_pow_right (by decide) (by omega)
  have e : (BitVec.ofInt 64 (a : Int) &&& BitVec.ofInt 64 ((2 ^ j - 1 : Nat) : Int)).toNat = a % 2 ^ j := by
    rw [BitVec.toNat_and]
    simp only [BitVec.ofInt_natCast, BitVec.toNat_ofNat]
    rw [Nat.mod_eq_of_lt (a := a) (by omega), Nat.mod_eq_of_lt (a := 2 ^ j - 1) (by omega), nat_mask]
  unfold execOp; rw [ho]
  simp only [hac.eval hx, hac.eval hy, eqGuard_at_int, Sem.run_bind, Result.andThen_ok, binOp_and, run_and64, e]
  have h2 : a % 2 ^ j ≤ a := Nat.mod_le _ _
  rw [wrap_u64n (show a % 2 ^ j < 18446744073709551616 by omega)]
  simp only [Sem.run_pure, Result.andThen_ok]
theorem or_add {a b j : Nat} (h : a < 2 ^ j) : a ||| (b * 2 ^ j) = a + b * 2 ^ j := by
  rw [Nat.or_comm, Nat.mul_comm, ← Nat.two_pow_add_eq_or_of_lt h, Nat.add_comm]
theorem r_or {j a b : Nat} (hx : ev E x = some (.int .u64 (a : Int))) (hy : ev E y = some (.int .u64 n)) (hn : n = ((b * 2 ^ j : Nat) : Int)) (ha : a < 2 ^ j) (hb : a + b * 2 ^ j < 18446744073709551616) : Runs P N D E S (.binOp .or T x y T') ty (.int .u64 ((a + b * 2 ^ j : Nat) : Int)) := fun o ho _ ac w hac _ => by
  subst hn
  have e : (BitVec.ofInt 64 (a : Int) ||| BitVec.ofInt 64 ((b * 2 ^ j : Nat) : Int)).toNat = a + b * 2 ^ j := by
    rw [BitVec.toNat_or]
    simp only [BitVec.ofInt_natCast, BitVec.toNat_ofNat]
    rw [Nat.mod_eq_of_lt (a := a) (by omega), Nat.mod_eq_of_lt (a := b * 2 ^ j) (by omega), or_add ha]
  unfold execOp; rw [ho]
  simp only [hac.eval hx, hac.eval hy, eqGuard_at_int, Sem.run_bind, Result.andThen_ok, binOp_or, run_or64, e, Sem.run_pure]
  rw [wrap_u64n hb]
/-- bytes -/
theorem r_and8 {a b : UInt8} (hx : ev E x = some (.int .u8 (a.toNat : Int))) (hy : ev E y = some (.int .u8 n)) (hn : n = (b.toNat : Int)) : Runs P N D E S (.binOp .and T x y T') ty (.int .u8 ((a &&& b).toNat : Int)) := fun o ho _ ac w hac _ => by
  subst hn
  have h1 := a.toNat_lt
  have h2 := b.toNat_lt
  have e : (BitVec.ofInt 8 (a.toNat : Int) &&& BitVec.ofInt 8 (b.toNat : Int)).toNat = (a &&& b).toNat := by
    rw [BitVec.toNat_and, UInt8.toNat_and]
    simp only [BitVec.ofInt_natCast, BitVec.toNat_ofNat]
    rw [Nat.mod_eq_of_lt (by omega), Nat.mod_eq_of_lt (by omega)]
  unfold execOp; rw [ho]
  simp only [hac.eval hx, hac.eval hy, eqGuard_at_int, Sem.run_bind, Result.andThen_ok, binOp_and, run_and8, e]
  have h3 := (a &&& b).toNat_lt
  simp only [wrap_u8, Sem.run_pure, Result.andThen_ok]
  congr 3
  omega
theorem r_or8 {a b : UInt8} (hx : ev E x = some (.int .u8 (a.toNat : Int))) (hy : ev E y = some (.int .u8 n)) (hn : n = (b.toNat : Int)) : Runs P N D E S (.binOp .or T x y T') ty (.int .u8 ((a ||| b).toNat : Int)) := fun o ho _ ac w hac _ => by
  subst hn
  have h1 := a.toNat_lt
  have h2 := b.toNat_lt
  have e : (BitVec.ofInt 8 (a.toNat : Int) ||| BitVec.ofInt 8 (b.toNat : Int)).toNat = (a ||| b).toNat := by
    rw [BitVec.toNat_or, UInt8.toNat_or]
    simp only [BitVec.ofInt_natCast, BitVec.toNat_ofNat]
    rw [Nat.mod_eq_of_lt (by omega), Nat.mod_eq_of_lt (by omega)]
  unfold execOp; rw [ho]
  simp only [hac.eval hx, hac.eval hy, eqGuard_at_int, Sem.run_bind, Result.andThen_ok, binOp_or, run_or8, e]
  have h3 := (a ||| b).toNat_lt
  simp only [wrap_u8, Sem.run_pure, Result.andThen_ok]
  congr 3
  omega
/-- a number's lowest byte -/
theorem r_low8 {a : Nat} {k0 : IntKind} (hx : ev E x = some (.int k0 (a : Int))) (hs : (P.underlying T).isSome = true) (hd : P.underlying T' = some (.int .u8)) : Runs P N D E S (.convert T T' x) ty (.int .u8 ((UInt8.ofNat a).toNat : Int)) := by
  have := r_conv (P := P) (N := N) (D := D) (S := S) (ty := ty) hx hs hd
  have e : IntKind.u8.wrap (a : Int) = ((UInt8.ofNat a).toNat : Int) := by rw [wrap_u8]; simp
  rwa [e] at this
theorem r_low8i {a : Nat} {m : Int} {k0 : IntKind} (hx : ev E x = some (.int k0 m)) (hm : m = (a : Int)) (hs : (P.underlying T).isSome = true) (hd : P.underlying T' = some (.int .u8)) : Runs P N D E S (.convert T T' x) ty (.int .u8 ((UInt8.ofNat a).toNat : Int)) := by
  subst hm; exact r_low8 hx hs hd
/-- a byte as a number -/
theorem r_up64 {a : UInt8} (hx : ev E x = some (.int .u8 (a.toNat : Int))) (hs : (P.underlying T).isSome = true) (hd : P.underlying T' = some (.int .u64)) : Runs P N D E S (.convert T T' x) ty (.int .u64 ((a.toNat : Nat) : Int)) := by
  have := r_conv (P := P) (N := N) (D := D) (S := S) (ty := ty) hx hs hd
  have h1 := a.toNat_lt
  rwa [wrap_u64n (by omega)] at this
theorem r_int64 {a : Nat} (hx : ev E x = some (.int .u64 (a : Int))) (h : a ≤ 9223372036854775807) (hs : (P.underlying T).isSome = true) (hd : P.underlying T' = some (.int .i64)) : Runs P N D E S (.convert T T' x) ty (.int .i64 ((a : Nat) : Int)) := by
  have := r_conv (P := P) (N := N) (D := D) (S := S) (ty := ty) hx hs hd
  rwa [wrap_in (by omega)] at this
theorem r_natu64 {a : Nat} (hx : ev E x = some (.int .i64 m)) (hm : m = (a : Int)) (h : a ≤ 9223372036854775807) (hs : (P.underlying T).isSome = true) (hd : P.underlying T' = some (.int .u64)) : Runs P N D E S (.convert T T' x) ty (.int .u64 ((a : Nat) : Int)) := by
  have := r_conv (P := P) (N := N) (D := D) (S := S) (ty := ty) hx hs hd
  subst hm
  rwa [wrap_u64n (by omega)] at this
end
end Ex
end Go.Proofs.YtffpglgboaigfaaDoor
