/-
  The laws of the single operations: what each yields, and what it does to what is known of memory.
-/
import Derived.Test.YtffpglgboaigfaaDoorExec
import Derived.Great.BuildSlice
import Derived.Laws.Cover1
namespace Go.Proofs.YtffpglgboaigfaaDoor
namespace Ex
open Go.RowKit (wrap64)

/-! ## Facts on the program's types -/

/-- so many cells, so many bytes, its zero -/
def Inf (P : Program) (t : TypeId) (k bytes : Nat) (z : Value) : Prop := (P.info? t).map (fun i => (i.zero, i.size, i.bytes)) = some (some z, k, bytes)
theorem Inf.get {P : Program} {t : TypeId} {k bytes : Nat} {z : Value} (h : Inf P t k bytes z) : ∃ i, P.info? t = some i ∧ i.zero = some z ∧ i.size = k ∧ i.bytes = bytes := by
  unfold Inf at h
  cases hi : P.info? t with
  | none => simp [hi] at h
  | some i =>
    simp only [hi, Option.map_some, Option.some.injEq, Prod.mk.injEq] at h
    exact ⟨i, rfl, h.1, h.2.1, h.2.2⟩
/-- no struct, no array -/
def flatT (P : Program) (t : TypeId) : Bool := match P.underlying t with
  | some (.struct _) | some (.array _ _) | none => false
  | _ => true
def aggT (P : Program) (t : TypeId) : Bool := match P.underlying t with
  | some (.struct _) | some (.array _ _) => true
  | _ => false
/-- where a struct's field lies -/
def fldAt (P : Program) (s k : Nat) : Option Nat := match P.underlying s with
  | some (.struct fs) => match fs[k]? with
    | some f => match (P.info? f.type).map (·.size) with
      | some (_ + 1) => some f.offset
      | _ => none
    | none => none
  | _ => none
/-- a struct's places -/
def placesOf (P : Program) (t : TypeId) : Option (List (Nat × Nat)) := match P.underlying t with
  | some (.struct fs) => fs.toList.mapM fun f => (P.info? f.type).map fun i => (f.offset, i.size)
  | _ => none

theorem run_isAgg_flat {P : Program} {t : TypeId} (h : flatT P t = true) (w : World) : (isAgg t).run P w = .ok false w := by
  unfold flatT at h
  cases hd : P.underlying t with
  | none => simp [hd] at h
  | some d => cases d <;> first | (simp [hd] at h; done) | simp [isAgg, run_underlying hd]
theorem run_isAgg_agg {P : Program} {t : TypeId} (h : aggT P t = true) (w : World) : (isAgg t).run P w = .ok true w := by
  unfold aggT at h
  cases hd : P.underlying t with
  | none => simp [hd] at h
  | some d => cases d <;> first | (simp [hd] at h; done) | simp [isAgg, run_underlying hd]
theorem run_sizeOf' {P : Program} {t : TypeId} {k bytes : Nat} {z : Value} (h : Inf P t k bytes z) (w : World) : (sizeOf t).run P w = .ok k w := by
  obtain ⟨i, h1, _, h3, _⟩ := h.get
  simp [sizeOf, typeInfo, h1, h3]
theorem run_zeroValue' {P : Program} {t : TypeId} {k bytes : Nat} {z : Value} (h : Inf P t k bytes z) (w : World) : (zeroValue t).run P w = .ok z w := by
  obtain ⟨i, h1, h2, _, _⟩ := h.get
  simp [zeroValue, typeInfo, h1, h2]

/-! ## Operands -/
def evs (E : Env) : List Operand → Option (List Value)
  | [] => some []
  | x :: r => match ev E x, evs E r with
    | some v, some vs => some (v :: vs)
    | _, _ => none
def evp (E : Env) : List (Nat × Operand) → Option (List (Nat × Value))
  | [] => some []
  | x :: r => match ev E x.2, evp E r with
    | some v, some vs => some ((x.1, v) :: vs)
    | _, _ => none

section
variable {P : Program} {N : Nat} {D : List Deferred} {E : Env} {S : World → Prop} {a : Act}
theorem evs_map (ha : Has N D a E) : ∀ {l : List Operand} {vs : List Value}, evs E l = some vs → l.map a.eval = vs
  | [], vs, h => by simpa [evs] using h
  | x :: r, vs, h => by
    unfold evs at h
    cases h1 : ev E x with
    | none => simp [h1] at h
    | some v =>
      cases h2 : evs E r with
      | none => simp [h1, h2] at h
      | some us =>
        simp only [h1, h2, Option.some.injEq] at h
        rw [← h, List.map_cons, ha.eval h1, evs_map ha h2]
theorem evp_map (ha : Has N D a E) : ∀ {l : List (Nat × Operand)} {vs : List (Nat × Value)}, evp E l = some vs → l.map (fun x => (x.1, a.eval x.2)) = vs
  | [], vs, h => by simpa [evp] using h
  | x :: r, vs, h => by
    unfold evp at h
    cases h1 : ev E x.2 with
    | none => simp [h1] at h
    | some v =>
      cases h2 : evp E r with
      | none => simp [h1, h2] at h
      | some us =>
        simp only [h1, h2, Option.some.injEq] at h
        rw [← h, List.map_cons, ha.eval h1, evp_map ha h2]

/-! ## Values -/
variable {x y z c : Operand} {u v : Value} {k k' : IntKind} {m n : Int} {T T' ty : TypeId}

theorem r_move (hx : ev E x = some v) : Runs P N D E S (.move x) ty v := fun o ho _ a w ha _ => by unfold execOp; rw [ho]; simp [ha.eval hx]
theorem r_assign (hx : ev E x = some v) : Runs P N D E S (.assign x) ty v := fun o ho _ a w ha _ => by unfold execOp; rw [ho]; simp [ha.eval hx]
theorem r_pick {b : Bool} (hc : ev E c = some (.bool b)) (hv : (bif b then ev E x else ev E y) = some v) : Runs P N D E S (.pick c x y) ty v := fun o ho _ a w ha _ => by
  unfold execOp; rw [ho]
  cases b
  · simp [ha.eval hc, asBool, ha.eval (show ev E y = some v from hv)]
  · simp [ha.eval hc, asBool, ha.eval (show ev E x = some v from hv)]
theorem r_extract {i : Nat} {vs : List Value} (hx : ev E x = some (.tuple vs.toArray)) (hv : vs[i]? = some v) : Runs P N D E S (.extract x i) ty v := fun o ho _ a w ha _ => by
  unfold execOp; rw [ho]
  simp [ha.eval hx, Instr.extract, hv]
theorem r_nilCheck {ad : Addr} (hx : ev E x = some (.pointer (some ad))) : Runs P N D E S (.nilCheck x) ty (.pointer (some ad)) := fun o ho _ a w ha _ => by
  unfold execOp; rw [ho]
  simp [ha.eval hx]

theorem ibeq (m n : Int) : (m == n) = decide (m = n) := by by_cases h : m = n <;> simp [h]
section
variable (hx : ev E x = some (.int k m)) (hy : ev E y = some (.int k n))
include hx hy
theorem r_add : Runs P N D E S (.binOp .add T x y T') ty (.int k (k.wrap (m + n))) := fun o ho _ a w ha _ => by unfold execOp; rw [ho]; simp [ha.eval hx, ha.eval hy, eqGuard_at_int, binOp_add, Op.intArith]
theorem r_sub : Runs P N D E S (.binOp .sub T x y T') ty (.int k (k.wrap (m - n))) := fun o ho _ a w ha _ => by unfold execOp; rw [ho]; simp [ha.eval hx, ha.eval hy, eqGuard_at_int, binOp_sub, Op.intArith]
theorem r_mul : Runs P N D E S (.binOp .mul T x y T') ty (.int k (k.wrap (m * n))) := fun o ho _ a w ha _ => by unfold execOp; rw [ho]; simp [ha.eval hx, ha.eval hy, eqGuard_at_int, binOp_mul, Op.intArith]
theorem r_quo (h0 : n ≠ 0) : Runs P N D E S (.binOp .quo T x y T') ty (.int k (k.wrap (m.tdiv n))) := fun o ho _ a w ha _ => by unfold execOp; rw [ho]; simp [ha.eval hx, ha.eval hy, eqGuard_at_int, binOp_quo, Op.intDiv, h0]
theorem r_rem (h0 : n ≠ 0) : Runs P N D E S (.binOp .rem T x y T') ty (.int k (m.tmod n)) := fun o ho _ a w ha _ => by unfold execOp; rw [ho]; simp [ha.eval hx, ha.eval hy, eqGuard_at_int, binOp_rem, Op.intDiv, h0]
theorem r_lss : Runs P N D E S (.binOp .lss T x y T') ty (.bool (decide (m < n))) := fun o ho _ a w ha _ => by unfold execOp; rw [ho]; simp [ha.eval hx, ha.eval hy, eqGuard_at_int, binOp_lss]
theorem r_leq : Runs P N D E S (.binOp .leq T x y T') ty (.bool (decide (m ≤ n))) := fun o ho _ a w ha _ => by unfold execOp; rw [ho]; simp [ha.eval hx, ha.eval hy, eqGuard_at_int, binOp_leq]
theorem r_gtr : Runs P N D E S (.binOp .gtr T x y T') ty (.bool (decide (n < m))) := fun o ho _ a w ha _ => by unfold execOp; rw [ho]; simp [ha.eval hx, ha.eval hy, eqGuard_at_int, binOp_gtr]
theorem r_geq : Runs P N D E S (.binOp .geq T x y T') ty (.bool (decide (n ≤ m))) := fun o ho _ a w ha _ => by unfold execOp; rw [ho]; simp [ha.eval hx, ha.eval hy, eqGuard_at_int, binOp_geq]
theorem r_eql : Runs P N D E S (.binOp .eql T x y T') ty (.bool (decide (m = n))) := fun o ho _ a w ha _ => by
  unfold execOp; rw [ho]; simp [ha.eval hx, ha.eval hy, eqGuard_at_int, binOp_eql, ibeq]
theorem r_neq : Runs P N D E S (.binOp .neq T x y T') ty (.bool (decide (m ≠ n))) := fun o ho _ a w ha _ => by
  unfold execOp; rw [ho]; simp [ha.eval hx, ha.eval hy, eqGuard_at_int, binOp_neq, bne, ibeq]
theorem r_min : Runs P N D E S (.call { callee := .builtin .min, args := #[x, y], argTypes := #[T, T'] }) ty (.int k (if n < m then n else m)) := fun o ho hty a w ha _ => by
  unfold execOp; rw [ho]; simp [resolve, invoke, builtin, Builtin.min_, ha.eval hx, ha.eval hy, Builtin.min2]
theorem r_max : Runs P N D E S (.call { callee := .builtin .max, args := #[x, y], argTypes := #[T, T'] }) ty (.int k (if m < n then n else m)) := fun o ho hty a w ha _ => by
  unfold execOp; rw [ho]; simp [resolve, invoke, builtin, Builtin.max_, ha.eval hx, ha.eval hy, Builtin.max2]
end
theorem wrap_in {n : Int} (h : -9223372036854775808 ≤ n ∧ n ≤ 9223372036854775807) : IntKind.i64.wrap n = n := IntWalk.i64_in n h
section
variable (hx : ev E x = some (.int .i64 m)) (hy : ev E y = some (.int .i64 n))
include hx hy
theorem r_addn (h : -9223372036854775808 ≤ m + n ∧ m + n ≤ 9223372036854775807) : Runs P N D E S (.binOp .add T x y T') ty (.int .i64 (m + n)) := by have := r_add (P := P) (N := N) (D := D) (S := S) (T := T) (T' := T') (ty := ty) hx hy; rwa [wrap_in h] at this
theorem r_subn (h : -9223372036854775808 ≤ m - n ∧ m - n ≤ 9223372036854775807) : Runs P N D E S (.binOp .sub T x y T') ty (.int .i64 (m - n)) := by have := r_sub (P := P) (N := N) (D := D) (S := S) (T := T) (T' := T') (ty := ty) hx hy; rwa [wrap_in h] at this
theorem r_muln (h : -9223372036854775808 ≤ m * n ∧ m * n ≤ 9223372036854775807) : Runs P N D E S (.binOp .mul T x y T') ty (.int .i64 (m * n)) := by have := r_mul (P := P) (N := N) (D := D) (S := S) (T := T) (T' := T') (ty := ty) hx hy; rwa [wrap_in h] at this
theorem r_quon (hm : 0 ≤ m ∧ m ≤ 9223372036854775807) (hn : 0 < n) : Runs P N D E S (.binOp .quo T x y T') ty (.int .i64 (m / n)) := by
  have h1 := r_quo (P := P) (N := N) (D := D) (S := S) (T := T) (T' := T') (ty := ty) hx hy (by omega)
  have h2 : m.tdiv n = m / n := Int.tdiv_eq_ediv_of_nonneg hm.1
  have h3 : 0 ≤ m / n := Int.ediv_nonneg hm.1 (by omega)
  have h4 : m / n ≤ m := Int.ediv_le_self _ hm.1
  rwa [h2, wrap_in (by omega)] at h1
theorem r_remn (hm : 0 ≤ m) (hn : 0 < n) : Runs P N D E S (.binOp .rem T x y T') ty (.int .i64 (m % n)) := by
  have h1 := r_rem (P := P) (N := N) (D := D) (S := S) (T := T) (T' := T') (ty := ty) hx hy (by omega)
  rwa [Int.tmod_eq_emod_of_nonneg hm] at h1
end
theorem r_not {p : Prop} [Decidable p] (hx : ev E x = some (.bool (decide p))) : Runs P N D E S (.unOp .not T x) ty (.bool (decide (¬ p))) := fun o ho _ a w ha _ => by unfold execOp; rw [ho]; simp [ha.eval hx, Op.unary]
theorem r_notb {b : Bool} (hx : ev E x = some (.bool b)) : Runs P N D E S (.unOp .not T x) ty (.bool (!b)) := fun o ho _ a w ha _ => by unfold execOp; rw [ho]; simp [ha.eval hx, Op.unary]
theorem r_neg (hx : ev E x = some (.int .i64 m)) (h : -9223372036854775807 ≤ m ∧ m ≤ 9223372036854775807) : Runs P N D E S (.unOp .neg T x) ty (.int .i64 (-m)) := fun o ho _ a w ha _ => by
  unfold execOp; rw [ho]; simp [ha.eval hx, Op.unary, Op.intArith, wrap_in (n := -m) (by omega)]
theorem r_conv (hx : ev E x = some (.int k m)) (hs : (P.underlying T).isSome = true) (hd : P.underlying T' = some (.int k')) : Runs P N D E S (.convert T T' x) ty (.int k' (k'.wrap m)) := fun o ho _ a w ha _ => by
  obtain ⟨d, hd'⟩ := Option.isSome_iff_exists.mp hs
  unfold execOp; rw [ho]; simp [ha.eval hx, convert, run_underlying hd', run_underlying hd, Conv.intToInt]

/-! ## Strings -/
section
variable {s t : ByteArray}
theorem beq_dec (s t : ByteArray) : (s.toList == t.toList) = decide (s = t) := by
  by_cases h : s = t
  · subst h; simp
  · have : ¬ s.toList = t.toList := fun e => h (by
      rw [ByteArray.toList_eq, ByteArray.toList_eq] at e
      obtain ⟨⟨x⟩⟩ := s
      obtain ⟨⟨y⟩⟩ := t
      simp at e
      rw [e])
    simp [h, this]
section
variable (hx : ev E x = some (.string s)) (hy : ev E y = some (.string t))
include hx hy
theorem r_seql : Runs P N D E S (.binOp .eql T x y T') ty (.bool (decide (s = t))) := fun o ho _ a w ha _ => by
  unfold execOp; rw [ho]; simp only [ha.eval hx, ha.eval hy, eqGuard_at_string]; simp [binOp, Op.stringOp, beq_dec]
theorem r_sneq : Runs P N D E S (.binOp .neq T x y T') ty (.bool (decide (s ≠ t))) := fun o ho _ a w ha _ => by
  unfold execOp; rw [ho]; simp only [ha.eval hx, ha.eval hy, eqGuard_at_string]; simp [binOp, Op.stringOp, beq_dec]
theorem r_slss : Runs P N D E S (.binOp .lss T x y T') ty (.bool (Op.bytesLess s.toList t.toList)) := fun o ho _ a w ha _ => by
  unfold execOp; rw [ho]; simp only [ha.eval hx, ha.eval hy, eqGuard_at_string]; simp [binOp, Op.stringOp]
theorem r_sgtr : Runs P N D E S (.binOp .gtr T x y T') ty (.bool (!(Op.bytesLess s.toList t.toList || decide (s = t)))) := fun o ho _ a w ha _ => by
  unfold execOp; rw [ho]; simp only [ha.eval hx, ha.eval hy, eqGuard_at_string]; simp [binOp, Op.stringOp, beq_dec]
theorem r_sgeq : Runs P N D E S (.binOp .geq T x y T') ty (.bool (!(Op.bytesLess s.toList t.toList))) := fun o ho _ a w ha _ => by
  unfold execOp; rw [ho]; simp only [ha.eval hx, ha.eval hy, eqGuard_at_string]; simp [binOp, Op.stringOp]
theorem r_sleq : Runs P N D E S (.binOp .leq T x y T') ty (.bool (Op.bytesLess s.toList t.toList || decide (s = t))) := fun o ho _ a w ha _ => by
  unfold execOp; rw [ho]; simp only [ha.eval hx, ha.eval hy, eqGuard_at_string]; simp [binOp, Op.stringOp, beq_dec]
theorem r_sadd (h : s.size + t.size ≤ 9223372036854775807) : Runs P N D E S (.binOp .add T x y T') ty (.string (s ++ t)) := fun o ho _ a w ha _ => by
  unfold execOp; rw [ho]; simp only [ha.eval hx, ha.eval hy, eqGuard_at_string]
  have h' : ¬ ((s.size : Int) + t.size > 9223372036854775807) := by omega
  simp [binOp, Op.stringOp, h']
end
theorem r_slen (hx : ev E x = some (.string s)) (hu : P.underlying T = some .string) : Runs P N D E S (.call { callee := .builtin .len, args := #[x], argTypes := #[T] }) ty (.int .i64 s.size) := fun o ho hty a w ha _ => by
  unfold execOp; rw [ho]; simp [resolve, invoke, builtin, ha.eval hx, Builtin.len_, run_underlying hu, goInt]
theorem r_sidx {i : Nat} {b : UInt8} (hx : ev E x = some (.string s)) (hy : ev E y = some (.int k m)) (hm : m = (i : Int)) (hi : s[i]? = some b) (hu : P.underlying T = some .string) : Runs P N D E S (.index T x y) ty (.int .u8 b.toNat) := fun o ho hty a w ha _ => by
  unfold execOp; rw [ho]; subst hm; simp [ha.eval hx, ha.eval hy, Instr.index, asIntOf, run_underlying hu, hi]
theorem r_sslice_l {l : Nat} (hx : ev E x = some (.string s)) (hy : ev E y = some (.int k m)) (hm : m = (l : Int)) (hl : l ≤ s.size) (hu : P.underlying T = some .string) : Runs P N D E S (.slice T x (some y) none none) ty (.string (s.extract l s.size)) := fun o ho hty a w ha _ => by
  unfold execOp; rw [ho]; subst hm
  simp only [ha.eval hx, ha.eval hy, Option.map_some, Option.map_none, Sem.run_bind, run_sliceAt_string w T _ _ _ _ hu, run_slice_string_l w T s hu k l (by omega) (by omega), Result.andThen_ok, Sem.run_pure, Int.toNat_natCast]
theorem r_sslice_h {h : Nat} (hx : ev E x = some (.string s)) (hz : ev E z = some (.int k n)) (hn : n = (h : Int)) (hh : h ≤ s.size) (hu : P.underlying T = some .string) : Runs P N D E S (.slice T x none (some z) none) ty (.string (s.extract 0 h)) := fun o ho hty a w ha _ => by
  unfold execOp; rw [ho]; subst hn
  simp only [ha.eval hx, ha.eval hz, Option.map_some, Option.map_none, Sem.run_bind, run_sliceAt_string w T _ _ _ _ hu, run_slice_string_h w T s hu k h (by omega) (by omega), Result.andThen_ok, Sem.run_pure, Int.toNat_natCast]
theorem r_sslice_lh {l h : Nat} (hx : ev E x = some (.string s)) (hy : ev E y = some (.int k m)) (hm : m = (l : Int)) (hz : ev E z = some (.int k' n)) (hn : n = (h : Int)) (hl : l ≤ h) (hh : h ≤ s.size) (hu : P.underlying T = some .string) :
    Runs P N D E S (.slice T x (some y) (some z) none) ty (.string (s.extract l h)) := fun o ho hty a w ha _ => by
  unfold execOp; rw [ho]; subst hm hn
  simp only [ha.eval hx, ha.eval hy, ha.eval hz, Option.map_some, Option.map_none, Sem.run_bind, run_sliceAt_string w T _ _ _ _ hu]
  simp [Instr.slice, run_underlying hu, Instr.sliceBounds, Instr.sliceBound, asIntOf, hl, hh]
end

/-! ## Slices, fields, addresses -/
section
variable {A : Option Addr} {len cap : Nat} {ad : Addr}
theorem r_len (hx : ev E x = some (.slice A len cap)) (hu : P.underlying T = some (.slice T')) : Runs P N D E S (.call { callee := .builtin .len, args := #[x], argTypes := #[T] }) ty (.int .i64 len) := fun o ho hty a w ha _ => by
  unfold execOp; rw [ho]; simp [resolve, invoke, builtin, ha.eval hx, Builtin.len_, run_underlying hu, goInt]
theorem r_field {fs : Nat} {cs : List Value} {off : Nat} (hx : ev E x = some (.agg cs.toArray)) (hf : fldAt P T fs = some off) (hk : ∀ f, (match P.underlying T with | some (.struct l) => l[fs]? | _ => none) = some f → flatT P f.type = true) (hv : cs[off]? = some v) : Runs P N D E S (.field T x fs) ty v := fun o ho _ a w ha _ => by
  unfold execOp; rw [ho]
  unfold fldAt at hf
  cases hu : P.underlying T with
  | none => simp [hu] at hf
  | some d =>
    cases d <;> try (simp [hu] at hf; done)
    rename_i l
    simp only [hu] at hf
    cases hl : l[fs]? with
    | none => simp [hl] at hf
    | some f =>
      simp only [hl] at hf
      have hfl := hk f (by simp [hu, hl])
      have ho : f.offset = off := by
        cases hs : (P.info? f.type).map (·.size) with
        | none => simp [hs] at hf
        | some q => cases q <;> simp [hs] at hf; exact hf
      subst ho
      simp [ha.eval hx, Instr.field, run_underlying hu, hl, asAgg, part, run_isAgg_flat hfl, hv]
theorem run_fieldAt {s fs off : Nat} (hf : fldAt P s fs = some off) (w : World) : (Instr.fieldAt s (.pointer (some ad)) fs).run P w = .ok (.pointer (some (ad.add off))) w := by
  unfold fldAt at hf
  cases hu : P.underlying s with
  | none => simp [hu] at hf
  | some d =>
    cases d <;> try (simp [hu] at hf; done)
    rename_i l
    simp only [hu] at hf
    cases hl : l[fs]? with
    | none => simp [hl] at hf
    | some f =>
      simp only [hl] at hf
      cases hi : P.info? f.type with
      | none => simp [hi] at hf
      | some i =>
        cases hs : i.size with
        | zero => simp [hi, hs] at hf
        | succ q =>
          simp only [hi, Option.map_some, hs, Option.some.injEq] at hf
          subst hf
          simp [Instr.fieldAt, run_underlying hu, hl, Instr.sureAddr, fieldPlace, sizeOf, typeInfo, hi, hs]
theorem add_lit (b o n : Nat) : Addr.add ⟨b, o, none⟩ n = ⟨b, o + n, none⟩ := Addr.add_lit b o n
theorem add_add (ad : Addr) (i j : Nat) : (ad.add i).add j = ad.add (i + j) := by
  unfold Addr.add
  by_cases hi : i = 0 <;> by_cases hj : j = 0 <;> simp [hi, hj, Nat.add_assoc]
theorem add_block (ad : Addr) (n : Nat) : (ad.add n).block = ad.block := by unfold Addr.add; split <;> rfl
/-- a field of a block of the call's own -/
theorem r_fa {b o fs off : Nat} (hx : ev E x = some (.pointer (some ⟨b, o, none⟩))) (hf : fldAt P T fs = some off) : Runs P N D E S (.fieldAddr T x fs) ty (.pointer (some ⟨b, o + off, none⟩)) := fun p hp _ a w ha _ => by
  unfold execOp; rw [hp]; simp [ha.eval hx, run_fieldAt hf, add_lit]
/-- a field of an element -/
theorem r_fe {i o fs off : Nat} (hx : ev E x = some (.pointer (some ((ad.add i).add o)))) (hf : fldAt P T fs = some off) : Runs P N D E S (.fieldAddr T x fs) ty (.pointer (some ((ad.add i).add (o + off)))) := fun p hp _ a w ha _ => by
  unfold execOp; rw [hp]; simp [ha.eval hx, run_fieldAt hf, add_add, Nat.add_assoc]
theorem r_ia {i k1 by1 : Nat} {z1 : Value} (hx : ev E x = some (.slice A len cap)) (hA : A = some ad) (hy : ev E y = some (.int k m)) (hm : m = (i : Int)) (hi : i < len) (hu : P.underlying T = some (.slice T')) (hs : Inf P T' k1 by1 z1) :
    Runs P N D E S (.indexAddr T x y) ty (.pointer (some ((ad.add (i * k1)).add 0))) := fun p hp _ a w ha _ => by
  unfold execOp; rw [hp]; subst hA hm
  simp [ha.eval hx, ha.eval hy, Instr.indexAt, asIntOf, run_underlying hu, hi, run_sizeOf' hs, Addr.add_zero']

/-! ## Loads -/
theorem r_load1 (hx : ev E x = some (.pointer (some ad))) (hf : flatT P T = true) (hc : ∀ w, S w → w.cell? ad = some v) : Runs P N D E S (.load T x) ty v := fun p hp _ a w ha hS => by
  unfold execOp; rw [hp]; simp [ha.eval hx, Instr.loadAt, Instr.sureAddr, loadVar, run_isAgg_flat hf, hc w hS]
theorem r_loadn {k1 by1 : Nat} {z1 : Value} (cs : List Value) (hx : ev E x = some (.pointer (some ad))) (hg : aggT P T = true) (hs : Inf P T k1 by1 z1) (hl : cs.length = k1) (hc : ∀ w, S w → ∀ (j : Nat) u, cs[j]? = some u → w.cell? (ad.add j) = some u) :
    Runs P N D E S (.load T x) ty (.agg cs.toArray) := fun p hp _ a w ha hS => by
  subst hl
  unfold execOp; rw [hp]; simp [ha.eval hx, Instr.loadAt, Instr.sureAddr, loadVar, run_isAgg_agg hg, run_sizeOf' hs, run_loadCells_list w ad cs (hc w hS)]
end
section
variable {w0 : World} {M : Fp} {L : List Own}
theorem Mem.cell {w : World} (h : Mem w0 M L w) {i b j : Nat} {cs : List Value} {t : TypeId} (hi : L[i]? = some (.blk b cs t)) : w.cell? ⟨b, j, none⟩ = cs[j]? := by
  rw [cell_of_row w b j _ t (0, 0) (h.blk hi)]; simp
/-- out of a block of the call's own -/
theorem r_lb (i : Nat) {b j : Nat} {cs : List Value} {t : TypeId} (hx : ev E x = some (.pointer (some ⟨b, j, none⟩))) (hL : L[i]? = some (.blk b cs t)) (hv : cs[j]? = some v) (hf : flatT P T = true) : Runs P N D E (Mem w0 M L) (.load T x) ty v :=
  r_load1 hx hf fun _ h => (h.cell hL).trans hv
theorem r_lbn (i : Nat) {b j k1 by1 : Nat} {z1 : Value} {cs : List Value} {t : TypeId} (vs : List Value) (hx : ev E x = some (.pointer (some ⟨b, j, none⟩))) (hL : L[i]? = some (.blk b cs t)) (hv : (cs.drop j).take k1 = vs) (hl : vs.length = k1) (hg : aggT P T = true) (hs : Inf P T k1 by1 z1) :
    Runs P N D E (Mem w0 M L) (.load T x) ty (.agg vs.toArray) :=
  r_loadn vs hx hg hs hl fun _ h q u hu => by
    rw [add_lit, h.cell hL]
    rw [← hv, List.getElem?_take] at hu
    split at hu
    · simpa using hu
    · cases hu
end

/-! ## Structs -/
def splice (cs : List Value) (o : Nat) (vs : List Value) : List Value := cs.take o ++ (vs ++ cs.drop (o + vs.length))
def bfill (pl : List (Nat × Nat)) : List Value → List (Nat × Value) → Option (List Value)
  | cs, [] => some cs
  | cs, p :: r => match pl[p.1]? with
    | none => none
    | some q => match Nat.beq p.2.cells.toList.length q.2, Nat.ble (q.1 + p.2.cells.toList.length) cs.length with
      | true, true => bfill pl (splice cs q.1 p.2.cells.toList) r
      | _, _ => none
theorem foldl_splice (off : Nat) : ∀ (vs : List Value) (j : Nat) (cs : List Value), off + j + vs.length ≤ cs.length →
    (vs.zipIdx j).foldl (fun (cs : Array Value) (x : Value × Nat) => cs.setIfInBounds (off + x.2) x.1) cs.toArray = (splice cs (off + j) vs).toArray
  | [], j, cs, _ => by simp [splice]
  | v :: r, j, cs, h => by
    simp only [List.length_cons] at h
    simp only [List.zipIdx_cons, List.foldl_cons]
    have e : (cs.toArray.setIfInBounds (off + j) v) = (cs.set (off + j) v).toArray := by simp
    rw [e, foldl_splice off r (j + 1) _ (by simp; omega)]
    congr 1
    have := list_seg_step cs (off + j) v r (by omega)
    simp only [splice, ← List.append_assoc]
    simpa [Nat.add_assoc] using this
theorem bfill_fill (pl : List (Nat × Nat)) : ∀ (parts : List (Nat × Value)) (cs cs' : List Value), bfill pl cs parts = some cs' → Instr.fill (fun i => pl.toArray[i]?) cs.toArray parts = some cs'.toArray
  | [], cs, cs', h => by simp [bfill] at h; simp [Instr.fill, h]
  | p :: r, cs, cs', h => by
    obtain ⟨i, v⟩ := p
    unfold bfill at h
    unfold Instr.fill
    dsimp only at h ⊢
    have e0 : pl.toArray[i]? = pl[i]? := by simp
    rw [e0]
    cases hq : pl[i]? with
    | none => rw [hq] at h; cases h
    | some q =>
      obtain ⟨off, size⟩ := q
      rw [hq] at h
      dsimp only at h ⊢
      cases h1 : Nat.beq v.cells.toList.length size with
      | false => rw [h1] at h; cases h
      | true =>
        cases h2 : Nat.ble (off + v.cells.toList.length) cs.length with
        | false => rw [h1, h2] at h; cases h
        | true =>
          rw [h1, h2] at h
          have e1 : v.cells.size = size := by simpa using Nat.eq_of_beq_eq_true h1
          have e2 : off + v.cells.size ≤ cs.length := by simpa using Nat.le_of_ble_eq_true h2
          have hc : ¬ ((decide (v.cells.size ≠ size) || decide (off + v.cells.size > cs.toArray.size)) = true) := by simp; omega
          rw [if_neg hc, ← bfill_fill pl r _ cs' h]
          have := foldl_splice off v.cells.toList 0 cs (by simpa using e2)
          simp only [Nat.add_zero] at this
          rw [← this, ← Array.foldl_toList]
          simp
theorem r_build {pl : List (Nat × Nat)} {parts : Array (Nat × Operand)} {ps : List (Nat × Value)} {k1 by1 : Nat} {zs : List Value} (cs : List Value) (hp : placesOf P T = some pl) (hs : Inf P T k1 by1 (.agg zs.toArray)) (he : evp E parts.toList = some ps) (hf : bfill pl zs ps = some cs) :
    Runs P N D E S (.build T parts) ty (.agg cs.toArray) := fun o ho _ a w ha _ => by
  unfold execOp; rw [ho]
  have h1 : (parts.map fun (i, x) => (i, a.eval x)).toList = ps := by
    rw [Array.toList_map]; exact evp_map ha he
  have h2 : P.built T ps = some cs.toArray := by
    obtain ⟨i, e1, e2, e3, _⟩ := hs.get
    unfold placesOf at hp
    cases hu : P.underlying T with
    | none => simp [hu] at hp
    | some d =>
      cases d <;> try (simp [hu] at hp; done)
      rename_i fs
      simp only [hu] at hp
      unfold Program.built
      simp only [e1, hu, e2, hp]
      exact bfill_fill pl ps zs cs hf
  simp only [Sem.run_bind, run_build w T _ _ (by rw [h1]; exact h2), Result.andThen_ok, Sem.run_pure]
end

end Ex
end Go.Proofs.YtffpglgboaigfaaDoor
