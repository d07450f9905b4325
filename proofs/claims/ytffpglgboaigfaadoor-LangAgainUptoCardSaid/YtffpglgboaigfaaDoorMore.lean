/-
  More step laws: short names for the printed walks, slice literals, comparisons of structs, function values.
-/
import Derived.Test.YtffpglgboaigfaaDoorData
namespace Go.Proofs.YtffpglgboaigfaaDoor
namespace Ex

variable {P : Program} {N : Nat} {D : List Deferred} {E E' : Env} {S : World → Prop} {Q : Exit → Act → World → Prop} {K : Act → World → Prop}
  {w0 : World} {M : Fp} {L : List Own}
  {ops : Array Oper} {rest l : List Oper} {d t : Nat} {dst : Option Tmp} {op : Op} {ty T T' : TypeId} {pos : String} {aft : Array Edge} {g : Option (Nat × Bool)} {v u : Value} {x y z : Operand} {p q : Prop} {b : Bool}

theorem jpb {b : Bool} {q : Prop} [Decidable q] (h : b = true ↔ q) : some (Value.bool b) = some (Value.bool (decide q)) := by
  cases b <;> simp_all
theorem sn : subB E [] := trivial
theorem sc (h : look E t = some v) (r : subB E E') : subB E ((t, v) :: E') := ⟨h, r⟩
theorem q_end (h : WE N D Q .normal E S) : WQ P N D ops (Q .normal) [] E S := fun a ha => wpQuiet_nil (fun w' hw' => h w' hw' a ha)

theorem over (h0 : look E t = some v) (hv : v = u) {a : Act} (ha : Has N D a E) : Has N D a ((t, u) :: E) := ⟨ha.d, ha.n, fun s r hr => by
  rw [look_cons] at hr
  by_cases e : t = s
  · rw [if_pos e] at hr; rw [← e, ha.h t _ h0, hv]; simpa using hr
  · rw [if_neg e] at hr; exact ha.h s r hr⟩
section
variable [Decidable p]
theorem l_litt (hl : look E t = some (.bool (decide p))) (hp : p) (h : WL P N D ops Q l ((t, .bool true) :: E) S) : WL P N D ops Q l E S := fun w hS a ha => h w hS a (over hl (by simp [hp]) ha)
theorem l_litf (hl : look E t = some (.bool (decide p))) (hp : ¬ p) (h : WL P N D ops Q l ((t, .bool false) :: E) S) : WL P N D ops Q l E S := fun w hS a ha => h w hS a (over hl (by simp [hp]) ha)
theorem q_litt (hl : look E t = some (.bool (decide p))) (hp : p) (h : WQ P N D ops K l ((t, .bool true) :: E) S) : WQ P N D ops K l E S := fun a ha => h a (over hl (by simp [hp]) ha)
theorem q_litf (hl : look E t = some (.bool (decide p))) (hp : ¬ p) (h : WQ P N D ops K l ((t, .bool false) :: E) S) : WQ P N D ops K l E S := fun a ha => h a (over hl (by simp [hp]) ha)
end
theorem l_littb (hl : look E t = some (.bool b)) (hb : b = true) (h : WL P N D ops Q l ((t, .bool true) :: E) S) : WL P N D ops Q l E S := fun w hS a ha => h w hS a (over hl (by simp [hb]) ha)
theorem l_litfb (hl : look E t = some (.bool b)) (hb : ¬ b = true) (h : WL P N D ops Q l ((t, .bool false) :: E) S) : WL P N D ops Q l E S := fun w hS a ha => h w hS a (over hl (by simp [hb]) ha)
theorem q_littb (hl : look E t = some (.bool b)) (hb : b = true) (h : WQ P N D ops K l ((t, .bool true) :: E) S) : WQ P N D ops K l E S := fun a ha => h a (over hl (by simp [hb]) ha)
theorem q_litfb (hl : look E t = some (.bool b)) (hb : ¬ b = true) (h : WQ P N D ops K l ((t, .bool false) :: E) S) : WQ P N D ops K l E S := fun a ha => h a (over hl (by simp [hb]) ha)
theorem l_caseb (hl : look E t = some (.bool b)) (h1 : b = true → WL P N D ops Q l ((t, .bool true) :: E) S) (h2 : ¬ b = true → WL P N D ops Q l ((t, .bool false) :: E) S) : WL P N D ops Q l E S := by
  by_cases hb : b = true
  · exact l_littb hl hb (h1 hb)
  · exact l_litfb hl hb (h2 hb)
theorem q_caseb (hl : look E t = some (.bool b)) (h1 : b = true → WQ P N D ops K l ((t, .bool true) :: E) S) (h2 : ¬ b = true → WQ P N D ops K l ((t, .bool false) :: E) S) : WQ P N D ops K l E S := by
  by_cases hb : b = true
  · exact q_littb hl hb (h1 hb)
  · exact q_litfb hl hb (h2 hb)

theorem iff_or_right {q : Prop} {a b : Prop} (h : ¬ a) (e : q ↔ b) : q ↔ a ∨ b := ⟨fun k => .inr (e.1 k), fun k => e.2 (k.resolve_left h)⟩
theorem iff_and_right {q : Prop} {a b : Prop} (h : a) (e : q ↔ b) : q ↔ a ∧ b := ⟨fun k => ⟨h, e.1 k⟩, fun k => e.2 k.2⟩
theorem iff_ite_l {q : Prop} {a b c : Prop} (h : a) (e : q ↔ b) : q ↔ (a ∧ b) ∨ (¬ a ∧ c) := ⟨fun k => .inl ⟨h, e.1 k⟩, fun k => k.elim (fun x => e.2 x.2) (fun x => absurd h x.1)⟩
theorem iff_ite_r {q : Prop} {a b c : Prop} (h : ¬ a) (e : q ↔ c) : q ↔ (a ∧ b) ∨ (¬ a ∧ c) := ⟨fun k => .inr ⟨h, e.1 k⟩, fun k => k.elim (fun x => absurd x.1 h) (fun x => e.2 x.2)⟩

/-! ## What a call is handed -/
def dOk (P0 : Nat → Prop) (o : Own) (w : World) : Prop := o.mut = false ∧ o.holds w ∧ (∀ b, o.fp b → b < w.heap.size) ∧ ∀ F, o = .pub F → F P0 w
def datsL (P0 : Nat → Prop) : List Own → World → Prop
  | [], _ => True
  | o :: r, w => dOk P0 o w ∧ datsL P0 r w
theorem dn {P0 : Nat → Prop} {w : World} : datsL P0 [] w := trivial
theorem dc {P0 : Nat → Prop} {w : World} {o : Own} (h : dOk P0 o w) (r : datsL P0 L w) : datsL P0 (o :: L) w := ⟨h, r⟩
theorem dl {P0 : Nat → Prop} {w : World} {α : Type} {k : Nat} {enc : α → List Value} {l : List α} (h : FlatSl (In w) k enc v l w) : dOk P0 (slO (In w) k enc v l) w := ⟨rfl, slO.holds_ h, fun _ hb => hb, fun F hF => by cases hF⟩
theorem dp {P0 : Nat → Prop} {w : World} {F : (Nat → Prop) → World → Prop} (hl : Loc F) (h : F P0 w) : dOk P0 (.pub F) w := ⟨rfl, hl, fun _ hb => hb.elim, fun G hG => by cases hG; exact h⟩
theorem dlp {P0 : Nat → Prop} {w : World} {α : Type} {k : Nat} {enc : α → List Value} {l : List α} (h : FlatSl P0 k enc v l w) : dOk P0 (slP k enc v l) w := dp (FlatSl.loc _ _ _ _) h
theorem datsL.at {P0 : Nat → Prop} {w : World} : ∀ {L : List Own}, datsL P0 L w → ∀ (i : Nat) (o : Own), L[i]? = some o → dOk P0 o w
  | [], _, i, o, hi => by simp at hi
  | p :: r, h, i, o, hi => by
    cases i with
    | zero => obtain rfl : p = o := by simpa using hi
              exact h.1
    | succ i => exact datsL.at h.2 i o (by simpa using hi)
theorem Mem.ofDatsP {P0 : Nat → Prop} {w : World} (hP : ∀ b, P0 b → b < w.heap.size) (h : datsL P0 L w) : Mem w ⟨no, P0⟩ L w := Mem.args hP fun i o hi => h.at i o hi
theorem Mem.ofDats {w : World} (h : datsL (fun _ => False) L w) : Mem w no L w := Mem.ofDatsP (fun _ h => h.elim) h

theorem ret_ok {p : Nat → Prop} {w w1 : World} (h : u = v) (hM : Mem w ⟨no, p⟩ L w1) : Ret w v (.returned u) w1 := ⟨by rw [h], hM.fr⟩
theorem ret_agg {p : Nat → Prop} {w w1 : World} {l1 l2 : List Value} (h : l1 = l2) (hM : Mem w ⟨no, p⟩ L w1) : Ret w (.agg l2.toArray) (.returned (.agg l1.toArray)) w1 := ⟨by rw [h], hM.fr⟩

/-! ## Struct values' fields -/
def fldTy (P : Program) (s k : Nat) : Option TypeId := match P.underlying s with
  | some (.struct fs) => (fs[k]?).map (·.type)
  | _ => none
theorem fldTy_spec {s k : Nat} {e : TypeId} (h : fldTy P s k = some e) {f : Field} (hf : (match P.underlying s with | some (.struct l) => l[k]? | _ => none) = some f) : f.type = e := by
  unfold fldTy at h
  cases hu : P.underlying s with
  | none => simp [hu] at h
  | some d => cases d <;> simp_all
theorem r_fieldv {fs off : Nat} {e : TypeId} {cs : List Value} (hx : ev E x = some (.agg cs.toArray)) (hf : fldAt P T fs = some off) (ht : fldTy P T fs = some e) (hk : flatT P e = true) (hv : cs[off]? = some v) : Runs P N D E S (.field T x fs) ty v :=
  r_field hx hf (fun f hf => by rw [fldTy_spec ht hf]; exact hk) hv
theorem r_fieldn {fs off k by1 : Nat} {e : TypeId} {z1 : Value} {cs : List Value} (vs : List Value) (hx : ev E x = some (.agg cs.toArray)) (hf : fldAt P T fs = some off) (ht : fldTy P T fs = some e) (hk : aggT P e = true) (hs : Inf P e k by1 z1) (hv : (cs.drop off).take k = vs) : Runs P N D E S (.field T x fs) ty (.agg vs.toArray) := fun o ho _ a w ha _ => by
  unfold execOp; rw [ho]
  unfold fldAt at hf
  unfold fldTy at ht
  cases hu : P.underlying T with
  | none => simp [hu] at hf
  | some d =>
    cases d <;> try (simp [hu] at hf; done)
    rename_i fl
    simp only [hu] at hf ht
    cases hfl : fl[fs]? with
    | none => simp [hfl] at hf
    | some f =>
      simp only [hfl] at hf ht
      have hte : f.type = e := by simpa using ht
      have ho : f.offset = off := by
        cases hs' : (P.info? f.type).map (·.size) with
        | none => simp [hs'] at hf
        | some q => cases q <;> simp [hs'] at hf; exact hf
      subst ho hte
      simp [ha.eval hx, Instr.field, run_underlying hu, hfl, asAgg, part, run_isAgg_agg hk, run_sizeOf' hs, hv]

/-! ## Comparisons -/
theorem r_beql {b1 b2 : Bool} (hx : ev E x = some (.bool b1)) (hy : ev E y = some (.bool b2)) (_hf : flatT P T = true) (hu : P.underlying T = some .bool) : Runs P N D E S (.binOp .eql T x y T') ty (.bool (decide (b1 = b2))) := fun o ho _ a w ha _ => by
  unfold execOp; rw [ho]
  simp only [ha.eval hx, ha.eval hy, eqGuard_at_bool]
  have := run_equalIn_bool' (P := P) w 9999 T b1 b2 hu
  simp [binOp, Op.equal, Op.maxDepth, this]
  cases b1 <;> cases b2 <;> rfl
theorem r_bneq {b1 b2 : Bool} (hx : ev E x = some (.bool b1)) (hy : ev E y = some (.bool b2)) (_hf : flatT P T = true) (hu : P.underlying T = some .bool) : Runs P N D E S (.binOp .neq T x y T') ty (.bool (decide (b1 ≠ b2))) := fun o ho _ a w ha _ => by
  unfold execOp; rw [ho]
  simp only [ha.eval hx, ha.eval hy, eqGuard_at_bool]
  have := run_equalIn_bool' (P := P) w 9999 T b1 b2 hu
  simp [binOp, Op.equal, Op.maxDepth, this]
  cases b1 <;> cases b2 <;> rfl
/-- structs of one type, held against each other -/
def EqV (P : Program) (T : TypeId) (α : Type) (enc : α → List Value) [DecidableEq α] : Prop :=
  (∀ (a b : α) (w : World), (Op.equalIn 10000 T (.agg (enc a).toArray) (.agg (enc b).toArray)).run P w = .ok (decide (a = b)) w) ∧ P.eqGuardType P.depth T = false
theorem r_eqlS {α : Type} [DecidableEq α] {enc : α → List Value} {a b : α} (hx : ev E x = some (.agg (enc a).toArray)) (hy : ev E y = some (.agg (enc b).toArray)) (h : EqV P T α enc) : Runs P N D E S (.binOp .eql T x y T') ty (.bool (decide (a = b))) := fun o ho _ ac w ha _ => by
  unfold execOp; rw [ho]
  simp only [ha.eval hx, ha.eval hy, Sem.run_bind, run_eqGuard_agg w .eql T x y _ _ h.2, run_eql_struct, h.1, Result.andThen_ok, Sem.run_pure]
theorem r_neqS {α : Type} [DecidableEq α] {enc : α → List Value} {a b : α} (hx : ev E x = some (.agg (enc a).toArray)) (hy : ev E y = some (.agg (enc b).toArray)) (h : EqV P T α enc) : Runs P N D E S (.binOp .neq T x y T') ty (.bool (decide (a ≠ b))) := fun o ho _ ac w ha _ => by
  unfold execOp; rw [ho]
  simp only [ha.eval hx, ha.eval hy, Sem.run_bind, run_eqGuard_agg w .neq T x y _ _ h.2, run_neq_struct, h.1, Result.andThen_ok, Sem.run_pure]
  simp

/-! ## Strings -/
def sless (s t : ByteArray) : Bool := Op.bytesLess s.toList t.toList
theorem byte_at {s : ByteArray} {i : Nat} (h : i < s.size) : s[i]? = some s[i] := by simp [h]
theorem bl_total : ∀ (a b : List UInt8), (!(Op.bytesLess a b || decide (a = b))) = Op.bytesLess b a
  | [], [] => by simp [Op.bytesLess]
  | [], _ :: _ => by simp [Op.bytesLess]
  | _ :: _, [] => by simp [Op.bytesLess]
  | x :: a, y :: b => by
    have ih := bl_total a b
    simp only [Op.bytesLess]
    rcases Nat.lt_trichotomy x.toNat y.toNat with h | h | h
    · have h1 : x < y := UInt8.lt_iff_toNat_lt.2 h
      have h2 : ¬ y < x := fun k => by have := UInt8.lt_iff_toNat_lt.1 k; omega
      have h3 : ¬ y = x := fun k => by subst k; omega
      simp [h1, h2, h3]
    · obtain rfl : x = y := UInt8.toNat_inj.1 h
      have h1 : ¬ x < x := fun k => by have := UInt8.lt_iff_toNat_lt.1 k; omega
      simp only [h1, decide_false, Bool.false_or, beq_self_eq_true, Bool.true_and]
      rw [← ih]
      simp
    · have h1 : y < x := UInt8.lt_iff_toNat_lt.2 h
      have h2 : ¬ x < y := fun k => by have := UInt8.lt_iff_toNat_lt.1 k; omega
      have h3 : ¬ x = y := fun k => by subst k; omega
      simp [h1, h2, h3]
theorem toList_inj {s t : ByteArray} : s.toList = t.toList ↔ s = t := ⟨fun e => by
  rw [ByteArray.toList_eq, ByteArray.toList_eq] at e
  obtain ⟨⟨x⟩⟩ := s
  obtain ⟨⟨y⟩⟩ := t
  simp at e
  rw [e], fun e => by rw [e]⟩
theorem sl_total (s t : ByteArray) : (!(Op.bytesLess s.toList t.toList || decide (s = t))) = sless t s := by
  rw [sless, ← bl_total s.toList t.toList]
  simp only [toList_inj]
theorem r_sgtr' {s t : ByteArray} (hx : ev E x = some (.string s)) (hy : ev E y = some (.string t)) : Runs P N D E S (.binOp .gtr T x y T') ty (.bool (sless t s)) := by
  have := r_sgtr (P := P) (N := N) (D := D) (S := S) (T := T) (T' := T') (ty := ty) hx hy
  rwa [sl_total] at this
theorem r_sleq' {s t : ByteArray} (hx : ev E x = some (.string s)) (hy : ev E y = some (.string t)) : Runs P N D E S (.binOp .leq T x y T') ty (.bool (!(sless t s))) := by
  have := r_sleq (P := P) (N := N) (D := D) (S := S) (T := T) (T' := T') (ty := ty) hx hy
  rw [← sl_total]
  simpa using this

theorem r_slss' {s t : ByteArray} (hx : ev E x = some (.string s)) (hy : ev E y = some (.string t)) : Runs P N D E S (.binOp .lss T x y T') ty (.bool (sless s t)) := r_slss hx hy
theorem r_sgeq' {s t : ByteArray} (hx : ev E x = some (.string s)) (hy : ev E y = some (.string t)) : Runs P N D E S (.binOp .geq T x y T') ty (.bool (!(sless s t))) := r_sgeq hx hy

/-! ## Function values, conversions -/
theorem r_makeFunc {f : Fn} {first cap : Array Operand} {c : List Value} (hf : first = #[]) (hc : evs E cap.toList = some c) : Runs P N D E S (.makeFunc f first cap) ty (.func f #[] c.toArray) := fun o ho _ a w ha _ => by
  subst hf
  have h1 : cap.map a.eval = c.toArray := by
    apply Array.toList_inj.1
    rw [Array.toList_map]
    exact evs_map ha hc
  unfold execOp; rw [ho]; simp [Instr.makeFunc, h1]
theorem r_nilCheckF {f : Nat} {first cap : Array Value} (hx : ev E x = some (.func (.func f) first cap)) : Runs P N D E S (.nilCheck x) ty (.func (.func f) first cap) := fun o ho _ a w ha _ => by
  unfold execOp; rw [ho]; simp [ha.eval hx]
theorem r_convs {m : Int} (hx : ev E x = some (.int .i64 m)) (hs : (P.underlying T).isSome = true) (hd : P.underlying T' = some (.int .i64)) (h : -9223372036854775808 ≤ m ∧ m ≤ 9223372036854775807) : Runs P N D E S (.convert T T' x) ty (.int .i64 m) := by
  have := r_conv (P := P) (N := N) (D := D) (S := S) (ty := ty) hx hs hd
  rwa [wrap_in h] at this
theorem r_convu8 {m : Int} (hx : ev E x = some (.int .u8 m)) (hs : (P.underlying T).isSome = true) (hd : P.underlying T' = some (.int .i64)) (h : -9223372036854775808 ≤ m ∧ m ≤ 9223372036854775807) : Runs P N D E S (.convert T T' x) ty (.int .i64 m) := by
  have := r_conv (P := P) (N := N) (D := D) (S := S) (ty := ty) hx hs hd
  rwa [wrap_in h] at this

/-! ## Slice literals -/
/-- parts in order, each of k cells -/
def dense (k : Nat) : Nat → List (Nat × Value) → Option (List Value)
  | _, [] => some []
  | i, p :: r => match Nat.beq p.1 i, Nat.beq p.2.cells.toList.length k, dense k (i + 1) r with
    | true, true, some cs => some (p.2.cells.toList ++ cs)
    | _, _, _ => none
theorem dense_len {k : Nat} : ∀ (ps : List (Nat × Value)) (i : Nat) (cs : List Value), dense k i ps = some cs → cs.length = ps.length * k
  | [], _, cs, h => by simp [dense] at h; simp [h]
  | p :: r, i, cs, h => by
    unfold dense at h
    cases h1 : Nat.beq p.1 i with
    | false => rw [h1] at h; cases h
    | true =>
      cases h2 : Nat.beq p.2.cells.toList.length k with
      | false => rw [h1, h2] at h; cases h
      | true =>
        cases h3 : dense k (i + 1) r with
        | none => rw [h1, h2, h3] at h; cases h
        | some c =>
          rw [h1, h2, h3] at h
          have e2 := Nat.eq_of_beq_eq_true h2
          have ih := dense_len r (i + 1) c h3
          simp only [Option.some.injEq] at h
          rw [← h, List.length_append, e2, ih, List.length_cons, Nat.succ_mul]; omega
theorem dense_fill {k : Nat} : ∀ (ps : List (Nat × Value)) (i : Nat) (cs pre post : List Value), dense k i ps = some cs → pre.length = i * k → post.length = ps.length * k →
    Instr.fill (fun j => some (j * k, k)) (pre ++ post).toArray ps = some (pre ++ cs).toArray
  | [], i, cs, pre, post, h, _, hp => by
    simp [dense] at h
    have : post = [] := List.eq_nil_of_length_eq_zero (by simpa using hp)
    simp [Instr.fill, h, this]
  | p :: r, i, cs, pre, post, h, hpre, hp => by
    obtain ⟨j, v⟩ := p
    unfold dense at h
    dsimp only at h
    cases h1 : Nat.beq j i with
    | false => rw [h1] at h; cases h
    | true =>
      cases h2 : Nat.beq v.cells.toList.length k with
      | false => rw [h1, h2] at h; cases h
      | true =>
        cases h3 : dense k (i + 1) r with
        | none => rw [h1, h2, h3] at h; cases h
        | some c =>
          rw [h1, h2, h3] at h
          have e1 := Nat.eq_of_beq_eq_true h1
          have e2 : v.cells.size = k := by simpa using Nat.eq_of_beq_eq_true h2
          subst e1
          simp only [Option.some.injEq] at h
          simp only [List.length_cons, Nat.succ_mul] at hp
          unfold Instr.fill
          dsimp only
          have hc : ¬ ((decide (v.cells.size ≠ k) || decide (j * k + v.cells.size > (pre ++ post).toArray.size)) = true) := by
            simp only [List.size_toArray, List.length_append, Bool.or_eq_true, decide_eq_true_eq, not_or]
            refine ⟨by omega, by omega⟩
          rw [if_neg hc]
          have hf := foldl_splice (j * k) v.cells.toList 0 (pre ++ post) (by simp; omega)
          have e3 : Array.foldl (fun (cs : Array Value) (x : Value × Nat) => cs.setIfInBounds (j * k + x.2) x.1) (pre ++ post).toArray v.cells.zipIdx = (splice (pre ++ post) (j * k) v.cells.toList).toArray := by
            rw [← Array.foldl_toList]; simpa using hf
          have e4 : splice (pre ++ post) (j * k) v.cells.toList = (pre ++ v.cells.toList) ++ post.drop k := by
            unfold splice
            rw [← hpre]
            simp [e2]
          have ih := dense_fill r (j + 1) c (pre ++ v.cells.toList) (post.drop k) h3 (by simp [hpre, e2, Nat.succ_mul]) (by simp; omega)
          rw [← h, ← List.append_assoc, ← ih, ← e4, ← e3]
theorem l_bs {e k by1 n : Nat} {zv : Value} {parts : Array (Nat × Operand)} {ps : List (Nat × Value)} (cs : List Value) (hw : Want N D ops E g true) (hu : P.underlying T = some (.slice e)) (hs : Inf P e k by1 zv) (he : evp E parts.toList = some ps) (hf : dense k 0 ps = some cs) (hn : ps.length = n)
    (hk : 0 < n * k) (hsm : n * k ≤ 16777216) (hd : Nat.blt d N = true)
    (h : ∀ b, WL P N D ops Q rest ((d, .slice (some ⟨b, 0, none⟩) n n) :: E) (Mem w0 M (.row (.slice (some ⟨b, 0, none⟩) n n) e k n cs :: L))) : WL P N D ops Q (⟨some d, .buildSlice T n parts, ty, pos, aft, g⟩ :: rest) E (Mem w0 M L) := by
  refine l_genS hw hd fun o ho hty a w ha hS => ?_
  obtain ⟨i, hi, hz, hsz, _⟩ := hs.get
  have h1 : (parts.map fun (i, x) => (i, a.eval x)).toList = ps := by rw [Array.toList_map]; exact evp_map ha he
  have hlen := dense_len ps 0 cs hf
  rw [hn] at hlen
  have hfill : Instr.fill (fun j => some (j * i.size, i.size)) ((Array.range (n * i.size)).map (zv.cells[· % zv.cells.size]!)) (parts.map fun (i, x) => (i, a.eval x)).toList = some cs.toArray := by
    rw [h1, hsz]
    have := dense_fill ps 0 cs [] ((Array.range (n * k)).map (zv.cells[· % zv.cells.size]!)).toList hf (by simp) (by simp [hn])
    simpa only [List.nil_append, Array.toArray_toList] using this
  have hr := run_buildSlice (P := P) w T e n _ cs.toArray i zv hu hi hz (by rw [hsz]; omega) (by rw [hsz]; omega) hfill
  refine ⟨.slice (some ⟨w.heap.size, 0, none⟩) n n, w.alloc (.cells cs.toArray e), ?_, _, ?_, h w.heap.size⟩
  · unfold execOp; rw [ho]; simp [hr]
  · refine hS.add (Fr.alloc _ _ _) ?_ (fun b hb => ?_)
    · have := World.ownsRow_lit (size := k) (e := e) (base := 0) w cs.toArray n (Nat.zero_le _) (by simp only [maxLen]; have : n ≤ n * k := Nat.le_mul_of_pos_right n (Nat.pos_of_ne_zero (by rintro rfl; simp at hk)); omega) (by simpa using hlen)
      show World.ownsRow _ _ _ _ _ _ _
      simpa using this
    · have hb' : w.heap.size = b := by simpa [Own.fp, Value.ownBlock] using hb
      subst hb'; simp
theorem l_bs0 {e k by1 : Nat} {zv : Value} (hw : Want N D ops E g true) (hu : P.underlying T = some (.slice e)) (hs : Inf P e k by1 zv) (hd : Nat.blt d N = true)
    (h : ∀ b, WL P N D ops Q rest ((d, .slice (some ⟨b, 0, none⟩) 0 0) :: E) (Mem w0 M (.row (.slice (some ⟨b, 0, none⟩) 0 0) e k 0 [] :: L))) : WL P N D ops Q (⟨some d, .buildSlice T 0 #[], ty, pos, aft, g⟩ :: rest) E (Mem w0 M L) := by
  refine l_genS hw hd fun o ho hty a w ha hS => ?_
  refine ⟨.slice (some ⟨w.heap.size, 0, none⟩) 0 0, w.alloc (.cells #[] e), ?_, _, ?_, h w.heap.size⟩
  · unfold execOp; rw [ho]
    simp [Instr.buildSlice, run_underlying hu, run_sizeOf' hs, Instr.fill, newRow, Array.range_zero']
  · refine hS.add (Fr.alloc _ _ _) ?_ (fun b hb => ?_)
    · have := World.ownsRow_lit (size := k) (e := e) (base := 0) w #[] 0 (Nat.zero_le _) (Nat.zero_le _) (by simp)
      show World.ownsRow _ _ _ _ _ _ _
      simpa using this
    · have hb' : w.heap.size = b := by simpa [Own.fp, Value.ownBlock] using hb
      subst hb'; simp

/-! ## Rows of the call's own, read as lists -/
theorem row_form {w : World} {base e k n : Nat} {xs : List Value} (h : w.ownsRow base e k v n xs) : ∃ A c, v = .slice A n c ∧ n ≤ c ∧ c ≤ maxLen ∧ (0 < n → ∃ ad, A = some ad ∧ v.ownBlock = some ad.block ∧ ∀ (j : Nat) (u : Value), xs[j]? = some u → w.cell? (ad.add j) = some u) := by
  have h0 := h
  rcases h.2 with ⟨rfl, rfl⟩ | ⟨g, cap, cur, rfl, _, _, hnc, hcm, _⟩
  · exact ⟨none, 0, rfl, Nat.le_refl _, Nat.zero_le _, fun hn => absurd hn (by omega)⟩
  · exact ⟨some ⟨g, 0, none⟩, cap, rfl, hnc, hcm, fun _ => ⟨_, rfl, rfl, h0.cells (g := g) rfl⟩⟩
theorem flat_get {α : Type} {k : Nat} {enc : α → List Value} (he : ∀ a, (enc a).length = k) : ∀ (l : List α) (i : Nat) (x : α) (j : Nat) (u : Value), l[i]? = some x → (enc x)[j]? = some u → (l.flatMap enc)[i * k + j]? = some u
  | [], i, x, j, u, hi, _ => by simp at hi
  | a :: l, i, x, j, u, hi, hj => by
    rw [List.flatMap_cons]
    cases i with
    | zero =>
      obtain rfl : a = x := by simpa using hi
      have : j < (enc a).length := (List.getElem?_eq_some_iff.1 hj).1
      rw [Nat.zero_mul, Nat.zero_add, List.getElem?_append_left this]; exact hj
    | succ i =>
      have ih := flat_get he l i x j u (by simpa using hi) hj
      rw [List.getElem?_append_right (by rw [he, Nat.succ_mul]; omega), he, show (i + 1) * k + j - k = i * k + j by rw [Nat.succ_mul]; omega]
      exact ih
theorem rowSl {w : World} {α : Type} {k e n : Nat} {enc : α → List Value} {xs : List Value} (l : List α) (h : Mem w0 M L w) (i : Nat) (hL : L[i]? = some (.row v e k n xs)) (hx : xs = l.flatMap enc) (hn : n = l.length) (he : ∀ a, (enc a).length = k) : FlatSl (In w) k enc v l w := by
  subst hx hn
  obtain ⟨A, c, rfl, h1, h2, h3⟩ := row_form (h.row hL)
  refine ⟨A, c, rfl, h1, h2, fun hne => ?_⟩
  obtain ⟨ad, rfl, hb, hc⟩ := h3 (List.length_pos_iff.2 hne)
  refine ⟨ad, rfl, (h.ok i _ hL).2.1 _ hb, fun i x hi j u hj => ?_⟩
  rw [add_add]
  exact hc _ u (flat_get he l i x j u hi hj)
/-- the length of a row of the call's own -/
theorem r_lenR {e k n : Nat} {xs : List Value} (i : Nat) (hx : ev E x = some v) (hL : L[i]? = some (.row v e k n xs)) (hu : P.underlying T = some (.slice T')) : Runs P N D E (Mem w0 M L) (.call { callee := .builtin .len, args := #[x], argTypes := #[T] }) ty (.int .i64 n) := fun o ho hty a w ha hS => by
  obtain ⟨A, c, rfl, _⟩ := row_form (hS.row hL)
  unfold execOp; rw [ho]; simp [resolve, invoke, builtin, ha.eval hx, Builtin.len_, run_underlying hu, goInt]
/-- hands back a row of its own, and nothing that was there has turned -/
def RetRow (w : World) (e k n : Nat) (xs : List Value) : Ending → World → Prop := fun en w' => ∃ v, en = .returned v ∧ Fr no w w' ∧ w'.ownsRow w.heap.size e k v n xs
theorem Mem.addRow {w w' : World} {e k n : Nat} {xs : List Value} (h : Mem w0 M L w) (hf : Fr no w w') (ho : w'.ownsRow w.heap.size e k v n xs) : Mem w0 M (.row v e k n xs :: L) w' := by
  refine h.add hf ⟨ho.1, ?_⟩ (fun b hb => ho.lt b hb)
  rcases ho.2 with h2 | ⟨g, cap, cur, hv, _, r⟩
  · exact .inl h2
  · exact .inr ⟨g, cap, cur, hv, Nat.zero_le _, r⟩
theorem l_callRow {f e k n : Nat} {args : Array Operand} {ts : Array TypeId} {vs xs : List Value} (hw : Want N D ops E g true) (hargs : evs E args.toList = some vs)
    (hcall : ∀ vs w, (callFunc f vs).run P w = .ok (.enter f vs) w) (hd : Nat.blt d N = true)
    (hc : ∀ w, Mem w0 M L w → Calls P f vs.toArray w (RetRow w e k n xs)) (h : ∀ v, WL P N D ops Q rest ((d, v) :: E) (Mem w0 M (.row v e k n xs :: L))) :
    WL P N D ops Q (⟨some d, .call { callee := .value (.func f), args := args, argTypes := ts }, ty, pos, aft, g⟩ :: rest) E (Mem w0 M L) :=
  l_callN (Φ := fun v w' => Mem w0 M (.row v e k n xs :: L) w') hw hargs hcall hd (fun w hS => (hc w hS).mono fun _ _ ⟨v, he, hf, ho⟩ => ⟨v, he, hS.addRow hf ho⟩) h
/-- the end of a function that hands back a row -/
theorem Mem.retRow {p : Nat → Prop} {w w1 : World} {e k n : Nat} {xs : List Value} (h : Mem w ⟨no, p⟩ L w1) (i : Nat) (hL : L[i]? = some (.row v e k n xs)) : RetRow w e k n xs (.returned v) w1 := by
  refine ⟨v, rfl, h.fr, ?_⟩
  have ho := h.row hL
  have hb := (h.ok i _ hL).2.2 rfl
  refine ⟨ho.1, ?_⟩
  rcases ho.2 with h2 | ⟨g, cap, cur, rfl, _, r⟩
  · exact .inl h2
  · exact .inr ⟨g, cap, cur, rfl, (hb g rfl).resolve_right id, r⟩

end Ex
end Go.Proofs.YtffpglgboaigfaaDoor
