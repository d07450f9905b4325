/-
  A slice of one's own into which an element is put: copies, slices beyond the length, room that is made.
-/
import Derived.Test.YtffpglgboaigfaaDoorGive
import Derived.Lib.Overlaps
import Derived.Lib.AppendZerosOnto
namespace Go.Proofs.YtffpglgboaigfaaDoor
namespace Ex
section
variable {P : Program} {N : Nat} {D : List Deferred} {E : Env} {S S' : World → Prop} {Q : Exit → Act → World → Prop} {K : Act → World → Prop} {w0 w w' : World} {M : Fp} {L : List Own}
  {ops : Array Oper} {rest : List Oper} {d : Nat} {dst : Option Tmp} {ty T T' e : TypeId} {pos : String} {aft : Array Edge} {g : Option (Nat × Bool)} {v u : Value} {x : Operand} {α : Type} {enc : α → List Value} {k n c lo hi : Nat} {A : Option Addr} {ad : Addr} {xs : List Value}
theorem r_cap {len cap : Nat} (hx : ev E x = some (.slice A len cap)) (hu : P.underlying T = some (.slice T')) : Runs P N D E S (.call { callee := .builtin .cap, args := #[x], argTypes := #[T] }) ty (.int .i64 cap) := fun o ho hty a w ha _ => by
  unfold execOp; rw [ho]; simp [resolve, invoke, builtin, ha.eval hx, Builtin.cap_, run_underlying hu, goInt]
/-- a slice, to beyond its length -/
theorem r_dslc {len by1 : Nat} {zv : Value} {y z : Option Operand} (hx : ev E x = some (.slice A len c)) (hy : lob E y lo) (hz : hib E len z hi) (h1 : lo ≤ hi) (h2 : hi ≤ c) (hu : P.underlying T = some (.slice e)) (hs : Inf P e k by1 zv) : Runs P N D E S (.slice T x y z none) ty (.slice (subA A k c lo) (hi - lo) (c - lo)) := fun o ho hty a w ha _ => by
  have hb : (Instr.sliceBounds true len c (y.map a.eval) (z.map a.eval) none).run P w = .ok (lo, hi, c) w := by
    cases y with
    | none =>
      obtain rfl : lo = 0 := hy
      cases z with
      | none =>
        obtain rfl : hi = len := hz
        simp [Instr.sliceBounds]
      | some z =>
        obtain ⟨k2, m2, hz1, rfl⟩ := hz
        simp [Instr.sliceBounds, ha.eval hz1, Instr.sliceBound, asIntOf, h2]
    | some y =>
      obtain ⟨k1, m1, hy1, rfl⟩ := hy
      cases z with
      | none =>
        obtain rfl : hi = len := hz
        simp [Instr.sliceBounds, ha.eval hy1, Instr.sliceBound, asIntOf, h1]
      | some z =>
        obtain ⟨k2, m2, hz1, rfl⟩ := hz
        simp [Instr.sliceBounds, ha.eval hy1, ha.eval hz1, Instr.sliceBound, asIntOf, h1, h2]
  unfold execOp; rw [ho]
  simp only [ha.eval hx, Option.map_none, Sem.run_bind, Instr.sliceAt, run_underlying hu, Result.andThen_ok]
  simp only [Instr.slice, Sem.run_bind, run_underlying hu, Result.andThen_ok, hb, run_sizeOf' hs, Sem.run_pure, subA]
/-- a function without a body -/
theorem r_ext {f : Nat} {args : Array Operand} {ts : Array TypeId} {vs : List Value} (hargs : evs E args.toList = some vs) (hc : ∀ w, S w → (callFunc f vs.toArray).run P w = .ok (.value v) w) :
    Runs P N D E S (.call { callee := .value (.func f), args := args, argTypes := ts }) ty v := fun o ho hty a w ha hS => by
  have h1 : args.map a.eval = vs.toArray := by
    apply Array.toList_inj.1
    rw [Array.toList_map]
    exact evs_map ha hargs
  have hx : a.eval (.func f) = .func (.func f) #[] #[] := ha.eval (by rfl)
  unfold execOp; rw [ho]
  simp [resolve, Deferred.ofValue, hx, h1, invoke, hc w hS]
/-- a row whose spare cells are elements too -/
theorem Mem.more (h : Mem w0 M L w) {q m : Nat} (hL : L[q]? = some (.row (.slice (some ad) n c) e k n xs)) (hc : n + m ≤ c) : ∃ ys : List Value, ys.length = m * k ∧ Mem w0 M (L.set q (.row (.slice (some ad) (n + m) c) e k (n + m) (xs ++ ys))) w := by
  have hown := h.row hL
  rcases hown.2 with ⟨h0, _⟩ | ⟨gb, cap, cur, h0, hbg, hg, hnc, hcm, hcs, htk⟩
  · cases h0
  injection h0 with e1 e2 e3
  injection e1 with e1
  subst e1 e3
  have hle : (n + m) * k ≤ c * k := Nat.mul_le_mul_right k hc
  have hcl : cur.toList.length = c * k := by simpa using hcs
  have hsp : cur.toList.take ((n + m) * k) = xs ++ (cur.toList.drop (n * k)).take (m * k) := by
    rw [← htk, Nat.add_mul, List.take_add]
  have hyl : ((cur.toList.drop (n * k)).take (m * k)).length = m * k := by
    rw [List.length_take, List.length_drop, hcl]; rw [Nat.add_mul] at hle; omega
  refine ⟨(cur.toList.drop (n * k)).take (m * k), hyl, h.wk hL ?_ (fun b hb => hb) (fun _ => rfl)⟩
  refine ⟨?_, .inr ⟨gb, c, cur, rfl, hbg, hg, hc, hcm, hcs, hsp⟩⟩
  rw [List.length_append, hyl, hown.1, Nat.add_mul]
theorem l_more (q m : Nat) (hL : L[q]? = some (.row (.slice A n c) e k n xs)) (hA : A = some ad) (hc : n + m ≤ c) (h : ∀ ys : List Value, ys.length = m * k → WL P N D ops Q rest E (Mem w0 M (L.set q (.row (.slice A (n + m) c) e k (n + m) (xs ++ ys))))) : WL P N D ops Q rest E (Mem w0 M L) := fun w hS => by
  subst hA
  obtain ⟨ys, h1, h2⟩ := hS.more hL hc
  exact h ys h1 w h2
theorem rowCells (q : Nat) (hL : L[q]? = some (.row (.slice A n c) e k n xs)) (hA : A = some ad) : ∀ w, Mem w0 M L w → ∀ (p : Nat) (u : Value), xs[p]? = some u → w.cell? (ad.add p) = some u := fun w hS p u hu => by
  subst hA
  rcases (hS.row hL).2 with ⟨h0, _⟩ | ⟨gb, cap, cur, h0, _⟩
  · cases h0
  injection h0 with e1 e2 e3
  injection e1 with e1
  subst e1
  exact (hS.row hL).cells (g := gb) rfl p u hu
theorem subCells {cs : List Value} {o : Nat} (h : ∀ w, Mem w0 M L w → ∀ (p : Nat) (u : Value), xs[p]? = some u → w.cell? (ad.add p) = some u) (hs : ∀ (p : Nat) (u : Value), cs[p]? = some u → xs[o + p]? = some u) : ∀ w, Mem w0 M L w → ∀ (p : Nat) (u : Value), cs[p]? = some u → w.cell? ((ad.add o).add p) = some u := fun w hS p u hu => by
  rw [add_add]; exact h w hS _ _ (hs p u hu)
theorem run_copyN {g o dLen dCap k by1 : Nat} {zv : Value} {a : Addr} {sLen sCap : Nat} {cur : Array Value} {t : TypeId} {cs : List Value}
    (hu : P.underlying T = some (.slice e)) (hs : Inf P e k by1 zv) (hg : w.heap[g]? = some (.cells cur t (0, 0))) (hn : cs.length = Nat.min sLen dLen * k)
    (hsrc : ∀ (j : Nat) (v : Value), cs[j]? = some v → w.cell? (a.add j) = some v) (hfit : o + cs.length ≤ cur.size) (h1 : ∀ v ∈ cs, v.oneCell' = true) :
    (Builtin.copy_ #[T, T'] ty #[.slice (some ⟨g, o, none⟩) dLen dCap, .slice (some a) sLen sCap]).run P w =
      .ok (goInt (Nat.min sLen dLen)) (w.setRow g (cur.toList.take o ++ cs ++ cur.toList.drop (o + cs.length)).toArray) := by
  have hl := run_loadCells_list (P := P) w a cs hsrc
  have hst := run_storeCells_at P g o t cs 0 cur w hg (by simpa using hfit) h1
  simp [Builtin.copy_, run_underlying hu, Builtin.lenOf, Builtin.firstCells, run_sizeOf' hs, ← hn, hl, hst]
/-- copy into a row -/
theorem l_copy (q : Nat) {j dl dc sl sc by1 : Nat} {zv : Value} {DA B : Option Addr} {a2 : Addr} {cs : List Value} {y : Operand} (xs' : List Value) (hw : Want N D ops E g true) (hx : ev E x = some (.slice DA dl dc)) (hD : DA = some (ad.add (j * k))) (hy : ev E y = some (.slice B sl sc)) (hB : B = some a2)
    (hL : L[q]? = some (.row (.slice A n c) e k n xs)) (hA : A = some ad) (hu : P.underlying T = some (.slice e)) (hs : Inf P e k by1 zv) (hn : cs.length = Nat.min sl dl * k) (hfit : j * k + cs.length ≤ n * k)
    (hsrc : ∀ w, Mem w0 M L w → ∀ (p : Nat) (u : Value), cs[p]? = some u → w.cell? (a2.add p) = some u) (h1 : ∀ v ∈ cs, v.oneCell' = true) (hxs : xs.take (j * k) ++ cs ++ xs.drop (j * k + cs.length) = xs') (hd : Nat.blt d N = true)
    (h : WL P N D ops Q rest ((d, .int .i64 (Nat.min sl dl : Nat)) :: E) (Mem w0 M (L.set q (.row (.slice A n c) e k n xs')))) :
    WL P N D ops Q (⟨some d, .call { callee := .builtin .copy, args := #[x, y], argTypes := #[T, T'] }, ty, pos, aft, g⟩ :: rest) E (Mem w0 M L) := by
  subst hA hD hB hxs
  refine l_gen (S' := Mem w0 M (L.set q (.row (.slice (some ad) n c) e k n (xs.take (j * k) ++ cs ++ xs.drop (j * k + cs.length))))) hw hd fun o ho hty a w ha hS => ?_
  have hown := hS.row hL
  rcases hown.2 with ⟨h0, _⟩ | ⟨gb, cap, cur, h0, hbg, hg, hnc, hcm, hcs, htk⟩
  · cases h0
  injection h0 with e1 e2 e3
  injection e1 with e1
  subst e1 e3
  have hle : n * k ≤ c * k := Nat.mul_le_mul_right k hnc
  have hcl : cur.toList.length = c * k := by simpa using hcs
  have hxl := hown.1
  have hadd : (⟨gb, 0, none⟩ : Addr).add (j * k) = ⟨gb, j * k, none⟩ := by rw [add_lit, Nat.zero_add]
  have hst := run_copyN (P := P) (T' := T') (ty := o.type) (sLen := sl) (sCap := sc) (dLen := dl) (dCap := dc) (o := j * k) (a := a2) hu hs hg hn (hsrc w hS) (by omega) h1
  refine ⟨_, w.setRow gb (cur.toList.take (j * k) ++ cs ++ cur.toList.drop (j * k + cs.length)).toArray, ?_, ?_, h⟩
  · unfold execOp; rw [ho]
    simp only [ha.eval hx, ha.eval hy, hadd, resolve, invoke, builtin, Sem.run_bind, Sem.run_pure, Result.andThen_ok, List.map_toArray, List.map_cons, List.map_nil]
    simp [hst, goInt]
  · refine hS.upd hL rfl ⟨rfl, rfl, rfl, by simp, fun b _ hk => setRow_other w gb b _ (fun e => hk (by simp [Own.fp, Value.ownBlock, e]))⟩ ?_ (fun b hb => ⟨.inl hb, ?_⟩)
    · refine ⟨?_, .inr ⟨gb, c, _, rfl, hbg, setRow_heap w gb _ _ e _ hg, hnc, hcm, ?_, ?_⟩⟩
      · simp; omega
      · simp; omega
      · have h9 := take_splice (cs := cur.toList) (vs := cs) (o := j * k) (m := n * k) hfit (by omega)
        rw [splice, splice, htk] at h9
        simpa using h9
    · have := (hS.ok q _ hL).2.1 b hb
      simpa using this
/-- room for so many more -/
theorem l_appZ (l2 : List α) (n2 : Nat) {i kk c0 by1 : Nat} {m : Int} {zv : Value} {A0 : Option Addr} {y : Operand} {olds : List Value} {T2 : TypeId} (hw : Want N D ops E g true) (hx : ev E x = some (.slice A0 i c0)) (hy : ev E y = some (.int .i64 m)) (hm : m = (kk : Int)) (h0 : 0 < kk) (hol : olds.length = i * k) (hA0 : A0 = none → i = 0)
    (hsrc : ∀ ad, A0 = some ad → ∀ w, Mem w0 M L w → ∀ (p : Nat) (u : Value), olds[p]? = some u → w.cell? (ad.add p) = some u) (hg : c0 < i + kk) (hb : (i + kk) * by1 ≤ 140737488355328) (hp : Nat.blt 0 by1 = true) (hk : 0 < k)
    (hu : P.underlying T = some (.slice e)) (hu2 : P.underlying T2 = some (.int .i64)) (hs : Inf P e k by1 zv) (hzc : zv.cells.size = k) (hl2 : olds ++ (Builtin.zeroCells zv.cells kk).toList = l2.flatMap enc) (hll : n2 = i + kk) (hd : Nat.blt d N = true)
    (h : ∀ b C, n2 ≤ C → C ≤ 9223372036854775807 → WL P N D ops Q rest ((d, .slice (some ⟨b, 0, none⟩) n2 C) :: E) (Mem w0 M (.row (.slice (some ⟨b, 0, none⟩) n2 C) e k n2 (l2.flatMap enc) :: L))) :
    WL P N D ops Q (⟨some d, .call { callee := .builtin .append, args := #[x, y], argTypes := #[T, T2] }, ty, pos, aft, g⟩ :: rest) E (Mem w0 M L) := by
  subst hm
  refine l_genS hw hd fun o ho hty a w ha hS => ?_
  obtain ⟨ti, hi, hz, h3, h4⟩ := hs.get
  have hbp : 0 < by1 := by simpa using hp
  have hbb := Nat.le_mul_of_pos_right (i + kk) hbp
  have hkb : kk * by1 ≤ (i + kk) * by1 := Nat.mul_le_mul_right by1 (by omega)
  have hS' := hS.drew
  have hold : (Builtin.firstCells ti.size i (.slice A0 i c0)).run P w.drew = .ok olds.toArray w.drew := by
    cases A0 with
    | none =>
      have := hA0 rfl
      subst this
      have : olds = [] := List.eq_nil_of_length_eq_zero (by omega)
      subst this
      simp [Builtin.firstCells]
    | some ad => exact run_firstCells_some w.drew ti.size i ad i c0 olds (by rw [h3]; exact hol) (hsrc ad rfl w.drew hS')
  have hr := Lib.run_append_grow_zeros (P := P) w T T2 o.type e ti zv .i64 .i64 hu hu2 hi hz A0 i c0 olds hold kk h0 (by omega) hg (by omega) (by rw [h4]; omega) (by rw [h4]; exact growslice_fits hg hb)
  have hcut : i + kk ≤ grownCap w (i + kk) c0 e ∧ grownCap w (i + kk) c0 e ≤ 9223372036854775807 := ⟨grownCap_ge w _ _ _, grownCap_le_maxLen w _ _ _ (by simp only [maxLen]; omega)⟩
  refine ⟨_, w.drew.alloc (.cells (olds.toArray ++ Builtin.zeroCells zv.cells kk ++ Builtin.zeroCells zv.cells (grownCap w (i + kk) c0 e - (i + kk))) e), ?_, _, ?_, h w.heap.size (grownCap w (i + kk) c0 e) (by rw [hll]; exact hcut.1) hcut.2⟩
  · unfold execOp; rw [ho, hll]
    simp [resolve, invoke, builtin, ha.eval hx, ha.eval hy, hr]
  · have hzl : ∀ q, (Builtin.zeroCells zv.cells q).size = q * k := fun q => by simp [Builtin.zeroCells, hzc]
    refine hS'.add (o := Own.row (.slice (some ⟨w.heap.size, 0, none⟩) n2 (grownCap w (i + kk) c0 e)) e k n2 (l2.flatMap enc)) (Fr.alloc _ _ _) ?_ (fun b hb => ?_)
    · refine ⟨?_, .inr ⟨w.heap.size, _, _, rfl, Nat.zero_le _, heap_alloc_new w.drew _, by rw [hll]; exact hcut.1, hcut.2, ?_, ?_⟩⟩
      · rw [← hl2, List.length_append, hol, hll, Array.length_toList, hzl, Nat.add_mul]
      · simp only [Array.size_append, hzl, List.size_toArray, hol]
        rw [← Nat.add_mul, ← Nat.add_mul]; congr 1; omega
      · rw [← hl2, Array.toList_append, Array.toList_append, hll]
        apply List.take_left'
        simp only [List.length_append, Array.length_toList, hzl, hol, Nat.add_mul]
    · have hb : (Value.slice (some ⟨w.heap.size, 0, none⟩) n2 (grownCap w (i + kk) c0 e)).ownBlock = some b := hb
      simp [Value.ownBlock] at hb
      subst hb
      simp
theorem add0 (ad : Addr) : ad.add 0 = ad := by unfold Addr.add; split <;> simp_all
theorem subA_zero : subA A k c 0 = A := by
  unfold subA; split
  · rfl
  · cases A <;> simp [add0]
theorem subA_some (hA : A = some ad) (h : lo < c) : subA A k c lo = some (ad.add (lo * k)) := by rw [subA, if_neg (by omega), hA]; rfl
theorem flat_pre {l : List α} {i p : Nat} {u : Value} (hu : ((l.take i).flatMap enc)[p]? = some u) : (l.flatMap enc)[0 * k + p]? = some u := by
  rw [Nat.zero_mul, Nat.zero_add]
  rw [← List.take_append_drop i l, List.flatMap_append, List.getElem?_append_left (List.getElem?_eq_some_iff.1 hu).1]; exact hu
theorem flat_suf (he : ∀ a, (enc a).length = k) {l : List α} {i p : Nat} {u : Value} (hi : i ≤ l.length) (hu : ((l.drop i).flatMap enc)[p]? = some u) : (l.flatMap enc)[i * k + p]? = some u := by
  have h1 : ((l.take i).flatMap enc).length = i * k := by rw [flat_len he, List.length_take, Nat.min_eq_left hi]
  rw [← List.take_append_drop i l, List.flatMap_append, List.getElem?_append_right (by omega), h1, Nat.add_sub_cancel_left]; exact hu
theorem flat_take (he : ∀ a, (enc a).length = k) (l : List α) (j : Nat) (hj : j ≤ l.length) : (l.flatMap enc).take (j * k) = (l.take j).flatMap enc := by
  have h1 : ((l.take j).flatMap enc).length = j * k := by rw [flat_len he, List.length_take, Nat.min_eq_left hj]
  have h2 : l.flatMap enc = (l.take j).flatMap enc ++ (l.drop j).flatMap enc := by rw [← List.flatMap_append, List.take_append_drop]
  rw [h2]
  exact List.take_left' h1
theorem flat_drop (he : ∀ a, (enc a).length = k) (l : List α) (j : Nat) (hj : j ≤ l.length) : (l.flatMap enc).drop (j * k) = (l.drop j).flatMap enc := by
  have h1 : ((l.take j).flatMap enc).length = j * k := by rw [flat_len he, List.length_take, Nat.min_eq_left hj]
  have h2 : l.flatMap enc = (l.take j).flatMap enc ++ (l.drop j).flatMap enc := by rw [← List.flatMap_append, List.take_append_drop]
  rw [h2]
  exact List.drop_left' h1
/-- copy of elements -/
theorem l_copyL (q : Nat) {j dl dc sl sc by1 : Nat} {zv : Value} {DA B : Option Addr} {a2 : Addr} {y : Operand} (l s2 : List α) (he : Enc enc k) (hw : Want N D ops E g true) (hx : ev E x = some (.slice DA dl dc)) (hD : DA = some (ad.add (j * k))) (hy : ev E y = some (.slice B sl sc)) (hB : B = some a2)
    (hL : L[q]? = some (.row (.slice A n c) e k n (l.flatMap enc))) (hA : A = some ad) (hu : P.underlying T = some (.slice e)) (hs : Inf P e k by1 zv) (hn : s2.length = Nat.min sl dl) (hfit : j + s2.length ≤ n) (hl : l.length = n)
    (hsrc : ∀ w, Mem w0 M L w → ∀ (p : Nat) (u : Value), (s2.flatMap enc)[p]? = some u → w.cell? (a2.add p) = some u) (hd : Nat.blt d N = true)
    (h : WL P N D ops Q rest ((d, .int .i64 (Nat.min sl dl : Nat)) :: E) (Mem w0 M (L.set q (.row (.slice A n c) e k n ((l.take j ++ s2 ++ l.drop (j + s2.length)).flatMap enc))))) :
    WL P N D ops Q (⟨some d, .call { callee := .builtin .copy, args := #[x, y], argTypes := #[T, T'] }, ty, pos, aft, g⟩ :: rest) E (Mem w0 M L) := by
  have h1 : (s2.flatMap enc).length = s2.length * k := flat_len he.len s2
  have h2 : (j + s2.length) * k ≤ n * k := Nat.mul_le_mul_right k hfit
  rw [Nat.add_mul] at h2
  refine l_copy q (cs := s2.flatMap enc) _ hw hx hD hy hB hL hA hu hs (by rw [h1, hn]) (by omega) hsrc (fun u hu => by obtain ⟨a, _, ha⟩ := List.mem_flatMap.1 hu; exact he.one a u ha) ?_ hd h
  rw [h1, ← Nat.add_mul, flat_take he.len l j (by omega), flat_drop he.len l _ (by omega), ← List.flatMap_append, ← List.flatMap_append]
theorem row_as {l l' : List α} (h1 : l'.length = n) (h2 : l = l') (h : Mem w0 M [.row v e k n (l.flatMap enc)] w) : Mem w0 M [Row v e k enc l'] w := by
  subst h2 h1; exact h
theorem ins_len {l : List α} {i : Nat} {a : α} (hi : i ≤ l.length) : (l.take i ++ a :: l.drop i).length = l.length + 1 := by simp; omega
theorem ins_end {l : List α} {i : Nat} {a : α} (hi : i = l.length) : l ++ [a] = l.take i ++ a :: l.drop i := by subst hi; simp
theorem ins_place {l : List α} {i : Nat} {a : α} (hi : i < l.length) : (l.take (i + 1) ++ l.drop i).take i ++ [a] ++ (l.take (i + 1) ++ l.drop i).drop (i + [a].length) = l.take i ++ a :: l.drop i := by
  have h1 : (l.take (i + 1)).length = i + 1 := by rw [List.length_take]; omega
  rw [List.take_append_of_le_length (by omega), List.take_take, Nat.min_eq_left (by omega), List.length_singleton, List.drop_left' h1, List.append_assoc]; rfl
theorem ins_grow {l z : List α} {i : Nat} {a : α} (hi : i < l.length) (hz : z.length = l.length + 1 - i) : ((l.take i ++ z).take i ++ [a] ++ (l.take i ++ z).drop (i + [a].length)).take (i + 1) ++ l.drop i ++ ((l.take i ++ z).take i ++ [a] ++ (l.take i ++ z).drop (i + [a].length)).drop (i + 1 + (l.drop i).length) = l.take i ++ a :: l.drop i := by
  have h1 : (l.take i).length = i := by rw [List.length_take]; omega
  have h2 : (l.take i ++ z).take i = l.take i := List.take_left' h1
  have h3 : (l.take i ++ [a]).length = i + 1 := by rw [List.length_append, h1]; rfl
  rw [h2, List.take_left' h3]
  have h4 : (l.take i ++ [a] ++ (l.take i ++ z).drop (i + [a].length)).drop (i + 1 + (l.drop i).length) = [] := List.drop_of_length_le (by simp only [List.length_append, List.length_drop, h1, hz, List.length_singleton]; omega)
  rw [h4]; simp
theorem ins_shift (he : ∀ a, (enc a).length = k) {l : List α} {i : Nat} {ys : List Value} (hi : i < l.length) (hy : ys.length = 1 * k) : (l.flatMap enc ++ ys).take ((i + 1) * k) ++ (l.drop i).flatMap enc ++ (l.flatMap enc ++ ys).drop ((i + 1) * k + ((l.drop i).flatMap enc).length) = (l.take (i + 1) ++ l.drop i).flatMap enc := by
  have h1 : (l.flatMap enc).length = l.length * k := flat_len he l
  have h2 : (i + 1) * k ≤ l.length * k := Nat.mul_le_mul_right k (by omega)
  have h3 : ((l.drop i).flatMap enc).length = (l.length - i) * k := by rw [flat_len he, List.length_drop]
  have h4 : (l.flatMap enc ++ ys).drop ((i + 1) * k + ((l.drop i).flatMap enc).length) = [] := by
    refine List.drop_of_length_le ?_
    rw [List.length_append, h1, h3, hy, ← Nat.add_mul, ← Nat.add_mul]
    exact Nat.mul_le_mul_right k (by omega)
  rw [h4, List.append_nil, List.take_append_of_le_length (by omega), flat_take he l _ (by omega), ← List.flatMap_append]
theorem zero_cells (q : Nat) : (Builtin.zeroCells (Value.agg #[.slice none 0 0, .int .i64 0]).cells q).toList = (List.replicate q (CellX.mk ⟨none, 0, []⟩ 0)).flatMap cellE := by
  apply List.ext_getElem?
  intro j
  have hl : (Builtin.zeroCells (Value.agg #[.slice none 0 0, .int .i64 0]).cells q).size = q * 2 := by simp [Builtin.zeroCells, Value.cells]
  have hr : ((List.replicate q (CellX.mk ⟨none, 0, []⟩ 0)).flatMap cellE).length = q * 2 := by rw [flat_len encCellX.len, List.length_replicate]
  by_cases hj : j < q * 2
  · have h1 : (List.replicate q (CellX.mk ⟨none, 0, []⟩ 0))[j / 2]? = some (CellX.mk ⟨none, 0, []⟩ 0) := by rw [List.getElem?_replicate, if_pos (by omega)]
    have h2 : j = j / 2 * 2 + j % 2 := by omega
    have h3 : (cellE (CellX.mk ⟨none, 0, []⟩ 0))[j % 2]? = some ((cellE (CellX.mk ⟨none, 0, []⟩ 0))[j % 2]'(by show j % 2 < 2; omega)) := List.getElem?_eq_getElem _
    rw [show ((List.replicate q (CellX.mk ⟨none, 0, []⟩ 0)).flatMap cellE)[j]? = _ from (congrArg _ h2).trans (flat_get encCellX.len _ _ _ _ _ h1 h3)]
    rw [Array.getElem?_toList, Array.getElem?_eq_getElem (by omega)]
    rcases Nat.mod_two_eq_zero_or_one j with h4 | h4 <;> simp [Builtin.zeroCells, Value.cells, h4]
  · exact (List.getElem?_eq_none (by rw [Array.length_toList, hl]; omega)).trans (List.getElem?_eq_none (by rw [hr]; omega)).symm
/-- two rows do not lie over each other -/
theorem over_apart {fn : Func} {f qa qb : Nat} {A1 A2 B2 : Option Addr} {n1 n2 c1 c2 lb cb o by1 e2 k2 : Nat} {zv : Value} {xs1 xs2 : List Value} (hq : qa ≠ qb) (ha : L[qa]? = some (.row (.slice A1 n1 c1) e k n1 xs1)) (hb : L[qb]? = some (.row (.slice A2 n2 c2) e2 k2 n2 xs2))
    (hn1 : 0 < n1) (hn2 : 0 < n2) (hk2 : 0 < k2) (ad2 : Addr) (hA2 : A2 = some ad2) (hB2 : B2 = some (ad2.add o)) (hf : P.funcs[f]? = some fn) (hname : (fn.name == "runtime.NumGoroutine") = false) (hbn : fn.body.isNone = true) (hn : Extern.findNext fn = none) (hfe : Extern.find fn = some (Extern.SlicesOverlaps.overlaps #[T, T] #[T']))
    (hu : P.underlying T = some (.slice e)) (hs : Inf P e k by1 zv) : ∀ w, Mem w0 M L w → (callFunc f (#[.slice A1 n1 c1, .slice B2 lb cb] : Array Value)).run P w = .ok (.value (.bool false)) w := fun w hS => by
  subst hA2 hB2
  rcases (hS.row ha).2 with ⟨_, h0⟩ | ⟨g1, cap1, cur1, h1, _, hg1, hnc1, _, hcs1, _⟩
  · omega
  rcases (hS.row hb).2 with ⟨_, h0⟩ | ⟨g2, cap2, cur2, h2, _, hg2, hnc2, _, hcs2, _⟩
  · omega
  injection h1 with f1 f2 f3
  injection h2 with f4 f5 f6
  injection f4 with f4
  subst f1 f3 f4 f6
  have hne : g1 ≠ g2 := fun e => by
    subst e
    exact hS.dj qa qb _ _ ha hb hq (.inl rfl) g1 rfl rfl
  have hz2 : cur2.size ≠ 0 := by
    rw [hcs2]
    have := Nat.mul_pos (show 0 < c2 by omega) hk2
    omega
  rw [run_callFunc_extern hf hname hbn hn hfe]
  have := Lib.run_overlaps_apart (P := P) w T T' e hu k (fun w => run_sizeOf' hs w) ⟨g1, 0, none⟩ ((⟨g2, 0, none⟩ : Addr).add o) n1 c1 lb cb (by rw [add_block]; exact hne) e e2 cur1.size cur2.size (by simp [World.shape?, hg1]) (by rw [add_block]; simp [World.shape?, hg2]) hz2 (by simp [World.frozen?, hg1]) (by simp [World.frozen?, hg1])
  rw [this]; rfl
end
end Ex
end Go.Proofs.YtffpglgboaigfaaDoor
