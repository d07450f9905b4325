/-
  The laws of the operations that make or write memory, of calls, and of a function's beginning and end.
-/
import Derived.Test.YtffpglgboaigfaaDoorOps
namespace Go.Proofs.YtffpglgboaigfaaDoor
namespace Ex

variable {P : Program} {N : Nat} {D : List Deferred} {E : Env} {S : World → Prop} {Q : Exit → Act → World → Prop} {K : Act → World → Prop}
  {w0 : World} {M : Fp} {L : List Own}
  {ops : Array Oper} {rest : List Oper} {d : Nat} {dst : Option Tmp} {op : Op} {ty T T' : TypeId} {pos : String} {aft : Array Edge} {g : Option (Nat × Bool)} {v u : Value} {x y z : Operand}

/-! ## A general step -/
theorem l_gen {S' : World → Prop} (hw : Want N D ops E g true) (hd : Nat.blt d N = true)
    (h : ∀ o : Oper, o.op = op → o.type = ty → ∀ a w, Has N D a E → S w → ∃ v w', (execOp a.eval o).run P w = .ok (.value v) w' ∧ S' w' ∧ WL P N D ops Q rest ((d, v) :: E) S') :
    WL P N D ops Q (⟨some d, op, ty, pos, aft, g⟩ :: rest) E S := fun w hS a ha => by
  unfold wpList
  rw [if_pos (hw _ rfl a ha)]
  left
  obtain ⟨v, w', hr, hS', hrest⟩ := h ⟨some d, op, ty, pos, aft, g⟩ rfl rfl a w ha hS
  unfold Oper.wp
  rw [hr]
  exact hrest w' hS' _ (ha.put _ hd)
theorem l_genS (hw : Want N D ops E g true) (hd : Nat.blt d N = true)
    (h : ∀ o : Oper, o.op = op → o.type = ty → ∀ a w, Has N D a E → S w → ∃ v w', (execOp a.eval o).run P w = .ok (.value v) w' ∧ ∃ S' : World → Prop, S' w' ∧ WL P N D ops Q rest ((d, v) :: E) S') :
    WL P N D ops Q (⟨some d, op, ty, pos, aft, g⟩ :: rest) E S := fun w hS a ha => by
  unfold wpList
  rw [if_pos (hw _ rfl a ha)]
  left
  obtain ⟨v, w', hr, S', hS', hrest⟩ := h ⟨some d, op, ty, pos, aft, g⟩ rfl rfl a w ha hS
  unfold Oper.wp
  rw [hr]
  exact hrest w' hS' _ (ha.put _ hd)
theorem l_act {S' : World → Prop} (hw : Want N D ops E g true)
    (h : ∀ o : Oper, o.op = op → o.type = ty → ∀ a w, Has N D a E → S w → ∃ w', (execOp a.eval o).run P w = .ok .skip w' ∧ S' w')
    (hk : WL P N D ops Q rest E S') : WL P N D ops Q (⟨none, op, ty, pos, aft, g⟩ :: rest) E S := fun w hS a ha => by
  unfold wpList
  rw [if_pos (hw _ rfl a ha)]
  left
  obtain ⟨w', hr, hS'⟩ := h ⟨none, op, ty, pos, aft, g⟩ rfl rfl a w ha hS
  unfold Oper.wp
  rw [hr]
  exact hk w' hS' _ ha

/-! ## New blocks -/
theorem l_new {cs : List Value} {t : TypeId} (hw : Want N D ops E g true) (hd : Nat.blt d N = true)
    (hr : ∀ o : Oper, o.op = op → o.type = ty → ∀ a w, Has N D a E → (execOp a.eval o).run P w = .ok (.value (.pointer (some ⟨w.heap.size, 0, none⟩))) (w.alloc (.cells cs.toArray t)))
    (h : ∀ b, WL P N D ops Q rest ((d, .pointer (some ⟨b, 0, none⟩)) :: E) (Mem w0 M (.blk b cs t :: L))) : WL P N D ops Q (⟨some d, op, ty, pos, aft, g⟩ :: rest) E (Mem w0 M L) :=
  l_genS hw hd fun o ho hty a w ha hS => ⟨_, _, hr o ho hty a w ha, _, hS.new cs t, h _⟩
theorem l_alloc {zs : List Value} {k by1 : Nat} (hw : Want N D ops E g true) (hs : Inf P T k by1 (.agg zs.toArray)) (hd : Nat.blt d N = true)
    (h : ∀ b, WL P N D ops Q rest ((d, .pointer (some ⟨b, 0, none⟩)) :: E) (Mem w0 M (.blk b zs T :: L))) : WL P N D ops Q (⟨some d, .alloc T, ty, pos, aft, g⟩ :: rest) E (Mem w0 M L) :=
  l_new hw hd (fun o ho _ a w _ => by unfold execOp; rw [ho]; simp [Instr.alloc, run_zeroValue' hs, newVar, newRow, Value.cells]) h
theorem l_alloc1 {zv : Value} {k by1 : Nat} (hw : Want N D ops E g true) (hs : Inf P T k by1 zv) (hz : zv.cells = #[zv]) (hd : Nat.blt d N = true)
    (h : ∀ b, WL P N D ops Q rest ((d, .pointer (some ⟨b, 0, none⟩)) :: E) (Mem w0 M (.blk b [zv] T :: L))) : WL P N D ops Q (⟨some d, .alloc T, ty, pos, aft, g⟩ :: rest) E (Mem w0 M L) :=
  l_new hw hd (fun o ho _ a w _ => by unfold execOp; rw [ho]; simp [Instr.alloc, run_zeroValue' hs, newVar, newRow, hz]) h
theorem l_box {vs : List Value} (hw : Want N D ops E g true) (hx : ev E x = some (.agg vs.toArray)) (hd : Nat.blt d N = true)
    (h : ∀ b, WL P N D ops Q rest ((d, .pointer (some ⟨b, 0, none⟩)) :: E) (Mem w0 M (.blk b vs T :: L))) : WL P N D ops Q (⟨some d, .box T x, ty, pos, aft, g⟩ :: rest) E (Mem w0 M L) :=
  l_new hw hd (fun o ho _ a w ha => by unfold execOp; rw [ho]; simp [Instr.box, ha.eval hx, newVar, newRow, Value.cells]) h
theorem l_box1 (hw : Want N D ops E g true) (hx : ev E x = some v) (hz : v.cells = #[v]) (hd : Nat.blt d N = true)
    (h : ∀ b, WL P N D ops Q rest ((d, .pointer (some ⟨b, 0, none⟩)) :: E) (Mem w0 M (.blk b [v] T :: L))) : WL P N D ops Q (⟨some d, .box T x, ty, pos, aft, g⟩ :: rest) E (Mem w0 M L) :=
  l_new hw hd (fun o ho _ a w ha => by unfold execOp; rw [ho]; simp [Instr.box, ha.eval hx, newVar, newRow, hz]) h

/-! ## Stores into a block of the call's own -/
theorem run_storeVarN {k by1 : Nat} {zv : Value} (hs : Inf P T k by1 zv) {vs : List Value} (hv : v.cells = vs.toArray) (hl : vs.length = k) (h1 : vs.all (·.oneCell') = true) {b j : Nat} {cur : List Value} {t : TypeId} {w : World}
    (hb : w.heap[b]? = some (.cells cur.toArray t (0, 0))) (hj : j + k ≤ cur.length) :
    (storeVar T ⟨b, j, none⟩ v).run P w = .ok () (w.setRow b (splice cur j vs).toArray) := by
  subst hl
  have h := run_storeCells_at P b j t vs 0 cur.toArray w hb (by simpa using hj) (fun v hv => List.all_eq_true.1 h1 v hv)
  simp only [Nat.add_zero, List.append_assoc] at h
  simp [storeVar, run_sizeOf' hs, hv, splice, h]
theorem Mem.setRow {w : World} (h : Mem w0 M L w) {i b : Nat} {cs cs' : List Value} {t : TypeId} (hi : L[i]? = some (.blk b cs t)) : Mem w0 M (L.set i (.blk b cs' t)) (w.setRow b cs'.toArray) := by
  refine h.upd hi rfl ⟨rfl, rfl, rfl, by simp, fun k _ hk => setRow_other w b k _ hk⟩ ?_ (fun b' hb' => ⟨.inl hb', ?_⟩)
  · exact setRow_heap w b _ _ t _ (h.blk hi)
  · have := (h.ok i _ hi).2.1 b' hb'
    simpa using this
theorem l_st1 (i : Nat) {b j by1 : Nat} {zv : Value} {cs : List Value} {t : TypeId} (hw : Want N D ops E g true) (hx : ev E x = some (.pointer (some ⟨b, j, none⟩))) (hy : ev E y = some v) (hL : L[i]? = some (.blk b cs t)) (hj : Nat.blt j cs.length = true) (hs : Inf P T 1 by1 zv) (hv : v.cells = #[v]) (h1 : v.oneCell' = true)
    (h : WL P N D ops Q rest E (Mem w0 M (L.set i (.blk b (splice cs j [v]) t)))) : WL P N D ops Q (⟨none, .store T x y, ty, pos, aft, g⟩ :: rest) E (Mem w0 M L) :=
  l_act hw (fun o ho _ a w ha hS => ⟨w.setRow b (splice cs j [v]).toArray, by
    unfold execOp; rw [ho]
    have hj' : j < cs.length := by simpa [Nat.blt_eq] using hj
    have hst := run_storeVarN hs (v := v) (vs := [v]) (b := b) (j := j) (by simpa using hv) rfl (by simpa using h1) (hS.blk hL) hj'
    simp [ha.eval hx, ha.eval hy, Instr.storeAt, Instr.sureAddr, hst], hS.setRow hL⟩) h
theorem l_stn (i : Nat) {b j k by1 : Nat} {zv : Value} {vs cs : List Value} {t : TypeId} (hw : Want N D ops E g true) (hx : ev E x = some (.pointer (some ⟨b, j, none⟩))) (hy : ev E y = some (.agg vs.toArray)) (hL : L[i]? = some (.blk b cs t)) (hs : Inf P T k by1 zv) (hl : vs.length = k) (hj : Nat.ble (j + k) cs.length = true) (h1 : vs.all (·.oneCell') = true)
    (h : WL P N D ops Q rest E (Mem w0 M (L.set i (.blk b (splice cs j vs) t)))) : WL P N D ops Q (⟨none, .store T x y, ty, pos, aft, g⟩ :: rest) E (Mem w0 M L) :=
  l_act hw (fun o ho _ a w ha hS => ⟨w.setRow b (splice cs j vs).toArray, by
    unfold execOp; rw [ho]
    have hj' : j + k ≤ cs.length := Nat.le_of_ble_eq_true hj
    simp [ha.eval hx, ha.eval hy, Instr.storeAt, Instr.sureAddr, run_storeVarN hs (v := .agg vs.toArray) (vs := vs) (by simp [Value.cells]) hl h1 (hS.blk hL) hj'], hS.setRow hL⟩) h

/-! ## Calls -/
/-- hands back v, and nothing that was there has turned -/
def Ret (w : World) (v : Value) : Ending → World → Prop := fun e w' => e = .returned v ∧ Fr no w w'
/-- hands back something, and nothing that was there has turned -/
def RetF (w : World) (Φ : Value → World → Prop) : Ending → World → Prop := fun e w' => ∃ v, e = .returned v ∧ Fr no w w' ∧ Φ v w'

theorem run_call {f : Nat} {args : Array Operand} {ts : Array TypeId} {vs : List Value} {cap : Array Value} {a : Act} {o : Oper} {w : World} (ha : Has N D a E) (hx : ev E x = some (.func (.func f) #[] cap)) (hargs : evs E args.toList = some vs)
    (hcall : ∀ vs w, (callFunc f vs).run P w = .ok (.enter f vs) w) (ho : o.op = .call { callee := .value x, args := args, argTypes := ts }) : (execOp a.eval o).run P w = .ok (.enter f (vs.toArray ++ cap)) w := by
  have h1 : args.map a.eval = vs.toArray := by
    apply Array.toList_inj.1
    rw [Array.toList_map]
    exact evs_map ha hargs
  unfold execOp; rw [ho]
  simp [resolve, Deferred.ofValue, ha.eval hx, h1, invoke, hcall]
theorem l_call {f : Nat} {args : Array Operand} {ts : Array TypeId} {vs : List Value} {cap : Array Value} {Φ : Value → World → Prop} (hw : Want N D ops E g true) (hx : ev E x = some (.func (.func f) #[] cap)) (hargs : evs E args.toList = some vs)
    (hcall : ∀ vs w, (callFunc f vs).run P w = .ok (.enter f vs) w) (hd : Nat.blt d N = true)
    (hc : ∀ w, S w → Calls P f (vs.toArray ++ cap) w (fun e w' => ∃ v, e = .returned v ∧ Φ v w')) (h : ∀ v, WL P N D ops Q rest ((d, v) :: E) (Φ v)) :
    WL P N D ops Q (⟨some d, .call { callee := .value x, args := args, argTypes := ts }, ty, pos, aft, g⟩ :: rest) E S := fun w hS a ha => by
  unfold wpList
  rw [if_pos (hw _ rfl a ha)]
  left
  unfold Oper.wp
  rw [run_call ha hx hargs hcall rfl, Oper.upon_enter]
  refine (hc w hS).mono ?_
  rintro e w' ⟨v, rfl, hv⟩
  exact h v w' hv _ (ha.put _ hd)
/-- a call without a result -/
theorem l_call0 {f : Nat} {args : Array Operand} {ts : Array TypeId} {vs : List Value} {cap : Array Value} {S' : World → Prop} (hw : Want N D ops E g true) (hx : ev E x = some (.func (.func f) #[] cap)) (hargs : evs E args.toList = some vs)
    (hcall : ∀ vs w, (callFunc f vs).run P w = .ok (.enter f vs) w)
    (hc : ∀ w, S w → Calls P f (vs.toArray ++ cap) w (fun e w' => ∃ v, e = .returned v ∧ S' w')) (h : WL P N D ops Q rest E S') :
    WL P N D ops Q (⟨none, .call { callee := .value x, args := args, argTypes := ts }, ty, pos, aft, g⟩ :: rest) E S := fun w hS a ha => by
  unfold wpList
  rw [if_pos (hw _ rfl a ha)]
  left
  unfold Oper.wp
  rw [run_call ha hx hargs hcall rfl, Oper.upon_enter]
  refine (hc w hS).mono ?_
  rintro e w' ⟨v, rfl, hv⟩
  exact h w' hv _ ha
theorem l_callR {f : Nat} {args : Array Operand} {ts : Array TypeId} {vs : List Value} {cap : Array Value} (hw : Want N D ops E g true) (hx : ev E x = some (.func (.func f) #[] cap)) (hargs : evs E args.toList = some vs)
    (hcall : ∀ vs w, (callFunc f vs).run P w = .ok (.enter f vs) w) (hd : Nat.blt d N = true)
    (hc : ∀ w, Mem w0 M L w → Calls P f (vs.toArray ++ cap) w (Ret w v)) (h : WL P N D ops Q rest ((d, v) :: E) (Mem w0 M L)) :
    WL P N D ops Q (⟨some d, .call { callee := .value x, args := args, argTypes := ts }, ty, pos, aft, g⟩ :: rest) E (Mem w0 M L) :=
  l_call (Φ := fun u w' => u = v ∧ Mem w0 M L w') hw hx hargs hcall hd (fun w hS => (hc w hS).mono fun e w' ⟨he, hf⟩ => ⟨v, he, rfl, hS.keep hf⟩) (fun u w hu a ha => by obtain ⟨rfl, hS⟩ := hu; exact h w hS a ha)
theorem q_callR {f : Nat} {args : Array Operand} {ts : Array TypeId} {vs : List Value} {cap : Array Value} (hw : Want N D ops E g true) (hx : ev E x = some (.func (.func f) #[] cap)) (hargs : evs E args.toList = some vs)
    (hcall : ∀ vs w, (callFunc f vs).run P w = .ok (.enter f vs) w) (hd : Nat.blt d N = true)
    (hc : ∀ w, Mem w0 M L w → Calls P f (vs.toArray ++ cap) w (Ret w v)) (h : WQ P N D ops K rest ((d, v) :: E) (Mem w0 M L)) :
    WQ P N D ops K (⟨some d, .call { callee := .value x, args := args, argTypes := ts }, ty, pos, aft, g⟩ :: rest) E (Mem w0 M L) := fun a ha => by
  refine wpQuiet_step fun K' hK => ?_
  rw [if_pos (hw _ rfl a ha)]
  refine ⟨v, fun w hS => ?_, hK _ (h _ (ha.put _ hd))⟩
  unfold Oper.quietAt
  rw [run_call ha hx hargs hcall rfl]
  exact ⟨rfl, (hc w hS).mono fun e w' ⟨he, hf⟩ => ⟨he, hS.keep hf⟩⟩

/-- a call of a function by its name -/
theorem l_callF {f : Nat} {args : Array Operand} {ts : Array TypeId} {vs : List Value} (hw : Want N D ops E g true) (hargs : evs E args.toList = some vs)
    (hcall : ∀ vs w, (callFunc f vs).run P w = .ok (.enter f vs) w) (hd : Nat.blt d N = true)
    (hc : ∀ w, Mem w0 M L w → Calls P f vs.toArray w (Ret w v)) (h : WL P N D ops Q rest ((d, v) :: E) (Mem w0 M L)) :
    WL P N D ops Q (⟨some d, .call { callee := .value (.func f), args := args, argTypes := ts }, ty, pos, aft, g⟩ :: rest) E (Mem w0 M L) :=
  l_callR hw (by rfl) hargs hcall hd (fun w hS => by simpa using hc w hS) h
theorem q_callF {f : Nat} {args : Array Operand} {ts : Array TypeId} {vs : List Value} (hw : Want N D ops E g true) (hargs : evs E args.toList = some vs)
    (hcall : ∀ vs w, (callFunc f vs).run P w = .ok (.enter f vs) w) (hd : Nat.blt d N = true)
    (hc : ∀ w, Mem w0 M L w → Calls P f vs.toArray w (Ret w v)) (h : WQ P N D ops K rest ((d, v) :: E) (Mem w0 M L)) :
    WQ P N D ops K (⟨some d, .call { callee := .value (.func f), args := args, argTypes := ts }, ty, pos, aft, g⟩ :: rest) E (Mem w0 M L) :=
  q_callR hw (by rfl) hargs hcall hd (fun w hS => by simpa using hc w hS) h
/-- a call of a function value that holds nothing -/
theorem l_callV {f : Nat} {args : Array Operand} {ts : Array TypeId} {vs : List Value} (hw : Want N D ops E g true) (hx : ev E x = some (.func (.func f) #[] #[])) (hargs : evs E args.toList = some vs)
    (hcall : ∀ vs w, (callFunc f vs).run P w = .ok (.enter f vs) w) (hd : Nat.blt d N = true)
    (hc : ∀ w, Mem w0 M L w → Calls P f vs.toArray w (Ret w v)) (h : WL P N D ops Q rest ((d, v) :: E) (Mem w0 M L)) :
    WL P N D ops Q (⟨some d, .call { callee := .value x, args := args, argTypes := ts }, ty, pos, aft, g⟩ :: rest) E (Mem w0 M L) :=
  l_callR hw hx hargs hcall hd (fun w hS => by simpa using hc w hS) h
theorem q_callV {f : Nat} {args : Array Operand} {ts : Array TypeId} {vs : List Value} (hw : Want N D ops E g true) (hx : ev E x = some (.func (.func f) #[] #[])) (hargs : evs E args.toList = some vs)
    (hcall : ∀ vs w, (callFunc f vs).run P w = .ok (.enter f vs) w) (hd : Nat.blt d N = true)
    (hc : ∀ w, Mem w0 M L w → Calls P f vs.toArray w (Ret w v)) (h : WQ P N D ops K rest ((d, v) :: E) (Mem w0 M L)) :
    WQ P N D ops K (⟨some d, .call { callee := .value x, args := args, argTypes := ts }, ty, pos, aft, g⟩ :: rest) E (Mem w0 M L) :=
  q_callR hw hx hargs hcall hd (fun w hS => by simpa using hc w hS) h
/-- a call that hands back something new -/
theorem l_callN {f : Nat} {args : Array Operand} {ts : Array TypeId} {vs : List Value} {Φ : Value → World → Prop} (hw : Want N D ops E g true) (hargs : evs E args.toList = some vs)
    (hcall : ∀ vs w, (callFunc f vs).run P w = .ok (.enter f vs) w) (hd : Nat.blt d N = true)
    (hc : ∀ w, Mem w0 M L w → Calls P f vs.toArray w (fun e w' => ∃ v, e = .returned v ∧ Φ v w')) (h : ∀ v, WL P N D ops Q rest ((d, v) :: E) (Φ v)) :
    WL P N D ops Q (⟨some d, .call { callee := .value (.func f), args := args, argTypes := ts }, ty, pos, aft, g⟩ :: rest) E (Mem w0 M L) :=
  l_call hw (by rfl) hargs hcall hd (fun w hS => by simpa using hc w hS) h

/-! ## A function's beginning and end -/
def envOf : Nat → List Value → Env
  | _, [] => []
  | i, v :: r => (i, v) :: envOf (i + 1) r
theorem look_envOf (t : Nat) : ∀ (i : Nat) (l : List Value), look (envOf i l) t = if t < i then none else l[t - i]?
  | i, [] => by simp [envOf, look]
  | i, v :: r => by
    rw [envOf, look_cons, look_envOf t (i + 1) r]
    by_cases h : i = t
    · subst h; simp
    · rw [if_neg h]
      by_cases h2 : t < i
      · rw [if_pos h2, if_pos (by omega)]
      · rw [if_neg h2, if_neg (by omega)]
        rw [show t - i = (t - (i + 1)) + 1 by omega]
        simp
theorem fstart {f : Nat} {fn : Func} {c : Code} {vals : List Value} {w : World} {R : Ending → World → Prop} (hf : P.funcs[f]? = some fn) (hb : fn.body = some c) (hn : fn.ntmps = N) (hl : Nat.ble vals.length N = true)
    (hS : S w) (h : WC P N [] c (bodyPost P fn R) (envOf 0 vals) S) : Calls P f vals.toArray w R := by
  refine calls_of_wp hf hb (h w hS _ ⟨rfl, ?_, fun t v hv => ?_⟩)
  · have := Nat.le_of_ble_eq_true hl
    simp [hn]; omega
  · rw [look_envOf, if_neg (by omega)] at hv
    simp only [Nat.sub_zero] at hv
    have hlt : t < vals.length := (List.getElem?_eq_some_iff.1 hv).1
    rw [Array.getElem?_append_left (by simpa using hlt)]
    simpa using hv

section
variable {fn : Func} {R : Ending → World → Prop}
def resF (tmps : Array Value) : ResultVar → Sem Value
  | .tmp t => pure (tmps.getD t undef)
  | .cell p t => do loadVar t (← asAddr (tmps.getD p undef))
/-- what a result's variable holds -/
def ResV (P : Program) (N : Nat) (D : List Deferred) (E : Env) (S : World → Prop) (r : ResultVar) (v : Value) : Prop := ∀ w, S w → ∀ a, Has N D a E → (resF a.tmps r).run P w = .ok v w
theorem rv_tmp {t : Nat} (hl : look E t = some v) : ResV P N D E S (.tmp t) v := fun w _ a ha => by simp [resF, ha.h t v hl]
theorem rv_cell (i : Nat) {p b k by1 : Nat} {zv : Value} {cs : List Value} {t : TypeId} (hl : look E p = some (.pointer (some ⟨b, 0, none⟩))) (hL : L[i]? = some (.blk b cs t)) (hg : aggT P T = true) (hs : Inf P T k by1 zv) (hk : cs.length = k) : ResV P N D E (Mem w0 M L) (.cell p T) (.agg cs.toArray) := fun w hS a ha => by
  subst hk
  have h1 := ha.h p _ hl
  have := run_loadCells_list (P := P) w ⟨b, 0, none⟩ cs (fun j u hu => by rw [add_lit, hS.cell hL]; simpa using hu)
  simp [resF, h1, asAddr, loadVar, run_isAgg_agg hg, run_sizeOf' hs, this]
theorem results_eq (fn : Func) (tmps : Array Value) : results fn tmps = (do
    let vs ← fn.results.mapM (resF tmps)
    pure (if h : vs.size = 1 then vs[0] else .tuple vs)) := by
  unfold results
  congr 1
theorem e_ret1 {r : ResultVar} {e : Exit} (he : e = .ret ∨ e = .normal) (hr : fn.results = #[r]) (hv : ResV P N [] E S r v) (hR : ∀ w, S w → R (.returned v) w) : WE N [] (bodyPost P fn R) e E S := fun w hS a ha => by
  have hres : (results fn a.tmps).run P w = .ok v w := by
    rw [results_eq, hr]; simp [hv w hS a ha]
  rcases he with rfl | rfl <;> exact ⟨ha.d, v, hres, hR w hS⟩
theorem e_ret2 {r1 r2 : ResultVar} {v1 v2 : Value} {e : Exit} (he : e = .ret ∨ e = .normal) (hr : fn.results = #[r1, r2]) (hv1 : ResV P N [] E S r1 v1) (hv2 : ResV P N [] E S r2 v2) (hR : ∀ w, S w → R (.returned (.tuple #[v1, v2])) w) : WE N [] (bodyPost P fn R) e E S := fun w hS a ha => by
  have hres : (results fn a.tmps).run P w = .ok (.tuple #[v1, v2]) w := by
    rw [results_eq, hr]; simp [hv1 w hS a ha, hv2 w hS a ha]
  rcases he with rfl | rfl <;> exact ⟨ha.d, _, hres, hR w hS⟩
theorem e_ret3 {r1 r2 r3 : ResultVar} {v1 v2 v3 : Value} {e : Exit} (he : e = .ret ∨ e = .normal) (hr : fn.results = #[r1, r2, r3]) (hv1 : ResV P N [] E S r1 v1) (hv2 : ResV P N [] E S r2 v2) (hv3 : ResV P N [] E S r3 v3) (hR : ∀ w, S w → R (.returned (.tuple #[v1, v2, v3])) w) : WE N [] (bodyPost P fn R) e E S := fun w hS a ha => by
  have hres : (results fn a.tmps).run P w = .ok (.tuple #[v1, v2, v3]) w := by
    rw [results_eq, hr]; simp [hv1 w hS a ha, hv2 w hS a ha, hv3 w hS a ha]
  rcases he with rfl | rfl <;> exact ⟨ha.d, _, hres, hR w hS⟩
theorem e_ret0 {e : Exit} (he : e = .ret ∨ e = .normal) (hr : fn.results = #[]) (hR : ∀ w, S w → R (.returned (.tuple #[])) w) : WE N [] (bodyPost P fn R) e E S := fun w hS a ha => by
  have hres : (results fn a.tmps).run P w = .ok (.tuple #[]) w := by simp [results, hr]
  rcases he with rfl | rfl <;> exact ⟨ha.d, _, hres, hR w hS⟩
end

end Ex
end Go.Proofs.YtffpglgboaigfaaDoor
