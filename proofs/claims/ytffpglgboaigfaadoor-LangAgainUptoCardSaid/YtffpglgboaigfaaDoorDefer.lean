/-
  A function that defers one closure, which recovers.
-/
import Derived.Test.YtffpglgboaigfaaDoorPan
import Derived.Defers
import Derived.Recover
namespace Go.Proofs.YtffpglgboaigfaaDoor
namespace Ex
set_option linter.unusedVariables false
@[reducible] def dfr (f : Nat) (cap : List Value) : Deferred := { target := .fn (.func f) cap.toArray, args := #[] }
section
variable {P : Program} {N : Nat} {D : List Deferred} {E E' : Env} {S S' : World → Prop} {Q : Exit → Act → World → Prop} {K : Act → World → Prop} {w0 w w' : World} {M : Fp} {L A A' R L' : List Own} {Pb : Nat → Prop}
  {ops : Array Oper} {rest : List Oper} {d : Nat} {ty T PT : TypeId} {pos : String} {aft : Array Edge} {g : Option (Nat × Bool)} {v u : Value} {x y : Operand}
theorem fstartD {f : Nat} {fn : Func} {c : Code} {vals : List Value} {w : World} {R : Ending → World → Prop} (hf : P.funcs[f]? = some fn) (hb : fn.body = some c) (hn : fn.ntmps = N) (hl : Nat.ble vals.length N = true)
    (hS : S w) (h : WC P N [] c (bodyPostD P fn R) (envOf 0 vals) S) : Calls P f vals.toArray w R := by
  refine calls_of_wp_defers hf hb (h w hS _ ⟨rfl, ?_, fun t v hv => ?_⟩)
  · have := Nat.le_of_ble_eq_true hl
    simp [hn]; omega
  · rw [look_envOf, if_neg (by omega)] at hv
    simp only [Nat.sub_zero] at hv
    have hlt : t < vals.length := (List.getElem?_eq_some_iff.1 hv).1
    rw [Array.getElem?_append_left (by simpa using hlt)]
    simpa using hv
theorem c_seqD {x y : Code} (h : ∀ K : Act → World → Prop, (∀ D' E S, WC P N D' y Q E S → ∀ w, S w → ∀ a, Has N D' a E → K a w) → WC P N D x (Exit.then K Q) E S) : WC P N D (.seq x y) Q E S :=
  fun w hw a ha => wp_seq (h (fun a w => y.wp P Q a w) (fun _ _ _ h' w' hw' a' ha' => h' w' hw' a' ha') w hw a ha)
theorem l_defer {f : Nat} {cap : List Value} (hw : Want N D ops E g true) (hx : ev E x = some (.func (.func f) #[] cap.toArray)) (h : WL P N (dfr f cap :: D) ops Q rest E S) : WL P N D ops Q (⟨none, .defer { callee := .value x, args := #[], argTypes := #[] }, ty, pos, aft, g⟩ :: rest) E S := fun w hS a ha => by
  unfold wpList
  rw [if_pos (hw _ rfl a ha)]
  left
  unfold Oper.wp
  rw [show (execOp a.eval ⟨none, .defer { callee := .value x, args := #[], argTypes := #[] }, ty, pos, aft, g⟩).run P w = .ok (.defer (dfr f cap)) w from by unfold execOp; simp [ha.eval hx, resolve, Deferred.ofValue, dfr], Oper.upon_defer]
  exact h w hS _ ⟨by show _ :: a.defers = _; rw [ha.d], ha.n, ha.h⟩
/-! ## Ends -/
section
variable {fn : Func} {R : Ending → World → Prop} {f : Nat} {cap : List Value} {r1 r2 : ResultVar} {v1 v2 : Value} {chain chain' : List PanicEntry}
theorem res2 {a : Act} {w : World} (hr : fn.results = #[r1, r2]) (hv1 : ResV P N D E S r1 v1) (hv2 : ResV P N D E S r2 v2) (hS : S w) (ha : Has N D a E) : (results fn a.tmps).run P w = .ok (.tuple #[v1, v2]) w := by
  rw [results_eq, hr]; simp [hv1 w hS a ha, hv2 w hS a ha]
/-- before anything was deferred -/
theorem e_retD0 {e : Exit} (he : e = .ret ∨ e = .normal) (hr : fn.results = #[r1, r2]) (hv1 : ResV P N [] E S r1 v1) (hv2 : ResV P N [] E S r2 v2) (hR : ∀ w, S w → R (.returned (.tuple #[v1, v2])) w) : WE N [] (bodyPostD P fn R) e E S := fun w hS a ha => by
  have h1 : Leaves P fn a.tmps R a.defers .returning w := by rw [ha.d]; exact ⟨_, res2 hr hv1 hv2 hS ha, hR w hS⟩
  rcases he with rfl | rfl <;> exact h1
theorem leave1 {a : Act} {w : World} {u u' : FrameMode} (hu : u ≠ .run) (hcall : ∀ vs w, (callFunc f vs).run P w = .ok (.enter f vs) w) (hu' : settle u' = .returning)
    (hc : CallsD P f cap.toArray u w (fun e u2 w' => u2 = u' ∧ (∃ v, e = .returned v) ∧ S' w')) (hr : fn.results = #[r1, r2]) (hv1 : ResV P N D E S' r1 v1) (hv2 : ResV P N D E S' r2 v2) (hR : ∀ w, S' w → R (.returned (.tuple #[v1, v2])) w) (ha : Has N D a E) (hD : D = [dfr f cap]) : Leaves P fn a.tmps R a.defers u w := by
  have hd := ha.d
  rw [hd, hD]
  refine leaves_cons hu (f := f) (args := cap.toArray) (by simp [invoke, hcall]) (hc.mono ?_)
  rintro e u2 w2 ⟨rfl, ⟨v, rfl⟩, hS2⟩
  show Leaves P fn a.tmps R [] (settle _) w2
  rw [hu']
  exact ⟨_, res2 hr hv1 hv2 hS2 ha, hR w2 hS2⟩
theorem e_retD {e : Exit} (he : e = .ret ∨ e = .normal) (hcall : ∀ vs w, (callFunc f vs).run P w = .ok (.enter f vs) w) (hc : ∀ w, S w → CallsD P f cap.toArray .returning w (fun e u' w' => u' = .returning ∧ (∃ v, e = .returned v) ∧ S' w'))
    (hr : fn.results = #[r1, r2]) (hv1 : ResV P N [dfr f cap] E S' r1 v1) (hv2 : ResV P N [dfr f cap] E S' r2 v2) (hR : ∀ w, S' w → R (.returned (.tuple #[v1, v2])) w) : WE N [dfr f cap] (bodyPostD P fn R) e E S := fun w hS a ha => by
  have h1 := leave1 (u := .returning) (by simp) hcall (u' := .returning) rfl (hc w hS) hr hv1 hv2 hR ha rfl
  rcases he with rfl | rfl <;> exact h1
theorem e_panD (hcall : ∀ vs w, (callFunc f vs).run P w = .ok (.enter f vs) w) (hc : ∀ w, S w → CallsD P f cap.toArray (.panicking chain) w (fun e u' w' => u' = .panicking chain' ∧ (∃ v, e = .returned v) ∧ S' w')) (hu : settle (.panicking chain') = .returning)
    (hr : fn.results = #[r1, r2]) (hv1 : ResV P N [dfr f cap] E S' r1 v1) (hv2 : ResV P N [dfr f cap] E S' r2 v2) (hR : ∀ w, S' w → R (.returned (.tuple #[v1, v2])) w) : WE N [dfr f cap] (bodyPostD P fn R) (.panic chain) E S := fun w hS a ha =>
  leave1 (u := .panicking chain) (by simp) hcall hu (hc w hS) hr hv1 hv2 hR ha rfl
end
/-! ## The closure -/
theorem dgive {α : Type} {f : Nat} {cap : List Value} {u u2 : FrameMode} (A R : List Own) (mk : α → Value) (A' L' : List Own) (hL' : A' ++ R = L') (hA : ∀ w, Mem w0 M L w → Mem w0 M (A ++ R) w) (hq : A'.all (fun o => o.mut || o.isPub) = true)
    (hc : ∀ w Pb, Mem w ⟨fpOf A, Pb⟩ A w → CallsD P f cap.toArray u w (fun e u' w' => u' = u2 ∧ RetA w A Pb mk (fun _ => True) (fun _ => A') e w')) : ∀ w, Mem w0 M L w → CallsD P f cap.toArray u w (fun e u' w' => u' = u2 ∧ (∃ v, e = .returned v) ∧ Mem w0 M L' w') := fun w hS => by
  have hS' := hA w hS
  obtain ⟨Pb, pp⟩ := hS'.pb
  refine (hc w Pb (hS'.give pp)).mono ?_
  rintro e u' w' ⟨hu, z, rfl, _, hk⟩
  exact ⟨hu, ⟨_, rfl⟩, by rw [← hL']; exact hS'.take pp hk hq⟩
theorem didle {f : Nat} {cap : List Value} (hc : ∀ w, Mem w0 M L w → CallsD P f cap.toArray .returning w (fun e u' w' => u' = .returning ∧ RetA w [] (fun _ => False) (fun _ : Unit => .tuple #[]) (fun _ => True) (fun _ => []) e w')) : ∀ w, Mem w0 M L w → CallsD P f cap.toArray .returning w (fun e u' w' => u' = .returning ∧ (∃ v, e = .returned v) ∧ Mem w0 M L w') := fun w hS => by
  refine (hc w hS).mono ?_
  rintro e u' w' ⟨hu, z, rfl, _, hk⟩
  exact ⟨hu, ⟨_, rfl⟩, hS.keep (hk.fr.mono fun b hb hm => by obtain ⟨o, ho, _⟩ := hm; cases ho)⟩
theorem memNil (w : World) : Mem w ⟨fpOf [], fun _ => False⟩ [] w := Mem.start w _
/-- a closure that asks recover first -/
theorem dstart {f : Nat} {fn : Func} {id : Nat} {c : Code} {vals : List Value} {w : World} {R : Ending → World → Prop} {u u' : FrameMode} {rv : Value} (hf : P.funcs[f]? = some fn) (hb : fn.body = some (.seq (.region id #[⟨some d, .call { callee := .builtin .recover, args := #[], argTypes := #[] }, ty, pos, aft, none⟩] false) c)) (hn : fn.ntmps = N) (hl : Nat.ble vals.length N = true) (hd : Nat.blt d N = true)
    (hu : (u = .returning ∧ u' = .returning ∧ rv = .nilIface) ∨ ∃ older, u = .panicking ({ v := rv, recovered := false } :: older) ∧ u' = .panicking ({ v := rv, recovered := true } :: older))
    (hS : S w) (h : WC P N [] c (bodyPost P fn R) ((d, rv) :: envOf 0 vals) S) : CallsD P f vals.toArray u w (fun e u2 w' => u2 = u' ∧ R e w') := by
  refine callsD_of_wpS hf hb fun c₀ cs hcu => ?_
  have ha : Has N [] ({ tmps := vals.toArray ++ Array.replicate (fn.ntmps - vals.toArray.size) undef, defers := [] } : Act) (envOf 0 vals) := by
    refine ⟨rfl, ?_, fun t v hv => ?_⟩
    · have := Nat.le_of_ble_eq_true hl
      simp [hn]; omega
    · rw [look_envOf, if_neg (by omega)] at hv
      simp only [Nat.sub_zero] at hv
      have hlt : t < vals.length := (List.getElem?_eq_some_iff.1 hv).1
      rw [Array.getElem?_append_left (by simpa using hlt)]
      simpa using hv
  refine wpS_seq (wpS_region ?_)
  have hrest : ∀ cs' : List Frame, cs' = { c₀ with mode := u' } :: cs → ∀ (a : Act), Has N [] a ((d, rv) :: envOf 0 vals) → c.wpS P (bodyPostS P fn c₀ cs fun e u2 w' => u2 = u' ∧ R e w') a cs' w := fun cs' hcs a ha => by
    refine wpS_of_wp ?_
    refine Code.wp_mono ?_ (h w hS a ha)
    intro e a' w' hq
    cases e with
    | normal => obtain ⟨h1, v, h2, h3⟩ := hq; exact ⟨h1, u', hcs, v, h2, rfl, h3⟩
    | ret => obtain ⟨h1, v, h2, h3⟩ := hq; exact ⟨h1, u', hcs, v, h2, rfl, h3⟩
    | panic ch => obtain ⟨h1, h2⟩ := hq; exact ⟨h1, u', hcs, rfl, h2⟩
    | outgrown => exact ⟨u', rfl, hq⟩
    | exit i => exact hq
    | goto i => exact hq
  have hrun : ∀ a : Act, (execOp a.eval ⟨some d, .call { callee := .builtin .recover, args := #[], argTypes := #[] }, ty, pos, aft, none⟩).run P w = .ok .recover w := fun a => by
    unfold execOp; simp [resolve, invoke, builtin]
  rw [show List.range (#[(⟨some d, .call { callee := .builtin .recover, args := #[], argTypes := #[] }, ty, pos, aft, none⟩ : Oper)]).size = [0] from rfl]
  simp only [wpOpsS, List.getElem?_toArray, List.getElem?_cons_zero, Region.wanted, if_true, hrun]
  rcases hu with ⟨rfl, rfl, rfl⟩ | ⟨older, rfl, rfl⟩
  · have hr : recoverD (c₀ :: cs) = none := by simp [recoverD, hcu]
    simp only [hr]
    exact hrest _ (by rw [← hcu]) _ (ha.put _ hd)
  · have hr : recoverD (c₀ :: cs) = some (rv, { c₀ with mode := .panicking ({ v := rv, recovered := true } :: older) } :: cs) := by simp [recoverD, hcu]
    simp only [hr]
    exact hrest _ rfl _ (ha.put _ hd)
end
end Ex
end Go.Proofs.YtffpglgboaigfaaDoor
