/-
  How expressions read, and how much they hold.
-/
import Derived.Test.YtffpglgboaigfaaDoorRd3
import Derived.Test.YtffpglgboaigfaaDoorPText
import Derived.Test.YtffpglgboaigfaaDoorRows
namespace Go.Proofs.YtffpglgboaigfaaDoor
open Go.ChangeShapes Go.WideShapes Go.ChangeAt Go.RowKit
namespace Ex
set_option linter.unusedVariables false
set_option linter.unusedSimpArgs false
theorem listn3 {α : Type} {l : List α} (h : l.length = 3) : ∃ c0 c1 c2, l = [c0, c1, c2] := by
  match l, h with
  | [c0, c1, c2], _ => exact ⟨_, _, _, rfl⟩

theorem listn7 {α : Type} {l : List α} (h : l.length = 7) : ∃ c0 c1 c2 c3 c4 c5 c6, l = [c0, c1, c2, c3, c4, c5, c6] := by
  match l, h with
  | [c0, c1, c2, c3, c4, c5, c6], _ => exact ⟨_, _, _, _, _, _, _, rfl⟩

theorem bulk_mem {H : Type} {d : DataW H} : ∀ {es : List (DataW H)}, d ∈ es → Rows.uptoBulk d ≤ Rows.uptoBulkAll es
  | [], h => by cases h
  | e :: r, h => by
    simp only [Rows.uptoBulkAll]
    rcases List.mem_cons.1 h with rfl | h
    · omega
    · have := bulk_mem h; omega
theorem bulk_agg {H : Type} {d e : DataW H} {es : List (DataW H)} (hd : d = .agg es) (h : e ∈ es) : Rows.uptoBulk e ≤ Rows.uptoBulk d := by
  rw [hd]; have := bulk_mem h; simp only [Rows.uptoBulk]; omega
theorem bulk_sls {H : Type} {d e : DataW H} {ds sp : List (DataW H)} (hd : d = .slice ds sp) (h : e ∈ ds) : Rows.uptoBulk e ≤ Rows.uptoBulk d := by
  rw [hd]; have := bulk_mem h; simp only [Rows.uptoBulk]; omega
theorem rd_strB {P : Program} {t : TypeId} (h : P.underlying t = some .string) {H : Type} {en : TypeId × Value → H} {w : World} {base : Nat} {sp : Nat → Bool} {held : Bool} {fuel : Nat} {cs : List Value} {x : DataW H × List MemPlace} (hx : DataW.trod en P w base sp held fuel t cs = some x) : ∃ s, cs = strE s ∧ okStr s ∧ s.size ≤ Rows.uptoBulk x.1 := by
  obtain ⟨s, e, hd, hw⟩ := DataW.trod_string h hx
  refine ⟨s, e, hw, ?_⟩
  rw [hd]
  simp only [Rows.uptoBulk]
  have : s.size = s.data.toList.length := by rw [Array.length_toList]; rfl
  omega

theorem rdMatchB {H : Type} {en : TypeId × Value → H} {w : World} {base : Nat} {sp : Nat → Bool} {held : Bool} {fuel : Nat} {cs : List Value} {x : DataW H × List MemPlace} (hx : DataW.trod en Tryd.prog w base sp held fuel 74 cs = some x) : ∃ m : Match, cs = matchE m ∧ okMatch m ∧ (m.val.size ≤ Rows.uptoBulk x.1 ∧ m.key.size ≤ Rows.uptoBulk x.1) := by
  obtain ⟨hl, n, xs, _, hx1, hlen, hf⟩ := stx_fldD Tryd.underlying74 hx
  rw [show Tryd.prog.cellsOf 74 = 3 from by kernel_rfl] at hl
  obtain ⟨c0, c1, c2, rfl⟩ := list3 hl
  obtain ⟨y0, y1, y2, rfl⟩ := listn3 (hlen.trans rfl)
  have hy0 : DataW.trod en Tryd.prog w base sp held n 3 (List.take (Tryd.prog.cellsOf 3) (List.drop 0 _)) = some y0 := hf 0 _ rfl
  rw [show Tryd.prog.cellsOf 3 = 1 from by kernel_rfl] at hy0
  obtain ⟨a0, e0, o0⟩ := rd_int Tryd.underlying3 en w base sp held n _ _ hy0
  have e0' : [c0] = intE a0 := e0
  simp only [strE, intE, List.cons.injEq, and_true] at e0'
  subst e0'
  have hy1 : DataW.trod en Tryd.prog w base sp held n 9 (List.take (Tryd.prog.cellsOf 9) (List.drop 1 _)) = some y1 := hf 1 _ rfl
  rw [show Tryd.prog.cellsOf 9 = 1 from by kernel_rfl] at hy1
  obtain ⟨a1, e1, o1, b1⟩ := rd_strB Tryd.underlying9 hy1
  have e1' : [c1] = strE a1 := e1
  simp only [strE, intE, List.cons.injEq, and_true] at e1'
  subst e1'
  have hy2 : DataW.trod en Tryd.prog w base sp held n 9 (List.take (Tryd.prog.cellsOf 9) (List.drop 2 _)) = some y2 := hf 2 _ rfl
  rw [show Tryd.prog.cellsOf 9 = 1 from by kernel_rfl] at hy2
  obtain ⟨a2, e2, o2, b2⟩ := rd_strB Tryd.underlying9 hy2
  have e2' : [c2] = strE a2 := e2
  simp only [strE, intE, List.cons.injEq, and_true] at e2'
  subst e2'
  refine ⟨⟨a0, a1, a2⟩, rfl, ⟨o0, o1, o2⟩, Nat.le_trans b2 (bulk_agg hx1 (by simp)), Nat.le_trans b1 (bulk_agg hx1 (by simp))⟩

theorem rdExprXB : RdXD Tryd.prog 26 exprE (fun a W d => ExprX.Ok (In W) a W ∧ Lg.valsE (Rows.uptoBulk d) a.e) := fun {H} en W sp held fuel => by
  induction fuel using Nat.strongRecOn with
  | ind fuel ih =>
    intro cs x hx
    obtain ⟨hl, n, xs, hn, hx1, hlen, hf⟩ := stx_fldD Tryd.underlying26 hx
    rw [show Tryd.prog.cellsOf 26 = 7 from by kernel_rfl] at hl
    obtain ⟨c0, c1, c2, c3, c4, c5, c6, rfl⟩ := list7 hl
    obtain ⟨y0, y1, y2, y3, y4, y5, y6, rfl⟩ := listn7 (hlen.trans rfl)
    have hy0 : DataW.trod en Tryd.prog W 0 sp held n 3 (List.take (Tryd.prog.cellsOf 3) (List.drop 0 _)) = some y0 := hf 0 _ rfl
    rw [show Tryd.prog.cellsOf 3 = 1 from by kernel_rfl] at hy0
    obtain ⟨a0, e0, o0⟩ := rd_int Tryd.underlying3 en W 0 sp held n _ _ hy0
    have e0' : [c0] = intE a0 := e0
    simp only [strE, intE, List.cons.injEq, and_true] at e0'
    subst e0'
    have hy1 : DataW.trod en Tryd.prog W 0 sp held n 3 (List.take (Tryd.prog.cellsOf 3) (List.drop 1 _)) = some y1 := hf 1 _ rfl
    rw [show Tryd.prog.cellsOf 3 = 1 from by kernel_rfl] at hy1
    obtain ⟨a1, e1, o1⟩ := rd_int Tryd.underlying3 en W 0 sp held n _ _ hy1
    have e1' : [c1] = intE a1 := e1
    simp only [strE, intE, List.cons.injEq, and_true] at e1'
    subst e1'
    have hy2 : DataW.trod en Tryd.prog W 0 sp held n 3 (List.take (Tryd.prog.cellsOf 3) (List.drop 2 _)) = some y2 := hf 2 _ rfl
    rw [show Tryd.prog.cellsOf 3 = 1 from by kernel_rfl] at hy2
    obtain ⟨a2, e2, o2⟩ := rd_int Tryd.underlying3 en W 0 sp held n _ _ hy2
    have e2' : [c2] = intE a2 := e2
    simp only [strE, intE, List.cons.injEq, and_true] at e2'
    subst e2'
    have hy3 : DataW.trod en Tryd.prog W 0 sp held n 9 (List.take (Tryd.prog.cellsOf 9) (List.drop 3 _)) = some y3 := hf 3 _ rfl
    rw [show Tryd.prog.cellsOf 9 = 1 from by kernel_rfl] at hy3
    obtain ⟨a3, e3, o3⟩ := rd_str Tryd.underlying9 en W 0 sp held n _ _ hy3
    have e3' : [c3] = strE a3 := e3
    simp only [strE, intE, List.cons.injEq, and_true] at e3'
    subst e3'
    have hy4 : DataW.trod en Tryd.prog W 0 sp held n 22 (List.take (Tryd.prog.cellsOf 22) (List.drop 4 _)) = some y4 := hf 4 _ rfl
    rw [show Tryd.prog.cellsOf 22 = 1 from by kernel_rfl] at hy4
    replace hy4 : DataW.trod en Tryd.prog W 0 sp held n 22 [c4] = some y4 := hy4
    obtain ⟨s4, e4, f4, o4⟩ := rdx_sliceD (e := matchE) (ok := fun (a : Match) d => okMatch a ∧ (a.val.size ≤ Rows.uptoBulk d ∧ a.key.size ≤ Rows.uptoBulk d)) (k := 3) (fun m _ cs x hx => rdMatchB hx) Tryd.underlying22 (by kernel_rfl) (by decide) (fun _ => rfl) hy4
    injection e4 with e4
    subst e4
    have hy5 : DataW.trod en Tryd.prog W 0 sp held n 23 (List.take (Tryd.prog.cellsOf 23) (List.drop 5 _)) = some y5 := hf 5 _ rfl
    rw [show Tryd.prog.cellsOf 23 = 1 from by kernel_rfl] at hy5
    replace hy5 : DataW.trod en Tryd.prog W 0 sp held n 23 [c5] = some y5 := hy5
    obtain ⟨s5, e5, f5, o5⟩ := rdx_sliceD (e := strE) (ok := fun (a : ByteArray) d => okStr a) (k := 1) (fun m _ cs x hx => RdF.x (rd_str Tryd.underlying9) en W sp held m cs x hx) Tryd.underlying23 (by kernel_rfl) (by decide) (fun _ => rfl) hy5
    injection e5 with e5
    subst e5
    have hy6 : DataW.trod en Tryd.prog W 0 sp held n 24 (List.take (Tryd.prog.cellsOf 24) (List.drop 6 _)) = some y6 := hf 6 _ rfl
    rw [show Tryd.prog.cellsOf 24 = 1 from by kernel_rfl] at hy6
    replace hy6 : DataW.trod en Tryd.prog W 0 sp held n 24 [c6] = some y6 := hy6
    obtain ⟨s6, e6, f6, o6⟩ := rdx_sliceD (e := exprE) (ok := fun (a : ExprX) d => ExprX.Ok (In W) a W ∧ Lg.valsE (Rows.uptoBulk d) a.e) (k := 7) (fun m hm cs x hx => ih m (by omega) cs x hx) Tryd.underlying24 (by kernel_rfl) (by decide) (fun _ => rfl) hy6
    injection e6 with e6
    subst e6
    refine ⟨.mk a0 a1 a2 a3 s4 s5 s6, rfl, .mk f4 f5 f6 (fun x hx => (o6.all x hx).elim fun _ h => h.1.1) ⟨o3, fun x hx => (o4.all x hx).elim fun _ h => ⟨h.1.1.2.1, h.1.1.2.2⟩, fun x hx => (o5.all x hx).elim fun _ h => h.1⟩, Lg.vals_of (fun m hm => ?_) fun y hy => ?_⟩
    · obtain ⟨z, hz, ds, sp2, hd, hmem⟩ := o4.all m hm
      have h1 := bulk_sls hd hmem; have h2 : Rows.uptoBulk y4.1 ≤ Rows.uptoBulk x.1 := bulk_agg hx1 (by simp)
      exact ⟨by have := hz.2.1; omega, by have := hz.2.2; omega⟩
    · obtain ⟨z, hz, ds, sp2, hd, hmem⟩ := o6.all y hy
      have h1 := bulk_sls hd hmem; have h2 : Rows.uptoBulk y6.1 ≤ Rows.uptoBulk x.1 := bulk_agg hx1 (by simp)
      exact Lg.valsE_mono (by omega) _ hz.2

theorem open_xD {H : Type} {enc : TypeId × Value → H} {P : Program} {t : TypeId} {α : Type} {e : α → List Value} {ok : {H : Type} → α → World → DataW H → Prop} (hr : RdXD P t e ok) {W : World} {sp : Nat → Bool} {held : Bool} {v : Value} {d : DataW H} {p : List MemPlace}
    (hv : ∃ cs : Array Value, v = .agg cs) (h : DataW.Trod enc P W 0 sp held t v d p) : ∃ a, v = .agg (e a).toArray ∧ ok a W d := by
  obtain ⟨fuel, hf⟩ := h
  obtain ⟨cs, rfl⟩ := hv
  obtain ⟨a, h1, h2⟩ := hr enc W sp held fuel _ _ hf
  refine ⟨a, ?_, h2⟩
  rw [← h1]; simp [Value.cells]
end Ex
end Go.Proofs.YtffpglgboaigfaaDoor
