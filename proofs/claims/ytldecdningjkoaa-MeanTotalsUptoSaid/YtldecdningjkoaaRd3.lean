/-
  How lines and expressions read.
-/
import Derived.Test.YtldecdningjkoaaLift3
namespace Go.Proofs.Ytldecdningjkoaa
open Go.ChangeShapes Go.WideShapes Go.ChangeAt Go.RowKit
namespace Ex
set_option linter.unusedVariables false
set_option linter.unusedSimpArgs false
theorem rdLineX : RdX Try.prog 49 lineE (fun a W => LineX.Ok (In W) a W) := fun {H} en W sp held fuel => by
  intro cs x hx
  obtain ⟨hl, n, hn, hf⟩ := stx_fld Try.underlying49 hx
  rw [show Try.prog.cellsOf 49 = 2 from by kernel_rfl] at hl
  obtain ⟨c0, c1, rfl⟩ := list2 hl
  obtain ⟨y0, hy0⟩ := hf 0 _ rfl
  replace hy0 : DataW.trod en Try.prog W 0 sp held n 42 (List.take (Try.prog.cellsOf 42) (List.drop 0 _)) = some y0 := hy0
  rw [show Try.prog.cellsOf 42 = 1 from by kernel_rfl] at hy0
  replace hy0 : DataW.trod en Try.prog W 0 sp held n 42 [c0] = some y0 := hy0
  obtain ⟨s0, e0, f0, o0⟩ := rdx_slice (e := labelE) (ok := okLabel) (k := 2) (fun m _ cs x hx => RdF.x rdLabel en W sp held m cs x hx) Try.underlying42 (by kernel_rfl) (by decide) (fun _ => rfl) hy0
  injection e0 with e0
  subst e0
  obtain ⟨y1, hy1⟩ := hf 1 _ rfl
  replace hy1 : DataW.trod en Try.prog W 0 sp held n 47 (List.take (Try.prog.cellsOf 47) (List.drop 1 _)) = some y1 := hy1
  rw [show Try.prog.cellsOf 47 = 1 from by kernel_rfl] at hy1
  replace hy1 : DataW.trod en Try.prog W 0 sp held n 47 [c1] = some y1 := hy1
  obtain ⟨s1, e1, f1, o1⟩ := rdx_slice (e := sampleE) (ok := okSample) (k := 2) (fun m _ cs x hx => RdF.x rdSample en W sp held m cs x hx) Try.underlying47 (by kernel_rfl) (by decide) (fun _ => rfl) hy1
  injection e1 with e1
  subst e1
  exact ⟨⟨s0, s1⟩, rfl, ⟨fun x hx => ⟨(o0 x hx).1, (o0 x hx).2⟩, f0, f1⟩⟩

theorem rdLineXD : RdXD Try.prog 49 lineE (fun a W d => LineX.Ok (In W) a W ∧ LineD a d) := fun {H} en W sp held fuel cs x hx => by
  obtain ⟨hl, n, xs, hn, hx1, hlen, hf⟩ := stx_fldD Try.underlying49 hx
  rw [show Try.prog.cellsOf 49 = 2 from by kernel_rfl] at hl
  obtain ⟨c0, c1, rfl⟩ := list2 hl
  obtain ⟨y0, y1, rfl⟩ := pair2 (hlen.trans rfl)
  have hy0 : DataW.trod en Try.prog W 0 sp held n 42 (List.take (Try.prog.cellsOf 42) (List.drop 0 _)) = some y0 := hf 0 _ rfl
  rw [show Try.prog.cellsOf 42 = 1 from by kernel_rfl] at hy0
  replace hy0 : DataW.trod en Try.prog W 0 sp held n 42 [c0] = some y0 := hy0
  obtain ⟨s0, e0, g0, o0⟩ := rdx_sliceD (e := labelE) (ok := fun a _ => okLabel a) (k := 2) (fun m _ cs x hx => RdF.x rdLabel en W sp held m cs x hx) Try.underlying42 (by kernel_rfl) (by decide) (fun _ => rfl) hy0
  injection e0 with e0
  subst e0
  have hy1 : DataW.trod en Try.prog W 0 sp held n 47 (List.take (Try.prog.cellsOf 47) (List.drop 1 _)) = some y1 := hf 1 _ rfl
  rw [show Try.prog.cellsOf 47 = 1 from by kernel_rfl] at hy1
  replace hy1 : DataW.trod en Try.prog W 0 sp held n 47 [c1] = some y1 := hy1
  obtain ⟨s1, e1, g1, o1⟩ := rdx_sliceD (e := sampleE) (ok := fun a _ => okSample a) (k := 2) (fun m _ cs x hx => RdF.x rdSample en W sp held m cs x hx) Try.underlying47 (by kernel_rfl) (by decide) (fun _ => rfl) hy1
  injection e1 with e1
  subst e1
  refine ⟨⟨s0, s1⟩, rfl, ⟨fun x hx => ?_, g0, g1⟩, y0.1, y1.1, hx1, o0.len, o1.len⟩
  obtain ⟨_, h, _⟩ := o0.all x hx
  exact ⟨h.1, h.2⟩

theorem rdCellX : RdX Try.prog 44 cellE (fun a W => CellX.Ok (In W) a W) := fun {H} en W sp held fuel => by
  intro cs x hx
  obtain ⟨hl, n, hn, hf⟩ := stx_fld Try.underlying44 hx
  rw [show Try.prog.cellsOf 44 = 2 from by kernel_rfl] at hl
  obtain ⟨c0, c1, rfl⟩ := list2 hl
  obtain ⟨y0, hy0⟩ := hf 0 _ rfl
  replace hy0 : DataW.trod en Try.prog W 0 sp held n 42 (List.take (Try.prog.cellsOf 42) (List.drop 0 _)) = some y0 := hy0
  rw [show Try.prog.cellsOf 42 = 1 from by kernel_rfl] at hy0
  replace hy0 : DataW.trod en Try.prog W 0 sp held n 42 [c0] = some y0 := hy0
  obtain ⟨s0, e0, f0, o0⟩ := rdx_slice (e := labelE) (ok := okLabel) (k := 2) (fun m _ cs x hx => RdF.x rdLabel en W sp held m cs x hx) Try.underlying42 (by kernel_rfl) (by decide) (fun _ => rfl) hy0
  injection e0 with e0
  subst e0
  obtain ⟨y1, hy1⟩ := hf 1 _ rfl
  replace hy1 : DataW.trod en Try.prog W 0 sp held n 3 (List.take (Try.prog.cellsOf 3) (List.drop 1 _)) = some y1 := hy1
  rw [show Try.prog.cellsOf 3 = 1 from by kernel_rfl] at hy1
  obtain ⟨a1, e1, o1⟩ := rd_int Try.underlying3 en W 0 sp held n _ _ hy1
  have e1' : [c1] = intE a1 := e1
  simp only [strE, intE, List.cons.injEq, and_true] at e1'
  subst e1'
  exact ⟨⟨s0, a1⟩, rfl, ⟨f0⟩⟩

theorem rdExprX : RdX Try.prog 27 exprE (fun a W => ExprX.Ok (In W) a W) := fun {H} en W sp held fuel => by
  induction fuel using Nat.strongRecOn with
  | ind fuel ih =>
    intro cs x hx
    obtain ⟨hl, n, hn, hf⟩ := stx_fld Try.underlying27 hx
    rw [show Try.prog.cellsOf 27 = 7 from by kernel_rfl] at hl
    obtain ⟨c0, c1, c2, c3, c4, c5, c6, rfl⟩ := list7 hl
    obtain ⟨y0, hy0⟩ := hf 0 _ rfl
    replace hy0 : DataW.trod en Try.prog W 0 sp held n 3 (List.take (Try.prog.cellsOf 3) (List.drop 0 _)) = some y0 := hy0
    rw [show Try.prog.cellsOf 3 = 1 from by kernel_rfl] at hy0
    obtain ⟨a0, e0, o0⟩ := rd_int Try.underlying3 en W 0 sp held n _ _ hy0
    have e0' : [c0] = intE a0 := e0
    simp only [strE, intE, List.cons.injEq, and_true] at e0'
    subst e0'
    obtain ⟨y1, hy1⟩ := hf 1 _ rfl
    replace hy1 : DataW.trod en Try.prog W 0 sp held n 3 (List.take (Try.prog.cellsOf 3) (List.drop 1 _)) = some y1 := hy1
    rw [show Try.prog.cellsOf 3 = 1 from by kernel_rfl] at hy1
    obtain ⟨a1, e1, o1⟩ := rd_int Try.underlying3 en W 0 sp held n _ _ hy1
    have e1' : [c1] = intE a1 := e1
    simp only [strE, intE, List.cons.injEq, and_true] at e1'
    subst e1'
    obtain ⟨y2, hy2⟩ := hf 2 _ rfl
    replace hy2 : DataW.trod en Try.prog W 0 sp held n 3 (List.take (Try.prog.cellsOf 3) (List.drop 2 _)) = some y2 := hy2
    rw [show Try.prog.cellsOf 3 = 1 from by kernel_rfl] at hy2
    obtain ⟨a2, e2, o2⟩ := rd_int Try.underlying3 en W 0 sp held n _ _ hy2
    have e2' : [c2] = intE a2 := e2
    simp only [strE, intE, List.cons.injEq, and_true] at e2'
    subst e2'
    obtain ⟨y3, hy3⟩ := hf 3 _ rfl
    replace hy3 : DataW.trod en Try.prog W 0 sp held n 9 (List.take (Try.prog.cellsOf 9) (List.drop 3 _)) = some y3 := hy3
    rw [show Try.prog.cellsOf 9 = 1 from by kernel_rfl] at hy3
    obtain ⟨a3, e3, o3⟩ := rd_str Try.underlying9 en W 0 sp held n _ _ hy3
    have e3' : [c3] = strE a3 := e3
    simp only [strE, intE, List.cons.injEq, and_true] at e3'
    subst e3'
    obtain ⟨y4, hy4⟩ := hf 4 _ rfl
    replace hy4 : DataW.trod en Try.prog W 0 sp held n 23 (List.take (Try.prog.cellsOf 23) (List.drop 4 _)) = some y4 := hy4
    rw [show Try.prog.cellsOf 23 = 1 from by kernel_rfl] at hy4
    replace hy4 : DataW.trod en Try.prog W 0 sp held n 23 [c4] = some y4 := hy4
    obtain ⟨s4, e4, f4, o4⟩ := rdx_slice (e := matchE) (ok := okMatch) (k := 3) (fun m _ cs x hx => RdF.x rdMatch en W sp held m cs x hx) Try.underlying23 (by kernel_rfl) (by decide) (fun _ => rfl) hy4
    injection e4 with e4
    subst e4
    obtain ⟨y5, hy5⟩ := hf 5 _ rfl
    replace hy5 : DataW.trod en Try.prog W 0 sp held n 24 (List.take (Try.prog.cellsOf 24) (List.drop 5 _)) = some y5 := hy5
    rw [show Try.prog.cellsOf 24 = 1 from by kernel_rfl] at hy5
    replace hy5 : DataW.trod en Try.prog W 0 sp held n 24 [c5] = some y5 := hy5
    obtain ⟨s5, e5, f5, o5⟩ := rdx_slice (e := strE) (ok := okStr) (k := 1) (fun m _ cs x hx => RdF.x (rd_str Try.underlying9) en W sp held m cs x hx) Try.underlying24 (by kernel_rfl) (by decide) (fun _ => rfl) hy5
    injection e5 with e5
    subst e5
    obtain ⟨y6, hy6⟩ := hf 6 _ rfl
    replace hy6 : DataW.trod en Try.prog W 0 sp held n 25 (List.take (Try.prog.cellsOf 25) (List.drop 6 _)) = some y6 := hy6
    rw [show Try.prog.cellsOf 25 = 1 from by kernel_rfl] at hy6
    replace hy6 : DataW.trod en Try.prog W 0 sp held n 25 [c6] = some y6 := hy6
    obtain ⟨s6, e6, f6, o6⟩ := rdx_slice (e := exprE) (ok := fun a => ExprX.Ok (In W) a W) (k := 7) (fun m hm cs x hx => ih m (by omega) cs x hx) Try.underlying25 (by kernel_rfl) (by decide) (fun _ => rfl) hy6
    injection e6 with e6
    subst e6
    exact ⟨.mk a0 a1 a2 a3 s4 s5 s6, rfl, .mk f4 f5 f6 o6 ⟨o3, fun x hx => ⟨(o4 x hx).2.1, (o4 x hx).2.2⟩, fun x hx => o5 x hx⟩⟩
end Ex
end Go.Proofs.Ytldecdningjkoaa
