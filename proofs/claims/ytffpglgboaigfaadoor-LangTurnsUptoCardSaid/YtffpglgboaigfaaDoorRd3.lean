/-
  How lines and expressions read.
-/
import Derived.Test.YtffpglgboaigfaaDoorLift3
namespace Go.Proofs.YtffpglgboaigfaaDoor
open Go.ChangeShapes Go.WideShapes Go.ChangeAt Go.RowKit
namespace Ex
set_option linter.unusedVariables false
set_option linter.unusedSimpArgs false
theorem rdExprX : RdX Tryd.prog 26 exprE (fun a W => ExprX.Ok (In W) a W) := fun {H} en W sp held fuel => by
  induction fuel using Nat.strongRecOn with
  | ind fuel ih =>
    intro cs x hx
    obtain ⟨hl, n, hn, hf⟩ := stx_fld Tryd.underlying26 hx
    rw [show Tryd.prog.cellsOf 26 = 7 from by kernel_rfl] at hl
    obtain ⟨c0, c1, c2, c3, c4, c5, c6, rfl⟩ := list7 hl
    obtain ⟨y0, hy0⟩ := hf 0 _ rfl
    replace hy0 : DataW.trod en Tryd.prog W 0 sp held n 3 (List.take (Tryd.prog.cellsOf 3) (List.drop 0 _)) = some y0 := hy0
    rw [show Tryd.prog.cellsOf 3 = 1 from by kernel_rfl] at hy0
    obtain ⟨a0, e0, o0⟩ := rd_int Tryd.underlying3 en W 0 sp held n _ _ hy0
    have e0' : [c0] = intE a0 := e0
    simp only [strE, intE, List.cons.injEq, and_true] at e0'
    subst e0'
    obtain ⟨y1, hy1⟩ := hf 1 _ rfl
    replace hy1 : DataW.trod en Tryd.prog W 0 sp held n 3 (List.take (Tryd.prog.cellsOf 3) (List.drop 1 _)) = some y1 := hy1
    rw [show Tryd.prog.cellsOf 3 = 1 from by kernel_rfl] at hy1
    obtain ⟨a1, e1, o1⟩ := rd_int Tryd.underlying3 en W 0 sp held n _ _ hy1
    have e1' : [c1] = intE a1 := e1
    simp only [strE, intE, List.cons.injEq, and_true] at e1'
    subst e1'
    obtain ⟨y2, hy2⟩ := hf 2 _ rfl
    replace hy2 : DataW.trod en Tryd.prog W 0 sp held n 3 (List.take (Tryd.prog.cellsOf 3) (List.drop 2 _)) = some y2 := hy2
    rw [show Tryd.prog.cellsOf 3 = 1 from by kernel_rfl] at hy2
    obtain ⟨a2, e2, o2⟩ := rd_int Tryd.underlying3 en W 0 sp held n _ _ hy2
    have e2' : [c2] = intE a2 := e2
    simp only [strE, intE, List.cons.injEq, and_true] at e2'
    subst e2'
    obtain ⟨y3, hy3⟩ := hf 3 _ rfl
    replace hy3 : DataW.trod en Tryd.prog W 0 sp held n 9 (List.take (Tryd.prog.cellsOf 9) (List.drop 3 _)) = some y3 := hy3
    rw [show Tryd.prog.cellsOf 9 = 1 from by kernel_rfl] at hy3
    obtain ⟨a3, e3, o3⟩ := rd_str Tryd.underlying9 en W 0 sp held n _ _ hy3
    have e3' : [c3] = strE a3 := e3
    simp only [strE, intE, List.cons.injEq, and_true] at e3'
    subst e3'
    obtain ⟨y4, hy4⟩ := hf 4 _ rfl
    replace hy4 : DataW.trod en Tryd.prog W 0 sp held n 22 (List.take (Tryd.prog.cellsOf 22) (List.drop 4 _)) = some y4 := hy4
    rw [show Tryd.prog.cellsOf 22 = 1 from by kernel_rfl] at hy4
    replace hy4 : DataW.trod en Tryd.prog W 0 sp held n 22 [c4] = some y4 := hy4
    obtain ⟨s4, e4, f4, o4⟩ := rdx_slice (e := matchE) (ok := okMatch) (k := 3) (fun m _ cs x hx => RdF.x rdMatch en W sp held m cs x hx) Tryd.underlying22 (by kernel_rfl) (by decide) (fun _ => rfl) hy4
    injection e4 with e4
    subst e4
    obtain ⟨y5, hy5⟩ := hf 5 _ rfl
    replace hy5 : DataW.trod en Tryd.prog W 0 sp held n 23 (List.take (Tryd.prog.cellsOf 23) (List.drop 5 _)) = some y5 := hy5
    rw [show Tryd.prog.cellsOf 23 = 1 from by kernel_rfl] at hy5
    replace hy5 : DataW.trod en Tryd.prog W 0 sp held n 23 [c5] = some y5 := hy5
    obtain ⟨s5, e5, f5, o5⟩ := rdx_slice (e := strE) (ok := okStr) (k := 1) (fun m _ cs x hx => RdF.x (rd_str Tryd.underlying9) en W sp held m cs x hx) Tryd.underlying23 (by kernel_rfl) (by decide) (fun _ => rfl) hy5
    injection e5 with e5
    subst e5
    obtain ⟨y6, hy6⟩ := hf 6 _ rfl
    replace hy6 : DataW.trod en Tryd.prog W 0 sp held n 24 (List.take (Tryd.prog.cellsOf 24) (List.drop 6 _)) = some y6 := hy6
    rw [show Tryd.prog.cellsOf 24 = 1 from by kernel_rfl] at hy6
    replace hy6 : DataW.trod en Tryd.prog W 0 sp held n 24 [c6] = some y6 := hy6
    obtain ⟨s6, e6, f6, o6⟩ := rdx_slice (e := exprE) (ok := fun a => ExprX.Ok (In W) a W) (k := 7) (fun m hm cs x hx => ih m (by omega) cs x hx) Tryd.underlying24 (by kernel_rfl) (by decide) (fun _ => rfl) hy6
    injection e6 with e6
    subst e6
    exact ⟨.mk a0 a1 a2 a3 s4 s5 s6, rfl, .mk f4 f5 f6 o6 ⟨o3, fun x hx => ⟨(o4 x hx).2.1, (o4 x hx).2.2⟩, fun x hx => o5 x hx⟩⟩
end Ex
end Go.Proofs.YtffpglgboaigfaaDoor
