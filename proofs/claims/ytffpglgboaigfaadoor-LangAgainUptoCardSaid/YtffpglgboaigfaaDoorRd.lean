/-
  How the plain structs of this program read.
-/
import Derived.Test.YtffpglgboaigfaaDoorLift
namespace Go.Proofs.YtffpglgboaigfaaDoor
open Go.ChangeShapes Go.WideShapes Go.ChangeAt Go.RowKit
namespace Ex
set_option linter.unusedSimpArgs false
theorem list1 {l : List Value} (h : l.length = 1) : ∃ c0, l = [c0] := by
  match l, h with
  | [c0], _ => exact ⟨_, rfl⟩
theorem list2 {l : List Value} (h : l.length = 2) : ∃ c0 c1, l = [c0, c1] := by
  match l, h with
  | [c0, c1], _ => exact ⟨_, _, rfl⟩
theorem list3 {l : List Value} (h : l.length = 3) : ∃ c0 c1 c2, l = [c0, c1, c2] := by
  match l, h with
  | [c0, c1, c2], _ => exact ⟨_, _, _, rfl⟩
theorem list7 {l : List Value} (h : l.length = 7) : ∃ c0 c1 c2 c3 c4 c5 c6, l = [c0, c1, c2, c3, c4, c5, c6] := by
  match l, h with
  | [c0, c1, c2, c3, c4, c5, c6], _ => exact ⟨_, _, _, _, _, _, _, rfl⟩
theorem list8 {l : List Value} (h : l.length = 8) : ∃ c0 c1 c2 c3 c4 c5 c6 c7, l = [c0, c1, c2, c3, c4, c5, c6, c7] := by
  match l, h with
  | [c0, c1, c2, c3, c4, c5, c6, c7], _ => exact ⟨_, _, _, _, _, _, _, _, rfl⟩

def okFault (s : Fault) : Prop := ok64 s.err ∧ ok64 s.at_

def okSample (s : Sample) : Prop := ok64 s.time ∧ ok64 s.value

def okSum (s : Sum) : Prop := ok64 s.count ∧ ok64 s.total ∧ ok64 s.min ∧ ok64 s.max ∧ ok64 s.first ∧ ok64 s.last ∧ ok64 s.rise

def okBucket (s : Bucket) : Prop := ok64 s.at_ ∧ ok64 s.sum.count ∧ ok64 s.sum.total ∧ ok64 s.sum.min ∧ ok64 s.sum.max ∧ ok64 s.sum.first ∧ ok64 s.sum.last ∧ ok64 s.sum.rise

def okLabel (s : Label) : Prop := okStr s.key ∧ okStr s.val

def okMatch (s : Match) : Prop := ok64 s.kind ∧ okStr s.key ∧ okStr s.val

def okPart (s : Part) : Prop := ok64 s.tier ∧ ok64 s.frm ∧ ok64 s.to

theorem rdMatch : RdF Tryd.prog 74 matchE okMatch := fun {H} en w base sp held fuel cs x hx => by
  obtain ⟨hl, n, hf⟩ := st_fld Tryd.underlying74 hx
  rw [show Tryd.prog.cellsOf 74 = 3 from by kernel_rfl] at hl
  obtain ⟨c0, c1, c2, rfl⟩ := list3 hl
  obtain ⟨y0, hy0⟩ := hf 0 _ rfl
  replace hy0 : DataW.trod en Tryd.prog w base sp held n 3 (List.take (Tryd.prog.cellsOf 3) (List.drop 0 _)) = some y0 := hy0
  rw [show Tryd.prog.cellsOf 3 = 1 from by kernel_rfl] at hy0
  obtain ⟨a0, e0, o0⟩ := rd_int Tryd.underlying3 en w base sp held n _ _ hy0
  have e0' : [c0] = intE a0 := e0
  simp only [strE, intE, List.cons.injEq, and_true] at e0'
  subst e0'
  obtain ⟨y1, hy1⟩ := hf 1 _ rfl
  replace hy1 : DataW.trod en Tryd.prog w base sp held n 9 (List.take (Tryd.prog.cellsOf 9) (List.drop 1 _)) = some y1 := hy1
  rw [show Tryd.prog.cellsOf 9 = 1 from by kernel_rfl] at hy1
  obtain ⟨a1, e1, o1⟩ := rd_str Tryd.underlying9 en w base sp held n _ _ hy1
  have e1' : [c1] = strE a1 := e1
  simp only [strE, intE, List.cons.injEq, and_true] at e1'
  subst e1'
  obtain ⟨y2, hy2⟩ := hf 2 _ rfl
  replace hy2 : DataW.trod en Tryd.prog w base sp held n 9 (List.take (Tryd.prog.cellsOf 9) (List.drop 2 _)) = some y2 := hy2
  rw [show Tryd.prog.cellsOf 9 = 1 from by kernel_rfl] at hy2
  obtain ⟨a2, e2, o2⟩ := rd_str Tryd.underlying9 en w base sp held n _ _ hy2
  have e2' : [c2] = strE a2 := e2
  simp only [strE, intE, List.cons.injEq, and_true] at e2'
  subst e2'
  exact ⟨⟨a0, a1, a2⟩, rfl, ⟨o0, o1, o2⟩⟩

theorem rdFault : RdF Tryd.prog 33 faultE okFault := fun {H} en w base sp held fuel cs x hx => by
  obtain ⟨hl, n, hf⟩ := st_fld Tryd.underlying33 hx
  rw [show Tryd.prog.cellsOf 33 = 2 from by kernel_rfl] at hl
  obtain ⟨c0, c1, rfl⟩ := list2 hl
  obtain ⟨y0, hy0⟩ := hf 0 _ rfl
  replace hy0 : DataW.trod en Tryd.prog w base sp held n 27 (List.take (Tryd.prog.cellsOf 27) (List.drop 0 _)) = some y0 := hy0
  rw [show Tryd.prog.cellsOf 27 = 1 from by kernel_rfl] at hy0
  obtain ⟨a0, e0, o0⟩ := rd_int Tryd.underlying27 en w base sp held n _ _ hy0
  have e0' : [c0] = intE a0 := e0
  simp only [strE, intE, List.cons.injEq, and_true] at e0'
  subst e0'
  obtain ⟨y1, hy1⟩ := hf 1 _ rfl
  replace hy1 : DataW.trod en Tryd.prog w base sp held n 3 (List.take (Tryd.prog.cellsOf 3) (List.drop 1 _)) = some y1 := hy1
  rw [show Tryd.prog.cellsOf 3 = 1 from by kernel_rfl] at hy1
  obtain ⟨a1, e1, o1⟩ := rd_int Tryd.underlying3 en w base sp held n _ _ hy1
  have e1' : [c1] = intE a1 := e1
  simp only [strE, intE, List.cons.injEq, and_true] at e1'
  subst e1'
  exact ⟨⟨a0, a1⟩, rfl, ⟨o0, o1⟩⟩
end Ex
end Go.Proofs.YtffpglgboaigfaaDoor
