/-
  How the structs that hold slices read.
-/
import Derived.Test.YtnbkennlmnnbeaaLift2
import Derived.Test.YtnbkennlmnnbeaaStar
namespace Go.Proofs.Ytnbkennlmnnbeaa
open Go.ChangeShapes Go.WideShapes Go.ChangeAt Go.RowKit
namespace Ex
set_option linter.unusedVariables false
set_option linter.unusedSimpArgs false
theorem list5 {l : List Value} (h : l.length = 5) : ∃ c0 c1 c2 c3 c4, l = [c0, c1, c2, c3, c4] := by
  match l, h with
  | [c0, c1, c2, c3, c4], _ => exact ⟨_, _, _, _, _, rfl⟩
theorem rdShelf {H : Type} {enc : TypeId × Value → H} {W : World} {sp : Nat → Bool} {held : Bool} {v : Value} {d : DataW H} {p : List MemPlace} (hv : ∃ cs : Array Value, v = .agg cs) (h : DataW.Trod enc Try.prog W 0 sp held 27 v d p) :
    ∃ (z0 z1 z2 z3 : Value) (z : Shelf) (y0 y1 y2 y3 : DataW H) (rest : List (DataW H)), v = .agg (List.toArray [z0, z1, z2, z3, .int .i64 z.rawFrom, .int .i64 z.fineFrom, .int .i64 z.fineTo, .int .i64 z.coarseFrom, .int .i64 z.coarseTo]) ∧ (FlatSl (In W) 2 labelE z0 z.series W ∧ FlatSl (In W) 2 sampleE z1 z.raw W ∧ FlatSl (In W) 8 bucketE z2 z.fine W ∧ FlatSl (In W) 8 bucketE z3 z.coarse W) ∧ ((∀ x ∈ z.series, okLabel x) ∧ (∀ x ∈ z.raw, okSample x) ∧ (∀ x ∈ z.fine, okBucket x) ∧ (∀ x ∈ z.coarse, okBucket x)) ∧ (ok64 z.rawFrom ∧ ok64 z.fineFrom ∧ ok64 z.fineTo ∧ ok64 z.coarseFrom ∧ ok64 z.coarseTo) ∧ d = .agg (y0 :: y1 :: y2 :: y3 :: rest) ∧ LenD y0 z.series.length ∧ LenD y1 z.raw.length ∧ LenD y2 z.fine.length ∧ LenD y3 z.coarse.length := by
  obtain ⟨cs, xs, n, rfl, hx, hl, hlen, hg⟩ := rd_deep Try.underlying27 hv h
  rw [show Try.prog.cellsOf 27 = 9 from by kernel_rfl] at hl
  obtain ⟨c0, c1, c2, c3, c4, c5, c6, c7, c8, rfl⟩ := list9 hl
  obtain ⟨x0, x1, x2, x3, x4, x5, x6, x7, x8, rfl⟩ := list9 (hlen.trans rfl)
  have g0 : DataW.trod enc Try.prog W 0 sp held n 23 (List.take (Try.prog.cellsOf 23) (List.drop 0 _)) = some x0 := hg 0 _ rfl
  rw [show Try.prog.cellsOf 23 = 1 from by kernel_rfl] at g0
  replace g0 : DataW.trod enc Try.prog W 0 sp held n 23 [c0] = some x0 := g0
  obtain ⟨l0, f0, o0, n0⟩ := rd_sliceF (k := 2) rdLabel Try.underlying23 (by kernel_rfl) (by decide) (fun _ => rfl) g0
  have g1 : DataW.trod enc Try.prog W 0 sp held n 24 (List.take (Try.prog.cellsOf 24) (List.drop 1 _)) = some x1 := hg 1 _ rfl
  rw [show Try.prog.cellsOf 24 = 1 from by kernel_rfl] at g1
  replace g1 : DataW.trod enc Try.prog W 0 sp held n 24 [c1] = some x1 := g1
  obtain ⟨l1, f1, o1, n1⟩ := rd_sliceF (k := 2) rdSample Try.underlying24 (by kernel_rfl) (by decide) (fun _ => rfl) g1
  have g2 : DataW.trod enc Try.prog W 0 sp held n 25 (List.take (Try.prog.cellsOf 25) (List.drop 2 _)) = some x2 := hg 2 _ rfl
  rw [show Try.prog.cellsOf 25 = 1 from by kernel_rfl] at g2
  replace g2 : DataW.trod enc Try.prog W 0 sp held n 25 [c2] = some x2 := g2
  obtain ⟨l2, f2, o2, n2⟩ := rd_sliceF (k := 8) rdBucket Try.underlying25 (by kernel_rfl) (by decide) (fun _ => rfl) g2
  have g3 : DataW.trod enc Try.prog W 0 sp held n 25 (List.take (Try.prog.cellsOf 25) (List.drop 3 _)) = some x3 := hg 3 _ rfl
  rw [show Try.prog.cellsOf 25 = 1 from by kernel_rfl] at g3
  replace g3 : DataW.trod enc Try.prog W 0 sp held n 25 [c3] = some x3 := g3
  obtain ⟨l3, f3, o3, n3⟩ := rd_sliceF (k := 8) rdBucket Try.underlying25 (by kernel_rfl) (by decide) (fun _ => rfl) g3
  have g4 : DataW.trod enc Try.prog W 0 sp held n 3 (List.take (Try.prog.cellsOf 3) (List.drop 4 _)) = some x4 := hg 4 _ rfl
  rw [show Try.prog.cellsOf 3 = 1 from by kernel_rfl] at g4
  obtain ⟨a4, e4, o4⟩ := rd_int Try.underlying3 enc W 0 sp held n _ _ g4
  have e4' : [c4] = intE a4 := e4
  simp only [intE, List.cons.injEq, and_true] at e4'
  subst e4'
  have g5 : DataW.trod enc Try.prog W 0 sp held n 3 (List.take (Try.prog.cellsOf 3) (List.drop 5 _)) = some x5 := hg 5 _ rfl
  rw [show Try.prog.cellsOf 3 = 1 from by kernel_rfl] at g5
  obtain ⟨a5, e5, o5⟩ := rd_int Try.underlying3 enc W 0 sp held n _ _ g5
  have e5' : [c5] = intE a5 := e5
  simp only [intE, List.cons.injEq, and_true] at e5'
  subst e5'
  have g6 : DataW.trod enc Try.prog W 0 sp held n 3 (List.take (Try.prog.cellsOf 3) (List.drop 6 _)) = some x6 := hg 6 _ rfl
  rw [show Try.prog.cellsOf 3 = 1 from by kernel_rfl] at g6
  obtain ⟨a6, e6, o6⟩ := rd_int Try.underlying3 enc W 0 sp held n _ _ g6
  have e6' : [c6] = intE a6 := e6
  simp only [intE, List.cons.injEq, and_true] at e6'
  subst e6'
  have g7 : DataW.trod enc Try.prog W 0 sp held n 3 (List.take (Try.prog.cellsOf 3) (List.drop 7 _)) = some x7 := hg 7 _ rfl
  rw [show Try.prog.cellsOf 3 = 1 from by kernel_rfl] at g7
  obtain ⟨a7, e7, o7⟩ := rd_int Try.underlying3 enc W 0 sp held n _ _ g7
  have e7' : [c7] = intE a7 := e7
  simp only [intE, List.cons.injEq, and_true] at e7'
  subst e7'
  have g8 : DataW.trod enc Try.prog W 0 sp held n 3 (List.take (Try.prog.cellsOf 3) (List.drop 8 _)) = some x8 := hg 8 _ rfl
  rw [show Try.prog.cellsOf 3 = 1 from by kernel_rfl] at g8
  obtain ⟨a8, e8, o8⟩ := rd_int Try.underlying3 enc W 0 sp held n _ _ g8
  have e8' : [c8] = intE a8 := e8
  simp only [intE, List.cons.injEq, and_true] at e8'
  subst e8'
  refine ⟨c0, c1, c2, c3, ⟨l0, l1, l2, l3, a4, a5, a6, a7, a8⟩, x0.1, x1.1, x2.1, x3.1, [x4.1, x5.1, x6.1, x7.1, x8.1], rfl, ⟨f0, f1, f2, f3⟩, ⟨o0, o1, o2, o3⟩, ⟨o4, o5, o6, o7, o8⟩, hx, n0, n1, n2, n3⟩

def okAct (s : ShAct) : Prop := ok64 s.kind ∧ ok64 s.sample.time ∧ ok64 s.sample.value ∧ ok64 s.tier ∧ ok64 s.to

theorem rdAct : RdF Try.prog 99 actE okAct := fun {H} en w base sp held fuel cs x hx => by
  obtain ⟨hl, n, hf⟩ := st_fld Try.underlying99 hx
  rw [show Try.prog.cellsOf 99 = 5 from by kernel_rfl] at hl
  obtain ⟨c0, c1, c2, c3, c4, rfl⟩ := list5 hl
  obtain ⟨y0, hy0⟩ := hf 0 _ rfl
  replace hy0 : DataW.trod en Try.prog w base sp held n 3 (List.take (Try.prog.cellsOf 3) (List.drop 0 _)) = some y0 := hy0
  rw [show Try.prog.cellsOf 3 = 1 from by kernel_rfl] at hy0
  obtain ⟨a0, e0, o0⟩ := rd_int Try.underlying3 en w base sp held n _ _ hy0
  have e0' : [c0] = intE a0 := e0
  simp only [strE, intE, List.cons.injEq, and_true] at e0'
  subst e0'
  obtain ⟨y1, hy1⟩ := hf 1 _ rfl
  replace hy1 : DataW.trod en Try.prog w base sp held n 39 (List.take (Try.prog.cellsOf 39) (List.drop 1 _)) = some y1 := hy1
  rw [show Try.prog.cellsOf 39 = 2 from by kernel_rfl] at hy1
  obtain ⟨a1, e1, o1⟩ := rdSample en w base sp held n _ _ hy1
  have e1' : [c1, c2] = sampleE a1 := e1
  simp only [sampleE, List.cons.injEq, and_true] at e1'
  obtain ⟨rfl, rfl⟩ := e1'
  obtain ⟨y2, hy2⟩ := hf 2 _ rfl
  replace hy2 : DataW.trod en Try.prog w base sp held n 3 (List.take (Try.prog.cellsOf 3) (List.drop 3 _)) = some y2 := hy2
  rw [show Try.prog.cellsOf 3 = 1 from by kernel_rfl] at hy2
  obtain ⟨a2, e2, o2⟩ := rd_int Try.underlying3 en w base sp held n _ _ hy2
  have e2' : [c3] = intE a2 := e2
  simp only [strE, intE, List.cons.injEq, and_true] at e2'
  subst e2'
  obtain ⟨y3, hy3⟩ := hf 3 _ rfl
  replace hy3 : DataW.trod en Try.prog w base sp held n 3 (List.take (Try.prog.cellsOf 3) (List.drop 4 _)) = some y3 := hy3
  rw [show Try.prog.cellsOf 3 = 1 from by kernel_rfl] at hy3
  obtain ⟨a3, e3, o3⟩ := rd_int Try.underlying3 en w base sp held n _ _ hy3
  have e3' : [c4] = intE a3 := e3
  simp only [strE, intE, List.cons.injEq, and_true] at e3'
  subst e3'
  exact ⟨⟨a0, a1, a2, a3⟩, rfl, ⟨o0, o1.1, o1.2, o2, o3⟩⟩
end Ex
end Go.Proofs.Ytnbkennlmnnbeaa
