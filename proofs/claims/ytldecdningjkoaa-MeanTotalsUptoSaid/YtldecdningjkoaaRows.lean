/-
  NARROWER THAN 'FOR EVERY INPUT', by the rows' own cells (each row's printed sentence says how): MeanTells: loops · MeanSigns: loops · MeanTotals: loops · MeanWindow: loops · MeanLater: loops.
  DERIVED. THE GIVEN ROWS OF THIS SEAT. 5 by the template 'for every input the law returns true; each argument reads behind the call as it read before'; 0 by the template 'total and deterministic' (their statements: YtldecdningjkoaaTotals.lean).
  GIVEN WITH THE SEED: the statements are not yours to turn. If you find one false, say at which input.
  Laid BY PROGRAM, IN A SANDBOX (cutbox-rows.mjs): the forced cells as the released guide's own fill.sh prints them over the translation 94106868d1980758… (all of the seat's roots in one cut). By AI agents, Wed Nov 11 2026. No macro, syntax, notation, axiom, sorry.
-/
import Derived.Test.YtldecdningjkoaaChecked
import GoSem.Claim
import GoSem.ClaimJoined
import GoSem.ClaimMapViews
import Derived.JoinedTies
import Derived.KernelRfl
namespace Go.Proofs.Ytldecdningjkoaa
/- THE CELL 'sum', in the pinned program and in every row, IS THE sha256 OF THE DUMP (.gsa) THAT YtldecdningjkoaaProg.lean LOADS. Nothing in Lean hashes anything: it is a label: what it is worth is what the hold of that sum in a sandbox is worth. -/
noncomputable def Try.pinned : Pinned := { name := "ytldecdningjkoaa", sum := "94106868d1980758a133e3c8873260608188db91a8fac87b61ea19536906561b", checked := Try.checked }
namespace Rows
def none {H : Type} : Left H := { results := [], args := [] }

/-- 'grainlaw6.MeanTells': WHATEVER THE INPUT: true; the input reads as it did. -/
def meanTellsSpec : ChangeSpec := { name := "meanTells", fn := fun _ => fun
  | [d1, d2, d3] => { results := [.lit (.bool true)], args := [d1, d2, d3] }
  | _ => none }
def meanTellsRow : OpenClaim := { program := "ytldecdningjkoaa", sum := "94106868d1980758a133e3c8873260608188db91a8fac87b61ea19536906561b", func := "grainstore/grainlaw6.MeanTells", spec := "meanTells", inPlace := ["slices.overlaps[grainstore/api.Cell]"], unfollowed := true, recurses := true, loops := true, apart := false }
def MeanTellsSaid : Prop := meanTellsRow.holds Try.pinned (OpenSpec.ofChange meanTellsSpec)

/-- ITS FALSE NEIGHBOUR: 'it returns false'. Refute it at one input. -/
def meanTellsWrong : ChangeSpec := { name := "meanTells", fn := fun _ => fun
  | [d1, d2, d3] => { results := [.lit (.bool false)], args := [d1, d2, d3] }
  | _ => none }
def MeanTellsWrongFalsely : Prop := meanTellsRow.holds Try.pinned (OpenSpec.ofChange meanTellsWrong)

/-- 'grainlaw6.MeanSigns': WHATEVER THE INPUT: true; the input reads as it did. -/
def meanSignsSpec : ChangeSpec := { name := "meanSigns", fn := fun _ => fun
  | [d1, d2, d3] => { results := [.lit (.bool true)], args := [d1, d2, d3] }
  | _ => none }
def meanSignsRow : OpenClaim := { program := "ytldecdningjkoaa", sum := "94106868d1980758a133e3c8873260608188db91a8fac87b61ea19536906561b", func := "grainstore/grainlaw6.MeanSigns", spec := "meanSigns", inPlace := ["slices.overlaps[grainstore/api.Cell]"], unfollowed := true, recurses := true, loops := true, apart := false }
def MeanSignsSaid : Prop := meanSignsRow.holds Try.pinned (OpenSpec.ofChange meanSignsSpec)

/-- ITS FALSE NEIGHBOUR: 'it returns false'. Refute it at one input. -/
def meanSignsWrong : ChangeSpec := { name := "meanSigns", fn := fun _ => fun
  | [d1, d2, d3] => { results := [.lit (.bool false)], args := [d1, d2, d3] }
  | _ => none }
def MeanSignsWrongFalsely : Prop := meanSignsRow.holds Try.pinned (OpenSpec.ofChange meanSignsWrong)

/-- 'grainlaw6.MeanTotals': WHATEVER THE INPUT: true; the input reads as it did. -/
def meanTotalsSpec : ChangeSpec := { name := "meanTotals", fn := fun _ => fun
  | [d1, d2, d3] => { results := [.lit (.bool true)], args := [d1, d2, d3] }
  | _ => none }
def meanTotalsRow : OpenClaim := { program := "ytldecdningjkoaa", sum := "94106868d1980758a133e3c8873260608188db91a8fac87b61ea19536906561b", func := "grainstore/grainlaw6.MeanTotals", spec := "meanTotals", inPlace := ["slices.overlaps[grainstore/api.Cell]"], unfollowed := true, recurses := true, loops := true, apart := false }
def MeanTotalsSaid : Prop := meanTotalsRow.holds Try.pinned (OpenSpec.ofChange meanTotalsSpec)

/-- ITS FALSE NEIGHBOUR: 'it returns false'. Refute it at one input. -/
def meanTotalsWrong : ChangeSpec := { name := "meanTotals", fn := fun _ => fun
  | [d1, d2, d3] => { results := [.lit (.bool false)], args := [d1, d2, d3] }
  | _ => none }
def MeanTotalsWrongFalsely : Prop := meanTotalsRow.holds Try.pinned (OpenSpec.ofChange meanTotalsWrong)

/-- 'grainlaw6.MeanWindow': WHATEVER THE INPUT: true; the input reads as it did. -/
def meanWindowSpec : ChangeSpec := { name := "meanWindow", fn := fun _ => fun
  | [d1, d2, d3] => { results := [.lit (.bool true)], args := [d1, d2, d3] }
  | _ => none }
def meanWindowRow : OpenClaim := { program := "ytldecdningjkoaa", sum := "94106868d1980758a133e3c8873260608188db91a8fac87b61ea19536906561b", func := "grainstore/grainlaw6.MeanWindow", spec := "meanWindow", inPlace := ["slices.overlaps[grainstore/api.Cell]"], unfollowed := true, recurses := true, loops := true, apart := false }
def MeanWindowSaid : Prop := meanWindowRow.holds Try.pinned (OpenSpec.ofChange meanWindowSpec)

/-- ITS FALSE NEIGHBOUR: 'it returns false'. Refute it at one input. -/
def meanWindowWrong : ChangeSpec := { name := "meanWindow", fn := fun _ => fun
  | [d1, d2, d3] => { results := [.lit (.bool false)], args := [d1, d2, d3] }
  | _ => none }
def MeanWindowWrongFalsely : Prop := meanWindowRow.holds Try.pinned (OpenSpec.ofChange meanWindowWrong)

/-- 'grainlaw6.MeanLater': WHATEVER THE INPUT: true; the input reads as it did. -/
def meanLaterSpec : ChangeSpec := { name := "meanLater", fn := fun _ => fun
  | [d1, d2, d3, d4] => { results := [.lit (.bool true)], args := [d1, d2, d3, d4] }
  | _ => none }
def meanLaterRow : OpenClaim := { program := "ytldecdningjkoaa", sum := "94106868d1980758a133e3c8873260608188db91a8fac87b61ea19536906561b", func := "grainstore/grainlaw6.MeanLater", spec := "meanLater", inPlace := ["slices.overlaps[grainstore/api.Cell]"], unfollowed := true, recurses := true, loops := true, apart := false }
def MeanLaterSaid : Prop := meanLaterRow.holds Try.pinned (OpenSpec.ofChange meanLaterSpec)

/-- ITS FALSE NEIGHBOUR: 'it returns false'. Refute it at one input. -/
def meanLaterWrong : ChangeSpec := { name := "meanLater", fn := fun _ => fun
  | [d1, d2, d3, d4] => { results := [.lit (.bool false)], args := [d1, d2, d3, d4] }
  | _ => none }
def MeanLaterWrongFalsely : Prop := meanLaterRow.holds Try.pinned (OpenSpec.ofChange meanLaterWrong)

/- THE SECOND FORM. 'bulk': how many values and letters a reading holds, each counted each time it is reached (what is shared counts as often as it is met; a slice's spare places count too). A statement '..UptoSaid' is the law's where the arguments, and the package variables that the reading takes, are together of bulk at most 1048576: NARROWER than '..Said'. Prove '..Said' where nothing that the law and all that it calls make is longer than what came in: it says more and counts as full. Else prove '..UptoSaid'. A law counts once. -/
mutual
def uptoBulk {H : Type} : DataW H → Nat
  | .lit (.string bytes) => bytes.length + 1
  | .lit _ => 1
  | .nil => 1
  | .ptr d => uptoBulk d + 1
  | .slice elems spare => uptoBulkAll elems + uptoBulkAll spare + 1
  | .agg parts => uptoBulkAll parts + 1
  | .iface _ d => uptoBulk d + 1
  | .map entries => uptoBulkEntries entries + 1
  | .held _ => 1
def uptoBulkAll {H : Type} : List (DataW H) → Nat
  | [] => 0
  | d :: r => uptoBulk d + uptoBulkAll r
def uptoBulkEntries {H : Type} : List (Lit × DataW H) → Nat
  | [] => 0
  | x :: r => uptoBulkEntry x + uptoBulkEntries r
def uptoBulkEntry {H : Type} : Lit × DataW H → Nat
  | (.string bytes, d) => bytes.length + uptoBulk d + 1
  | (_, d) => uptoBulk d + 1
 end
def uptoSmall : (H : Type) → List (DataW H) → Bool := fun _ ds => decide (uptoBulkAll ds ≤ 1048576)
def OpenSpec.upto (s : _root_.Go.ChangeSpec) : _root_.Go.OpenSpec := { _root_.Go.OpenSpec.ofChange s with cond := some uptoSmall }

/-- 'grainlaw6.MeanTells', WHERE WHAT IT READS IS OF BULK AT MOST 1048576: true; the input reads as it did. -/
def meanTellsUptoRow : OpenClaim := { program := "ytldecdningjkoaa", sum := "94106868d1980758a133e3c8873260608188db91a8fac87b61ea19536906561b", func := "grainstore/grainlaw6.MeanTells", spec := "meanTells", inPlace := ["slices.overlaps[grainstore/api.Cell]"], unfollowed := true, recurses := true, loops := true, apart := false, narrowed := true }
def MeanTellsUptoSaid : Prop := meanTellsUptoRow.holds Try.pinned (OpenSpec.upto meanTellsSpec)

/-- 'grainlaw6.MeanSigns', WHERE WHAT IT READS IS OF BULK AT MOST 1048576: true; the input reads as it did. -/
def meanSignsUptoRow : OpenClaim := { program := "ytldecdningjkoaa", sum := "94106868d1980758a133e3c8873260608188db91a8fac87b61ea19536906561b", func := "grainstore/grainlaw6.MeanSigns", spec := "meanSigns", inPlace := ["slices.overlaps[grainstore/api.Cell]"], unfollowed := true, recurses := true, loops := true, apart := false, narrowed := true }
def MeanSignsUptoSaid : Prop := meanSignsUptoRow.holds Try.pinned (OpenSpec.upto meanSignsSpec)

/-- 'grainlaw6.MeanTotals', WHERE WHAT IT READS IS OF BULK AT MOST 1048576: true; the input reads as it did. -/
def meanTotalsUptoRow : OpenClaim := { program := "ytldecdningjkoaa", sum := "94106868d1980758a133e3c8873260608188db91a8fac87b61ea19536906561b", func := "grainstore/grainlaw6.MeanTotals", spec := "meanTotals", inPlace := ["slices.overlaps[grainstore/api.Cell]"], unfollowed := true, recurses := true, loops := true, apart := false, narrowed := true }
def MeanTotalsUptoSaid : Prop := meanTotalsUptoRow.holds Try.pinned (OpenSpec.upto meanTotalsSpec)

/-- 'grainlaw6.MeanWindow', WHERE WHAT IT READS IS OF BULK AT MOST 1048576: true; the input reads as it did. -/
def meanWindowUptoRow : OpenClaim := { program := "ytldecdningjkoaa", sum := "94106868d1980758a133e3c8873260608188db91a8fac87b61ea19536906561b", func := "grainstore/grainlaw6.MeanWindow", spec := "meanWindow", inPlace := ["slices.overlaps[grainstore/api.Cell]"], unfollowed := true, recurses := true, loops := true, apart := false, narrowed := true }
def MeanWindowUptoSaid : Prop := meanWindowUptoRow.holds Try.pinned (OpenSpec.upto meanWindowSpec)

/-- 'grainlaw6.MeanLater', WHERE WHAT IT READS IS OF BULK AT MOST 1048576: true; the input reads as it did. -/
def meanLaterUptoRow : OpenClaim := { program := "ytldecdningjkoaa", sum := "94106868d1980758a133e3c8873260608188db91a8fac87b61ea19536906561b", func := "grainstore/grainlaw6.MeanLater", spec := "meanLater", inPlace := ["slices.overlaps[grainstore/api.Cell]"], unfollowed := true, recurses := true, loops := true, apart := false, narrowed := true }
def MeanLaterUptoSaid : Prop := meanLaterUptoRow.holds Try.pinned (OpenSpec.upto meanLaterSpec)

end Rows
end Go.Proofs.Ytldecdningjkoaa
