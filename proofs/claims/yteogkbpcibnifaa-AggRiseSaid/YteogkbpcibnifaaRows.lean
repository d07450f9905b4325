/-
  No cell of these rows narrows 'for every input' (looked for: loops, veiled, ifaces, maps, wideKeys, modest, calm, conditions, laid).
  DERIVED. THE GIVEN ROWS OF THIS SEAT. 10 by the template 'for every input the law returns true; each argument reads behind the call as it read before'; 0 by the template 'total and deterministic' (their statements: YteogkbpcibnifaaTotals.lean).
  GIVEN WITH THE SEED: the statements are not yours to turn. If you find one false, say at which input.
  Laid BY PROGRAM, IN A SANDBOX (cutbox-rows.mjs): the forced cells as the released guide's own fill.sh prints them over the translation 42330a3e94af8df6… (all of the seat's roots in one cut). By AI agents, Wed Nov 11 2026. No macro, syntax, notation, axiom, sorry.
-/
import Derived.Test.YteogkbpcibnifaaChecked
import GoSem.Claim
import GoSem.ClaimJoined
import GoSem.ClaimMapViews
import Derived.JoinedTies
import Derived.KernelRfl
namespace Go.Proofs.Yteogkbpcibnifaa
/- THE CELL 'sum', in the pinned program and in every row, IS THE sha256 OF THE DUMP (.gsa) THAT YteogkbpcibnifaaProg.lean LOADS. Nothing in Lean hashes anything: it is a label: what it is worth is what the hold of that sum in a sandbox is worth. -/
noncomputable def Try.pinned : Pinned := { name := "yteogkbpcibnifaa", sum := "42330a3e94af8df646d9c58f440a7b7fabc8203493270469122f1fd38c1c4f94", checked := Try.checked }
namespace Rows
def none {H : Type} : Left H := { results := [], args := [] }

/-- 'grainlaw2.AggTells': WHATEVER THE INPUT: true; the input reads as it did. -/
def aggTellsSpec : ChangeSpec := { name := "aggTells", fn := fun _ => fun
  | [d1, d2, d3, d4, d5] => { results := [.lit (.bool true)], args := [d1, d2, d3, d4, d5] }
  | _ => none }
def aggTellsRow : OpenClaim := { program := "yteogkbpcibnifaa", sum := "42330a3e94af8df646d9c58f440a7b7fabc8203493270469122f1fd38c1c4f94", func := "grainstore/grainlaw2.AggTells", spec := "aggTells", apart := false }
def AggTellsSaid : Prop := aggTellsRow.holds Try.pinned (OpenSpec.ofChange aggTellsSpec)

/-- ITS FALSE NEIGHBOUR: 'it returns false'. Refute it at one input. -/
def aggTellsWrong : ChangeSpec := { name := "aggTells", fn := fun _ => fun
  | [d1, d2, d3, d4, d5] => { results := [.lit (.bool false)], args := [d1, d2, d3, d4, d5] }
  | _ => none }
def AggTellsWrongFalsely : Prop := aggTellsRow.holds Try.pinned (OpenSpec.ofChange aggTellsWrong)

/-- 'grainlaw2.AggParts': WHATEVER THE INPUT: true; the input reads as it did. -/
def aggPartsSpec : ChangeSpec := { name := "aggParts", fn := fun _ => fun
  | [d1, d2] => { results := [.lit (.bool true)], args := [d1, d2] }
  | _ => none }
def aggPartsRow : OpenClaim := { program := "yteogkbpcibnifaa", sum := "42330a3e94af8df646d9c58f440a7b7fabc8203493270469122f1fd38c1c4f94", func := "grainstore/grainlaw2.AggParts", spec := "aggParts", apart := false }
def AggPartsSaid : Prop := aggPartsRow.holds Try.pinned (OpenSpec.ofChange aggPartsSpec)

/-- ITS FALSE NEIGHBOUR: 'it returns false'. Refute it at one input. -/
def aggPartsWrong : ChangeSpec := { name := "aggParts", fn := fun _ => fun
  | [d1, d2] => { results := [.lit (.bool false)], args := [d1, d2] }
  | _ => none }
def AggPartsWrongFalsely : Prop := aggPartsRow.holds Try.pinned (OpenSpec.ofChange aggPartsWrong)

/-- 'grainlaw2.AggJoined': WHATEVER THE INPUT: true; the input reads as it did. -/
def aggJoinedSpec : ChangeSpec := { name := "aggJoined", fn := fun _ => fun
  | [d1, d2, d3] => { results := [.lit (.bool true)], args := [d1, d2, d3] }
  | _ => none }
def aggJoinedRow : OpenClaim := { program := "yteogkbpcibnifaa", sum := "42330a3e94af8df646d9c58f440a7b7fabc8203493270469122f1fd38c1c4f94", func := "grainstore/grainlaw2.AggJoined", spec := "aggJoined", apart := false }
def AggJoinedSaid : Prop := aggJoinedRow.holds Try.pinned (OpenSpec.ofChange aggJoinedSpec)

/-- ITS FALSE NEIGHBOUR: 'it returns false'. Refute it at one input. -/
def aggJoinedWrong : ChangeSpec := { name := "aggJoined", fn := fun _ => fun
  | [d1, d2, d3] => { results := [.lit (.bool false)], args := [d1, d2, d3] }
  | _ => none }
def AggJoinedWrongFalsely : Prop := aggJoinedRow.holds Try.pinned (OpenSpec.ofChange aggJoinedWrong)

/-- 'grainlaw2.AggBounds': WHATEVER THE INPUT: true; the input reads as it did. -/
def aggBoundsSpec : ChangeSpec := { name := "aggBounds", fn := fun _ => fun
  | [d] => { results := [.lit (.bool true)], args := [d] }
  | _ => none }
def aggBoundsRow : OpenClaim := { program := "yteogkbpcibnifaa", sum := "42330a3e94af8df646d9c58f440a7b7fabc8203493270469122f1fd38c1c4f94", func := "grainstore/grainlaw2.AggBounds", spec := "aggBounds", apart := false }
def AggBoundsSaid : Prop := aggBoundsRow.holds Try.pinned (OpenSpec.ofChange aggBoundsSpec)

/-- ITS FALSE NEIGHBOUR: 'it returns false'. Refute it at one input. -/
def aggBoundsWrong : ChangeSpec := { name := "aggBounds", fn := fun _ => fun
  | [d] => { results := [.lit (.bool false)], args := [d] }
  | _ => none }
def AggBoundsWrongFalsely : Prop := aggBoundsRow.holds Try.pinned (OpenSpec.ofChange aggBoundsWrong)

/-- 'grainlaw2.AggRise': WHATEVER THE INPUT: true; the input reads as it did. -/
def aggRiseSpec : ChangeSpec := { name := "aggRise", fn := fun _ => fun
  | [d1, d2] => { results := [.lit (.bool true)], args := [d1, d2] }
  | _ => none }
def aggRiseRow : OpenClaim := { program := "yteogkbpcibnifaa", sum := "42330a3e94af8df646d9c58f440a7b7fabc8203493270469122f1fd38c1c4f94", func := "grainstore/grainlaw2.AggRise", spec := "aggRise", unfollowed := true, recurses := true, apart := false }
def AggRiseSaid : Prop := aggRiseRow.holds Try.pinned (OpenSpec.ofChange aggRiseSpec)

/-- ITS FALSE NEIGHBOUR: 'it returns false'. Refute it at one input. -/
def aggRiseWrong : ChangeSpec := { name := "aggRise", fn := fun _ => fun
  | [d1, d2] => { results := [.lit (.bool false)], args := [d1, d2] }
  | _ => none }
def AggRiseWrongFalsely : Prop := aggRiseRow.holds Try.pinned (OpenSpec.ofChange aggRiseWrong)

/-- 'grainlaw3.RollGreater': WHATEVER THE INPUT: true; the input reads as it did. -/
def rollGreaterSpec : ChangeSpec := { name := "rollGreater", fn := fun _ => fun
  | [d] => { results := [.lit (.bool true)], args := [d] }
  | _ => none }
def rollGreaterRow : OpenClaim := { program := "yteogkbpcibnifaa", sum := "42330a3e94af8df646d9c58f440a7b7fabc8203493270469122f1fd38c1c4f94", func := "grainstore/grainlaw3.RollGreater", spec := "rollGreater", apart := false }
def RollGreaterSaid : Prop := rollGreaterRow.holds Try.pinned (OpenSpec.ofChange rollGreaterSpec)

/-- ITS FALSE NEIGHBOUR: 'it returns false'. Refute it at one input. -/
def rollGreaterWrong : ChangeSpec := { name := "rollGreater", fn := fun _ => fun
  | [d] => { results := [.lit (.bool false)], args := [d] }
  | _ => none }
def RollGreaterWrongFalsely : Prop := rollGreaterRow.holds Try.pinned (OpenSpec.ofChange rollGreaterWrong)

/-- 'grainlaw3.RollCount': WHATEVER THE INPUT: true; the input reads as it did. -/
def rollCountSpec : ChangeSpec := { name := "rollCount", fn := fun _ => fun
  | [d1, d2] => { results := [.lit (.bool true)], args := [d1, d2] }
  | _ => none }
def rollCountRow : OpenClaim := { program := "yteogkbpcibnifaa", sum := "42330a3e94af8df646d9c58f440a7b7fabc8203493270469122f1fd38c1c4f94", func := "grainstore/grainlaw3.RollCount", spec := "rollCount", apart := false }
def RollCountSaid : Prop := rollCountRow.holds Try.pinned (OpenSpec.ofChange rollCountSpec)

/-- ITS FALSE NEIGHBOUR: 'it returns false'. Refute it at one input. -/
def rollCountWrong : ChangeSpec := { name := "rollCount", fn := fun _ => fun
  | [d1, d2] => { results := [.lit (.bool false)], args := [d1, d2] }
  | _ => none }
def RollCountWrongFalsely : Prop := rollCountRow.holds Try.pinned (OpenSpec.ofChange rollCountWrong)

/-- 'grainlaw3.RollTells': WHATEVER THE INPUT: true; the input reads as it did. -/
def rollTellsSpec : ChangeSpec := { name := "rollTells", fn := fun _ => fun
  | [d1, d2, d3, d4, d5] => { results := [.lit (.bool true)], args := [d1, d2, d3, d4, d5] }
  | _ => none }
def rollTellsRow : OpenClaim := { program := "yteogkbpcibnifaa", sum := "42330a3e94af8df646d9c58f440a7b7fabc8203493270469122f1fd38c1c4f94", func := "grainstore/grainlaw3.RollTells", spec := "rollTells", apart := false }
def RollTellsSaid : Prop := rollTellsRow.holds Try.pinned (OpenSpec.ofChange rollTellsSpec)

/-- ITS FALSE NEIGHBOUR: 'it returns false'. Refute it at one input. -/
def rollTellsWrong : ChangeSpec := { name := "rollTells", fn := fun _ => fun
  | [d1, d2, d3, d4, d5] => { results := [.lit (.bool false)], args := [d1, d2, d3, d4, d5] }
  | _ => none }
def RollTellsWrongFalsely : Prop := rollTellsRow.holds Try.pinned (OpenSpec.ofChange rollTellsWrong)

/-- 'grainlaw3.RollExact': WHATEVER THE INPUT: true; the input reads as it did. -/
def rollExactSpec : ChangeSpec := { name := "rollExact", fn := fun _ => fun
  | [d1, d2, d3, d4] => { results := [.lit (.bool true)], args := [d1, d2, d3, d4] }
  | _ => none }
def rollExactRow : OpenClaim := { program := "yteogkbpcibnifaa", sum := "42330a3e94af8df646d9c58f440a7b7fabc8203493270469122f1fd38c1c4f94", func := "grainstore/grainlaw3.RollExact", spec := "rollExact", apart := false }
def RollExactSaid : Prop := rollExactRow.holds Try.pinned (OpenSpec.ofChange rollExactSpec)

/-- ITS FALSE NEIGHBOUR: 'it returns false'. Refute it at one input. -/
def rollExactWrong : ChangeSpec := { name := "rollExact", fn := fun _ => fun
  | [d1, d2, d3, d4] => { results := [.lit (.bool false)], args := [d1, d2, d3, d4] }
  | _ => none }
def RollExactWrongFalsely : Prop := rollExactRow.holds Try.pinned (OpenSpec.ofChange rollExactWrong)

/-- 'graintop.Names': WHATEVER THE INPUT: true; the input reads as it did. -/
def namesSpec : ChangeSpec := { name := "names", fn := fun _ => fun
  | [] => { results := [.lit (.bool true)], args := [] }
  | _ => none }
def namesRow : OpenClaim := { program := "yteogkbpcibnifaa", sum := "42330a3e94af8df646d9c58f440a7b7fabc8203493270469122f1fd38c1c4f94", func := "grainstore/graintop.Names", spec := "names", apart := false }
def NamesSaid : Prop := namesRow.holds Try.pinned (OpenSpec.ofChange namesSpec)

/-- ITS FALSE NEIGHBOUR: 'it returns false'. Refute it at one input. -/
def namesWrong : ChangeSpec := { name := "names", fn := fun _ => fun
  | [] => { results := [.lit (.bool false)], args := [] }
  | _ => none }
def NamesWrongFalsely : Prop := namesRow.holds Try.pinned (OpenSpec.ofChange namesWrong)

/- THE SECOND FORM. 'bulk': how many values and letters a reading holds, each counted each time it is reached (what is shared counts as often as it is met; a slice's spare places count too). A statement '..UptoSaid' is the law's where the arguments, and the package variables that the reading takes, are together of bulk at most 1048576: NARROWER than '..Said'. Prove '..Said' where nothing that the law and all that it calls make is longer than what came in: it says more and counts as full. Else prove '..UptoSaid'. A law counts once. -/
mutual
def uptoBulk {H : Type} : DataW H → Nat
  | .lit (.string bytes) => bytes.length + 1
  | .lit _ => 1
  | .nil => 1
  | .ptr d => uptoBulk d + 1
  | .slice elems spare => uptoBulkAll elems + uptoBulkAll spare + 1
  | .agg parts => uptoBulkAll parts + 1
  | .iface _ d => uptoBulk d + 1
  | .map entries => uptoBulkEntries entries + 1
  | .held _ => 1
def uptoBulkAll {H : Type} : List (DataW H) → Nat
  | [] => 0
  | d :: r => uptoBulk d + uptoBulkAll r
def uptoBulkEntries {H : Type} : List (Lit × DataW H) → Nat
  | [] => 0
  | x :: r => uptoBulkEntry x + uptoBulkEntries r
def uptoBulkEntry {H : Type} : Lit × DataW H → Nat
  | (.string bytes, d) => bytes.length + uptoBulk d + 1
  | (_, d) => uptoBulk d + 1
 end
def uptoSmall : (H : Type) → List (DataW H) → Bool := fun _ ds => decide (uptoBulkAll ds ≤ 1048576)
def OpenSpec.upto (s : _root_.Go.ChangeSpec) : _root_.Go.OpenSpec := { _root_.Go.OpenSpec.ofChange s with cond := some uptoSmall }

/-- 'grainlaw2.AggTells', WHERE WHAT IT READS IS OF BULK AT MOST 1048576: true; the input reads as it did. -/
def aggTellsUptoRow : OpenClaim := { program := "yteogkbpcibnifaa", sum := "42330a3e94af8df646d9c58f440a7b7fabc8203493270469122f1fd38c1c4f94", func := "grainstore/grainlaw2.AggTells", spec := "aggTells", apart := false, narrowed := true }
def AggTellsUptoSaid : Prop := aggTellsUptoRow.holds Try.pinned (OpenSpec.upto aggTellsSpec)

/-- 'grainlaw2.AggParts', WHERE WHAT IT READS IS OF BULK AT MOST 1048576: true; the input reads as it did. -/
def aggPartsUptoRow : OpenClaim := { program := "yteogkbpcibnifaa", sum := "42330a3e94af8df646d9c58f440a7b7fabc8203493270469122f1fd38c1c4f94", func := "grainstore/grainlaw2.AggParts", spec := "aggParts", apart := false, narrowed := true }
def AggPartsUptoSaid : Prop := aggPartsUptoRow.holds Try.pinned (OpenSpec.upto aggPartsSpec)

/-- 'grainlaw2.AggJoined', WHERE WHAT IT READS IS OF BULK AT MOST 1048576: true; the input reads as it did. -/
def aggJoinedUptoRow : OpenClaim := { program := "yteogkbpcibnifaa", sum := "42330a3e94af8df646d9c58f440a7b7fabc8203493270469122f1fd38c1c4f94", func := "grainstore/grainlaw2.AggJoined", spec := "aggJoined", apart := false, narrowed := true }
def AggJoinedUptoSaid : Prop := aggJoinedUptoRow.holds Try.pinned (OpenSpec.upto aggJoinedSpec)

/-- 'grainlaw2.AggBounds', WHERE WHAT IT READS IS OF BULK AT MOST 1048576: true; the input reads as it did. -/
def aggBoundsUptoRow : OpenClaim := { program := "yteogkbpcibnifaa", sum := "42330a3e94af8df646d9c58f440a7b7fabc8203493270469122f1fd38c1c4f94", func := "grainstore/grainlaw2.AggBounds", spec := "aggBounds", apart := false, narrowed := true }
def AggBoundsUptoSaid : Prop := aggBoundsUptoRow.holds Try.pinned (OpenSpec.upto aggBoundsSpec)

/-- 'grainlaw2.AggRise', WHERE WHAT IT READS IS OF BULK AT MOST 1048576: true; the input reads as it did. -/
def aggRiseUptoRow : OpenClaim := { program := "yteogkbpcibnifaa", sum := "42330a3e94af8df646d9c58f440a7b7fabc8203493270469122f1fd38c1c4f94", func := "grainstore/grainlaw2.AggRise", spec := "aggRise", unfollowed := true, recurses := true, apart := false, narrowed := true }
def AggRiseUptoSaid : Prop := aggRiseUptoRow.holds Try.pinned (OpenSpec.upto aggRiseSpec)

/-- 'grainlaw3.RollGreater', WHERE WHAT IT READS IS OF BULK AT MOST 1048576: true; the input reads as it did. -/
def rollGreaterUptoRow : OpenClaim := { program := "yteogkbpcibnifaa", sum := "42330a3e94af8df646d9c58f440a7b7fabc8203493270469122f1fd38c1c4f94", func := "grainstore/grainlaw3.RollGreater", spec := "rollGreater", apart := false, narrowed := true }
def RollGreaterUptoSaid : Prop := rollGreaterUptoRow.holds Try.pinned (OpenSpec.upto rollGreaterSpec)

/-- 'grainlaw3.RollCount', WHERE WHAT IT READS IS OF BULK AT MOST 1048576: true; the input reads as it did. -/
def rollCountUptoRow : OpenClaim := { program := "yteogkbpcibnifaa", sum := "42330a3e94af8df646d9c58f440a7b7fabc8203493270469122f1fd38c1c4f94", func := "grainstore/grainlaw3.RollCount", spec := "rollCount", apart := false, narrowed := true }
def RollCountUptoSaid : Prop := rollCountUptoRow.holds Try.pinned (OpenSpec.upto rollCountSpec)

/-- 'grainlaw3.RollTells', WHERE WHAT IT READS IS OF BULK AT MOST 1048576: true; the input reads as it did. -/
def rollTellsUptoRow : OpenClaim := { program := "yteogkbpcibnifaa", sum := "42330a3e94af8df646d9c58f440a7b7fabc8203493270469122f1fd38c1c4f94", func := "grainstore/grainlaw3.RollTells", spec := "rollTells", apart := false, narrowed := true }
def RollTellsUptoSaid : Prop := rollTellsUptoRow.holds Try.pinned (OpenSpec.upto rollTellsSpec)

/-- 'grainlaw3.RollExact', WHERE WHAT IT READS IS OF BULK AT MOST 1048576: true; the input reads as it did. -/
def rollExactUptoRow : OpenClaim := { program := "yteogkbpcibnifaa", sum := "42330a3e94af8df646d9c58f440a7b7fabc8203493270469122f1fd38c1c4f94", func := "grainstore/grainlaw3.RollExact", spec := "rollExact", apart := false, narrowed := true }
def RollExactUptoSaid : Prop := rollExactUptoRow.holds Try.pinned (OpenSpec.upto rollExactSpec)

/-- 'graintop.Names', WHERE WHAT IT READS IS OF BULK AT MOST 1048576: true; the input reads as it did. -/
def namesUptoRow : OpenClaim := { program := "yteogkbpcibnifaa", sum := "42330a3e94af8df646d9c58f440a7b7fabc8203493270469122f1fd38c1c4f94", func := "grainstore/graintop.Names", spec := "names", apart := false, narrowed := true }
def NamesUptoSaid : Prop := namesUptoRow.holds Try.pinned (OpenSpec.upto namesSpec)

end Rows
end Go.Proofs.Yteogkbpcibnifaa
