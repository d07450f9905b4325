/-
  No cell of these rows narrows 'for every input' (looked for: loops, veiled, ifaces, maps, wideKeys, modest, calm, conditions, laid).
  DERIVED. THE GIVEN ROWS OF THIS SEAT. 9 by the template 'for every input the law returns true; each argument reads behind the call as it read before'; 0 by the template 'total and deterministic' (their statements: YtnbkennlmnnbeaaTotals.lean).
  GIVEN WITH THE SEED: the statements are not yours to turn. If you find one false, say at which input.
  Laid BY PROGRAM, IN A SANDBOX (cutbox-rows.mjs): the forced cells as the released guide's own fill.sh prints them over the translation 5e54d80b28fedcc0… (all of the seat's roots in one cut). By AI agents, Wed Nov 11 2026. No macro, syntax, notation, axiom, sorry.
-/
import Derived.Test.YtnbkennlmnnbeaaChecked
import GoSem.Claim
import GoSem.ClaimJoined
import GoSem.ClaimMapViews
import Derived.JoinedTies
import Derived.KernelRfl
namespace Go.Proofs.Ytnbkennlmnnbeaa
/- THE CELL 'sum', in the pinned program and in every row, IS THE sha256 OF THE DUMP (.gsa) THAT YtnbkennlmnnbeaaProg.lean LOADS. Nothing in Lean hashes anything: it is a label: what it is worth is what the hold of that sum in a sandbox is worth. -/
noncomputable def Try.pinned : Pinned := { name := "ytnbkennlmnnbeaa", sum := "5e54d80b28fedcc0109f325e906a0ff8b63851956e5dd86016031a65c441050a", checked := Try.checked }
namespace Rows
def none {H : Type} : Left H := { results := [], args := [] }

/-- 'grainlaw8.PlanTells': WHATEVER THE INPUT: true; the input reads as it did. -/
def planTellsSpec : ChangeSpec := { name := "planTells", fn := fun _ => fun
  | [d1, d2, d3, d4] => { results := [.lit (.bool true)], args := [d1, d2, d3, d4] }
  | _ => none }
def planTellsRow : OpenClaim := { program := "ytnbkennlmnnbeaa", sum := "5e54d80b28fedcc0109f325e906a0ff8b63851956e5dd86016031a65c441050a", func := "grainstore/grainlaw8.PlanTells", spec := "planTells", unfollowed := true, recurses := true, apart := false }
def PlanTellsSaid : Prop := planTellsRow.holds Try.pinned (OpenSpec.ofChange planTellsSpec)

/-- ITS FALSE NEIGHBOUR: 'it returns false'. Refute it at one input. -/
def planTellsWrong : ChangeSpec := { name := "planTells", fn := fun _ => fun
  | [d1, d2, d3, d4] => { results := [.lit (.bool false)], args := [d1, d2, d3, d4] }
  | _ => none }
def PlanTellsWrongFalsely : Prop := planTellsRow.holds Try.pinned (OpenSpec.ofChange planTellsWrong)

/-- 'grainlaw7.ShelfTells': WHATEVER THE INPUT: true; the input reads as it did. -/
def shelfTellsSpec : ChangeSpec := { name := "shelfTells", fn := fun _ => fun
  | [d1, d2, d3, d4] => { results := [.lit (.bool true)], args := [d1, d2, d3, d4] }
  | _ => none }
def shelfTellsRow : OpenClaim := { program := "ytnbkennlmnnbeaa", sum := "5e54d80b28fedcc0109f325e906a0ff8b63851956e5dd86016031a65c441050a", func := "grainstore/grainlaw7.ShelfTells", spec := "shelfTells", unfollowed := true, recurses := true, apart := false }
def ShelfTellsSaid : Prop := shelfTellsRow.holds Try.pinned (OpenSpec.ofChange shelfTellsSpec)

/-- ITS FALSE NEIGHBOUR: 'it returns false'. Refute it at one input. -/
def shelfTellsWrong : ChangeSpec := { name := "shelfTells", fn := fun _ => fun
  | [d1, d2, d3, d4] => { results := [.lit (.bool false)], args := [d1, d2, d3, d4] }
  | _ => none }
def ShelfTellsWrongFalsely : Prop := shelfTellsRow.holds Try.pinned (OpenSpec.ofChange shelfTellsWrong)

/-- 'grainlaw7.ShelfRight': WHATEVER THE INPUT: true; the input reads as it did. -/
def shelfRightSpec : ChangeSpec := { name := "shelfRight", fn := fun _ => fun
  | [d1, d2, d3, d4] => { results := [.lit (.bool true)], args := [d1, d2, d3, d4] }
  | _ => none }
def shelfRightRow : OpenClaim := { program := "ytnbkennlmnnbeaa", sum := "5e54d80b28fedcc0109f325e906a0ff8b63851956e5dd86016031a65c441050a", func := "grainstore/grainlaw7.ShelfRight", spec := "shelfRight", unfollowed := true, recurses := true, apart := false }
def ShelfRightSaid : Prop := shelfRightRow.holds Try.pinned (OpenSpec.ofChange shelfRightSpec)

/-- ITS FALSE NEIGHBOUR: 'it returns false'. Refute it at one input. -/
def shelfRightWrong : ChangeSpec := { name := "shelfRight", fn := fun _ => fun
  | [d1, d2, d3, d4] => { results := [.lit (.bool false)], args := [d1, d2, d3, d4] }
  | _ => none }
def ShelfRightWrongFalsely : Prop := shelfRightRow.holds Try.pinned (OpenSpec.ofChange shelfRightWrong)

/-- 'grainlaw7.ShelfTwice': WHATEVER THE INPUT: true; the input reads as it did. -/
def shelfTwiceSpec : ChangeSpec := { name := "shelfTwice", fn := fun _ => fun
  | [d1, d2, d3] => { results := [.lit (.bool true)], args := [d1, d2, d3] }
  | _ => none }
def shelfTwiceRow : OpenClaim := { program := "ytnbkennlmnnbeaa", sum := "5e54d80b28fedcc0109f325e906a0ff8b63851956e5dd86016031a65c441050a", func := "grainstore/grainlaw7.ShelfTwice", spec := "shelfTwice", unfollowed := true, recurses := true, apart := false }
def ShelfTwiceSaid : Prop := shelfTwiceRow.holds Try.pinned (OpenSpec.ofChange shelfTwiceSpec)

/-- ITS FALSE NEIGHBOUR: 'it returns false'. Refute it at one input. -/
def shelfTwiceWrong : ChangeSpec := { name := "shelfTwice", fn := fun _ => fun
  | [d1, d2, d3] => { results := [.lit (.bool false)], args := [d1, d2, d3] }
  | _ => none }
def ShelfTwiceWrongFalsely : Prop := shelfTwiceRow.holds Try.pinned (OpenSpec.ofChange shelfTwiceWrong)

/-- 'grainlaw7.ShelfKeeps': WHATEVER THE INPUT: true; the input reads as it did. -/
def shelfKeepsSpec : ChangeSpec := { name := "shelfKeeps", fn := fun _ => fun
  | [d] => { results := [.lit (.bool true)], args := [d] }
  | _ => none }
def shelfKeepsRow : OpenClaim := { program := "ytnbkennlmnnbeaa", sum := "5e54d80b28fedcc0109f325e906a0ff8b63851956e5dd86016031a65c441050a", func := "grainstore/grainlaw7.ShelfKeeps", spec := "shelfKeeps", unfollowed := true, recurses := true, apart := false }
def ShelfKeepsSaid : Prop := shelfKeepsRow.holds Try.pinned (OpenSpec.ofChange shelfKeepsSpec)

/-- ITS FALSE NEIGHBOUR: 'it returns false'. Refute it at one input. -/
def shelfKeepsWrong : ChangeSpec := { name := "shelfKeeps", fn := fun _ => fun
  | [d] => { results := [.lit (.bool false)], args := [d] }
  | _ => none }
def ShelfKeepsWrongFalsely : Prop := shelfKeepsRow.holds Try.pinned (OpenSpec.ofChange shelfKeepsWrong)

/-- 'grainlaw8.PlanCovers': WHATEVER THE INPUT: true; the input reads as it did. -/
def planCoversSpec : ChangeSpec := { name := "planCovers", fn := fun _ => fun
  | [d1, d2, d3] => { results := [.lit (.bool true)], args := [d1, d2, d3] }
  | _ => none }
def planCoversRow : OpenClaim := { program := "ytnbkennlmnnbeaa", sum := "5e54d80b28fedcc0109f325e906a0ff8b63851956e5dd86016031a65c441050a", func := "grainstore/grainlaw8.PlanCovers", spec := "planCovers", unfollowed := true, recurses := true, apart := false }
def PlanCoversSaid : Prop := planCoversRow.holds Try.pinned (OpenSpec.ofChange planCoversSpec)

/-- ITS FALSE NEIGHBOUR: 'it returns false'. Refute it at one input. -/
def planCoversWrong : ChangeSpec := { name := "planCovers", fn := fun _ => fun
  | [d1, d2, d3] => { results := [.lit (.bool false)], args := [d1, d2, d3] }
  | _ => none }
def PlanCoversWrongFalsely : Prop := planCoversRow.holds Try.pinned (OpenSpec.ofChange planCoversWrong)

/-- 'grainlaw8.PlanCheap': WHATEVER THE INPUT: true; the input reads as it did. -/
def planCheapSpec : ChangeSpec := { name := "planCheap", fn := fun _ => fun
  | [d1, d2, d3, d4, d5] => { results := [.lit (.bool true)], args := [d1, d2, d3, d4, d5] }
  | _ => none }
def planCheapRow : OpenClaim := { program := "ytnbkennlmnnbeaa", sum := "5e54d80b28fedcc0109f325e906a0ff8b63851956e5dd86016031a65c441050a", func := "grainstore/grainlaw8.PlanCheap", spec := "planCheap", unfollowed := true, recurses := true, apart := false }
def PlanCheapSaid : Prop := planCheapRow.holds Try.pinned (OpenSpec.ofChange planCheapSpec)

/-- ITS FALSE NEIGHBOUR: 'it returns false'. Refute it at one input. -/
def planCheapWrong : ChangeSpec := { name := "planCheap", fn := fun _ => fun
  | [d1, d2, d3, d4, d5] => { results := [.lit (.bool false)], args := [d1, d2, d3, d4, d5] }
  | _ => none }
def PlanCheapWrongFalsely : Prop := planCheapRow.holds Try.pinned (OpenSpec.ofChange planCheapWrong)

/-- 'grainlaw8.PlanGone': WHATEVER THE INPUT: true; the input reads as it did. -/
def planGoneSpec : ChangeSpec := { name := "planGone", fn := fun _ => fun
  | [d1, d2, d3, d4, d5, d6] => { results := [.lit (.bool true)], args := [d1, d2, d3, d4, d5, d6] }
  | _ => none }
def planGoneRow : OpenClaim := { program := "ytnbkennlmnnbeaa", sum := "5e54d80b28fedcc0109f325e906a0ff8b63851956e5dd86016031a65c441050a", func := "grainstore/grainlaw8.PlanGone", spec := "planGone", unfollowed := true, recurses := true, apart := false }
def PlanGoneSaid : Prop := planGoneRow.holds Try.pinned (OpenSpec.ofChange planGoneSpec)

/-- ITS FALSE NEIGHBOUR: 'it returns false'. Refute it at one input. -/
def planGoneWrong : ChangeSpec := { name := "planGone", fn := fun _ => fun
  | [d1, d2, d3, d4, d5, d6] => { results := [.lit (.bool false)], args := [d1, d2, d3, d4, d5, d6] }
  | _ => none }
def PlanGoneWrongFalsely : Prop := planGoneRow.holds Try.pinned (OpenSpec.ofChange planGoneWrong)

/-- 'grainlaw8.PlanExact': WHATEVER THE INPUT: true; the input reads as it did. -/
def planExactSpec : ChangeSpec := { name := "planExact", fn := fun _ => fun
  | [d1, d2, d3, d4, d5, d6] => { results := [.lit (.bool true)], args := [d1, d2, d3, d4, d5, d6] }
  | _ => none }
def planExactRow : OpenClaim := { program := "ytnbkennlmnnbeaa", sum := "5e54d80b28fedcc0109f325e906a0ff8b63851956e5dd86016031a65c441050a", func := "grainstore/grainlaw8.PlanExact", spec := "planExact", unfollowed := true, recurses := true, apart := false }
def PlanExactSaid : Prop := planExactRow.holds Try.pinned (OpenSpec.ofChange planExactSpec)

/-- ITS FALSE NEIGHBOUR: 'it returns false'. Refute it at one input. -/
def planExactWrong : ChangeSpec := { name := "planExact", fn := fun _ => fun
  | [d1, d2, d3, d4, d5, d6] => { results := [.lit (.bool false)], args := [d1, d2, d3, d4, d5, d6] }
  | _ => none }
def PlanExactWrongFalsely : Prop := planExactRow.holds Try.pinned (OpenSpec.ofChange planExactWrong)

/- THE SECOND FORM. 'bulk': how many values and letters a reading holds, each counted each time it is reached (what is shared counts as often as it is met; a slice's spare places count too). A statement '..UptoSaid' is the law's where the arguments, and the package variables that the reading takes, are together of bulk at most 1048576: NARROWER than '..Said'. Prove '..Said' where nothing that the law and all that it calls make is longer than what came in: it says more and counts as full. Else prove '..UptoSaid'. A law counts once. -/
mutual
def uptoBulk {H : Type} : DataW H → Nat
  | .lit (.string bytes) => bytes.length + 1
  | .lit _ => 1
  | .nil => 1
  | .ptr d => uptoBulk d + 1
  | .slice elems spare => uptoBulkAll elems + uptoBulkAll spare + 1
  | .agg parts => uptoBulkAll parts + 1
  | .iface _ d => uptoBulk d + 1
  | .map entries => uptoBulkEntries entries + 1
  | .held _ => 1
def uptoBulkAll {H : Type} : List (DataW H) → Nat
  | [] => 0
  | d :: r => uptoBulk d + uptoBulkAll r
def uptoBulkEntries {H : Type} : List (Lit × DataW H) → Nat
  | [] => 0
  | x :: r => uptoBulkEntry x + uptoBulkEntries r
def uptoBulkEntry {H : Type} : Lit × DataW H → Nat
  | (.string bytes, d) => bytes.length + uptoBulk d + 1
  | (_, d) => uptoBulk d + 1
 end
def uptoSmall : (H : Type) → List (DataW H) → Bool := fun _ ds => decide (uptoBulkAll ds ≤ 1048576)
def OpenSpec.upto (s : _root_.Go.ChangeSpec) : _root_.Go.OpenSpec := { _root_.Go.OpenSpec.ofChange s with cond := some uptoSmall }

/-- 'grainlaw8.PlanTells', WHERE WHAT IT READS IS OF BULK AT MOST 1048576: true; the input reads as it did. -/
def planTellsUptoRow : OpenClaim := { program := "ytnbkennlmnnbeaa", sum := "5e54d80b28fedcc0109f325e906a0ff8b63851956e5dd86016031a65c441050a", func := "grainstore/grainlaw8.PlanTells", spec := "planTells", unfollowed := true, recurses := true, apart := false, narrowed := true }
def PlanTellsUptoSaid : Prop := planTellsUptoRow.holds Try.pinned (OpenSpec.upto planTellsSpec)

/-- 'grainlaw7.ShelfTells', WHERE WHAT IT READS IS OF BULK AT MOST 1048576: true; the input reads as it did. -/
def shelfTellsUptoRow : OpenClaim := { program := "ytnbkennlmnnbeaa", sum := "5e54d80b28fedcc0109f325e906a0ff8b63851956e5dd86016031a65c441050a", func := "grainstore/grainlaw7.ShelfTells", spec := "shelfTells", unfollowed := true, recurses := true, apart := false, narrowed := true }
def ShelfTellsUptoSaid : Prop := shelfTellsUptoRow.holds Try.pinned (OpenSpec.upto shelfTellsSpec)

/-- 'grainlaw7.ShelfRight', WHERE WHAT IT READS IS OF BULK AT MOST 1048576: true; the input reads as it did. -/
def shelfRightUptoRow : OpenClaim := { program := "ytnbkennlmnnbeaa", sum := "5e54d80b28fedcc0109f325e906a0ff8b63851956e5dd86016031a65c441050a", func := "grainstore/grainlaw7.ShelfRight", spec := "shelfRight", unfollowed := true, recurses := true, apart := false, narrowed := true }
def ShelfRightUptoSaid : Prop := shelfRightUptoRow.holds Try.pinned (OpenSpec.upto shelfRightSpec)

/-- 'grainlaw7.ShelfTwice', WHERE WHAT IT READS IS OF BULK AT MOST 1048576: true; the input reads as it did. -/
def shelfTwiceUptoRow : OpenClaim := { program := "ytnbkennlmnnbeaa", sum := "5e54d80b28fedcc0109f325e906a0ff8b63851956e5dd86016031a65c441050a", func := "grainstore/grainlaw7.ShelfTwice", spec := "shelfTwice", unfollowed := true, recurses := true, apart := false, narrowed := true }
def ShelfTwiceUptoSaid : Prop := shelfTwiceUptoRow.holds Try.pinned (OpenSpec.upto shelfTwiceSpec)

/-- 'grainlaw7.ShelfKeeps', WHERE WHAT IT READS IS OF BULK AT MOST 1048576: true; the input reads as it did. -/
def shelfKeepsUptoRow : OpenClaim := { program := "ytnbkennlmnnbeaa", sum := "5e54d80b28fedcc0109f325e906a0ff8b63851956e5dd86016031a65c441050a", func := "grainstore/grainlaw7.ShelfKeeps", spec := "shelfKeeps", unfollowed := true, recurses := true, apart := false, narrowed := true }
def ShelfKeepsUptoSaid : Prop := shelfKeepsUptoRow.holds Try.pinned (OpenSpec.upto shelfKeepsSpec)

/-- 'grainlaw8.PlanCovers', WHERE WHAT IT READS IS OF BULK AT MOST 1048576: true; the input reads as it did. -/
def planCoversUptoRow : OpenClaim := { program := "ytnbkennlmnnbeaa", sum := "5e54d80b28fedcc0109f325e906a0ff8b63851956e5dd86016031a65c441050a", func := "grainstore/grainlaw8.PlanCovers", spec := "planCovers", unfollowed := true, recurses := true, apart := false, narrowed := true }
def PlanCoversUptoSaid : Prop := planCoversUptoRow.holds Try.pinned (OpenSpec.upto planCoversSpec)

/-- 'grainlaw8.PlanCheap', WHERE WHAT IT READS IS OF BULK AT MOST 1048576: true; the input reads as it did. -/
def planCheapUptoRow : OpenClaim := { program := "ytnbkennlmnnbeaa", sum := "5e54d80b28fedcc0109f325e906a0ff8b63851956e5dd86016031a65c441050a", func := "grainstore/grainlaw8.PlanCheap", spec := "planCheap", unfollowed := true, recurses := true, apart := false, narrowed := true }
def PlanCheapUptoSaid : Prop := planCheapUptoRow.holds Try.pinned (OpenSpec.upto planCheapSpec)

/-- 'grainlaw8.PlanGone', WHERE WHAT IT READS IS OF BULK AT MOST 1048576: true; the input reads as it did. -/
def planGoneUptoRow : OpenClaim := { program := "ytnbkennlmnnbeaa", sum := "5e54d80b28fedcc0109f325e906a0ff8b63851956e5dd86016031a65c441050a", func := "grainstore/grainlaw8.PlanGone", spec := "planGone", unfollowed := true, recurses := true, apart := false, narrowed := true }
def PlanGoneUptoSaid : Prop := planGoneUptoRow.holds Try.pinned (OpenSpec.upto planGoneSpec)

/-- 'grainlaw8.PlanExact', WHERE WHAT IT READS IS OF BULK AT MOST 1048576: true; the input reads as it did. -/
def planExactUptoRow : OpenClaim := { program := "ytnbkennlmnnbeaa", sum := "5e54d80b28fedcc0109f325e906a0ff8b63851956e5dd86016031a65c441050a", func := "grainstore/grainlaw8.PlanExact", spec := "planExact", unfollowed := true, recurses := true, apart := false, narrowed := true }
def PlanExactUptoSaid : Prop := planExactUptoRow.holds Try.pinned (OpenSpec.upto planExactSpec)

end Rows
end Go.Proofs.Ytnbkennlmnnbeaa
