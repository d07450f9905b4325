/-
  No cell of these rows narrows 'for every input' (looked for: loops, veiled, ifaces, maps, wideKeys, modest, calm, conditions, laid).
  DERIVED. THE GIVEN ROWS OF THIS SEAT. 7 by the template 'for every input the law returns true; each argument reads behind the call as it read before'; 0 by the template 'total and deterministic' (their statements: YtekamocheffppaaTotals.lean).
  GIVEN WITH THE SEED: the statements are not yours to turn. If you find one false, say at which input.
  Laid BY PROGRAM, IN A SANDBOX (cutbox-rows.mjs): the forced cells as the released guide's own fill.sh prints them over the translation d5057d06cbdfd80c… (all of the seat's roots in one cut). By AI agents, Wed Nov 11 2026. No macro, syntax, notation, axiom, sorry.
-/
import Derived.Test.YtekamocheffppaaChecked
import GoSem.Claim
import GoSem.ClaimJoined
import GoSem.ClaimMapViews
import Derived.JoinedTies
import Derived.KernelRfl
namespace Go.Proofs.Ytekamocheffppaa
/- THE CELL 'sum', in the pinned program and in every row, IS THE sha256 OF THE DUMP (.gsa) THAT YtekamocheffppaaProg.lean LOADS. Nothing in Lean hashes anything: it is a label: what it is worth is what the hold of that sum in a sandbox is worth. -/
noncomputable def Try.pinned : Pinned := { name := "ytekamocheffppaa", sum := "d5057d06cbdfd80cfeed62b4b872fc390934605fda7ea9118fdcc7cad240e046", checked := Try.checked }
namespace Rows
def none {H : Type} : Left H := { results := [], args := [] }

/-- 'grainlaw1.CodecTells': WHATEVER THE INPUT: true; the input reads as it did. -/
def codecTellsSpec : ChangeSpec := { name := "codecTells", fn := fun _ => fun
  | [d1, d2] => { results := [.lit (.bool true)], args := [d1, d2] }
  | _ => none }
def codecTellsRow : OpenClaim := { program := "ytekamocheffppaa", sum := "d5057d06cbdfd80cfeed62b4b872fc390934605fda7ea9118fdcc7cad240e046", func := "grainstore/grainlaw1.CodecTells", spec := "codecTells", apart := false }
def CodecTellsSaid : Prop := codecTellsRow.holds Try.pinned (OpenSpec.ofChange codecTellsSpec)

/-- ITS FALSE NEIGHBOUR: 'it returns false'. Refute it at one input. -/
def codecTellsWrong : ChangeSpec := { name := "codecTells", fn := fun _ => fun
  | [d1, d2] => { results := [.lit (.bool false)], args := [d1, d2] }
  | _ => none }
def CodecTellsWrongFalsely : Prop := codecTellsRow.holds Try.pinned (OpenSpec.ofChange codecTellsWrong)

/-- 'grainlaw1.CodecTurns': WHATEVER THE INPUT: true; the input reads as it did. -/
def codecTurnsSpec : ChangeSpec := { name := "codecTurns", fn := fun _ => fun
  | [d1, d2] => { results := [.lit (.bool true)], args := [d1, d2] }
  | _ => none }
def codecTurnsRow : OpenClaim := { program := "ytekamocheffppaa", sum := "d5057d06cbdfd80cfeed62b4b872fc390934605fda7ea9118fdcc7cad240e046", func := "grainstore/grainlaw1.CodecTurns", spec := "codecTurns", apart := false }
def CodecTurnsSaid : Prop := codecTurnsRow.holds Try.pinned (OpenSpec.ofChange codecTurnsSpec)

/-- ITS FALSE NEIGHBOUR: 'it returns false'. Refute it at one input. -/
def codecTurnsWrong : ChangeSpec := { name := "codecTurns", fn := fun _ => fun
  | [d1, d2] => { results := [.lit (.bool false)], args := [d1, d2] }
  | _ => none }
def CodecTurnsWrongFalsely : Prop := codecTurnsRow.holds Try.pinned (OpenSpec.ofChange codecTurnsWrong)

/-- 'grainlaw1.CodecEven': WHATEVER THE INPUT: true; the input reads as it did. -/
def codecEvenSpec : ChangeSpec := { name := "codecEven", fn := fun _ => fun
  | [d1, d2, d3, d4] => { results := [.lit (.bool true)], args := [d1, d2, d3, d4] }
  | _ => none }
def codecEvenRow : OpenClaim := { program := "ytekamocheffppaa", sum := "d5057d06cbdfd80cfeed62b4b872fc390934605fda7ea9118fdcc7cad240e046", func := "grainstore/grainlaw1.CodecEven", spec := "codecEven", apart := false }
def CodecEvenSaid : Prop := codecEvenRow.holds Try.pinned (OpenSpec.ofChange codecEvenSpec)

/-- ITS FALSE NEIGHBOUR: 'it returns false'. Refute it at one input. -/
def codecEvenWrong : ChangeSpec := { name := "codecEven", fn := fun _ => fun
  | [d1, d2, d3, d4] => { results := [.lit (.bool false)], args := [d1, d2, d3, d4] }
  | _ => none }
def CodecEvenWrongFalsely : Prop := codecEvenRow.holds Try.pinned (OpenSpec.ofChange codecEvenWrong)

/-- 'grainlaw1.CodecMoved': WHATEVER THE INPUT: true; the input reads as it did. -/
def codecMovedSpec : ChangeSpec := { name := "codecMoved", fn := fun _ => fun
  | [d1, d2] => { results := [.lit (.bool true)], args := [d1, d2] }
  | _ => none }
def codecMovedRow : OpenClaim := { program := "ytekamocheffppaa", sum := "d5057d06cbdfd80cfeed62b4b872fc390934605fda7ea9118fdcc7cad240e046", func := "grainstore/grainlaw1.CodecMoved", spec := "codecMoved", apart := false }
def CodecMovedSaid : Prop := codecMovedRow.holds Try.pinned (OpenSpec.ofChange codecMovedSpec)

/-- ITS FALSE NEIGHBOUR: 'it returns false'. Refute it at one input. -/
def codecMovedWrong : ChangeSpec := { name := "codecMoved", fn := fun _ => fun
  | [d1, d2] => { results := [.lit (.bool false)], args := [d1, d2] }
  | _ => none }
def CodecMovedWrongFalsely : Prop := codecMovedRow.holds Try.pinned (OpenSpec.ofChange codecMovedWrong)

/-- 'grainlaw4.NamesOrder': WHATEVER THE INPUT: true; the input reads as it did. -/
def namesOrderSpec : ChangeSpec := { name := "namesOrder", fn := fun _ => fun
  | [d1, d2, d3] => { results := [.lit (.bool true)], args := [d1, d2, d3] }
  | _ => none }
def namesOrderRow : OpenClaim := { program := "ytekamocheffppaa", sum := "d5057d06cbdfd80cfeed62b4b872fc390934605fda7ea9118fdcc7cad240e046", func := "grainstore/grainlaw4.NamesOrder", spec := "namesOrder", unfollowed := true, recurses := true, apart := false }
def NamesOrderSaid : Prop := namesOrderRow.holds Try.pinned (OpenSpec.ofChange namesOrderSpec)

/-- ITS FALSE NEIGHBOUR: 'it returns false'. Refute it at one input. -/
def namesOrderWrong : ChangeSpec := { name := "namesOrder", fn := fun _ => fun
  | [d1, d2, d3] => { results := [.lit (.bool false)], args := [d1, d2, d3] }
  | _ => none }
def NamesOrderWrongFalsely : Prop := namesOrderRow.holds Try.pinned (OpenSpec.ofChange namesOrderWrong)

/-- 'grainlaw4.NamesNot': WHATEVER THE INPUT: true; the input reads as it did. -/
def namesNotSpec : ChangeSpec := { name := "namesNot", fn := fun _ => fun
  | [d1, d2] => { results := [.lit (.bool true)], args := [d1, d2] }
  | _ => none }
def namesNotRow : OpenClaim := { program := "ytekamocheffppaa", sum := "d5057d06cbdfd80cfeed62b4b872fc390934605fda7ea9118fdcc7cad240e046", func := "grainstore/grainlaw4.NamesNot", spec := "namesNot", unfollowed := true, recurses := true, apart := false }
def NamesNotSaid : Prop := namesNotRow.holds Try.pinned (OpenSpec.ofChange namesNotSpec)

/-- ITS FALSE NEIGHBOUR: 'it returns false'. Refute it at one input. -/
def namesNotWrong : ChangeSpec := { name := "namesNot", fn := fun _ => fun
  | [d1, d2] => { results := [.lit (.bool false)], args := [d1, d2] }
  | _ => none }
def NamesNotWrongFalsely : Prop := namesNotRow.holds Try.pinned (OpenSpec.ofChange namesNotWrong)

/-- 'grainlaw4.NamesTells': WHATEVER THE INPUT: true; the input reads as it did. -/
def namesTellsSpec : ChangeSpec := { name := "namesTells", fn := fun _ => fun
  | [d1, d2, d3, d4, d5] => { results := [.lit (.bool true)], args := [d1, d2, d3, d4, d5] }
  | _ => none }
def namesTellsRow : OpenClaim := { program := "ytekamocheffppaa", sum := "d5057d06cbdfd80cfeed62b4b872fc390934605fda7ea9118fdcc7cad240e046", func := "grainstore/grainlaw4.NamesTells", spec := "namesTells", unfollowed := true, recurses := true, apart := false }
def NamesTellsSaid : Prop := namesTellsRow.holds Try.pinned (OpenSpec.ofChange namesTellsSpec)

/-- ITS FALSE NEIGHBOUR: 'it returns false'. Refute it at one input. -/
def namesTellsWrong : ChangeSpec := { name := "namesTells", fn := fun _ => fun
  | [d1, d2, d3, d4, d5] => { results := [.lit (.bool false)], args := [d1, d2, d3, d4, d5] }
  | _ => none }
def NamesTellsWrongFalsely : Prop := namesTellsRow.holds Try.pinned (OpenSpec.ofChange namesTellsWrong)

/- THE SECOND FORM. 'bulk': how many values and letters a reading holds, each counted each time it is reached (what is shared counts as often as it is met; a slice's spare places count too). A statement '..UptoSaid' is the law's where the arguments, and the package variables that the reading takes, are together of bulk at most 1048576: NARROWER than '..Said'. Prove '..Said' where nothing that the law and all that it calls make is longer than what came in: it says more and counts as full. Else prove '..UptoSaid'. A law counts once. -/
mutual
def uptoBulk {H : Type} : DataW H → Nat
  | .lit (.string bytes) => bytes.length + 1
  | .lit _ => 1
  | .nil => 1
  | .ptr d => uptoBulk d + 1
  | .slice elems spare => uptoBulkAll elems + uptoBulkAll spare + 1
  | .agg parts => uptoBulkAll parts + 1
  | .iface _ d => uptoBulk d + 1
  | .map entries => uptoBulkEntries entries + 1
  | .held _ => 1
def uptoBulkAll {H : Type} : List (DataW H) → Nat
  | [] => 0
  | d :: r => uptoBulk d + uptoBulkAll r
def uptoBulkEntries {H : Type} : List (Lit × DataW H) → Nat
  | [] => 0
  | x :: r => uptoBulkEntry x + uptoBulkEntries r
def uptoBulkEntry {H : Type} : Lit × DataW H → Nat
  | (.string bytes, d) => bytes.length + uptoBulk d + 1
  | (_, d) => uptoBulk d + 1
 end
def uptoSmall : (H : Type) → List (DataW H) → Bool := fun _ ds => decide (uptoBulkAll ds ≤ 1048576)
def OpenSpec.upto (s : _root_.Go.ChangeSpec) : _root_.Go.OpenSpec := { _root_.Go.OpenSpec.ofChange s with cond := some uptoSmall }

/-- 'grainlaw1.CodecTells', WHERE WHAT IT READS IS OF BULK AT MOST 1048576: true; the input reads as it did. -/
def codecTellsUptoRow : OpenClaim := { program := "ytekamocheffppaa", sum := "d5057d06cbdfd80cfeed62b4b872fc390934605fda7ea9118fdcc7cad240e046", func := "grainstore/grainlaw1.CodecTells", spec := "codecTells", apart := false, narrowed := true }
def CodecTellsUptoSaid : Prop := codecTellsUptoRow.holds Try.pinned (OpenSpec.upto codecTellsSpec)

/-- 'grainlaw1.CodecTurns', WHERE WHAT IT READS IS OF BULK AT MOST 1048576: true; the input reads as it did. -/
def codecTurnsUptoRow : OpenClaim := { program := "ytekamocheffppaa", sum := "d5057d06cbdfd80cfeed62b4b872fc390934605fda7ea9118fdcc7cad240e046", func := "grainstore/grainlaw1.CodecTurns", spec := "codecTurns", apart := false, narrowed := true }
def CodecTurnsUptoSaid : Prop := codecTurnsUptoRow.holds Try.pinned (OpenSpec.upto codecTurnsSpec)

/-- 'grainlaw1.CodecEven', WHERE WHAT IT READS IS OF BULK AT MOST 1048576: true; the input reads as it did. -/
def codecEvenUptoRow : OpenClaim := { program := "ytekamocheffppaa", sum := "d5057d06cbdfd80cfeed62b4b872fc390934605fda7ea9118fdcc7cad240e046", func := "grainstore/grainlaw1.CodecEven", spec := "codecEven", apart := false, narrowed := true }
def CodecEvenUptoSaid : Prop := codecEvenUptoRow.holds Try.pinned (OpenSpec.upto codecEvenSpec)

/-- 'grainlaw1.CodecMoved', WHERE WHAT IT READS IS OF BULK AT MOST 1048576: true; the input reads as it did. -/
def codecMovedUptoRow : OpenClaim := { program := "ytekamocheffppaa", sum := "d5057d06cbdfd80cfeed62b4b872fc390934605fda7ea9118fdcc7cad240e046", func := "grainstore/grainlaw1.CodecMoved", spec := "codecMoved", apart := false, narrowed := true }
def CodecMovedUptoSaid : Prop := codecMovedUptoRow.holds Try.pinned (OpenSpec.upto codecMovedSpec)

/-- 'grainlaw4.NamesOrder', WHERE WHAT IT READS IS OF BULK AT MOST 1048576: true; the input reads as it did. -/
def namesOrderUptoRow : OpenClaim := { program := "ytekamocheffppaa", sum := "d5057d06cbdfd80cfeed62b4b872fc390934605fda7ea9118fdcc7cad240e046", func := "grainstore/grainlaw4.NamesOrder", spec := "namesOrder", unfollowed := true, recurses := true, apart := false, narrowed := true }
def NamesOrderUptoSaid : Prop := namesOrderUptoRow.holds Try.pinned (OpenSpec.upto namesOrderSpec)

/-- 'grainlaw4.NamesNot', WHERE WHAT IT READS IS OF BULK AT MOST 1048576: true; the input reads as it did. -/
def namesNotUptoRow : OpenClaim := { program := "ytekamocheffppaa", sum := "d5057d06cbdfd80cfeed62b4b872fc390934605fda7ea9118fdcc7cad240e046", func := "grainstore/grainlaw4.NamesNot", spec := "namesNot", unfollowed := true, recurses := true, apart := false, narrowed := true }
def NamesNotUptoSaid : Prop := namesNotUptoRow.holds Try.pinned (OpenSpec.upto namesNotSpec)

/-- 'grainlaw4.NamesTells', WHERE WHAT IT READS IS OF BULK AT MOST 1048576: true; the input reads as it did. -/
def namesTellsUptoRow : OpenClaim := { program := "ytekamocheffppaa", sum := "d5057d06cbdfd80cfeed62b4b872fc390934605fda7ea9118fdcc7cad240e046", func := "grainstore/grainlaw4.NamesTells", spec := "namesTells", unfollowed := true, recurses := true, apart := false, narrowed := true }
def NamesTellsUptoSaid : Prop := namesTellsUptoRow.holds Try.pinned (OpenSpec.upto namesTellsSpec)

end Rows
end Go.Proofs.Ytekamocheffppaa
