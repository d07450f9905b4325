/-
  NARROWER THAN 'FOR EVERY INPUT', by the rows' own cells (each row's printed sentence says how): BaseTells: laid · BaseRolled: laid · BaseRight: laid · BaseRefused: laid · BaseExact: laid · TopLate: laid · TopText: laid · TopCheap: laid · TopGone: laid · TopTotal: laid · TopWords: laid.
  DERIVED. THE GIVEN ROWS OF THIS SEAT. 11 by the template 'for every input the law returns true; each argument reads behind the call as it read before'; 0 by the template 'total and deterministic' (their statements: YtgojhpocpajmlaaGreatDoorTotals.lean).
  GIVEN WITH THE SEED: the statements are not yours to turn. If you find one false, say at which input.
  Laid BY PROGRAM, IN A SANDBOX (cutbox-rows.mjs): the forced cells as the released guide's own fill.sh prints them over the translation 98d3694d5bf7e18c… (all of the seat's roots in one cut). By AI agents, Wed Nov 11 2026. No macro, syntax, notation, axiom, sorry.
-/
import Derived.Test.YtgojhpocpajmlaaGreatDoorChecked
import GoSem.Claim
import GoSem.ClaimJoined
import GoSem.ClaimMapViews
import Derived.JoinedTies
import Derived.KernelRfl
namespace Go.Proofs.YtgojhpocpajmlaaGreatDoor
/- THE CELL 'sum', in the pinned program and in every row, IS THE sha256 OF THE DUMP (.gsa) THAT YtgojhpocpajmlaaGreatDoorProg.lean LOADS. Nothing in Lean hashes anything: it is a label: what it is worth is what the hold of that sum in a sandbox is worth. -/
noncomputable def Tryz.pinned : Pinned := { name := "ytgojhpocpajmlaagreatdoor", sum := "98d3694d5bf7e18c749214b02bdd11192e551b8910ccaf14d461c24da8ae57ab", checked := Tryz.checked }
namespace Rows
def none {H : Type} : Left H := { results := [], args := [] }

/- WHAT THE LISTED PACKAGE-LEVEL VARIABLES READ AS WHEN THE CALL BEGINS. Each datum BY PROGRAM (the guide's laid-datum.mjs) off the statement by which the dump's own 'gosem.cut.vars' lays the variable. In a bare row this is a premise. The card (YtgojhpocpajmlaaGreatDoorCards.lean) ties it to the program's text. -/
def laid_math_bits_deBruijn32tab {H : Type} : DataW H := .agg [.lit (.int .u8 0), .lit (.int .u8 1), .lit (.int .u8 28), .lit (.int .u8 2), .lit (.int .u8 29), .lit (.int .u8 14), .lit (.int .u8 24), .lit (.int .u8 3), .lit (.int .u8 30), .lit (.int .u8 22), .lit (.int .u8 20), .lit (.int .u8 15), .lit (.int .u8 25), .lit (.int .u8 17), .lit (.int .u8 4), .lit (.int .u8 8), .lit (.int .u8 31), .lit (.int .u8 27), .lit (.int .u8 13), .lit (.int .u8 23), .lit (.int .u8 21), .lit (.int .u8 19), .lit (.int .u8 16), .lit (.int .u8 7), .lit (.int .u8 26), .lit (.int .u8 12), .lit (.int .u8 18), .lit (.int .u8 6), .lit (.int .u8 11), .lit (.int .u8 5), .lit (.int .u8 10), .lit (.int .u8 9)]
def laid_math_bits_deBruijn64tab {H : Type} : DataW H := .agg [.lit (.int .u8 0), .lit (.int .u8 1), .lit (.int .u8 56), .lit (.int .u8 2), .lit (.int .u8 57), .lit (.int .u8 49), .lit (.int .u8 28), .lit (.int .u8 3), .lit (.int .u8 61), .lit (.int .u8 58), .lit (.int .u8 42), .lit (.int .u8 50), .lit (.int .u8 38), .lit (.int .u8 29), .lit (.int .u8 17), .lit (.int .u8 4), .lit (.int .u8 62), .lit (.int .u8 47), .lit (.int .u8 59), .lit (.int .u8 36), .lit (.int .u8 45), .lit (.int .u8 43), .lit (.int .u8 51), .lit (.int .u8 22), .lit (.int .u8 53), .lit (.int .u8 39), .lit (.int .u8 33), .lit (.int .u8 30), .lit (.int .u8 24), .lit (.int .u8 18), .lit (.int .u8 12), .lit (.int .u8 5), .lit (.int .u8 63), .lit (.int .u8 55), .lit (.int .u8 48), .lit (.int .u8 27), .lit (.int .u8 60), .lit (.int .u8 41), .lit (.int .u8 37), .lit (.int .u8 16), .lit (.int .u8 46), .lit (.int .u8 35), .lit (.int .u8 44), .lit (.int .u8 21), .lit (.int .u8 52), .lit (.int .u8 32), .lit (.int .u8 23), .lit (.int .u8 11), .lit (.int .u8 54), .lit (.int .u8 26), .lit (.int .u8 40), .lit (.int .u8 15), .lit (.int .u8 34), .lit (.int .u8 20), .lit (.int .u8 31), .lit (.int .u8 10), .lit (.int .u8 25), .lit (.int .u8 14), .lit (.int .u8 19), .lit (.int .u8 9), .lit (.int .u8 13), .lit (.int .u8 8), .lit (.int .u8 7), .lit (.int .u8 6)]
def laid_internal_strconv_uint64pow10 {H : Type} : DataW H := .agg [.lit (.int .u64 1), .lit (.int .u64 10), .lit (.int .u64 100), .lit (.int .u64 1000), .lit (.int .u64 10000), .lit (.int .u64 100000), .lit (.int .u64 1000000), .lit (.int .u64 10000000), .lit (.int .u64 100000000), .lit (.int .u64 1000000000), .lit (.int .u64 10000000000), .lit (.int .u64 100000000000), .lit (.int .u64 1000000000000), .lit (.int .u64 10000000000000), .lit (.int .u64 100000000000000), .lit (.int .u64 1000000000000000), .lit (.int .u64 10000000000000000), .lit (.int .u64 100000000000000000), .lit (.int .u64 1000000000000000000), .lit (.int .u64 10000000000000000000)]
def laid_strconv_ErrRange {H : Type} : DataW H := .iface "*errors.errorString" (.ptr (.agg [.lit (.string [118, 97, 108, 117, 101, 32, 111, 117, 116, 32, 111, 102, 32, 114, 97, 110, 103, 101])]))
def laid_strconv_ErrSyntax {H : Type} : DataW H := .iface "*errors.errorString" (.ptr (.agg [.lit (.string [105, 110, 118, 97, 108, 105, 100, 32, 115, 121, 110, 116, 97, 120])]))

/-- 'grainlaw9.BaseTells': WHATEVER THE INPUT: true; the input reads as it did. -/
def baseTellsSpec : ChangeSpec := { name := "baseTells", fn := fun _ => fun
  | [d] => { results := [.lit (.bool true)], args := [d] }
  | _ => none }
def baseTellsRow : OpenClaim := { program := "ytgojhpocpajmlaagreatdoor", sum := "98d3694d5bf7e18c749214b02bdd11192e551b8910ccaf14d461c24da8ae57ab", func := "grainstore/grainlaw9.BaseTells", spec := "baseTells", inPlace := ["slices.overlaps[grainstore/api.Shelf]", "slices.overlaps[grainstore/api.Cell]"], unfollowed := true, recurses := true, named := ["strconv.ErrSyntax", "strconv.ErrRange", "internal/strconv.uint64pow10", "math/bits.deBruijn32tab", "math/bits.deBruijn64tab"], apart := false, laid := [("math/bits.deBruijn32tab", laid_math_bits_deBruijn32tab), ("math/bits.deBruijn64tab", laid_math_bits_deBruijn64tab), ("internal/strconv.uint64pow10", laid_internal_strconv_uint64pow10), ("strconv.ErrRange", laid_strconv_ErrRange), ("strconv.ErrSyntax", laid_strconv_ErrSyntax)] }
def BaseTellsSaid : Prop := baseTellsRow.holds Tryz.pinned (OpenSpec.ofChange baseTellsSpec)

/-- ITS FALSE NEIGHBOUR: 'it returns false'. Refute it at one input. -/
def baseTellsWrong : ChangeSpec := { name := "baseTells", fn := fun _ => fun
  | [d] => { results := [.lit (.bool false)], args := [d] }
  | _ => none }
def BaseTellsWrongFalsely : Prop := baseTellsRow.holds Tryz.pinned (OpenSpec.ofChange baseTellsWrong)

/-- 'grainlaw9.BaseRolled': WHATEVER THE INPUT: true; the input reads as it did. -/
def baseRolledSpec : ChangeSpec := { name := "baseRolled", fn := fun _ => fun
  | [d] => { results := [.lit (.bool true)], args := [d] }
  | _ => none }
def baseRolledRow : OpenClaim := { program := "ytgojhpocpajmlaagreatdoor", sum := "98d3694d5bf7e18c749214b02bdd11192e551b8910ccaf14d461c24da8ae57ab", func := "grainstore/grainlaw9.BaseRolled", spec := "baseRolled", inPlace := ["slices.overlaps[grainstore/api.Shelf]", "slices.overlaps[grainstore/api.Cell]"], unfollowed := true, recurses := true, named := ["strconv.ErrSyntax", "strconv.ErrRange", "internal/strconv.uint64pow10", "math/bits.deBruijn32tab", "math/bits.deBruijn64tab"], apart := false, laid := [("math/bits.deBruijn32tab", laid_math_bits_deBruijn32tab), ("math/bits.deBruijn64tab", laid_math_bits_deBruijn64tab), ("internal/strconv.uint64pow10", laid_internal_strconv_uint64pow10), ("strconv.ErrRange", laid_strconv_ErrRange), ("strconv.ErrSyntax", laid_strconv_ErrSyntax)] }
def BaseRolledSaid : Prop := baseRolledRow.holds Tryz.pinned (OpenSpec.ofChange baseRolledSpec)

/-- ITS FALSE NEIGHBOUR: 'it returns false'. Refute it at one input. -/
def baseRolledWrong : ChangeSpec := { name := "baseRolled", fn := fun _ => fun
  | [d] => { results := [.lit (.bool false)], args := [d] }
  | _ => none }
def BaseRolledWrongFalsely : Prop := baseRolledRow.holds Tryz.pinned (OpenSpec.ofChange baseRolledWrong)

/-- 'grainlaw9.BaseRight': WHATEVER THE INPUT: true; the input reads as it did. -/
def baseRightSpec : ChangeSpec := { name := "baseRight", fn := fun _ => fun
  | [d] => { results := [.lit (.bool true)], args := [d] }
  | _ => none }
def baseRightRow : OpenClaim := { program := "ytgojhpocpajmlaagreatdoor", sum := "98d3694d5bf7e18c749214b02bdd11192e551b8910ccaf14d461c24da8ae57ab", func := "grainstore/grainlaw9.BaseRight", spec := "baseRight", inPlace := ["slices.overlaps[grainstore/api.Shelf]", "slices.overlaps[grainstore/api.Cell]"], unfollowed := true, recurses := true, named := ["strconv.ErrSyntax", "strconv.ErrRange", "internal/strconv.uint64pow10", "math/bits.deBruijn32tab", "math/bits.deBruijn64tab"], apart := false, laid := [("math/bits.deBruijn32tab", laid_math_bits_deBruijn32tab), ("math/bits.deBruijn64tab", laid_math_bits_deBruijn64tab), ("internal/strconv.uint64pow10", laid_internal_strconv_uint64pow10), ("strconv.ErrRange", laid_strconv_ErrRange), ("strconv.ErrSyntax", laid_strconv_ErrSyntax)] }
def BaseRightSaid : Prop := baseRightRow.holds Tryz.pinned (OpenSpec.ofChange baseRightSpec)

/-- ITS FALSE NEIGHBOUR: 'it returns false'. Refute it at one input. -/
def baseRightWrong : ChangeSpec := { name := "baseRight", fn := fun _ => fun
  | [d] => { results := [.lit (.bool false)], args := [d] }
  | _ => none }
def BaseRightWrongFalsely : Prop := baseRightRow.holds Tryz.pinned (OpenSpec.ofChange baseRightWrong)

/-- 'grainlaw9.BaseRefused': WHATEVER THE INPUT: true; the input reads as it did. -/
def baseRefusedSpec : ChangeSpec := { name := "baseRefused", fn := fun _ => fun
  | [d] => { results := [.lit (.bool true)], args := [d] }
  | _ => none }
def baseRefusedRow : OpenClaim := { program := "ytgojhpocpajmlaagreatdoor", sum := "98d3694d5bf7e18c749214b02bdd11192e551b8910ccaf14d461c24da8ae57ab", func := "grainstore/grainlaw9.BaseRefused", spec := "baseRefused", inPlace := ["slices.overlaps[grainstore/api.Shelf]", "slices.overlaps[grainstore/api.Cell]"], unfollowed := true, recurses := true, named := ["strconv.ErrSyntax", "strconv.ErrRange", "internal/strconv.uint64pow10", "math/bits.deBruijn32tab", "math/bits.deBruijn64tab"], apart := false, laid := [("math/bits.deBruijn32tab", laid_math_bits_deBruijn32tab), ("math/bits.deBruijn64tab", laid_math_bits_deBruijn64tab), ("internal/strconv.uint64pow10", laid_internal_strconv_uint64pow10), ("strconv.ErrRange", laid_strconv_ErrRange), ("strconv.ErrSyntax", laid_strconv_ErrSyntax)] }
def BaseRefusedSaid : Prop := baseRefusedRow.holds Tryz.pinned (OpenSpec.ofChange baseRefusedSpec)

/-- ITS FALSE NEIGHBOUR: 'it returns false'. Refute it at one input. -/
def baseRefusedWrong : ChangeSpec := { name := "baseRefused", fn := fun _ => fun
  | [d] => { results := [.lit (.bool false)], args := [d] }
  | _ => none }
def BaseRefusedWrongFalsely : Prop := baseRefusedRow.holds Tryz.pinned (OpenSpec.ofChange baseRefusedWrong)

/-- 'grainlaw9.BaseExact': WHATEVER THE INPUT: true; the input reads as it did. -/
def baseExactSpec : ChangeSpec := { name := "baseExact", fn := fun _ => fun
  | [d] => { results := [.lit (.bool true)], args := [d] }
  | _ => none }
def baseExactRow : OpenClaim := { program := "ytgojhpocpajmlaagreatdoor", sum := "98d3694d5bf7e18c749214b02bdd11192e551b8910ccaf14d461c24da8ae57ab", func := "grainstore/grainlaw9.BaseExact", spec := "baseExact", inPlace := ["slices.overlaps[grainstore/api.Shelf]", "slices.overlaps[grainstore/api.Cell]"], unfollowed := true, recurses := true, named := ["strconv.ErrSyntax", "strconv.ErrRange", "internal/strconv.uint64pow10", "math/bits.deBruijn32tab", "math/bits.deBruijn64tab"], apart := false, laid := [("math/bits.deBruijn32tab", laid_math_bits_deBruijn32tab), ("math/bits.deBruijn64tab", laid_math_bits_deBruijn64tab), ("internal/strconv.uint64pow10", laid_internal_strconv_uint64pow10), ("strconv.ErrRange", laid_strconv_ErrRange), ("strconv.ErrSyntax", laid_strconv_ErrSyntax)] }
def BaseExactSaid : Prop := baseExactRow.holds Tryz.pinned (OpenSpec.ofChange baseExactSpec)

/-- ITS FALSE NEIGHBOUR: 'it returns false'. Refute it at one input. -/
def baseExactWrong : ChangeSpec := { name := "baseExact", fn := fun _ => fun
  | [d] => { results := [.lit (.bool false)], args := [d] }
  | _ => none }
def BaseExactWrongFalsely : Prop := baseExactRow.holds Tryz.pinned (OpenSpec.ofChange baseExactWrong)

/-- 'graintop.TopLate': WHATEVER THE INPUT: true; the input reads as it did. -/
def topLateSpec : ChangeSpec := { name := "topLate", fn := fun _ => fun
  | [d1, d2, d3] => { results := [.lit (.bool true)], args := [d1, d2, d3] }
  | _ => none }
def topLateRow : OpenClaim := { program := "ytgojhpocpajmlaagreatdoor", sum := "98d3694d5bf7e18c749214b02bdd11192e551b8910ccaf14d461c24da8ae57ab", func := "grainstore/graintop.TopLate", spec := "topLate", inPlace := ["slices.overlaps[grainstore/api.Shelf]", "slices.overlaps[grainstore/api.Cell]"], unfollowed := true, recurses := true, named := ["strconv.ErrSyntax", "strconv.ErrRange", "internal/strconv.uint64pow10", "math/bits.deBruijn32tab", "math/bits.deBruijn64tab"], apart := false, laid := [("math/bits.deBruijn32tab", laid_math_bits_deBruijn32tab), ("math/bits.deBruijn64tab", laid_math_bits_deBruijn64tab), ("internal/strconv.uint64pow10", laid_internal_strconv_uint64pow10), ("strconv.ErrRange", laid_strconv_ErrRange), ("strconv.ErrSyntax", laid_strconv_ErrSyntax)] }
def TopLateSaid : Prop := topLateRow.holds Tryz.pinned (OpenSpec.ofChange topLateSpec)

/-- ITS FALSE NEIGHBOUR: 'it returns false'. Refute it at one input. -/
def topLateWrong : ChangeSpec := { name := "topLate", fn := fun _ => fun
  | [d1, d2, d3] => { results := [.lit (.bool false)], args := [d1, d2, d3] }
  | _ => none }
def TopLateWrongFalsely : Prop := topLateRow.holds Tryz.pinned (OpenSpec.ofChange topLateWrong)

/-- 'graintop.TopText': WHATEVER THE INPUT: true; the input reads as it did. -/
def topTextSpec : ChangeSpec := { name := "topText", fn := fun _ => fun
  | [d1, d2, d3] => { results := [.lit (.bool true)], args := [d1, d2, d3] }
  | _ => none }
def topTextRow : OpenClaim := { program := "ytgojhpocpajmlaagreatdoor", sum := "98d3694d5bf7e18c749214b02bdd11192e551b8910ccaf14d461c24da8ae57ab", func := "grainstore/graintop.TopText", spec := "topText", inPlace := ["slices.overlaps[grainstore/api.Shelf]", "slices.overlaps[grainstore/api.Cell]"], unfollowed := true, recurses := true, named := ["strconv.ErrSyntax", "strconv.ErrRange", "internal/strconv.uint64pow10", "math/bits.deBruijn32tab", "math/bits.deBruijn64tab"], apart := false, laid := [("math/bits.deBruijn32tab", laid_math_bits_deBruijn32tab), ("math/bits.deBruijn64tab", laid_math_bits_deBruijn64tab), ("internal/strconv.uint64pow10", laid_internal_strconv_uint64pow10), ("strconv.ErrRange", laid_strconv_ErrRange), ("strconv.ErrSyntax", laid_strconv_ErrSyntax)] }
def TopTextSaid : Prop := topTextRow.holds Tryz.pinned (OpenSpec.ofChange topTextSpec)

/-- ITS FALSE NEIGHBOUR: 'it returns false'. Refute it at one input. -/
def topTextWrong : ChangeSpec := { name := "topText", fn := fun _ => fun
  | [d1, d2, d3] => { results := [.lit (.bool false)], args := [d1, d2, d3] }
  | _ => none }
def TopTextWrongFalsely : Prop := topTextRow.holds Tryz.pinned (OpenSpec.ofChange topTextWrong)

/-- 'graintop.TopCheap': WHATEVER THE INPUT: true; the input reads as it did. -/
def topCheapSpec : ChangeSpec := { name := "topCheap", fn := fun _ => fun
  | [d1, d2, d3] => { results := [.lit (.bool true)], args := [d1, d2, d3] }
  | _ => none }
def topCheapRow : OpenClaim := { program := "ytgojhpocpajmlaagreatdoor", sum := "98d3694d5bf7e18c749214b02bdd11192e551b8910ccaf14d461c24da8ae57ab", func := "grainstore/graintop.TopCheap", spec := "topCheap", inPlace := ["slices.overlaps[grainstore/api.Shelf]", "slices.overlaps[grainstore/api.Cell]", "internal/abi.NoEscape", "internal/bytealg.MakeNoZero"], unfollowed := true, recurses := true, named := ["strconv.ErrSyntax", "strconv.ErrRange", "internal/strconv.uint64pow10", "math/bits.deBruijn32tab", "math/bits.deBruijn64tab"], apart := false, laid := [("math/bits.deBruijn32tab", laid_math_bits_deBruijn32tab), ("math/bits.deBruijn64tab", laid_math_bits_deBruijn64tab), ("internal/strconv.uint64pow10", laid_internal_strconv_uint64pow10), ("strconv.ErrRange", laid_strconv_ErrRange), ("strconv.ErrSyntax", laid_strconv_ErrSyntax)] }
def TopCheapSaid : Prop := topCheapRow.holds Tryz.pinned (OpenSpec.ofChange topCheapSpec)

/-- ITS FALSE NEIGHBOUR: 'it returns false'. Refute it at one input. -/
def topCheapWrong : ChangeSpec := { name := "topCheap", fn := fun _ => fun
  | [d1, d2, d3] => { results := [.lit (.bool false)], args := [d1, d2, d3] }
  | _ => none }
def TopCheapWrongFalsely : Prop := topCheapRow.holds Tryz.pinned (OpenSpec.ofChange topCheapWrong)

/-- 'graintop.TopGone': WHATEVER THE INPUT: true; the input reads as it did. -/
def topGoneSpec : ChangeSpec := { name := "topGone", fn := fun _ => fun
  | [d1, d2] => { results := [.lit (.bool true)], args := [d1, d2] }
  | _ => none }
def topGoneRow : OpenClaim := { program := "ytgojhpocpajmlaagreatdoor", sum := "98d3694d5bf7e18c749214b02bdd11192e551b8910ccaf14d461c24da8ae57ab", func := "grainstore/graintop.TopGone", spec := "topGone", inPlace := ["slices.overlaps[grainstore/api.Shelf]", "slices.overlaps[grainstore/api.Cell]", "internal/abi.NoEscape", "internal/bytealg.MakeNoZero"], unfollowed := true, recurses := true, named := ["strconv.ErrSyntax", "strconv.ErrRange", "internal/strconv.uint64pow10", "math/bits.deBruijn32tab", "math/bits.deBruijn64tab"], apart := false, laid := [("math/bits.deBruijn32tab", laid_math_bits_deBruijn32tab), ("math/bits.deBruijn64tab", laid_math_bits_deBruijn64tab), ("internal/strconv.uint64pow10", laid_internal_strconv_uint64pow10), ("strconv.ErrRange", laid_strconv_ErrRange), ("strconv.ErrSyntax", laid_strconv_ErrSyntax)] }
def TopGoneSaid : Prop := topGoneRow.holds Tryz.pinned (OpenSpec.ofChange topGoneSpec)

/-- ITS FALSE NEIGHBOUR: 'it returns false'. Refute it at one input. -/
def topGoneWrong : ChangeSpec := { name := "topGone", fn := fun _ => fun
  | [d1, d2] => { results := [.lit (.bool false)], args := [d1, d2] }
  | _ => none }
def TopGoneWrongFalsely : Prop := topGoneRow.holds Tryz.pinned (OpenSpec.ofChange topGoneWrong)

/-- 'graintop.TopTotal': WHATEVER THE INPUT: true; the input reads as it did. -/
def topTotalSpec : ChangeSpec := { name := "topTotal", fn := fun _ => fun
  | [d1, d2] => { results := [.lit (.bool true)], args := [d1, d2] }
  | _ => none }
def topTotalRow : OpenClaim := { program := "ytgojhpocpajmlaagreatdoor", sum := "98d3694d5bf7e18c749214b02bdd11192e551b8910ccaf14d461c24da8ae57ab", func := "grainstore/graintop.TopTotal", spec := "topTotal", inPlace := ["slices.overlaps[grainstore/api.Shelf]", "slices.overlaps[grainstore/api.Cell]", "internal/abi.NoEscape", "internal/bytealg.MakeNoZero"], unfollowed := true, recurses := true, named := ["strconv.ErrSyntax", "strconv.ErrRange", "internal/strconv.uint64pow10", "math/bits.deBruijn32tab", "math/bits.deBruijn64tab"], apart := false, laid := [("math/bits.deBruijn32tab", laid_math_bits_deBruijn32tab), ("math/bits.deBruijn64tab", laid_math_bits_deBruijn64tab), ("internal/strconv.uint64pow10", laid_internal_strconv_uint64pow10), ("strconv.ErrRange", laid_strconv_ErrRange), ("strconv.ErrSyntax", laid_strconv_ErrSyntax)] }
def TopTotalSaid : Prop := topTotalRow.holds Tryz.pinned (OpenSpec.ofChange topTotalSpec)

/-- ITS FALSE NEIGHBOUR: 'it returns false'. Refute it at one input. -/
def topTotalWrong : ChangeSpec := { name := "topTotal", fn := fun _ => fun
  | [d1, d2] => { results := [.lit (.bool false)], args := [d1, d2] }
  | _ => none }
def TopTotalWrongFalsely : Prop := topTotalRow.holds Tryz.pinned (OpenSpec.ofChange topTotalWrong)

/-- 'graintop.TopWords': WHATEVER THE INPUT: true; the input reads as it did. -/
def topWordsSpec : ChangeSpec := { name := "topWords", fn := fun _ => fun
  | [d1, d2, d3] => { results := [.lit (.bool true)], args := [d1, d2, d3] }
  | _ => none }
def topWordsRow : OpenClaim := { program := "ytgojhpocpajmlaagreatdoor", sum := "98d3694d5bf7e18c749214b02bdd11192e551b8910ccaf14d461c24da8ae57ab", func := "grainstore/graintop.TopWords", spec := "topWords", inPlace := ["slices.overlaps[grainstore/api.Shelf]", "slices.overlaps[grainstore/api.Cell]", "internal/abi.NoEscape", "internal/bytealg.MakeNoZero"], unfollowed := true, recurses := true, named := ["strconv.ErrSyntax", "strconv.ErrRange", "internal/strconv.uint64pow10", "math/bits.deBruijn32tab", "math/bits.deBruijn64tab"], apart := false, laid := [("math/bits.deBruijn32tab", laid_math_bits_deBruijn32tab), ("math/bits.deBruijn64tab", laid_math_bits_deBruijn64tab), ("internal/strconv.uint64pow10", laid_internal_strconv_uint64pow10), ("strconv.ErrRange", laid_strconv_ErrRange), ("strconv.ErrSyntax", laid_strconv_ErrSyntax)] }
def TopWordsSaid : Prop := topWordsRow.holds Tryz.pinned (OpenSpec.ofChange topWordsSpec)

/-- ITS FALSE NEIGHBOUR: 'it returns false'. Refute it at one input. -/
def topWordsWrong : ChangeSpec := { name := "topWords", fn := fun _ => fun
  | [d1, d2, d3] => { results := [.lit (.bool false)], args := [d1, d2, d3] }
  | _ => none }
def TopWordsWrongFalsely : Prop := topWordsRow.holds Tryz.pinned (OpenSpec.ofChange topWordsWrong)

/- THE SECOND FORM. 'bulk': how many values and letters a reading holds, each counted each time it is reached (what is shared counts as often as it is met; a slice's spare places count too). A statement '..UptoSaid' is the law's where the arguments, and the package variables that the reading takes, are together of bulk at most 1048576: NARROWER than '..Said'. Prove '..Said' where nothing that the law and all that it calls make is longer than what came in: it says more and counts as full. Else prove '..UptoSaid'. A law counts once. -/
mutual
def uptoBulk {H : Type} : DataW H → Nat
  | .lit (.string bytes) => bytes.length + 1
  | .lit _ => 1
  | .nil => 1
  | .ptr d => uptoBulk d + 1
  | .slice elems spare => uptoBulkAll elems + uptoBulkAll spare + 1
  | .agg parts => uptoBulkAll parts + 1
  | .iface _ d => uptoBulk d + 1
  | .map entries => uptoBulkEntries entries + 1
  | .held _ => 1
def uptoBulkAll {H : Type} : List (DataW H) → Nat
  | [] => 0
  | d :: r => uptoBulk d + uptoBulkAll r
def uptoBulkEntries {H : Type} : List (Lit × DataW H) → Nat
  | [] => 0
  | x :: r => uptoBulkEntry x + uptoBulkEntries r
def uptoBulkEntry {H : Type} : Lit × DataW H → Nat
  | (.string bytes, d) => bytes.length + uptoBulk d + 1
  | (_, d) => uptoBulk d + 1
 end
def uptoSmall : (H : Type) → List (DataW H) → Bool := fun _ ds => decide (uptoBulkAll ds ≤ 1048576)
def OpenSpec.upto (s : _root_.Go.ChangeSpec) : _root_.Go.OpenSpec := { _root_.Go.OpenSpec.ofChange s with cond := some uptoSmall }

/-- 'grainlaw9.BaseTells', WHERE WHAT IT READS IS OF BULK AT MOST 1048576: true; the input reads as it did. -/
def baseTellsUptoRow : OpenClaim := { program := "ytgojhpocpajmlaagreatdoor", sum := "98d3694d5bf7e18c749214b02bdd11192e551b8910ccaf14d461c24da8ae57ab", func := "grainstore/grainlaw9.BaseTells", spec := "baseTells", inPlace := ["slices.overlaps[grainstore/api.Shelf]", "slices.overlaps[grainstore/api.Cell]"], unfollowed := true, recurses := true, named := ["strconv.ErrSyntax", "strconv.ErrRange", "internal/strconv.uint64pow10", "math/bits.deBruijn32tab", "math/bits.deBruijn64tab"], apart := false, laid := [("math/bits.deBruijn32tab", laid_math_bits_deBruijn32tab), ("math/bits.deBruijn64tab", laid_math_bits_deBruijn64tab), ("internal/strconv.uint64pow10", laid_internal_strconv_uint64pow10), ("strconv.ErrRange", laid_strconv_ErrRange), ("strconv.ErrSyntax", laid_strconv_ErrSyntax)], narrowed := true }
def BaseTellsUptoSaid : Prop := baseTellsUptoRow.holds Tryz.pinned (OpenSpec.upto baseTellsSpec)

/-- 'grainlaw9.BaseRolled', WHERE WHAT IT READS IS OF BULK AT MOST 1048576: true; the input reads as it did. -/
def baseRolledUptoRow : OpenClaim := { program := "ytgojhpocpajmlaagreatdoor", sum := "98d3694d5bf7e18c749214b02bdd11192e551b8910ccaf14d461c24da8ae57ab", func := "grainstore/grainlaw9.BaseRolled", spec := "baseRolled", inPlace := ["slices.overlaps[grainstore/api.Shelf]", "slices.overlaps[grainstore/api.Cell]"], unfollowed := true, recurses := true, named := ["strconv.ErrSyntax", "strconv.ErrRange", "internal/strconv.uint64pow10", "math/bits.deBruijn32tab", "math/bits.deBruijn64tab"], apart := false, laid := [("math/bits.deBruijn32tab", laid_math_bits_deBruijn32tab), ("math/bits.deBruijn64tab", laid_math_bits_deBruijn64tab), ("internal/strconv.uint64pow10", laid_internal_strconv_uint64pow10), ("strconv.ErrRange", laid_strconv_ErrRange), ("strconv.ErrSyntax", laid_strconv_ErrSyntax)], narrowed := true }
def BaseRolledUptoSaid : Prop := baseRolledUptoRow.holds Tryz.pinned (OpenSpec.upto baseRolledSpec)

/-- 'grainlaw9.BaseRight', WHERE WHAT IT READS IS OF BULK AT MOST 1048576: true; the input reads as it did. -/
def baseRightUptoRow : OpenClaim := { program := "ytgojhpocpajmlaagreatdoor", sum := "98d3694d5bf7e18c749214b02bdd11192e551b8910ccaf14d461c24da8ae57ab", func := "grainstore/grainlaw9.BaseRight", spec := "baseRight", inPlace := ["slices.overlaps[grainstore/api.Shelf]", "slices.overlaps[grainstore/api.Cell]"], unfollowed := true, recurses := true, named := ["strconv.ErrSyntax", "strconv.ErrRange", "internal/strconv.uint64pow10", "math/bits.deBruijn32tab", "math/bits.deBruijn64tab"], apart := false, laid := [("math/bits.deBruijn32tab", laid_math_bits_deBruijn32tab), ("math/bits.deBruijn64tab", laid_math_bits_deBruijn64tab), ("internal/strconv.uint64pow10", laid_internal_strconv_uint64pow10), ("strconv.ErrRange", laid_strconv_ErrRange), ("strconv.ErrSyntax", laid_strconv_ErrSyntax)], narrowed := true }
def BaseRightUptoSaid : Prop := baseRightUptoRow.holds Tryz.pinned (OpenSpec.upto baseRightSpec)

/-- 'grainlaw9.BaseRefused', WHERE WHAT IT READS IS OF BULK AT MOST 1048576: true; the input reads as it did. -/
def baseRefusedUptoRow : OpenClaim := { program := "ytgojhpocpajmlaagreatdoor", sum := "98d3694d5bf7e18c749214b02bdd11192e551b8910ccaf14d461c24da8ae57ab", func := "grainstore/grainlaw9.BaseRefused", spec := "baseRefused", inPlace := ["slices.overlaps[grainstore/api.Shelf]", "slices.overlaps[grainstore/api.Cell]"], unfollowed := true, recurses := true, named := ["strconv.ErrSyntax", "strconv.ErrRange", "internal/strconv.uint64pow10", "math/bits.deBruijn32tab", "math/bits.deBruijn64tab"], apart := false, laid := [("math/bits.deBruijn32tab", laid_math_bits_deBruijn32tab), ("math/bits.deBruijn64tab", laid_math_bits_deBruijn64tab), ("internal/strconv.uint64pow10", laid_internal_strconv_uint64pow10), ("strconv.ErrRange", laid_strconv_ErrRange), ("strconv.ErrSyntax", laid_strconv_ErrSyntax)], narrowed := true }
def BaseRefusedUptoSaid : Prop := baseRefusedUptoRow.holds Tryz.pinned (OpenSpec.upto baseRefusedSpec)

/-- 'grainlaw9.BaseExact', WHERE WHAT IT READS IS OF BULK AT MOST 1048576: true; the input reads as it did. -/
def baseExactUptoRow : OpenClaim := { program := "ytgojhpocpajmlaagreatdoor", sum := "98d3694d5bf7e18c749214b02bdd11192e551b8910ccaf14d461c24da8ae57ab", func := "grainstore/grainlaw9.BaseExact", spec := "baseExact", inPlace := ["slices.overlaps[grainstore/api.Shelf]", "slices.overlaps[grainstore/api.Cell]"], unfollowed := true, recurses := true, named := ["strconv.ErrSyntax", "strconv.ErrRange", "internal/strconv.uint64pow10", "math/bits.deBruijn32tab", "math/bits.deBruijn64tab"], apart := false, laid := [("math/bits.deBruijn32tab", laid_math_bits_deBruijn32tab), ("math/bits.deBruijn64tab", laid_math_bits_deBruijn64tab), ("internal/strconv.uint64pow10", laid_internal_strconv_uint64pow10), ("strconv.ErrRange", laid_strconv_ErrRange), ("strconv.ErrSyntax", laid_strconv_ErrSyntax)], narrowed := true }
def BaseExactUptoSaid : Prop := baseExactUptoRow.holds Tryz.pinned (OpenSpec.upto baseExactSpec)

/-- 'graintop.TopLate', WHERE WHAT IT READS IS OF BULK AT MOST 1048576: true; the input reads as it did. -/
def topLateUptoRow : OpenClaim := { program := "ytgojhpocpajmlaagreatdoor", sum := "98d3694d5bf7e18c749214b02bdd11192e551b8910ccaf14d461c24da8ae57ab", func := "grainstore/graintop.TopLate", spec := "topLate", inPlace := ["slices.overlaps[grainstore/api.Shelf]", "slices.overlaps[grainstore/api.Cell]"], unfollowed := true, recurses := true, named := ["strconv.ErrSyntax", "strconv.ErrRange", "internal/strconv.uint64pow10", "math/bits.deBruijn32tab", "math/bits.deBruijn64tab"], apart := false, laid := [("math/bits.deBruijn32tab", laid_math_bits_deBruijn32tab), ("math/bits.deBruijn64tab", laid_math_bits_deBruijn64tab), ("internal/strconv.uint64pow10", laid_internal_strconv_uint64pow10), ("strconv.ErrRange", laid_strconv_ErrRange), ("strconv.ErrSyntax", laid_strconv_ErrSyntax)], narrowed := true }
def TopLateUptoSaid : Prop := topLateUptoRow.holds Tryz.pinned (OpenSpec.upto topLateSpec)

/-- 'graintop.TopText', WHERE WHAT IT READS IS OF BULK AT MOST 1048576: true; the input reads as it did. -/
def topTextUptoRow : OpenClaim := { program := "ytgojhpocpajmlaagreatdoor", sum := "98d3694d5bf7e18c749214b02bdd11192e551b8910ccaf14d461c24da8ae57ab", func := "grainstore/graintop.TopText", spec := "topText", inPlace := ["slices.overlaps[grainstore/api.Shelf]", "slices.overlaps[grainstore/api.Cell]"], unfollowed := true, recurses := true, named := ["strconv.ErrSyntax", "strconv.ErrRange", "internal/strconv.uint64pow10", "math/bits.deBruijn32tab", "math/bits.deBruijn64tab"], apart := false, laid := [("math/bits.deBruijn32tab", laid_math_bits_deBruijn32tab), ("math/bits.deBruijn64tab", laid_math_bits_deBruijn64tab), ("internal/strconv.uint64pow10", laid_internal_strconv_uint64pow10), ("strconv.ErrRange", laid_strconv_ErrRange), ("strconv.ErrSyntax", laid_strconv_ErrSyntax)], narrowed := true }
def TopTextUptoSaid : Prop := topTextUptoRow.holds Tryz.pinned (OpenSpec.upto topTextSpec)

/-- 'graintop.TopCheap', WHERE WHAT IT READS IS OF BULK AT MOST 1048576: true; the input reads as it did. -/
def topCheapUptoRow : OpenClaim := { program := "ytgojhpocpajmlaagreatdoor", sum := "98d3694d5bf7e18c749214b02bdd11192e551b8910ccaf14d461c24da8ae57ab", func := "grainstore/graintop.TopCheap", spec := "topCheap", inPlace := ["slices.overlaps[grainstore/api.Shelf]", "slices.overlaps[grainstore/api.Cell]", "internal/abi.NoEscape", "internal/bytealg.MakeNoZero"], unfollowed := true, recurses := true, named := ["strconv.ErrSyntax", "strconv.ErrRange", "internal/strconv.uint64pow10", "math/bits.deBruijn32tab", "math/bits.deBruijn64tab"], apart := false, laid := [("math/bits.deBruijn32tab", laid_math_bits_deBruijn32tab), ("math/bits.deBruijn64tab", laid_math_bits_deBruijn64tab), ("internal/strconv.uint64pow10", laid_internal_strconv_uint64pow10), ("strconv.ErrRange", laid_strconv_ErrRange), ("strconv.ErrSyntax", laid_strconv_ErrSyntax)], narrowed := true }
def TopCheapUptoSaid : Prop := topCheapUptoRow.holds Tryz.pinned (OpenSpec.upto topCheapSpec)

/-- 'graintop.TopGone', WHERE WHAT IT READS IS OF BULK AT MOST 1048576: true; the input reads as it did. -/
def topGoneUptoRow : OpenClaim := { program := "ytgojhpocpajmlaagreatdoor", sum := "98d3694d5bf7e18c749214b02bdd11192e551b8910ccaf14d461c24da8ae57ab", func := "grainstore/graintop.TopGone", spec := "topGone", inPlace := ["slices.overlaps[grainstore/api.Shelf]", "slices.overlaps[grainstore/api.Cell]", "internal/abi.NoEscape", "internal/bytealg.MakeNoZero"], unfollowed := true, recurses := true, named := ["strconv.ErrSyntax", "strconv.ErrRange", "internal/strconv.uint64pow10", "math/bits.deBruijn32tab", "math/bits.deBruijn64tab"], apart := false, laid := [("math/bits.deBruijn32tab", laid_math_bits_deBruijn32tab), ("math/bits.deBruijn64tab", laid_math_bits_deBruijn64tab), ("internal/strconv.uint64pow10", laid_internal_strconv_uint64pow10), ("strconv.ErrRange", laid_strconv_ErrRange), ("strconv.ErrSyntax", laid_strconv_ErrSyntax)], narrowed := true }
def TopGoneUptoSaid : Prop := topGoneUptoRow.holds Tryz.pinned (OpenSpec.upto topGoneSpec)

/-- 'graintop.TopTotal', WHERE WHAT IT READS IS OF BULK AT MOST 1048576: true; the input reads as it did. -/
def topTotalUptoRow : OpenClaim := { program := "ytgojhpocpajmlaagreatdoor", sum := "98d3694d5bf7e18c749214b02bdd11192e551b8910ccaf14d461c24da8ae57ab", func := "grainstore/graintop.TopTotal", spec := "topTotal", inPlace := ["slices.overlaps[grainstore/api.Shelf]", "slices.overlaps[grainstore/api.Cell]", "internal/abi.NoEscape", "internal/bytealg.MakeNoZero"], unfollowed := true, recurses := true, named := ["strconv.ErrSyntax", "strconv.ErrRange", "internal/strconv.uint64pow10", "math/bits.deBruijn32tab", "math/bits.deBruijn64tab"], apart := false, laid := [("math/bits.deBruijn32tab", laid_math_bits_deBruijn32tab), ("math/bits.deBruijn64tab", laid_math_bits_deBruijn64tab), ("internal/strconv.uint64pow10", laid_internal_strconv_uint64pow10), ("strconv.ErrRange", laid_strconv_ErrRange), ("strconv.ErrSyntax", laid_strconv_ErrSyntax)], narrowed := true }
def TopTotalUptoSaid : Prop := topTotalUptoRow.holds Tryz.pinned (OpenSpec.upto topTotalSpec)

/-- 'graintop.TopWords', WHERE WHAT IT READS IS OF BULK AT MOST 1048576: true; the input reads as it did. -/
def topWordsUptoRow : OpenClaim := { program := "ytgojhpocpajmlaagreatdoor", sum := "98d3694d5bf7e18c749214b02bdd11192e551b8910ccaf14d461c24da8ae57ab", func := "grainstore/graintop.TopWords", spec := "topWords", inPlace := ["slices.overlaps[grainstore/api.Shelf]", "slices.overlaps[grainstore/api.Cell]", "internal/abi.NoEscape", "internal/bytealg.MakeNoZero"], unfollowed := true, recurses := true, named := ["strconv.ErrSyntax", "strconv.ErrRange", "internal/strconv.uint64pow10", "math/bits.deBruijn32tab", "math/bits.deBruijn64tab"], apart := false, laid := [("math/bits.deBruijn32tab", laid_math_bits_deBruijn32tab), ("math/bits.deBruijn64tab", laid_math_bits_deBruijn64tab), ("internal/strconv.uint64pow10", laid_internal_strconv_uint64pow10), ("strconv.ErrRange", laid_strconv_ErrRange), ("strconv.ErrSyntax", laid_strconv_ErrSyntax)], narrowed := true }
def TopWordsUptoSaid : Prop := topWordsUptoRow.holds Tryz.pinned (OpenSpec.upto topWordsSpec)

end Rows
end Go.Proofs.YtgojhpocpajmlaaGreatDoor
