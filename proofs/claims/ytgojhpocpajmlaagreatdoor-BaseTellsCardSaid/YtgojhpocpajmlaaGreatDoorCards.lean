/-
  DERIVED. GIVEN WITH THE SEED: THE CARDS: each row of YtgojhpocpajmlaaGreatDoorRows.lean that lists a variable, with what it lists TIED to the program's text (the seventh form; the later family's looks); each row that meets fmt, with fmt's text TOLD by the authors' own Lean function (tested against real Go, not proved from fmt's source: count such statements apart). THE CARD IS WHAT COUNTS. Prove the row's statement (the work); the ties are given (YtgojhpocpajmlaaGreatDoorTie.lean); close each card by the builder's one call (the guide's Derived/Test/ToyasCard.lean, 'card_holds'). Laid BY PROGRAM, IN A SANDBOX (cutbox-door.mjs). By AI agents, Wed Nov 11 2026. No macro, syntax, notation, axiom, sorry.
-/
import Derived.Test.YtgojhpocpajmlaaGreatDoorRows
import GoSem.ClaimSeven
namespace Go.Proofs.YtgojhpocpajmlaaGreatDoor
namespace Rows

/-- THE TIED CARD OF 'grainlaw9.BaseTells'. -/
def baseTellsCard : Claim7 := { stood := { row := baseTellsRow, standIns := [], harness := (true, "2a1dedcaef51003207fef70970a8d4b36a0f7611b09765027a6d44d3a840c6e9"), looks := true }, kinds := [], alts := [], laidByText := true, laidKinds := [.data, .data, .data, .sentinel, .sentinel], laidTests := true, laidLooks := .later }
def BaseTellsCardSaid : Prop := Claim7.holds Tryz.pinned (.plain (OpenSpec.ofChange baseTellsSpec)) baseTellsCard

/-- THE TIED CARD OF 'grainlaw9.BaseRolled'. -/
def baseRolledCard : Claim7 := { stood := { row := baseRolledRow, standIns := [], harness := (true, "2a1dedcaef51003207fef70970a8d4b36a0f7611b09765027a6d44d3a840c6e9"), looks := true }, kinds := [], alts := [], laidByText := true, laidKinds := [.data, .data, .data, .sentinel, .sentinel], laidTests := true, laidLooks := .later }
def BaseRolledCardSaid : Prop := Claim7.holds Tryz.pinned (.plain (OpenSpec.ofChange baseRolledSpec)) baseRolledCard

/-- THE TIED CARD OF 'grainlaw9.BaseRight'. -/
def baseRightCard : Claim7 := { stood := { row := baseRightRow, standIns := [], harness := (true, "2a1dedcaef51003207fef70970a8d4b36a0f7611b09765027a6d44d3a840c6e9"), looks := true }, kinds := [], alts := [], laidByText := true, laidKinds := [.data, .data, .data, .sentinel, .sentinel], laidTests := true, laidLooks := .later }
def BaseRightCardSaid : Prop := Claim7.holds Tryz.pinned (.plain (OpenSpec.ofChange baseRightSpec)) baseRightCard

/-- THE TIED CARD OF 'grainlaw9.BaseRefused'. -/
def baseRefusedCard : Claim7 := { stood := { row := baseRefusedRow, standIns := [], harness := (true, "2a1dedcaef51003207fef70970a8d4b36a0f7611b09765027a6d44d3a840c6e9"), looks := true }, kinds := [], alts := [], laidByText := true, laidKinds := [.data, .data, .data, .sentinel, .sentinel], laidTests := true, laidLooks := .later }
def BaseRefusedCardSaid : Prop := Claim7.holds Tryz.pinned (.plain (OpenSpec.ofChange baseRefusedSpec)) baseRefusedCard

/-- THE TIED CARD OF 'grainlaw9.BaseExact'. -/
def baseExactCard : Claim7 := { stood := { row := baseExactRow, standIns := [], harness := (true, "2a1dedcaef51003207fef70970a8d4b36a0f7611b09765027a6d44d3a840c6e9"), looks := true }, kinds := [], alts := [], laidByText := true, laidKinds := [.data, .data, .data, .sentinel, .sentinel], laidTests := true, laidLooks := .later }
def BaseExactCardSaid : Prop := Claim7.holds Tryz.pinned (.plain (OpenSpec.ofChange baseExactSpec)) baseExactCard

/-- THE TIED CARD OF 'graintop.TopLate'. -/
def topLateCard : Claim7 := { stood := { row := topLateRow, standIns := [], harness := (true, "2a1dedcaef51003207fef70970a8d4b36a0f7611b09765027a6d44d3a840c6e9"), looks := true }, kinds := [], alts := [], laidByText := true, laidKinds := [.data, .data, .data, .sentinel, .sentinel], laidTests := true, laidLooks := .later }
def TopLateCardSaid : Prop := Claim7.holds Tryz.pinned (.plain (OpenSpec.ofChange topLateSpec)) topLateCard

/-- THE TIED CARD OF 'graintop.TopText'. -/
def topTextCard : Claim7 := { stood := { row := topTextRow, standIns := [], harness := (true, "2a1dedcaef51003207fef70970a8d4b36a0f7611b09765027a6d44d3a840c6e9"), looks := true }, kinds := [], alts := [], laidByText := true, laidKinds := [.data, .data, .data, .sentinel, .sentinel], laidTests := true, laidLooks := .later }
def TopTextCardSaid : Prop := Claim7.holds Tryz.pinned (.plain (OpenSpec.ofChange topTextSpec)) topTextCard

/-- THE TIED CARD OF 'graintop.TopCheap'. -/
def topCheapCard : Claim7 := { stood := { row := topCheapRow, standIns := [], harness := (true, "2a1dedcaef51003207fef70970a8d4b36a0f7611b09765027a6d44d3a840c6e9"), looks := true }, kinds := [], alts := [], laidByText := true, laidKinds := [.data, .data, .data, .sentinel, .sentinel], laidTests := true, laidLooks := .later }
def TopCheapCardSaid : Prop := Claim7.holds Tryz.pinned (.plain (OpenSpec.ofChange topCheapSpec)) topCheapCard

/-- THE TIED CARD OF 'graintop.TopGone'. -/
def topGoneCard : Claim7 := { stood := { row := topGoneRow, standIns := [], harness := (true, "2a1dedcaef51003207fef70970a8d4b36a0f7611b09765027a6d44d3a840c6e9"), looks := true }, kinds := [], alts := [], laidByText := true, laidKinds := [.data, .data, .data, .sentinel, .sentinel], laidTests := true, laidLooks := .later }
def TopGoneCardSaid : Prop := Claim7.holds Tryz.pinned (.plain (OpenSpec.ofChange topGoneSpec)) topGoneCard

/-- THE TIED CARD OF 'graintop.TopTotal'. -/
def topTotalCard : Claim7 := { stood := { row := topTotalRow, standIns := [], harness := (true, "2a1dedcaef51003207fef70970a8d4b36a0f7611b09765027a6d44d3a840c6e9"), looks := true }, kinds := [], alts := [], laidByText := true, laidKinds := [.data, .data, .data, .sentinel, .sentinel], laidTests := true, laidLooks := .later }
def TopTotalCardSaid : Prop := Claim7.holds Tryz.pinned (.plain (OpenSpec.ofChange topTotalSpec)) topTotalCard

/-- THE TIED CARD OF 'graintop.TopWords'. -/
def topWordsCard : Claim7 := { stood := { row := topWordsRow, standIns := [], harness := (true, "2a1dedcaef51003207fef70970a8d4b36a0f7611b09765027a6d44d3a840c6e9"), looks := true }, kinds := [], alts := [], laidByText := true, laidKinds := [.data, .data, .data, .sentinel, .sentinel], laidTests := true, laidLooks := .later }
def TopWordsCardSaid : Prop := Claim7.holds Tryz.pinned (.plain (OpenSpec.ofChange topWordsSpec)) topWordsCard

/-- THE SECOND FORM's CARD OF 'grainlaw9.BaseTells'. -/
def baseTellsUptoCard : Claim7 := { stood := { row := baseTellsUptoRow, standIns := [], harness := (true, "2a1dedcaef51003207fef70970a8d4b36a0f7611b09765027a6d44d3a840c6e9"), looks := true }, kinds := [], alts := [], laidByText := true, laidKinds := [.data, .data, .data, .sentinel, .sentinel], laidTests := true, laidLooks := .later }
def BaseTellsUptoCardSaid : Prop := Claim7.holds Tryz.pinned (.plain (OpenSpec.upto baseTellsSpec)) baseTellsUptoCard

/-- THE SECOND FORM's CARD OF 'grainlaw9.BaseRolled'. -/
def baseRolledUptoCard : Claim7 := { stood := { row := baseRolledUptoRow, standIns := [], harness := (true, "2a1dedcaef51003207fef70970a8d4b36a0f7611b09765027a6d44d3a840c6e9"), looks := true }, kinds := [], alts := [], laidByText := true, laidKinds := [.data, .data, .data, .sentinel, .sentinel], laidTests := true, laidLooks := .later }
def BaseRolledUptoCardSaid : Prop := Claim7.holds Tryz.pinned (.plain (OpenSpec.upto baseRolledSpec)) baseRolledUptoCard

/-- THE SECOND FORM's CARD OF 'grainlaw9.BaseRight'. -/
def baseRightUptoCard : Claim7 := { stood := { row := baseRightUptoRow, standIns := [], harness := (true, "2a1dedcaef51003207fef70970a8d4b36a0f7611b09765027a6d44d3a840c6e9"), looks := true }, kinds := [], alts := [], laidByText := true, laidKinds := [.data, .data, .data, .sentinel, .sentinel], laidTests := true, laidLooks := .later }
def BaseRightUptoCardSaid : Prop := Claim7.holds Tryz.pinned (.plain (OpenSpec.upto baseRightSpec)) baseRightUptoCard

/-- THE SECOND FORM's CARD OF 'grainlaw9.BaseRefused'. -/
def baseRefusedUptoCard : Claim7 := { stood := { row := baseRefusedUptoRow, standIns := [], harness := (true, "2a1dedcaef51003207fef70970a8d4b36a0f7611b09765027a6d44d3a840c6e9"), looks := true }, kinds := [], alts := [], laidByText := true, laidKinds := [.data, .data, .data, .sentinel, .sentinel], laidTests := true, laidLooks := .later }
def BaseRefusedUptoCardSaid : Prop := Claim7.holds Tryz.pinned (.plain (OpenSpec.upto baseRefusedSpec)) baseRefusedUptoCard

/-- THE SECOND FORM's CARD OF 'grainlaw9.BaseExact'. -/
def baseExactUptoCard : Claim7 := { stood := { row := baseExactUptoRow, standIns := [], harness := (true, "2a1dedcaef51003207fef70970a8d4b36a0f7611b09765027a6d44d3a840c6e9"), looks := true }, kinds := [], alts := [], laidByText := true, laidKinds := [.data, .data, .data, .sentinel, .sentinel], laidTests := true, laidLooks := .later }
def BaseExactUptoCardSaid : Prop := Claim7.holds Tryz.pinned (.plain (OpenSpec.upto baseExactSpec)) baseExactUptoCard

/-- THE SECOND FORM's CARD OF 'graintop.TopLate'. -/
def topLateUptoCard : Claim7 := { stood := { row := topLateUptoRow, standIns := [], harness := (true, "2a1dedcaef51003207fef70970a8d4b36a0f7611b09765027a6d44d3a840c6e9"), looks := true }, kinds := [], alts := [], laidByText := true, laidKinds := [.data, .data, .data, .sentinel, .sentinel], laidTests := true, laidLooks := .later }
def TopLateUptoCardSaid : Prop := Claim7.holds Tryz.pinned (.plain (OpenSpec.upto topLateSpec)) topLateUptoCard

/-- THE SECOND FORM's CARD OF 'graintop.TopText'. -/
def topTextUptoCard : Claim7 := { stood := { row := topTextUptoRow, standIns := [], harness := (true, "2a1dedcaef51003207fef70970a8d4b36a0f7611b09765027a6d44d3a840c6e9"), looks := true }, kinds := [], alts := [], laidByText := true, laidKinds := [.data, .data, .data, .sentinel, .sentinel], laidTests := true, laidLooks := .later }
def TopTextUptoCardSaid : Prop := Claim7.holds Tryz.pinned (.plain (OpenSpec.upto topTextSpec)) topTextUptoCard

/-- THE SECOND FORM's CARD OF 'graintop.TopCheap'. -/
def topCheapUptoCard : Claim7 := { stood := { row := topCheapUptoRow, standIns := [], harness := (true, "2a1dedcaef51003207fef70970a8d4b36a0f7611b09765027a6d44d3a840c6e9"), looks := true }, kinds := [], alts := [], laidByText := true, laidKinds := [.data, .data, .data, .sentinel, .sentinel], laidTests := true, laidLooks := .later }
def TopCheapUptoCardSaid : Prop := Claim7.holds Tryz.pinned (.plain (OpenSpec.upto topCheapSpec)) topCheapUptoCard

/-- THE SECOND FORM's CARD OF 'graintop.TopGone'. -/
def topGoneUptoCard : Claim7 := { stood := { row := topGoneUptoRow, standIns := [], harness := (true, "2a1dedcaef51003207fef70970a8d4b36a0f7611b09765027a6d44d3a840c6e9"), looks := true }, kinds := [], alts := [], laidByText := true, laidKinds := [.data, .data, .data, .sentinel, .sentinel], laidTests := true, laidLooks := .later }
def TopGoneUptoCardSaid : Prop := Claim7.holds Tryz.pinned (.plain (OpenSpec.upto topGoneSpec)) topGoneUptoCard

/-- THE SECOND FORM's CARD OF 'graintop.TopTotal'. -/
def topTotalUptoCard : Claim7 := { stood := { row := topTotalUptoRow, standIns := [], harness := (true, "2a1dedcaef51003207fef70970a8d4b36a0f7611b09765027a6d44d3a840c6e9"), looks := true }, kinds := [], alts := [], laidByText := true, laidKinds := [.data, .data, .data, .sentinel, .sentinel], laidTests := true, laidLooks := .later }
def TopTotalUptoCardSaid : Prop := Claim7.holds Tryz.pinned (.plain (OpenSpec.upto topTotalSpec)) topTotalUptoCard

/-- THE SECOND FORM's CARD OF 'graintop.TopWords'. -/
def topWordsUptoCard : Claim7 := { stood := { row := topWordsUptoRow, standIns := [], harness := (true, "2a1dedcaef51003207fef70970a8d4b36a0f7611b09765027a6d44d3a840c6e9"), looks := true }, kinds := [], alts := [], laidByText := true, laidKinds := [.data, .data, .data, .sentinel, .sentinel], laidTests := true, laidLooks := .later }
def TopWordsUptoCardSaid : Prop := Claim7.holds Tryz.pinned (.plain (OpenSpec.upto topWordsSpec)) topWordsUptoCard
end Rows
end Go.Proofs.YtgojhpocpajmlaaGreatDoor
