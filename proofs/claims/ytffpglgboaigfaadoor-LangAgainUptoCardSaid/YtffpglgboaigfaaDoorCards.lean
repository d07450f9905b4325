/-
  DERIVED. GIVEN WITH THE SEED: THE CARDS: each row of YtffpglgboaigfaaDoorRows.lean that lists a variable, with what it lists TIED to the program's text (the seventh form; the later family's looks); each row that meets fmt, with fmt's text TOLD by the authors' own Lean function (tested against real Go, not proved from fmt's source: count such statements apart). THE CARD IS WHAT COUNTS. Prove the row's statement (the work); the ties are given (YtffpglgboaigfaaDoorTie.lean); close each card by the builder's one call (the guide's Derived/Test/ToyasCard.lean, 'card_holds'). Laid BY PROGRAM, IN A SANDBOX (cutbox-door.mjs). By AI agents, Wed Nov 11 2026. No macro, syntax, notation, axiom, sorry.
-/
import Derived.Test.YtffpglgboaigfaaDoorRows
import GoSem.ClaimSeven
namespace Go.Proofs.YtffpglgboaigfaaDoor
namespace Rows

/-- THE TIED CARD OF 'grainlaw5.LangPrints'. -/
def langPrintsCard : Claim7 := { stood := { row := langPrintsRow, standIns := [], harness := (true, "84f69288f441da83464ccedb79bdea38875fed908d78126cf02013d193b73352"), looks := true }, kinds := [], alts := [], laidByText := true, laidKinds := [.data, .data, .data], laidTests := true, laidLooks := .later }
def LangPrintsCardSaid : Prop := Claim7.holds Tryd.pinned (.plain (OpenSpec.ofChange langPrintsSpec)) langPrintsCard

/-- THE TIED CARD OF 'grainlaw5.LangTells'. -/
def langTellsCard : Claim7 := { stood := { row := langTellsRow, standIns := [], harness := (true, "84f69288f441da83464ccedb79bdea38875fed908d78126cf02013d193b73352"), looks := true }, kinds := [], alts := [], laidByText := true, laidKinds := [.data, .data, .data, .sentinel, .sentinel], laidTests := true, laidLooks := .later }
def LangTellsCardSaid : Prop := Claim7.holds Tryd.pinned (.plain (OpenSpec.ofChange langTellsSpec)) langTellsCard

/-- THE TIED CARD OF 'grainlaw5.LangTurns'. -/
def langTurnsCard : Claim7 := { stood := { row := langTurnsRow, standIns := [], harness := (true, "84f69288f441da83464ccedb79bdea38875fed908d78126cf02013d193b73352"), looks := true }, kinds := [], alts := [], laidByText := true, laidKinds := [.data, .data, .data, .sentinel, .sentinel], laidTests := true, laidLooks := .later }
def LangTurnsCardSaid : Prop := Claim7.holds Tryd.pinned (.plain (OpenSpec.ofChange langTurnsSpec)) langTurnsCard

/-- THE TIED CARD OF 'grainlaw5.LangAgain'. -/
def langAgainCard : Claim7 := { stood := { row := langAgainRow, standIns := [], harness := (true, "84f69288f441da83464ccedb79bdea38875fed908d78126cf02013d193b73352"), looks := true }, kinds := [], alts := [], laidByText := true, laidKinds := [.data, .data, .data, .sentinel, .sentinel], laidTests := true, laidLooks := .later }
def LangAgainCardSaid : Prop := Claim7.holds Tryd.pinned (.plain (OpenSpec.ofChange langAgainSpec)) langAgainCard

/-- THE SECOND FORM's CARD OF 'grainlaw5.LangPrints'. -/
def langPrintsUptoCard : Claim7 := { stood := { row := langPrintsUptoRow, standIns := [], harness := (true, "84f69288f441da83464ccedb79bdea38875fed908d78126cf02013d193b73352"), looks := true }, kinds := [], alts := [], laidByText := true, laidKinds := [.data, .data, .data], laidTests := true, laidLooks := .later }
def LangPrintsUptoCardSaid : Prop := Claim7.holds Tryd.pinned (.plain (OpenSpec.upto langPrintsSpec)) langPrintsUptoCard

/-- THE SECOND FORM's CARD OF 'grainlaw5.LangTells'. -/
def langTellsUptoCard : Claim7 := { stood := { row := langTellsUptoRow, standIns := [], harness := (true, "84f69288f441da83464ccedb79bdea38875fed908d78126cf02013d193b73352"), looks := true }, kinds := [], alts := [], laidByText := true, laidKinds := [.data, .data, .data, .sentinel, .sentinel], laidTests := true, laidLooks := .later }
def LangTellsUptoCardSaid : Prop := Claim7.holds Tryd.pinned (.plain (OpenSpec.upto langTellsSpec)) langTellsUptoCard

/-- THE SECOND FORM's CARD OF 'grainlaw5.LangTurns'. -/
def langTurnsUptoCard : Claim7 := { stood := { row := langTurnsUptoRow, standIns := [], harness := (true, "84f69288f441da83464ccedb79bdea38875fed908d78126cf02013d193b73352"), looks := true }, kinds := [], alts := [], laidByText := true, laidKinds := [.data, .data, .data, .sentinel, .sentinel], laidTests := true, laidLooks := .later }
def LangTurnsUptoCardSaid : Prop := Claim7.holds Tryd.pinned (.plain (OpenSpec.upto langTurnsSpec)) langTurnsUptoCard

/-- THE SECOND FORM's CARD OF 'grainlaw5.LangAgain'. -/
def langAgainUptoCard : Claim7 := { stood := { row := langAgainUptoRow, standIns := [], harness := (true, "84f69288f441da83464ccedb79bdea38875fed908d78126cf02013d193b73352"), looks := true }, kinds := [], alts := [], laidByText := true, laidKinds := [.data, .data, .data, .sentinel, .sentinel], laidTests := true, laidLooks := .later }
def LangAgainUptoCardSaid : Prop := Claim7.holds Tryd.pinned (.plain (OpenSpec.upto langAgainSpec)) langAgainUptoCard
end Rows
end Go.Proofs.YtffpglgboaigfaaDoor
