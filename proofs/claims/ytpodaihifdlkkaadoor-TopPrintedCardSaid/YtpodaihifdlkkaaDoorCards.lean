/-
  DERIVED. GIVEN WITH THE SEED: THE CARDS: each row of YtpodaihifdlkkaaDoorRows.lean that lists a variable, with what it lists TIED to the program's text (the seventh form; the later family's looks); each row that meets fmt, with fmt's text TOLD by the authors' own Lean function (tested against real Go, not proved from fmt's source: count such statements apart). THE CARD IS WHAT COUNTS. Prove the row's statement (the work); the ties are given (YtpodaihifdlkkaaDoorTie.lean); close each card by the builder's one call (the guide's Derived/Test/ToyasCard.lean, 'card_holds'). Laid BY PROGRAM, IN A SANDBOX (cutbox-door.mjs). By AI agents, Wed Nov 11 2026. No macro, syntax, notation, axiom, sorry.
-/
import Derived.Test.YtpodaihifdlkkaaDoorRows
import GoSem.ClaimSeven
namespace Go.Proofs.YtpodaihifdlkkaaDoor
namespace Rows

/-- THE TIED CARD OF 'jigworkstop.TopPrinted'. -/
def topPrintedCard : Claim7 := { stood := { row := topPrintedRow, standIns := [], harness := (true, "bb37f340f90e46fa8daf77fdbfa721688493ea1b682d3bed733bc6c9cbddc471"), looks := false }, kinds := [], alts := [], laidByText := true, laidKinds := [.data, .data], laidTests := true, laidLooks := .later }
def TopPrintedCardSaid : Prop := Claim7.holds Tryd.pinned (.plain (OpenSpec.ofChange topPrintedSpec)) topPrintedCard

/-- THE SECOND FORM's CARD OF 'jigworkstop.TopPrinted'. -/
def topPrintedUptoCard : Claim7 := { stood := { row := topPrintedUptoRow, standIns := [], harness := (true, "bb37f340f90e46fa8daf77fdbfa721688493ea1b682d3bed733bc6c9cbddc471"), looks := false }, kinds := [], alts := [], laidByText := true, laidKinds := [.data, .data], laidTests := true, laidLooks := .later }
def TopPrintedUptoCardSaid : Prop := Claim7.holds Tryd.pinned (.plain (OpenSpec.upto topPrintedSpec)) topPrintedUptoCard
end Rows
end Go.Proofs.YtpodaihifdlkkaaDoor
