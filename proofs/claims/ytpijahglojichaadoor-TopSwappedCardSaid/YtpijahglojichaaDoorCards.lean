/-
  DERIVED. GIVEN WITH THE SEED: THE CARDS: each row of YtpijahglojichaaDoorRows.lean that lists a variable, with what it lists TIED to the program's text (the seventh form; the later family's looks); each row that meets fmt, with fmt's text TOLD by the authors' own Lean function (tested against real Go, not proved from fmt's source: count such statements apart). THE CARD IS WHAT COUNTS. Prove the row's statement (the work); the ties are given (YtpijahglojichaaDoorTie.lean); close each card by the builder's one call (the guide's Derived/Test/ToyasCard.lean, 'card_holds'). Laid BY PROGRAM, IN A SANDBOX (cutbox-door.mjs). By AI agents, Wed Nov 11 2026. No macro, syntax, notation, axiom, sorry.
-/
import Derived.Test.YtpijahglojichaaDoorRows
import GoSem.ClaimSeven
namespace Go.Proofs.YtpijahglojichaaDoor
namespace Rows

/-- THE TIED CARD OF 'jigworkslaw09.RingGives'. -/
def ringGivesCard : Claim7 := { stood := { row := ringGivesRow, standIns := [], harness := (true, "63a3f9e1dda400f4c894526d74d4fcc9efdf8a8ece9af3b5376146c53abff7b4"), looks := true }, kinds := [], alts := [], laidByText := true, laidKinds := [.data, .data], laidTests := true, laidLooks := .later }
def RingGivesCardSaid : Prop := Claim7.holds Tryd.pinned (.plain (OpenSpec.ofChange ringGivesSpec)) ringGivesCard

/-- THE TIED CARD OF 'jigworkslaw09.RingBests'. -/
def ringBestsCard : Claim7 := { stood := { row := ringBestsRow, standIns := [], harness := (true, "63a3f9e1dda400f4c894526d74d4fcc9efdf8a8ece9af3b5376146c53abff7b4"), looks := true }, kinds := [], alts := [], laidByText := true, laidKinds := [.data, .data], laidTests := true, laidLooks := .later }
def RingBestsCardSaid : Prop := Claim7.holds Tryd.pinned (.plain (OpenSpec.ofChange ringBestsSpec)) ringBestsCard

/-- THE TIED CARD OF 'jigworkslaw09.RingShorts'. -/
def ringShortsCard : Claim7 := { stood := { row := ringShortsRow, standIns := [], harness := (true, "63a3f9e1dda400f4c894526d74d4fcc9efdf8a8ece9af3b5376146c53abff7b4"), looks := true }, kinds := [], alts := [], laidByText := true, laidKinds := [.data, .data], laidTests := true, laidLooks := .later }
def RingShortsCardSaid : Prop := Claim7.holds Tryd.pinned (.plain (OpenSpec.ofChange ringShortsSpec)) ringShortsCard

/-- THE TIED CARD OF 'jigworkslaw09.RingBest'. -/
def ringBestCard : Claim7 := { stood := { row := ringBestRow, standIns := [], harness := (true, "63a3f9e1dda400f4c894526d74d4fcc9efdf8a8ece9af3b5376146c53abff7b4"), looks := true }, kinds := [], alts := [], laidByText := true, laidKinds := [.data, .data], laidTests := true, laidLooks := .later }
def RingBestCardSaid : Prop := Claim7.holds Tryd.pinned (.plain (OpenSpec.ofChange ringBestSpec)) ringBestCard

/-- THE TIED CARD OF 'jigworkslaw09.RingProof'. -/
def ringProofCard : Claim7 := { stood := { row := ringProofRow, standIns := [], harness := (true, "63a3f9e1dda400f4c894526d74d4fcc9efdf8a8ece9af3b5376146c53abff7b4"), looks := true }, kinds := [], alts := [], laidByText := true, laidKinds := [.data, .data], laidTests := true, laidLooks := .later }
def RingProofCardSaid : Prop := Claim7.holds Tryd.pinned (.plain (OpenSpec.ofChange ringProofSpec)) ringProofCard

/-- THE TIED CARD OF 'jigworkslaw09.RingRound'. -/
def ringRoundCard : Claim7 := { stood := { row := ringRoundRow, standIns := [], harness := (true, "63a3f9e1dda400f4c894526d74d4fcc9efdf8a8ece9af3b5376146c53abff7b4"), looks := true }, kinds := [], alts := [], laidByText := true, laidKinds := [.data, .data], laidTests := true, laidLooks := .later }
def RingRoundCardSaid : Prop := Claim7.holds Tryd.pinned (.plain (OpenSpec.ofChange ringRoundSpec)) ringRoundCard

/-- THE TIED CARD OF 'jigworkslaw09.RingMore'. -/
def ringMoreCard : Claim7 := { stood := { row := ringMoreRow, standIns := [], harness := (true, "63a3f9e1dda400f4c894526d74d4fcc9efdf8a8ece9af3b5376146c53abff7b4"), looks := true }, kinds := [], alts := [], laidByText := true, laidKinds := [.data, .data], laidTests := true, laidLooks := .later }
def RingMoreCardSaid : Prop := Claim7.holds Tryd.pinned (.plain (OpenSpec.ofChange ringMoreSpec)) ringMoreCard

/-- THE TIED CARD OF 'jigworkslaw09.RingShort'. -/
def ringShortCard : Claim7 := { stood := { row := ringShortRow, standIns := [], harness := (true, "63a3f9e1dda400f4c894526d74d4fcc9efdf8a8ece9af3b5376146c53abff7b4"), looks := true }, kinds := [], alts := [], laidByText := true, laidKinds := [.data, .data], laidTests := true, laidLooks := .later }
def RingShortCardSaid : Prop := Claim7.holds Tryd.pinned (.plain (OpenSpec.ofChange ringShortSpec)) ringShortCard

/-- THE TIED CARD OF 'jigworkslaw09.RingTurned'. -/
def ringTurnedCard : Claim7 := { stood := { row := ringTurnedRow, standIns := [], harness := (true, "63a3f9e1dda400f4c894526d74d4fcc9efdf8a8ece9af3b5376146c53abff7b4"), looks := true }, kinds := [], alts := [], laidByText := true, laidKinds := [.data, .data], laidTests := true, laidLooks := .later }
def RingTurnedCardSaid : Prop := Claim7.holds Tryd.pinned (.plain (OpenSpec.ofChange ringTurnedSpec)) ringTurnedCard

/-- THE TIED CARD OF 'jigworkslaw09.RingApart'. -/
def ringApartCard : Claim7 := { stood := { row := ringApartRow, standIns := [], harness := (true, "63a3f9e1dda400f4c894526d74d4fcc9efdf8a8ece9af3b5376146c53abff7b4"), looks := true }, kinds := [], alts := [], laidByText := true, laidKinds := [.data, .data], laidTests := true, laidLooks := .later }
def RingApartCardSaid : Prop := Claim7.holds Tryd.pinned (.plain (OpenSpec.ofChange ringApartSpec)) ringApartCard

/-- THE TIED CARD OF 'jigworkstop.TopSwapped'. -/
def topSwappedCard : Claim7 := { stood := { row := topSwappedRow, standIns := [], harness := (true, "63a3f9e1dda400f4c894526d74d4fcc9efdf8a8ece9af3b5376146c53abff7b4"), looks := true }, kinds := [], alts := [], laidByText := true, laidKinds := [.data, .data], laidTests := true, laidLooks := .later }
def TopSwappedCardSaid : Prop := Claim7.holds Tryd.pinned (.plain (OpenSpec.ofChange topSwappedSpec)) topSwappedCard

/-- THE SECOND FORM's CARD OF 'jigworkslaw09.RingGives'. -/
def ringGivesUptoCard : Claim7 := { stood := { row := ringGivesUptoRow, standIns := [], harness := (true, "63a3f9e1dda400f4c894526d74d4fcc9efdf8a8ece9af3b5376146c53abff7b4"), looks := true }, kinds := [], alts := [], laidByText := true, laidKinds := [.data, .data], laidTests := true, laidLooks := .later }
def RingGivesUptoCardSaid : Prop := Claim7.holds Tryd.pinned (.plain (OpenSpec.upto ringGivesSpec)) ringGivesUptoCard

/-- THE SECOND FORM's CARD OF 'jigworkslaw09.RingBests'. -/
def ringBestsUptoCard : Claim7 := { stood := { row := ringBestsUptoRow, standIns := [], harness := (true, "63a3f9e1dda400f4c894526d74d4fcc9efdf8a8ece9af3b5376146c53abff7b4"), looks := true }, kinds := [], alts := [], laidByText := true, laidKinds := [.data, .data], laidTests := true, laidLooks := .later }
def RingBestsUptoCardSaid : Prop := Claim7.holds Tryd.pinned (.plain (OpenSpec.upto ringBestsSpec)) ringBestsUptoCard

/-- THE SECOND FORM's CARD OF 'jigworkslaw09.RingShorts'. -/
def ringShortsUptoCard : Claim7 := { stood := { row := ringShortsUptoRow, standIns := [], harness := (true, "63a3f9e1dda400f4c894526d74d4fcc9efdf8a8ece9af3b5376146c53abff7b4"), looks := true }, kinds := [], alts := [], laidByText := true, laidKinds := [.data, .data], laidTests := true, laidLooks := .later }
def RingShortsUptoCardSaid : Prop := Claim7.holds Tryd.pinned (.plain (OpenSpec.upto ringShortsSpec)) ringShortsUptoCard

/-- THE SECOND FORM's CARD OF 'jigworkslaw09.RingBest'. -/
def ringBestUptoCard : Claim7 := { stood := { row := ringBestUptoRow, standIns := [], harness := (true, "63a3f9e1dda400f4c894526d74d4fcc9efdf8a8ece9af3b5376146c53abff7b4"), looks := true }, kinds := [], alts := [], laidByText := true, laidKinds := [.data, .data], laidTests := true, laidLooks := .later }
def RingBestUptoCardSaid : Prop := Claim7.holds Tryd.pinned (.plain (OpenSpec.upto ringBestSpec)) ringBestUptoCard

/-- THE SECOND FORM's CARD OF 'jigworkslaw09.RingProof'. -/
def ringProofUptoCard : Claim7 := { stood := { row := ringProofUptoRow, standIns := [], harness := (true, "63a3f9e1dda400f4c894526d74d4fcc9efdf8a8ece9af3b5376146c53abff7b4"), looks := true }, kinds := [], alts := [], laidByText := true, laidKinds := [.data, .data], laidTests := true, laidLooks := .later }
def RingProofUptoCardSaid : Prop := Claim7.holds Tryd.pinned (.plain (OpenSpec.upto ringProofSpec)) ringProofUptoCard

/-- THE SECOND FORM's CARD OF 'jigworkslaw09.RingRound'. -/
def ringRoundUptoCard : Claim7 := { stood := { row := ringRoundUptoRow, standIns := [], harness := (true, "63a3f9e1dda400f4c894526d74d4fcc9efdf8a8ece9af3b5376146c53abff7b4"), looks := true }, kinds := [], alts := [], laidByText := true, laidKinds := [.data, .data], laidTests := true, laidLooks := .later }
def RingRoundUptoCardSaid : Prop := Claim7.holds Tryd.pinned (.plain (OpenSpec.upto ringRoundSpec)) ringRoundUptoCard

/-- THE SECOND FORM's CARD OF 'jigworkslaw09.RingMore'. -/
def ringMoreUptoCard : Claim7 := { stood := { row := ringMoreUptoRow, standIns := [], harness := (true, "63a3f9e1dda400f4c894526d74d4fcc9efdf8a8ece9af3b5376146c53abff7b4"), looks := true }, kinds := [], alts := [], laidByText := true, laidKinds := [.data, .data], laidTests := true, laidLooks := .later }
def RingMoreUptoCardSaid : Prop := Claim7.holds Tryd.pinned (.plain (OpenSpec.upto ringMoreSpec)) ringMoreUptoCard

/-- THE SECOND FORM's CARD OF 'jigworkslaw09.RingShort'. -/
def ringShortUptoCard : Claim7 := { stood := { row := ringShortUptoRow, standIns := [], harness := (true, "63a3f9e1dda400f4c894526d74d4fcc9efdf8a8ece9af3b5376146c53abff7b4"), looks := true }, kinds := [], alts := [], laidByText := true, laidKinds := [.data, .data], laidTests := true, laidLooks := .later }
def RingShortUptoCardSaid : Prop := Claim7.holds Tryd.pinned (.plain (OpenSpec.upto ringShortSpec)) ringShortUptoCard

/-- THE SECOND FORM's CARD OF 'jigworkslaw09.RingTurned'. -/
def ringTurnedUptoCard : Claim7 := { stood := { row := ringTurnedUptoRow, standIns := [], harness := (true, "63a3f9e1dda400f4c894526d74d4fcc9efdf8a8ece9af3b5376146c53abff7b4"), looks := true }, kinds := [], alts := [], laidByText := true, laidKinds := [.data, .data], laidTests := true, laidLooks := .later }
def RingTurnedUptoCardSaid : Prop := Claim7.holds Tryd.pinned (.plain (OpenSpec.upto ringTurnedSpec)) ringTurnedUptoCard

/-- THE SECOND FORM's CARD OF 'jigworkslaw09.RingApart'. -/
def ringApartUptoCard : Claim7 := { stood := { row := ringApartUptoRow, standIns := [], harness := (true, "63a3f9e1dda400f4c894526d74d4fcc9efdf8a8ece9af3b5376146c53abff7b4"), looks := true }, kinds := [], alts := [], laidByText := true, laidKinds := [.data, .data], laidTests := true, laidLooks := .later }
def RingApartUptoCardSaid : Prop := Claim7.holds Tryd.pinned (.plain (OpenSpec.upto ringApartSpec)) ringApartUptoCard

/-- THE SECOND FORM's CARD OF 'jigworkstop.TopSwapped'. -/
def topSwappedUptoCard : Claim7 := { stood := { row := topSwappedUptoRow, standIns := [], harness := (true, "63a3f9e1dda400f4c894526d74d4fcc9efdf8a8ece9af3b5376146c53abff7b4"), looks := true }, kinds := [], alts := [], laidByText := true, laidKinds := [.data, .data], laidTests := true, laidLooks := .later }
def TopSwappedUptoCardSaid : Prop := Claim7.holds Tryd.pinned (.plain (OpenSpec.upto topSwappedSpec)) topSwappedUptoCard
end Rows
end Go.Proofs.YtpijahglojichaaDoor
