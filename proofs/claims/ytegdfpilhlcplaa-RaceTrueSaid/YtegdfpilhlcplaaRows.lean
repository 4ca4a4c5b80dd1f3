/-
  No cell of these rows narrows 'for every input' (looked for: loops, veiled, ifaces, maps, wideKeys, modest, calm, conditions, laid).
  DERIVED. THE GIVEN ROWS OF THIS SEAT. 10 by the template 'for every input the law returns true; each argument reads behind the call as it read before'; 0 by the template 'total and deterministic' (their statements: YtegdfpilhlcplaaTotals.lean).
  GIVEN WITH THE SEED: the statements are not yours to turn. If you find one false, say at which input.
  Laid BY PROGRAM, IN A SANDBOX (cutbox-rows.mjs): the forced cells as the released guide's own fill.sh prints them over the translation 69cefe03bca206bf… (all of the seat's roots in one cut). By AI agents, Wed Nov 11 2026. No macro, syntax, notation, axiom, sorry.
-/
import Derived.Test.YtegdfpilhlcplaaChecked
import GoSem.Claim
import GoSem.ClaimJoined
import GoSem.ClaimMapViews
import Derived.JoinedTies
import Derived.KernelRfl
namespace Go.Proofs.Ytegdfpilhlcplaa
/- THE CELL 'sum', in the pinned program and in every row, IS THE sha256 OF THE DUMP (.gsa) THAT YtegdfpilhlcplaaProg.lean LOADS. Nothing in Lean hashes anything: it is a label: what it is worth is what the hold of that sum in a sandbox is worth. -/
noncomputable def Try.pinned : Pinned := { name := "ytegdfpilhlcplaa", sum := "69cefe03bca206bff5093b6a8b08fef4f5e40a523a65d629274c8f52024bf2c6", checked := Try.checked }
namespace Rows
def none {H : Type} : Left H := { results := [], args := [] }

/-- 'jigworkslaw12.RaceCounts': WHATEVER THE INPUT: true; the input reads as it did. -/
def raceCountsSpec : ChangeSpec := { name := "raceCounts", fn := fun _ => fun
  | [d1, d2, d3, d4] => { results := [.lit (.bool true)], args := [d1, d2, d3, d4] }
  | _ => none }
def raceCountsRow : OpenClaim := { program := "ytegdfpilhlcplaa", sum := "69cefe03bca206bff5093b6a8b08fef4f5e40a523a65d629274c8f52024bf2c6", func := "jigworks/jigworkslaw12.RaceCounts", spec := "raceCounts", unfollowed := true, recurses := true, apart := false }
def RaceCountsSaid : Prop := raceCountsRow.holds Try.pinned (OpenSpec.ofChange raceCountsSpec)

/-- ITS FALSE NEIGHBOUR: 'it returns false'. Refute it at one input. -/
def raceCountsWrong : ChangeSpec := { name := "raceCounts", fn := fun _ => fun
  | [d1, d2, d3, d4] => { results := [.lit (.bool false)], args := [d1, d2, d3, d4] }
  | _ => none }
def RaceCountsWrongFalsely : Prop := raceCountsRow.holds Try.pinned (OpenSpec.ofChange raceCountsWrong)

/-- 'jigworkslaw12.RaceWins': WHATEVER THE INPUT: true; the input reads as it did. -/
def raceWinsSpec : ChangeSpec := { name := "raceWins", fn := fun _ => fun
  | [d1, d2, d3] => { results := [.lit (.bool true)], args := [d1, d2, d3] }
  | _ => none }
def raceWinsRow : OpenClaim := { program := "ytegdfpilhlcplaa", sum := "69cefe03bca206bff5093b6a8b08fef4f5e40a523a65d629274c8f52024bf2c6", func := "jigworks/jigworkslaw12.RaceWins", spec := "raceWins", unfollowed := true, recurses := true, apart := false }
def RaceWinsSaid : Prop := raceWinsRow.holds Try.pinned (OpenSpec.ofChange raceWinsSpec)

/-- ITS FALSE NEIGHBOUR: 'it returns false'. Refute it at one input. -/
def raceWinsWrong : ChangeSpec := { name := "raceWins", fn := fun _ => fun
  | [d1, d2, d3] => { results := [.lit (.bool false)], args := [d1, d2, d3] }
  | _ => none }
def RaceWinsWrongFalsely : Prop := raceWinsRow.holds Try.pinned (OpenSpec.ofChange raceWinsWrong)

/-- 'jigworkslaw12.RaceNames': WHATEVER THE INPUT: true; the input reads as it did. -/
def raceNamesSpec : ChangeSpec := { name := "raceNames", fn := fun _ => fun
  | [] => { results := [.lit (.bool true)], args := [] }
  | _ => none }
def raceNamesRow : OpenClaim := { program := "ytegdfpilhlcplaa", sum := "69cefe03bca206bff5093b6a8b08fef4f5e40a523a65d629274c8f52024bf2c6", func := "jigworks/jigworkslaw12.RaceNames", spec := "raceNames", unfollowed := true, recurses := true, apart := false }
def RaceNamesSaid : Prop := raceNamesRow.holds Try.pinned (OpenSpec.ofChange raceNamesSpec)

/-- ITS FALSE NEIGHBOUR: 'it returns false'. Refute it at one input. -/
def raceNamesWrong : ChangeSpec := { name := "raceNames", fn := fun _ => fun
  | [] => { results := [.lit (.bool false)], args := [] }
  | _ => none }
def RaceNamesWrongFalsely : Prop := raceNamesRow.holds Try.pinned (OpenSpec.ofChange raceNamesWrong)

/-- 'jigworkslaw12.RaceTrue': WHATEVER THE INPUT: true; the input reads as it did. -/
def raceTrueSpec : ChangeSpec := { name := "raceTrue", fn := fun _ => fun
  | [d1, d2, d3] => { results := [.lit (.bool true)], args := [d1, d2, d3] }
  | _ => none }
def raceTrueRow : OpenClaim := { program := "ytegdfpilhlcplaa", sum := "69cefe03bca206bff5093b6a8b08fef4f5e40a523a65d629274c8f52024bf2c6", func := "jigworks/jigworkslaw12.RaceTrue", spec := "raceTrue", unfollowed := true, recurses := true, apart := false }
def RaceTrueSaid : Prop := raceTrueRow.holds Try.pinned (OpenSpec.ofChange raceTrueSpec)

/-- ITS FALSE NEIGHBOUR: 'it returns false'. Refute it at one input. -/
def raceTrueWrong : ChangeSpec := { name := "raceTrue", fn := fun _ => fun
  | [d1, d2, d3] => { results := [.lit (.bool false)], args := [d1, d2, d3] }
  | _ => none }
def RaceTrueWrongFalsely : Prop := raceTrueRow.holds Try.pinned (OpenSpec.ofChange raceTrueWrong)

/-- 'jigworkslaw12.RaceEnds': WHATEVER THE INPUT: true; the input reads as it did. -/
def raceEndsSpec : ChangeSpec := { name := "raceEnds", fn := fun _ => fun
  | [d1, d2, d3, d4] => { results := [.lit (.bool true)], args := [d1, d2, d3, d4] }
  | _ => none }
def raceEndsRow : OpenClaim := { program := "ytegdfpilhlcplaa", sum := "69cefe03bca206bff5093b6a8b08fef4f5e40a523a65d629274c8f52024bf2c6", func := "jigworks/jigworkslaw12.RaceEnds", spec := "raceEnds", unfollowed := true, recurses := true, apart := false }
def RaceEndsSaid : Prop := raceEndsRow.holds Try.pinned (OpenSpec.ofChange raceEndsSpec)

/-- ITS FALSE NEIGHBOUR: 'it returns false'. Refute it at one input. -/
def raceEndsWrong : ChangeSpec := { name := "raceEnds", fn := fun _ => fun
  | [d1, d2, d3, d4] => { results := [.lit (.bool false)], args := [d1, d2, d3, d4] }
  | _ => none }
def RaceEndsWrongFalsely : Prop := raceEndsRow.holds Try.pinned (OpenSpec.ofChange raceEndsWrong)

/-- 'jigworkslaw12.RaceClash': WHATEVER THE INPUT: true; the input reads as it did. -/
def raceClashSpec : ChangeSpec := { name := "raceClash", fn := fun _ => fun
  | [d1, d2] => { results := [.lit (.bool true)], args := [d1, d2] }
  | _ => none }
def raceClashRow : OpenClaim := { program := "ytegdfpilhlcplaa", sum := "69cefe03bca206bff5093b6a8b08fef4f5e40a523a65d629274c8f52024bf2c6", func := "jigworks/jigworkslaw12.RaceClash", spec := "raceClash", unfollowed := true, recurses := true, apart := false }
def RaceClashSaid : Prop := raceClashRow.holds Try.pinned (OpenSpec.ofChange raceClashSpec)

/-- ITS FALSE NEIGHBOUR: 'it returns false'. Refute it at one input. -/
def raceClashWrong : ChangeSpec := { name := "raceClash", fn := fun _ => fun
  | [d1, d2] => { results := [.lit (.bool false)], args := [d1, d2] }
  | _ => none }
def RaceClashWrongFalsely : Prop := raceClashRow.holds Try.pinned (OpenSpec.ofChange raceClashWrong)

/-- 'jigworkslaw12.RaceOrder': WHATEVER THE INPUT: true; the input reads as it did. -/
def raceOrderSpec : ChangeSpec := { name := "raceOrder", fn := fun _ => fun
  | [d1, d2, d3, d4, d5] => { results := [.lit (.bool true)], args := [d1, d2, d3, d4, d5] }
  | _ => none }
def raceOrderRow : OpenClaim := { program := "ytegdfpilhlcplaa", sum := "69cefe03bca206bff5093b6a8b08fef4f5e40a523a65d629274c8f52024bf2c6", func := "jigworks/jigworkslaw12.RaceOrder", spec := "raceOrder", unfollowed := true, recurses := true, apart := false }
def RaceOrderSaid : Prop := raceOrderRow.holds Try.pinned (OpenSpec.ofChange raceOrderSpec)

/-- ITS FALSE NEIGHBOUR: 'it returns false'. Refute it at one input. -/
def raceOrderWrong : ChangeSpec := { name := "raceOrder", fn := fun _ => fun
  | [d1, d2, d3, d4, d5] => { results := [.lit (.bool false)], args := [d1, d2, d3, d4, d5] }
  | _ => none }
def RaceOrderWrongFalsely : Prop := raceOrderRow.holds Try.pinned (OpenSpec.ofChange raceOrderWrong)

/-- 'jigworkslaw12.RaceWinners': WHATEVER THE INPUT: true; the input reads as it did. -/
def raceWinnersSpec : ChangeSpec := { name := "raceWinners", fn := fun _ => fun
  | [d1, d2, d3] => { results := [.lit (.bool true)], args := [d1, d2, d3] }
  | _ => none }
def raceWinnersRow : OpenClaim := { program := "ytegdfpilhlcplaa", sum := "69cefe03bca206bff5093b6a8b08fef4f5e40a523a65d629274c8f52024bf2c6", func := "jigworks/jigworkslaw12.RaceWinners", spec := "raceWinners", unfollowed := true, recurses := true, apart := false }
def RaceWinnersSaid : Prop := raceWinnersRow.holds Try.pinned (OpenSpec.ofChange raceWinnersSpec)

/-- ITS FALSE NEIGHBOUR: 'it returns false'. Refute it at one input. -/
def raceWinnersWrong : ChangeSpec := { name := "raceWinners", fn := fun _ => fun
  | [d1, d2, d3] => { results := [.lit (.bool false)], args := [d1, d2, d3] }
  | _ => none }
def RaceWinnersWrongFalsely : Prop := raceWinnersRow.holds Try.pinned (OpenSpec.ofChange raceWinnersWrong)

/-- 'jigworkslaw12.RaceWorks': WHATEVER THE INPUT: true; the input reads as it did. -/
def raceWorksSpec : ChangeSpec := { name := "raceWorks", fn := fun _ => fun
  | [d1, d2, d3, d4, d5] => { results := [.lit (.bool true)], args := [d1, d2, d3, d4, d5] }
  | _ => none }
def raceWorksRow : OpenClaim := { program := "ytegdfpilhlcplaa", sum := "69cefe03bca206bff5093b6a8b08fef4f5e40a523a65d629274c8f52024bf2c6", func := "jigworks/jigworkslaw12.RaceWorks", spec := "raceWorks", unfollowed := true, recurses := true, apart := false }
def RaceWorksSaid : Prop := raceWorksRow.holds Try.pinned (OpenSpec.ofChange raceWorksSpec)

/-- ITS FALSE NEIGHBOUR: 'it returns false'. Refute it at one input. -/
def raceWorksWrong : ChangeSpec := { name := "raceWorks", fn := fun _ => fun
  | [d1, d2, d3, d4, d5] => { results := [.lit (.bool false)], args := [d1, d2, d3, d4, d5] }
  | _ => none }
def RaceWorksWrongFalsely : Prop := raceWorksRow.holds Try.pinned (OpenSpec.ofChange raceWorksWrong)

/-- 'jigworkslaw12.RaceOwns': WHATEVER THE INPUT: true; the input reads as it did. -/
def raceOwnsSpec : ChangeSpec := { name := "raceOwns", fn := fun _ => fun
  | [d1, d2, d3] => { results := [.lit (.bool true)], args := [d1, d2, d3] }
  | _ => none }
def raceOwnsRow : OpenClaim := { program := "ytegdfpilhlcplaa", sum := "69cefe03bca206bff5093b6a8b08fef4f5e40a523a65d629274c8f52024bf2c6", func := "jigworks/jigworkslaw12.RaceOwns", spec := "raceOwns", unfollowed := true, recurses := true, apart := false }
def RaceOwnsSaid : Prop := raceOwnsRow.holds Try.pinned (OpenSpec.ofChange raceOwnsSpec)

/-- ITS FALSE NEIGHBOUR: 'it returns false'. Refute it at one input. -/
def raceOwnsWrong : ChangeSpec := { name := "raceOwns", fn := fun _ => fun
  | [d1, d2, d3] => { results := [.lit (.bool false)], args := [d1, d2, d3] }
  | _ => none }
def RaceOwnsWrongFalsely : Prop := raceOwnsRow.holds Try.pinned (OpenSpec.ofChange raceOwnsWrong)

/- THE SECOND FORM. 'bulk': how many values and letters a reading holds, each counted each time it is reached (what is shared counts as often as it is met; a slice's spare places count too). A statement '..UptoSaid' is the law's where the arguments, and the package variables that the reading takes, are together of bulk at most 1048576: NARROWER than '..Said'. Prove '..Said' where nothing that the law and all that it calls make is longer than what came in: it says more and counts as full. Else prove '..UptoSaid'. A law counts once. -/
mutual
def uptoBulk {H : Type} : DataW H → Nat
  | .lit (.string bytes) => bytes.length + 1
  | .lit _ => 1
  | .nil => 1
  | .ptr d => uptoBulk d + 1
  | .slice elems spare => uptoBulkAll elems + uptoBulkAll spare + 1
  | .agg parts => uptoBulkAll parts + 1
  | .iface _ d => uptoBulk d + 1
  | .map entries => uptoBulkEntries entries + 1
  | .held _ => 1
def uptoBulkAll {H : Type} : List (DataW H) → Nat
  | [] => 0
  | d :: r => uptoBulk d + uptoBulkAll r
def uptoBulkEntries {H : Type} : List (Lit × DataW H) → Nat
  | [] => 0
  | x :: r => uptoBulkEntry x + uptoBulkEntries r
def uptoBulkEntry {H : Type} : Lit × DataW H → Nat
  | (.string bytes, d) => bytes.length + uptoBulk d + 1
  | (_, d) => uptoBulk d + 1
 end
def uptoSmall : (H : Type) → List (DataW H) → Bool := fun _ ds => decide (uptoBulkAll ds ≤ 1048576)
def OpenSpec.upto (s : _root_.Go.ChangeSpec) : _root_.Go.OpenSpec := { _root_.Go.OpenSpec.ofChange s with cond := some uptoSmall }

/-- 'jigworkslaw12.RaceCounts', WHERE WHAT IT READS IS OF BULK AT MOST 1048576: true; the input reads as it did. -/
def raceCountsUptoRow : OpenClaim := { program := "ytegdfpilhlcplaa", sum := "69cefe03bca206bff5093b6a8b08fef4f5e40a523a65d629274c8f52024bf2c6", func := "jigworks/jigworkslaw12.RaceCounts", spec := "raceCounts", unfollowed := true, recurses := true, apart := false, narrowed := true }
def RaceCountsUptoSaid : Prop := raceCountsUptoRow.holds Try.pinned (OpenSpec.upto raceCountsSpec)

/-- 'jigworkslaw12.RaceWins', WHERE WHAT IT READS IS OF BULK AT MOST 1048576: true; the input reads as it did. -/
def raceWinsUptoRow : OpenClaim := { program := "ytegdfpilhlcplaa", sum := "69cefe03bca206bff5093b6a8b08fef4f5e40a523a65d629274c8f52024bf2c6", func := "jigworks/jigworkslaw12.RaceWins", spec := "raceWins", unfollowed := true, recurses := true, apart := false, narrowed := true }
def RaceWinsUptoSaid : Prop := raceWinsUptoRow.holds Try.pinned (OpenSpec.upto raceWinsSpec)

/-- 'jigworkslaw12.RaceNames', WHERE WHAT IT READS IS OF BULK AT MOST 1048576: true; the input reads as it did. -/
def raceNamesUptoRow : OpenClaim := { program := "ytegdfpilhlcplaa", sum := "69cefe03bca206bff5093b6a8b08fef4f5e40a523a65d629274c8f52024bf2c6", func := "jigworks/jigworkslaw12.RaceNames", spec := "raceNames", unfollowed := true, recurses := true, apart := false, narrowed := true }
def RaceNamesUptoSaid : Prop := raceNamesUptoRow.holds Try.pinned (OpenSpec.upto raceNamesSpec)

/-- 'jigworkslaw12.RaceTrue', WHERE WHAT IT READS IS OF BULK AT MOST 1048576: true; the input reads as it did. -/
def raceTrueUptoRow : OpenClaim := { program := "ytegdfpilhlcplaa", sum := "69cefe03bca206bff5093b6a8b08fef4f5e40a523a65d629274c8f52024bf2c6", func := "jigworks/jigworkslaw12.RaceTrue", spec := "raceTrue", unfollowed := true, recurses := true, apart := false, narrowed := true }
def RaceTrueUptoSaid : Prop := raceTrueUptoRow.holds Try.pinned (OpenSpec.upto raceTrueSpec)

/-- 'jigworkslaw12.RaceEnds', WHERE WHAT IT READS IS OF BULK AT MOST 1048576: true; the input reads as it did. -/
def raceEndsUptoRow : OpenClaim := { program := "ytegdfpilhlcplaa", sum := "69cefe03bca206bff5093b6a8b08fef4f5e40a523a65d629274c8f52024bf2c6", func := "jigworks/jigworkslaw12.RaceEnds", spec := "raceEnds", unfollowed := true, recurses := true, apart := false, narrowed := true }
def RaceEndsUptoSaid : Prop := raceEndsUptoRow.holds Try.pinned (OpenSpec.upto raceEndsSpec)

/-- 'jigworkslaw12.RaceClash', WHERE WHAT IT READS IS OF BULK AT MOST 1048576: true; the input reads as it did. -/
def raceClashUptoRow : OpenClaim := { program := "ytegdfpilhlcplaa", sum := "69cefe03bca206bff5093b6a8b08fef4f5e40a523a65d629274c8f52024bf2c6", func := "jigworks/jigworkslaw12.RaceClash", spec := "raceClash", unfollowed := true, recurses := true, apart := false, narrowed := true }
def RaceClashUptoSaid : Prop := raceClashUptoRow.holds Try.pinned (OpenSpec.upto raceClashSpec)

/-- 'jigworkslaw12.RaceOrder', WHERE WHAT IT READS IS OF BULK AT MOST 1048576: true; the input reads as it did. -/
def raceOrderUptoRow : OpenClaim := { program := "ytegdfpilhlcplaa", sum := "69cefe03bca206bff5093b6a8b08fef4f5e40a523a65d629274c8f52024bf2c6", func := "jigworks/jigworkslaw12.RaceOrder", spec := "raceOrder", unfollowed := true, recurses := true, apart := false, narrowed := true }
def RaceOrderUptoSaid : Prop := raceOrderUptoRow.holds Try.pinned (OpenSpec.upto raceOrderSpec)

/-- 'jigworkslaw12.RaceWinners', WHERE WHAT IT READS IS OF BULK AT MOST 1048576: true; the input reads as it did. -/
def raceWinnersUptoRow : OpenClaim := { program := "ytegdfpilhlcplaa", sum := "69cefe03bca206bff5093b6a8b08fef4f5e40a523a65d629274c8f52024bf2c6", func := "jigworks/jigworkslaw12.RaceWinners", spec := "raceWinners", unfollowed := true, recurses := true, apart := false, narrowed := true }
def RaceWinnersUptoSaid : Prop := raceWinnersUptoRow.holds Try.pinned (OpenSpec.upto raceWinnersSpec)

/-- 'jigworkslaw12.RaceWorks', WHERE WHAT IT READS IS OF BULK AT MOST 1048576: true; the input reads as it did. -/
def raceWorksUptoRow : OpenClaim := { program := "ytegdfpilhlcplaa", sum := "69cefe03bca206bff5093b6a8b08fef4f5e40a523a65d629274c8f52024bf2c6", func := "jigworks/jigworkslaw12.RaceWorks", spec := "raceWorks", unfollowed := true, recurses := true, apart := false, narrowed := true }
def RaceWorksUptoSaid : Prop := raceWorksUptoRow.holds Try.pinned (OpenSpec.upto raceWorksSpec)

/-- 'jigworkslaw12.RaceOwns', WHERE WHAT IT READS IS OF BULK AT MOST 1048576: true; the input reads as it did. -/
def raceOwnsUptoRow : OpenClaim := { program := "ytegdfpilhlcplaa", sum := "69cefe03bca206bff5093b6a8b08fef4f5e40a523a65d629274c8f52024bf2c6", func := "jigworks/jigworkslaw12.RaceOwns", spec := "raceOwns", unfollowed := true, recurses := true, apart := false, narrowed := true }
def RaceOwnsUptoSaid : Prop := raceOwnsUptoRow.holds Try.pinned (OpenSpec.upto raceOwnsSpec)

end Rows
end Go.Proofs.Ytegdfpilhlcplaa
