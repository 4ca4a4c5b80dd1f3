/-
  NARROWER THAN 'FOR EVERY INPUT', by the rows' own cells (each row's printed sentence says how): RingGives: laid · RingBests: laid · RingShorts: laid · RingBest: laid · RingProof: laid · RingRound: laid · RingMore: laid · RingShort: laid · RingTurned: laid · RingApart: laid · TopSwapped: laid.
  DERIVED. THE GIVEN ROWS OF THIS SEAT. 11 by the template 'for every input the law returns true; each argument reads behind the call as it read before'; 0 by the template 'total and deterministic' (their statements: YtpijahglojichaaDoorTotals.lean).
  GIVEN WITH THE SEED: the statements are not yours to turn. If you find one false, say at which input.
  Laid BY PROGRAM, IN A SANDBOX (cutbox-rows.mjs): the forced cells as the released guide's own fill.sh prints them over the translation e3635542ff121e44… (all of the seat's roots in one cut). By AI agents, Wed Nov 11 2026. No macro, syntax, notation, axiom, sorry.
-/
import Derived.Test.YtpijahglojichaaDoorChecked
import GoSem.Claim
import GoSem.ClaimJoined
import GoSem.ClaimMapViews
import Derived.JoinedTies
import Derived.KernelRfl
namespace Go.Proofs.YtpijahglojichaaDoor
/- THE CELL 'sum', in the pinned program and in every row, IS THE sha256 OF THE DUMP (.gsa) THAT YtpijahglojichaaDoorProg.lean LOADS. Nothing in Lean hashes anything: it is a label: what it is worth is what the hold of that sum in a sandbox is worth. -/
noncomputable def Tryd.pinned : Pinned := { name := "ytpijahglojichaadoor", sum := "e3635542ff121e44723326eea7c24344f4d84e448fd300617776e6c5c3d48902", checked := Tryd.checked }
namespace Rows
def none {H : Type} : Left H := { results := [], args := [] }

/- WHAT THE LISTED PACKAGE-LEVEL VARIABLES READ AS WHEN THE CALL BEGINS. Each datum BY PROGRAM (the guide's laid-datum.mjs) off the statement by which the dump's own 'gosem.cut.vars' lays the variable. In a bare row this is a premise. The card (YtpijahglojichaaDoorCards.lean) ties it to the program's text. -/
def laid_math_bits_deBruijn32tab {H : Type} : DataW H := .agg [.lit (.int .u8 0), .lit (.int .u8 1), .lit (.int .u8 28), .lit (.int .u8 2), .lit (.int .u8 29), .lit (.int .u8 14), .lit (.int .u8 24), .lit (.int .u8 3), .lit (.int .u8 30), .lit (.int .u8 22), .lit (.int .u8 20), .lit (.int .u8 15), .lit (.int .u8 25), .lit (.int .u8 17), .lit (.int .u8 4), .lit (.int .u8 8), .lit (.int .u8 31), .lit (.int .u8 27), .lit (.int .u8 13), .lit (.int .u8 23), .lit (.int .u8 21), .lit (.int .u8 19), .lit (.int .u8 16), .lit (.int .u8 7), .lit (.int .u8 26), .lit (.int .u8 12), .lit (.int .u8 18), .lit (.int .u8 6), .lit (.int .u8 11), .lit (.int .u8 5), .lit (.int .u8 10), .lit (.int .u8 9)]
def laid_math_bits_deBruijn64tab {H : Type} : DataW H := .agg [.lit (.int .u8 0), .lit (.int .u8 1), .lit (.int .u8 56), .lit (.int .u8 2), .lit (.int .u8 57), .lit (.int .u8 49), .lit (.int .u8 28), .lit (.int .u8 3), .lit (.int .u8 61), .lit (.int .u8 58), .lit (.int .u8 42), .lit (.int .u8 50), .lit (.int .u8 38), .lit (.int .u8 29), .lit (.int .u8 17), .lit (.int .u8 4), .lit (.int .u8 62), .lit (.int .u8 47), .lit (.int .u8 59), .lit (.int .u8 36), .lit (.int .u8 45), .lit (.int .u8 43), .lit (.int .u8 51), .lit (.int .u8 22), .lit (.int .u8 53), .lit (.int .u8 39), .lit (.int .u8 33), .lit (.int .u8 30), .lit (.int .u8 24), .lit (.int .u8 18), .lit (.int .u8 12), .lit (.int .u8 5), .lit (.int .u8 63), .lit (.int .u8 55), .lit (.int .u8 48), .lit (.int .u8 27), .lit (.int .u8 60), .lit (.int .u8 41), .lit (.int .u8 37), .lit (.int .u8 16), .lit (.int .u8 46), .lit (.int .u8 35), .lit (.int .u8 44), .lit (.int .u8 21), .lit (.int .u8 52), .lit (.int .u8 32), .lit (.int .u8 23), .lit (.int .u8 11), .lit (.int .u8 54), .lit (.int .u8 26), .lit (.int .u8 40), .lit (.int .u8 15), .lit (.int .u8 34), .lit (.int .u8 20), .lit (.int .u8 31), .lit (.int .u8 10), .lit (.int .u8 25), .lit (.int .u8 14), .lit (.int .u8 19), .lit (.int .u8 9), .lit (.int .u8 13), .lit (.int .u8 8), .lit (.int .u8 7), .lit (.int .u8 6)]

/-- 'jigworkslaw09.RingGives': WHATEVER THE INPUT: true; the input reads as it did. -/
def ringGivesSpec : ChangeSpec := { name := "ringGives", fn := fun _ => fun
  | [d1, d2, d3] => { results := [.lit (.bool true)], args := [d1, d2, d3] }
  | _ => none }
def ringGivesRow : OpenClaim := { program := "ytpijahglojichaadoor", sum := "e3635542ff121e44723326eea7c24344f4d84e448fd300617776e6c5c3d48902", func := "jigworks/jigworkslaw09.RingGives", spec := "ringGives", unfollowed := true, recurses := true, named := ["math/bits.deBruijn32tab", "math/bits.deBruijn64tab"], plainKeys := false, apart := false, laid := [("math/bits.deBruijn32tab", laid_math_bits_deBruijn32tab), ("math/bits.deBruijn64tab", laid_math_bits_deBruijn64tab)] }
def RingGivesSaid : Prop := ringGivesRow.holds Tryd.pinned (OpenSpec.ofChange ringGivesSpec)

/-- ITS FALSE NEIGHBOUR: 'it returns false'. Refute it at one input. -/
def ringGivesWrong : ChangeSpec := { name := "ringGives", fn := fun _ => fun
  | [d1, d2, d3] => { results := [.lit (.bool false)], args := [d1, d2, d3] }
  | _ => none }
def RingGivesWrongFalsely : Prop := ringGivesRow.holds Tryd.pinned (OpenSpec.ofChange ringGivesWrong)

/-- 'jigworkslaw09.RingBests': WHATEVER THE INPUT: true; the input reads as it did. -/
def ringBestsSpec : ChangeSpec := { name := "ringBests", fn := fun _ => fun
  | [d] => { results := [.lit (.bool true)], args := [d] }
  | _ => none }
def ringBestsRow : OpenClaim := { program := "ytpijahglojichaadoor", sum := "e3635542ff121e44723326eea7c24344f4d84e448fd300617776e6c5c3d48902", func := "jigworks/jigworkslaw09.RingBests", spec := "ringBests", unfollowed := true, recurses := true, named := ["math/bits.deBruijn32tab", "math/bits.deBruijn64tab"], plainKeys := false, apart := false, laid := [("math/bits.deBruijn32tab", laid_math_bits_deBruijn32tab), ("math/bits.deBruijn64tab", laid_math_bits_deBruijn64tab)] }
def RingBestsSaid : Prop := ringBestsRow.holds Tryd.pinned (OpenSpec.ofChange ringBestsSpec)

/-- ITS FALSE NEIGHBOUR: 'it returns false'. Refute it at one input. -/
def ringBestsWrong : ChangeSpec := { name := "ringBests", fn := fun _ => fun
  | [d] => { results := [.lit (.bool false)], args := [d] }
  | _ => none }
def RingBestsWrongFalsely : Prop := ringBestsRow.holds Tryd.pinned (OpenSpec.ofChange ringBestsWrong)

/-- 'jigworkslaw09.RingShorts': WHATEVER THE INPUT: true; the input reads as it did. -/
def ringShortsSpec : ChangeSpec := { name := "ringShorts", fn := fun _ => fun
  | [d1, d2] => { results := [.lit (.bool true)], args := [d1, d2] }
  | _ => none }
def ringShortsRow : OpenClaim := { program := "ytpijahglojichaadoor", sum := "e3635542ff121e44723326eea7c24344f4d84e448fd300617776e6c5c3d48902", func := "jigworks/jigworkslaw09.RingShorts", spec := "ringShorts", unfollowed := true, recurses := true, named := ["math/bits.deBruijn32tab", "math/bits.deBruijn64tab"], plainKeys := false, apart := false, laid := [("math/bits.deBruijn32tab", laid_math_bits_deBruijn32tab), ("math/bits.deBruijn64tab", laid_math_bits_deBruijn64tab)] }
def RingShortsSaid : Prop := ringShortsRow.holds Tryd.pinned (OpenSpec.ofChange ringShortsSpec)

/-- ITS FALSE NEIGHBOUR: 'it returns false'. Refute it at one input. -/
def ringShortsWrong : ChangeSpec := { name := "ringShorts", fn := fun _ => fun
  | [d1, d2] => { results := [.lit (.bool false)], args := [d1, d2] }
  | _ => none }
def RingShortsWrongFalsely : Prop := ringShortsRow.holds Tryd.pinned (OpenSpec.ofChange ringShortsWrong)

/-- 'jigworkslaw09.RingBest': WHATEVER THE INPUT: true; the input reads as it did. -/
def ringBestSpec : ChangeSpec := { name := "ringBest", fn := fun _ => fun
  | [d1, d2] => { results := [.lit (.bool true)], args := [d1, d2] }
  | _ => none }
def ringBestRow : OpenClaim := { program := "ytpijahglojichaadoor", sum := "e3635542ff121e44723326eea7c24344f4d84e448fd300617776e6c5c3d48902", func := "jigworks/jigworkslaw09.RingBest", spec := "ringBest", unfollowed := true, recurses := true, named := ["math/bits.deBruijn32tab", "math/bits.deBruijn64tab"], plainKeys := false, apart := false, laid := [("math/bits.deBruijn32tab", laid_math_bits_deBruijn32tab), ("math/bits.deBruijn64tab", laid_math_bits_deBruijn64tab)] }
def RingBestSaid : Prop := ringBestRow.holds Tryd.pinned (OpenSpec.ofChange ringBestSpec)

/-- ITS FALSE NEIGHBOUR: 'it returns false'. Refute it at one input. -/
def ringBestWrong : ChangeSpec := { name := "ringBest", fn := fun _ => fun
  | [d1, d2] => { results := [.lit (.bool false)], args := [d1, d2] }
  | _ => none }
def RingBestWrongFalsely : Prop := ringBestRow.holds Tryd.pinned (OpenSpec.ofChange ringBestWrong)

/-- 'jigworkslaw09.RingProof': WHATEVER THE INPUT: true; the input reads as it did. -/
def ringProofSpec : ChangeSpec := { name := "ringProof", fn := fun _ => fun
  | [d1, d2, d3] => { results := [.lit (.bool true)], args := [d1, d2, d3] }
  | _ => none }
def ringProofRow : OpenClaim := { program := "ytpijahglojichaadoor", sum := "e3635542ff121e44723326eea7c24344f4d84e448fd300617776e6c5c3d48902", func := "jigworks/jigworkslaw09.RingProof", spec := "ringProof", unfollowed := true, recurses := true, named := ["math/bits.deBruijn32tab", "math/bits.deBruijn64tab"], plainKeys := false, apart := false, laid := [("math/bits.deBruijn32tab", laid_math_bits_deBruijn32tab), ("math/bits.deBruijn64tab", laid_math_bits_deBruijn64tab)] }
def RingProofSaid : Prop := ringProofRow.holds Tryd.pinned (OpenSpec.ofChange ringProofSpec)

/-- ITS FALSE NEIGHBOUR: 'it returns false'. Refute it at one input. -/
def ringProofWrong : ChangeSpec := { name := "ringProof", fn := fun _ => fun
  | [d1, d2, d3] => { results := [.lit (.bool false)], args := [d1, d2, d3] }
  | _ => none }
def RingProofWrongFalsely : Prop := ringProofRow.holds Tryd.pinned (OpenSpec.ofChange ringProofWrong)

/-- 'jigworkslaw09.RingRound': WHATEVER THE INPUT: true; the input reads as it did. -/
def ringRoundSpec : ChangeSpec := { name := "ringRound", fn := fun _ => fun
  | [d] => { results := [.lit (.bool true)], args := [d] }
  | _ => none }
def ringRoundRow : OpenClaim := { program := "ytpijahglojichaadoor", sum := "e3635542ff121e44723326eea7c24344f4d84e448fd300617776e6c5c3d48902", func := "jigworks/jigworkslaw09.RingRound", spec := "ringRound", unfollowed := true, recurses := true, named := ["math/bits.deBruijn32tab", "math/bits.deBruijn64tab"], plainKeys := false, apart := false, laid := [("math/bits.deBruijn32tab", laid_math_bits_deBruijn32tab), ("math/bits.deBruijn64tab", laid_math_bits_deBruijn64tab)] }
def RingRoundSaid : Prop := ringRoundRow.holds Tryd.pinned (OpenSpec.ofChange ringRoundSpec)

/-- ITS FALSE NEIGHBOUR: 'it returns false'. Refute it at one input. -/
def ringRoundWrong : ChangeSpec := { name := "ringRound", fn := fun _ => fun
  | [d] => { results := [.lit (.bool false)], args := [d] }
  | _ => none }
def RingRoundWrongFalsely : Prop := ringRoundRow.holds Tryd.pinned (OpenSpec.ofChange ringRoundWrong)

/-- 'jigworkslaw09.RingMore': WHATEVER THE INPUT: true; the input reads as it did. -/
def ringMoreSpec : ChangeSpec := { name := "ringMore", fn := fun _ => fun
  | [d1, d2, d3, d4] => { results := [.lit (.bool true)], args := [d1, d2, d3, d4] }
  | _ => none }
def ringMoreRow : OpenClaim := { program := "ytpijahglojichaadoor", sum := "e3635542ff121e44723326eea7c24344f4d84e448fd300617776e6c5c3d48902", func := "jigworks/jigworkslaw09.RingMore", spec := "ringMore", unfollowed := true, recurses := true, named := ["math/bits.deBruijn32tab", "math/bits.deBruijn64tab"], plainKeys := false, apart := false, laid := [("math/bits.deBruijn32tab", laid_math_bits_deBruijn32tab), ("math/bits.deBruijn64tab", laid_math_bits_deBruijn64tab)] }
def RingMoreSaid : Prop := ringMoreRow.holds Tryd.pinned (OpenSpec.ofChange ringMoreSpec)

/-- ITS FALSE NEIGHBOUR: 'it returns false'. Refute it at one input. -/
def ringMoreWrong : ChangeSpec := { name := "ringMore", fn := fun _ => fun
  | [d1, d2, d3, d4] => { results := [.lit (.bool false)], args := [d1, d2, d3, d4] }
  | _ => none }
def RingMoreWrongFalsely : Prop := ringMoreRow.holds Tryd.pinned (OpenSpec.ofChange ringMoreWrong)

/-- 'jigworkslaw09.RingShort': WHATEVER THE INPUT: true; the input reads as it did. -/
def ringShortSpec : ChangeSpec := { name := "ringShort", fn := fun _ => fun
  | [d1, d2, d3] => { results := [.lit (.bool true)], args := [d1, d2, d3] }
  | _ => none }
def ringShortRow : OpenClaim := { program := "ytpijahglojichaadoor", sum := "e3635542ff121e44723326eea7c24344f4d84e448fd300617776e6c5c3d48902", func := "jigworks/jigworkslaw09.RingShort", spec := "ringShort", unfollowed := true, recurses := true, named := ["math/bits.deBruijn32tab", "math/bits.deBruijn64tab"], plainKeys := false, apart := false, laid := [("math/bits.deBruijn32tab", laid_math_bits_deBruijn32tab), ("math/bits.deBruijn64tab", laid_math_bits_deBruijn64tab)] }
def RingShortSaid : Prop := ringShortRow.holds Tryd.pinned (OpenSpec.ofChange ringShortSpec)

/-- ITS FALSE NEIGHBOUR: 'it returns false'. Refute it at one input. -/
def ringShortWrong : ChangeSpec := { name := "ringShort", fn := fun _ => fun
  | [d1, d2, d3] => { results := [.lit (.bool false)], args := [d1, d2, d3] }
  | _ => none }
def RingShortWrongFalsely : Prop := ringShortRow.holds Tryd.pinned (OpenSpec.ofChange ringShortWrong)

/-- 'jigworkslaw09.RingTurned': WHATEVER THE INPUT: true; the input reads as it did. -/
def ringTurnedSpec : ChangeSpec := { name := "ringTurned", fn := fun _ => fun
  | [d1, d2, d3] => { results := [.lit (.bool true)], args := [d1, d2, d3] }
  | _ => none }
def ringTurnedRow : OpenClaim := { program := "ytpijahglojichaadoor", sum := "e3635542ff121e44723326eea7c24344f4d84e448fd300617776e6c5c3d48902", func := "jigworks/jigworkslaw09.RingTurned", spec := "ringTurned", unfollowed := true, recurses := true, named := ["math/bits.deBruijn32tab", "math/bits.deBruijn64tab"], plainKeys := false, apart := false, laid := [("math/bits.deBruijn32tab", laid_math_bits_deBruijn32tab), ("math/bits.deBruijn64tab", laid_math_bits_deBruijn64tab)] }
def RingTurnedSaid : Prop := ringTurnedRow.holds Tryd.pinned (OpenSpec.ofChange ringTurnedSpec)

/-- ITS FALSE NEIGHBOUR: 'it returns false'. Refute it at one input. -/
def ringTurnedWrong : ChangeSpec := { name := "ringTurned", fn := fun _ => fun
  | [d1, d2, d3] => { results := [.lit (.bool false)], args := [d1, d2, d3] }
  | _ => none }
def RingTurnedWrongFalsely : Prop := ringTurnedRow.holds Tryd.pinned (OpenSpec.ofChange ringTurnedWrong)

/-- 'jigworkslaw09.RingApart': WHATEVER THE INPUT: true; the input reads as it did. -/
def ringApartSpec : ChangeSpec := { name := "ringApart", fn := fun _ => fun
  | [d1, d2, d3] => { results := [.lit (.bool true)], args := [d1, d2, d3] }
  | _ => none }
def ringApartRow : OpenClaim := { program := "ytpijahglojichaadoor", sum := "e3635542ff121e44723326eea7c24344f4d84e448fd300617776e6c5c3d48902", func := "jigworks/jigworkslaw09.RingApart", spec := "ringApart", unfollowed := true, recurses := true, named := ["math/bits.deBruijn32tab", "math/bits.deBruijn64tab"], plainKeys := false, apart := false, laid := [("math/bits.deBruijn32tab", laid_math_bits_deBruijn32tab), ("math/bits.deBruijn64tab", laid_math_bits_deBruijn64tab)] }
def RingApartSaid : Prop := ringApartRow.holds Tryd.pinned (OpenSpec.ofChange ringApartSpec)

/-- ITS FALSE NEIGHBOUR: 'it returns false'. Refute it at one input. -/
def ringApartWrong : ChangeSpec := { name := "ringApart", fn := fun _ => fun
  | [d1, d2, d3] => { results := [.lit (.bool false)], args := [d1, d2, d3] }
  | _ => none }
def RingApartWrongFalsely : Prop := ringApartRow.holds Tryd.pinned (OpenSpec.ofChange ringApartWrong)

/-- 'jigworkstop.TopSwapped': WHATEVER THE INPUT: true; the input reads as it did. -/
def topSwappedSpec : ChangeSpec := { name := "topSwapped", fn := fun _ => fun
  | [d1, d2, d3] => { results := [.lit (.bool true)], args := [d1, d2, d3] }
  | _ => none }
def topSwappedRow : OpenClaim := { program := "ytpijahglojichaadoor", sum := "e3635542ff121e44723326eea7c24344f4d84e448fd300617776e6c5c3d48902", func := "jigworks/jigworkstop.TopSwapped", spec := "topSwapped", unfollowed := true, recurses := true, named := ["math/bits.deBruijn32tab", "math/bits.deBruijn64tab"], plainKeys := false, apart := false, laid := [("math/bits.deBruijn32tab", laid_math_bits_deBruijn32tab), ("math/bits.deBruijn64tab", laid_math_bits_deBruijn64tab)] }
def TopSwappedSaid : Prop := topSwappedRow.holds Tryd.pinned (OpenSpec.ofChange topSwappedSpec)

/-- ITS FALSE NEIGHBOUR: 'it returns false'. Refute it at one input. -/
def topSwappedWrong : ChangeSpec := { name := "topSwapped", fn := fun _ => fun
  | [d1, d2, d3] => { results := [.lit (.bool false)], args := [d1, d2, d3] }
  | _ => none }
def TopSwappedWrongFalsely : Prop := topSwappedRow.holds Tryd.pinned (OpenSpec.ofChange topSwappedWrong)

/- THE SECOND FORM. 'bulk': how many values and letters a reading holds, each counted each time it is reached (what is shared counts as often as it is met; a slice's spare places count too). A statement '..UptoSaid' is the law's where the arguments, and the package variables that the reading takes, are together of bulk at most 1048576: NARROWER than '..Said'. Prove '..Said' where nothing that the law and all that it calls make is longer than what came in: it says more and counts as full. Else prove '..UptoSaid'. A law counts once. -/
mutual
def uptoBulk {H : Type} : DataW H → Nat
  | .lit (.string bytes) => bytes.length + 1
  | .lit _ => 1
  | .nil => 1
  | .ptr d => uptoBulk d + 1
  | .slice elems spare => uptoBulkAll elems + uptoBulkAll spare + 1
  | .agg parts => uptoBulkAll parts + 1
  | .iface _ d => uptoBulk d + 1
  | .map entries => uptoBulkEntries entries + 1
  | .held _ => 1
def uptoBulkAll {H : Type} : List (DataW H) → Nat
  | [] => 0
  | d :: r => uptoBulk d + uptoBulkAll r
def uptoBulkEntries {H : Type} : List (Lit × DataW H) → Nat
  | [] => 0
  | x :: r => uptoBulkEntry x + uptoBulkEntries r
def uptoBulkEntry {H : Type} : Lit × DataW H → Nat
  | (.string bytes, d) => bytes.length + uptoBulk d + 1
  | (_, d) => uptoBulk d + 1
 end
def uptoSmall : (H : Type) → List (DataW H) → Bool := fun _ ds => decide (uptoBulkAll ds ≤ 1048576)
def OpenSpec.upto (s : _root_.Go.ChangeSpec) : _root_.Go.OpenSpec := { _root_.Go.OpenSpec.ofChange s with cond := some uptoSmall }

/-- 'jigworkslaw09.RingGives', WHERE WHAT IT READS IS OF BULK AT MOST 1048576: true; the input reads as it did. -/
def ringGivesUptoRow : OpenClaim := { program := "ytpijahglojichaadoor", sum := "e3635542ff121e44723326eea7c24344f4d84e448fd300617776e6c5c3d48902", func := "jigworks/jigworkslaw09.RingGives", spec := "ringGives", unfollowed := true, recurses := true, named := ["math/bits.deBruijn32tab", "math/bits.deBruijn64tab"], plainKeys := false, apart := false, laid := [("math/bits.deBruijn32tab", laid_math_bits_deBruijn32tab), ("math/bits.deBruijn64tab", laid_math_bits_deBruijn64tab)], narrowed := true }
def RingGivesUptoSaid : Prop := ringGivesUptoRow.holds Tryd.pinned (OpenSpec.upto ringGivesSpec)

/-- 'jigworkslaw09.RingBests', WHERE WHAT IT READS IS OF BULK AT MOST 1048576: true; the input reads as it did. -/
def ringBestsUptoRow : OpenClaim := { program := "ytpijahglojichaadoor", sum := "e3635542ff121e44723326eea7c24344f4d84e448fd300617776e6c5c3d48902", func := "jigworks/jigworkslaw09.RingBests", spec := "ringBests", unfollowed := true, recurses := true, named := ["math/bits.deBruijn32tab", "math/bits.deBruijn64tab"], plainKeys := false, apart := false, laid := [("math/bits.deBruijn32tab", laid_math_bits_deBruijn32tab), ("math/bits.deBruijn64tab", laid_math_bits_deBruijn64tab)], narrowed := true }
def RingBestsUptoSaid : Prop := ringBestsUptoRow.holds Tryd.pinned (OpenSpec.upto ringBestsSpec)

/-- 'jigworkslaw09.RingShorts', WHERE WHAT IT READS IS OF BULK AT MOST 1048576: true; the input reads as it did. -/
def ringShortsUptoRow : OpenClaim := { program := "ytpijahglojichaadoor", sum := "e3635542ff121e44723326eea7c24344f4d84e448fd300617776e6c5c3d48902", func := "jigworks/jigworkslaw09.RingShorts", spec := "ringShorts", unfollowed := true, recurses := true, named := ["math/bits.deBruijn32tab", "math/bits.deBruijn64tab"], plainKeys := false, apart := false, laid := [("math/bits.deBruijn32tab", laid_math_bits_deBruijn32tab), ("math/bits.deBruijn64tab", laid_math_bits_deBruijn64tab)], narrowed := true }
def RingShortsUptoSaid : Prop := ringShortsUptoRow.holds Tryd.pinned (OpenSpec.upto ringShortsSpec)

/-- 'jigworkslaw09.RingBest', WHERE WHAT IT READS IS OF BULK AT MOST 1048576: true; the input reads as it did. -/
def ringBestUptoRow : OpenClaim := { program := "ytpijahglojichaadoor", sum := "e3635542ff121e44723326eea7c24344f4d84e448fd300617776e6c5c3d48902", func := "jigworks/jigworkslaw09.RingBest", spec := "ringBest", unfollowed := true, recurses := true, named := ["math/bits.deBruijn32tab", "math/bits.deBruijn64tab"], plainKeys := false, apart := false, laid := [("math/bits.deBruijn32tab", laid_math_bits_deBruijn32tab), ("math/bits.deBruijn64tab", laid_math_bits_deBruijn64tab)], narrowed := true }
def RingBestUptoSaid : Prop := ringBestUptoRow.holds Tryd.pinned (OpenSpec.upto ringBestSpec)

/-- 'jigworkslaw09.RingProof', WHERE WHAT IT READS IS OF BULK AT MOST 1048576: true; the input reads as it did. -/
def ringProofUptoRow : OpenClaim := { program := "ytpijahglojichaadoor", sum := "e3635542ff121e44723326eea7c24344f4d84e448fd300617776e6c5c3d48902", func := "jigworks/jigworkslaw09.RingProof", spec := "ringProof", unfollowed := true, recurses := true, named := ["math/bits.deBruijn32tab", "math/bits.deBruijn64tab"], plainKeys := false, apart := false, laid := [("math/bits.deBruijn32tab", laid_math_bits_deBruijn32tab), ("math/bits.deBruijn64tab", laid_math_bits_deBruijn64tab)], narrowed := true }
def RingProofUptoSaid : Prop := ringProofUptoRow.holds Tryd.pinned (OpenSpec.upto ringProofSpec)

/-- 'jigworkslaw09.RingRound', WHERE WHAT IT READS IS OF BULK AT MOST 1048576: true; the input reads as it did. -/
def ringRoundUptoRow : OpenClaim := { program := "ytpijahglojichaadoor", sum := "e3635542ff121e44723326eea7c24344f4d84e448fd300617776e6c5c3d48902", func := "jigworks/jigworkslaw09.RingRound", spec := "ringRound", unfollowed := true, recurses := true, named := ["math/bits.deBruijn32tab", "math/bits.deBruijn64tab"], plainKeys := false, apart := false, laid := [("math/bits.deBruijn32tab", laid_math_bits_deBruijn32tab), ("math/bits.deBruijn64tab", laid_math_bits_deBruijn64tab)], narrowed := true }
def RingRoundUptoSaid : Prop := ringRoundUptoRow.holds Tryd.pinned (OpenSpec.upto ringRoundSpec)

/-- 'jigworkslaw09.RingMore', WHERE WHAT IT READS IS OF BULK AT MOST 1048576: true; the input reads as it did. -/
def ringMoreUptoRow : OpenClaim := { program := "ytpijahglojichaadoor", sum := "e3635542ff121e44723326eea7c24344f4d84e448fd300617776e6c5c3d48902", func := "jigworks/jigworkslaw09.RingMore", spec := "ringMore", unfollowed := true, recurses := true, named := ["math/bits.deBruijn32tab", "math/bits.deBruijn64tab"], plainKeys := false, apart := false, laid := [("math/bits.deBruijn32tab", laid_math_bits_deBruijn32tab), ("math/bits.deBruijn64tab", laid_math_bits_deBruijn64tab)], narrowed := true }
def RingMoreUptoSaid : Prop := ringMoreUptoRow.holds Tryd.pinned (OpenSpec.upto ringMoreSpec)

/-- 'jigworkslaw09.RingShort', WHERE WHAT IT READS IS OF BULK AT MOST 1048576: true; the input reads as it did. -/
def ringShortUptoRow : OpenClaim := { program := "ytpijahglojichaadoor", sum := "e3635542ff121e44723326eea7c24344f4d84e448fd300617776e6c5c3d48902", func := "jigworks/jigworkslaw09.RingShort", spec := "ringShort", unfollowed := true, recurses := true, named := ["math/bits.deBruijn32tab", "math/bits.deBruijn64tab"], plainKeys := false, apart := false, laid := [("math/bits.deBruijn32tab", laid_math_bits_deBruijn32tab), ("math/bits.deBruijn64tab", laid_math_bits_deBruijn64tab)], narrowed := true }
def RingShortUptoSaid : Prop := ringShortUptoRow.holds Tryd.pinned (OpenSpec.upto ringShortSpec)

/-- 'jigworkslaw09.RingTurned', WHERE WHAT IT READS IS OF BULK AT MOST 1048576: true; the input reads as it did. -/
def ringTurnedUptoRow : OpenClaim := { program := "ytpijahglojichaadoor", sum := "e3635542ff121e44723326eea7c24344f4d84e448fd300617776e6c5c3d48902", func := "jigworks/jigworkslaw09.RingTurned", spec := "ringTurned", unfollowed := true, recurses := true, named := ["math/bits.deBruijn32tab", "math/bits.deBruijn64tab"], plainKeys := false, apart := false, laid := [("math/bits.deBruijn32tab", laid_math_bits_deBruijn32tab), ("math/bits.deBruijn64tab", laid_math_bits_deBruijn64tab)], narrowed := true }
def RingTurnedUptoSaid : Prop := ringTurnedUptoRow.holds Tryd.pinned (OpenSpec.upto ringTurnedSpec)

/-- 'jigworkslaw09.RingApart', WHERE WHAT IT READS IS OF BULK AT MOST 1048576: true; the input reads as it did. -/
def ringApartUptoRow : OpenClaim := { program := "ytpijahglojichaadoor", sum := "e3635542ff121e44723326eea7c24344f4d84e448fd300617776e6c5c3d48902", func := "jigworks/jigworkslaw09.RingApart", spec := "ringApart", unfollowed := true, recurses := true, named := ["math/bits.deBruijn32tab", "math/bits.deBruijn64tab"], plainKeys := false, apart := false, laid := [("math/bits.deBruijn32tab", laid_math_bits_deBruijn32tab), ("math/bits.deBruijn64tab", laid_math_bits_deBruijn64tab)], narrowed := true }
def RingApartUptoSaid : Prop := ringApartUptoRow.holds Tryd.pinned (OpenSpec.upto ringApartSpec)

/-- 'jigworkstop.TopSwapped', WHERE WHAT IT READS IS OF BULK AT MOST 1048576: true; the input reads as it did. -/
def topSwappedUptoRow : OpenClaim := { program := "ytpijahglojichaadoor", sum := "e3635542ff121e44723326eea7c24344f4d84e448fd300617776e6c5c3d48902", func := "jigworks/jigworkstop.TopSwapped", spec := "topSwapped", unfollowed := true, recurses := true, named := ["math/bits.deBruijn32tab", "math/bits.deBruijn64tab"], plainKeys := false, apart := false, laid := [("math/bits.deBruijn32tab", laid_math_bits_deBruijn32tab), ("math/bits.deBruijn64tab", laid_math_bits_deBruijn64tab)], narrowed := true }
def TopSwappedUptoSaid : Prop := topSwappedUptoRow.holds Tryd.pinned (OpenSpec.upto topSwappedSpec)

end Rows
end Go.Proofs.YtpijahglojichaaDoor
