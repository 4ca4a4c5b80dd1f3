/-
  No cell of these rows narrows 'for every input' (looked for: loops, veiled, ifaces, maps, wideKeys, modest, calm, conditions, laid).
  DERIVED. THE GIVEN ROWS OF THIS SEAT. 10 by the template 'for every input the law returns true; each argument reads behind the call as it read before'; 0 by the template 'total and deterministic' (their statements: YtjlbpmcacopbpaaTotals.lean).
  GIVEN WITH THE SEED: the statements are not yours to turn. If you find one false, say at which input.
  Laid BY PROGRAM, IN A SANDBOX (cutbox-rows.mjs): the forced cells as the released guide's own fill.sh prints them over the translation 47546a4e8dee7b9c… (all of the seat's roots in one cut). By AI agents, Wed Nov 11 2026. No macro, syntax, notation, axiom, sorry.
-/
import Derived.Test.YtjlbpmcacopbpaaChecked
import GoSem.Claim
import GoSem.ClaimJoined
import GoSem.ClaimMapViews
import Derived.JoinedTies
import Derived.KernelRfl
namespace Go.Proofs.Ytjlbpmcacopbpaa
/- THE CELL 'sum', in the pinned program and in every row, IS THE sha256 OF THE DUMP (.gsa) THAT YtjlbpmcacopbpaaProg.lean LOADS. Nothing in Lean hashes anything: it is a label: what it is worth is what the hold of that sum in a sandbox is worth. -/
noncomputable def Try.pinned : Pinned := { name := "ytjlbpmcacopbpaa", sum := "47546a4e8dee7b9cb9f4fe03015366775aeb04e32385b54e034d7f4469f6bbd8", checked := Try.checked }
namespace Rows
def none {H : Type} : Left H := { results := [], args := [] }

/-- 'jigworkslaw05.PressSheets': WHATEVER THE INPUT: true; the input reads as it did. -/
def pressSheetsSpec : ChangeSpec := { name := "pressSheets", fn := fun _ => fun
  | [d1, d2, d3, d4] => { results := [.lit (.bool true)], args := [d1, d2, d3, d4] }
  | _ => none }
def pressSheetsRow : OpenClaim := { program := "ytjlbpmcacopbpaa", sum := "47546a4e8dee7b9cb9f4fe03015366775aeb04e32385b54e034d7f4469f6bbd8", func := "jigworks/jigworkslaw05.PressSheets", spec := "pressSheets", unfollowed := true, recurses := true, apart := false }
def PressSheetsSaid : Prop := pressSheetsRow.holds Try.pinned (OpenSpec.ofChange pressSheetsSpec)

/-- ITS FALSE NEIGHBOUR: 'it returns false'. Refute it at one input. -/
def pressSheetsWrong : ChangeSpec := { name := "pressSheets", fn := fun _ => fun
  | [d1, d2, d3, d4] => { results := [.lit (.bool false)], args := [d1, d2, d3, d4] }
  | _ => none }
def PressSheetsWrongFalsely : Prop := pressSheetsRow.holds Try.pinned (OpenSpec.ofChange pressSheetsWrong)

/-- 'jigworkslaw05.PressRuns': WHATEVER THE INPUT: true; the input reads as it did. -/
def pressRunsSpec : ChangeSpec := { name := "pressRuns", fn := fun _ => fun
  | [d1, d2] => { results := [.lit (.bool true)], args := [d1, d2] }
  | _ => none }
def pressRunsRow : OpenClaim := { program := "ytjlbpmcacopbpaa", sum := "47546a4e8dee7b9cb9f4fe03015366775aeb04e32385b54e034d7f4469f6bbd8", func := "jigworks/jigworkslaw05.PressRuns", spec := "pressRuns", unfollowed := true, recurses := true, apart := false }
def PressRunsSaid : Prop := pressRunsRow.holds Try.pinned (OpenSpec.ofChange pressRunsSpec)

/-- ITS FALSE NEIGHBOUR: 'it returns false'. Refute it at one input. -/
def pressRunsWrong : ChangeSpec := { name := "pressRuns", fn := fun _ => fun
  | [d1, d2] => { results := [.lit (.bool false)], args := [d1, d2] }
  | _ => none }
def PressRunsWrongFalsely : Prop := pressRunsRow.holds Try.pinned (OpenSpec.ofChange pressRunsWrong)

/-- 'jigworkslaw05.PressBests': WHATEVER THE INPUT: true; the input reads as it did. -/
def pressBestsSpec : ChangeSpec := { name := "pressBests", fn := fun _ => fun
  | [d] => { results := [.lit (.bool true)], args := [d] }
  | _ => none }
def pressBestsRow : OpenClaim := { program := "ytjlbpmcacopbpaa", sum := "47546a4e8dee7b9cb9f4fe03015366775aeb04e32385b54e034d7f4469f6bbd8", func := "jigworks/jigworkslaw05.PressBests", spec := "pressBests", unfollowed := true, recurses := true, apart := false }
def PressBestsSaid : Prop := pressBestsRow.holds Try.pinned (OpenSpec.ofChange pressBestsSpec)

/-- ITS FALSE NEIGHBOUR: 'it returns false'. Refute it at one input. -/
def pressBestsWrong : ChangeSpec := { name := "pressBests", fn := fun _ => fun
  | [d] => { results := [.lit (.bool false)], args := [d] }
  | _ => none }
def PressBestsWrongFalsely : Prop := pressBestsRow.holds Try.pinned (OpenSpec.ofChange pressBestsWrong)

/-- 'jigworkslaw05.PressTrue': WHATEVER THE INPUT: true; the input reads as it did. -/
def pressTrueSpec : ChangeSpec := { name := "pressTrue", fn := fun _ => fun
  | [d1, d2, d3, d4, d5, d6] => { results := [.lit (.bool true)], args := [d1, d2, d3, d4, d5, d6] }
  | _ => none }
def pressTrueRow : OpenClaim := { program := "ytjlbpmcacopbpaa", sum := "47546a4e8dee7b9cb9f4fe03015366775aeb04e32385b54e034d7f4469f6bbd8", func := "jigworks/jigworkslaw05.PressTrue", spec := "pressTrue", unfollowed := true, recurses := true, apart := false }
def PressTrueSaid : Prop := pressTrueRow.holds Try.pinned (OpenSpec.ofChange pressTrueSpec)

/-- ITS FALSE NEIGHBOUR: 'it returns false'. Refute it at one input. -/
def pressTrueWrong : ChangeSpec := { name := "pressTrue", fn := fun _ => fun
  | [d1, d2, d3, d4, d5, d6] => { results := [.lit (.bool false)], args := [d1, d2, d3, d4, d5, d6] }
  | _ => none }
def PressTrueWrongFalsely : Prop := pressTrueRow.holds Try.pinned (OpenSpec.ofChange pressTrueWrong)

/-- 'jigworkslaw05.PressEnds': WHATEVER THE INPUT: true; the input reads as it did. -/
def pressEndsSpec : ChangeSpec := { name := "pressEnds", fn := fun _ => fun
  | [d1, d2, d3, d4, d5] => { results := [.lit (.bool true)], args := [d1, d2, d3, d4, d5] }
  | _ => none }
def pressEndsRow : OpenClaim := { program := "ytjlbpmcacopbpaa", sum := "47546a4e8dee7b9cb9f4fe03015366775aeb04e32385b54e034d7f4469f6bbd8", func := "jigworks/jigworkslaw05.PressEnds", spec := "pressEnds", unfollowed := true, recurses := true, apart := false }
def PressEndsSaid : Prop := pressEndsRow.holds Try.pinned (OpenSpec.ofChange pressEndsSpec)

/-- ITS FALSE NEIGHBOUR: 'it returns false'. Refute it at one input. -/
def pressEndsWrong : ChangeSpec := { name := "pressEnds", fn := fun _ => fun
  | [d1, d2, d3, d4, d5] => { results := [.lit (.bool false)], args := [d1, d2, d3, d4, d5] }
  | _ => none }
def PressEndsWrongFalsely : Prop := pressEndsRow.holds Try.pinned (OpenSpec.ofChange pressEndsWrong)

/-- 'jigworkslaw05.PressBest': WHATEVER THE INPUT: true; the input reads as it did. -/
def pressBestSpec : ChangeSpec := { name := "pressBest", fn := fun _ => fun
  | [d1, d2] => { results := [.lit (.bool true)], args := [d1, d2] }
  | _ => none }
def pressBestRow : OpenClaim := { program := "ytjlbpmcacopbpaa", sum := "47546a4e8dee7b9cb9f4fe03015366775aeb04e32385b54e034d7f4469f6bbd8", func := "jigworks/jigworkslaw05.PressBest", spec := "pressBest", unfollowed := true, recurses := true, apart := false }
def PressBestSaid : Prop := pressBestRow.holds Try.pinned (OpenSpec.ofChange pressBestSpec)

/-- ITS FALSE NEIGHBOUR: 'it returns false'. Refute it at one input. -/
def pressBestWrong : ChangeSpec := { name := "pressBest", fn := fun _ => fun
  | [d1, d2] => { results := [.lit (.bool false)], args := [d1, d2] }
  | _ => none }
def PressBestWrongFalsely : Prop := pressBestRow.holds Try.pinned (OpenSpec.ofChange pressBestWrong)

/-- 'jigworkslaw05.PressRule': WHATEVER THE INPUT: true; the input reads as it did. -/
def pressRuleSpec : ChangeSpec := { name := "pressRule", fn := fun _ => fun
  | [d] => { results := [.lit (.bool true)], args := [d] }
  | _ => none }
def pressRuleRow : OpenClaim := { program := "ytjlbpmcacopbpaa", sum := "47546a4e8dee7b9cb9f4fe03015366775aeb04e32385b54e034d7f4469f6bbd8", func := "jigworks/jigworkslaw05.PressRule", spec := "pressRule", unfollowed := true, recurses := true, apart := false }
def PressRuleSaid : Prop := pressRuleRow.holds Try.pinned (OpenSpec.ofChange pressRuleSpec)

/-- ITS FALSE NEIGHBOUR: 'it returns false'. Refute it at one input. -/
def pressRuleWrong : ChangeSpec := { name := "pressRule", fn := fun _ => fun
  | [d] => { results := [.lit (.bool false)], args := [d] }
  | _ => none }
def PressRuleWrongFalsely : Prop := pressRuleRow.holds Try.pinned (OpenSpec.ofChange pressRuleWrong)

/-- 'jigworkslaw05.PressWhy': WHATEVER THE INPUT: true; the input reads as it did. -/
def pressWhySpec : ChangeSpec := { name := "pressWhy", fn := fun _ => fun
  | [d1, d2] => { results := [.lit (.bool true)], args := [d1, d2] }
  | _ => none }
def pressWhyRow : OpenClaim := { program := "ytjlbpmcacopbpaa", sum := "47546a4e8dee7b9cb9f4fe03015366775aeb04e32385b54e034d7f4469f6bbd8", func := "jigworks/jigworkslaw05.PressWhy", spec := "pressWhy", unfollowed := true, recurses := true, apart := false }
def PressWhySaid : Prop := pressWhyRow.holds Try.pinned (OpenSpec.ofChange pressWhySpec)

/-- ITS FALSE NEIGHBOUR: 'it returns false'. Refute it at one input. -/
def pressWhyWrong : ChangeSpec := { name := "pressWhy", fn := fun _ => fun
  | [d1, d2] => { results := [.lit (.bool false)], args := [d1, d2] }
  | _ => none }
def PressWhyWrongFalsely : Prop := pressWhyRow.holds Try.pinned (OpenSpec.ofChange pressWhyWrong)

/-- 'jigworkslaw05.PressMore': WHATEVER THE INPUT: true; the input reads as it did. -/
def pressMoreSpec : ChangeSpec := { name := "pressMore", fn := fun _ => fun
  | [d1, d2, d3, d4, d5, d6, d7, d8] => { results := [.lit (.bool true)], args := [d1, d2, d3, d4, d5, d6, d7, d8] }
  | _ => none }
def pressMoreRow : OpenClaim := { program := "ytjlbpmcacopbpaa", sum := "47546a4e8dee7b9cb9f4fe03015366775aeb04e32385b54e034d7f4469f6bbd8", func := "jigworks/jigworkslaw05.PressMore", spec := "pressMore", unfollowed := true, recurses := true, apart := false }
def PressMoreSaid : Prop := pressMoreRow.holds Try.pinned (OpenSpec.ofChange pressMoreSpec)

/-- ITS FALSE NEIGHBOUR: 'it returns false'. Refute it at one input. -/
def pressMoreWrong : ChangeSpec := { name := "pressMore", fn := fun _ => fun
  | [d1, d2, d3, d4, d5, d6, d7, d8] => { results := [.lit (.bool false)], args := [d1, d2, d3, d4, d5, d6, d7, d8] }
  | _ => none }
def PressMoreWrongFalsely : Prop := pressMoreRow.holds Try.pinned (OpenSpec.ofChange pressMoreWrong)

/-- 'jigworkslaw05.PressTurned': WHATEVER THE INPUT: true; the input reads as it did. -/
def pressTurnedSpec : ChangeSpec := { name := "pressTurned", fn := fun _ => fun
  | [d1, d2, d3] => { results := [.lit (.bool true)], args := [d1, d2, d3] }
  | _ => none }
def pressTurnedRow : OpenClaim := { program := "ytjlbpmcacopbpaa", sum := "47546a4e8dee7b9cb9f4fe03015366775aeb04e32385b54e034d7f4469f6bbd8", func := "jigworks/jigworkslaw05.PressTurned", spec := "pressTurned", unfollowed := true, recurses := true, apart := false }
def PressTurnedSaid : Prop := pressTurnedRow.holds Try.pinned (OpenSpec.ofChange pressTurnedSpec)

/-- ITS FALSE NEIGHBOUR: 'it returns false'. Refute it at one input. -/
def pressTurnedWrong : ChangeSpec := { name := "pressTurned", fn := fun _ => fun
  | [d1, d2, d3] => { results := [.lit (.bool false)], args := [d1, d2, d3] }
  | _ => none }
def PressTurnedWrongFalsely : Prop := pressTurnedRow.holds Try.pinned (OpenSpec.ofChange pressTurnedWrong)

/- THE SECOND FORM. 'bulk': how many values and letters a reading holds, each counted each time it is reached (what is shared counts as often as it is met; a slice's spare places count too). A statement '..UptoSaid' is the law's where the arguments, and the package variables that the reading takes, are together of bulk at most 1048576: NARROWER than '..Said'. Prove '..Said' where nothing that the law and all that it calls make is longer than what came in: it says more and counts as full. Else prove '..UptoSaid'. A law counts once. -/
mutual
def uptoBulk {H : Type} : DataW H → Nat
  | .lit (.string bytes) => bytes.length + 1
  | .lit _ => 1
  | .nil => 1
  | .ptr d => uptoBulk d + 1
  | .slice elems spare => uptoBulkAll elems + uptoBulkAll spare + 1
  | .agg parts => uptoBulkAll parts + 1
  | .iface _ d => uptoBulk d + 1
  | .map entries => uptoBulkEntries entries + 1
  | .held _ => 1
def uptoBulkAll {H : Type} : List (DataW H) → Nat
  | [] => 0
  | d :: r => uptoBulk d + uptoBulkAll r
def uptoBulkEntries {H : Type} : List (Lit × DataW H) → Nat
  | [] => 0
  | x :: r => uptoBulkEntry x + uptoBulkEntries r
def uptoBulkEntry {H : Type} : Lit × DataW H → Nat
  | (.string bytes, d) => bytes.length + uptoBulk d + 1
  | (_, d) => uptoBulk d + 1
 end
def uptoSmall : (H : Type) → List (DataW H) → Bool := fun _ ds => decide (uptoBulkAll ds ≤ 1048576)
def OpenSpec.upto (s : _root_.Go.ChangeSpec) : _root_.Go.OpenSpec := { _root_.Go.OpenSpec.ofChange s with cond := some uptoSmall }

/-- 'jigworkslaw05.PressSheets', WHERE WHAT IT READS IS OF BULK AT MOST 1048576: true; the input reads as it did. -/
def pressSheetsUptoRow : OpenClaim := { program := "ytjlbpmcacopbpaa", sum := "47546a4e8dee7b9cb9f4fe03015366775aeb04e32385b54e034d7f4469f6bbd8", func := "jigworks/jigworkslaw05.PressSheets", spec := "pressSheets", unfollowed := true, recurses := true, apart := false, narrowed := true }
def PressSheetsUptoSaid : Prop := pressSheetsUptoRow.holds Try.pinned (OpenSpec.upto pressSheetsSpec)

/-- 'jigworkslaw05.PressRuns', WHERE WHAT IT READS IS OF BULK AT MOST 1048576: true; the input reads as it did. -/
def pressRunsUptoRow : OpenClaim := { program := "ytjlbpmcacopbpaa", sum := "47546a4e8dee7b9cb9f4fe03015366775aeb04e32385b54e034d7f4469f6bbd8", func := "jigworks/jigworkslaw05.PressRuns", spec := "pressRuns", unfollowed := true, recurses := true, apart := false, narrowed := true }
def PressRunsUptoSaid : Prop := pressRunsUptoRow.holds Try.pinned (OpenSpec.upto pressRunsSpec)

/-- 'jigworkslaw05.PressBests', WHERE WHAT IT READS IS OF BULK AT MOST 1048576: true; the input reads as it did. -/
def pressBestsUptoRow : OpenClaim := { program := "ytjlbpmcacopbpaa", sum := "47546a4e8dee7b9cb9f4fe03015366775aeb04e32385b54e034d7f4469f6bbd8", func := "jigworks/jigworkslaw05.PressBests", spec := "pressBests", unfollowed := true, recurses := true, apart := false, narrowed := true }
def PressBestsUptoSaid : Prop := pressBestsUptoRow.holds Try.pinned (OpenSpec.upto pressBestsSpec)

/-- 'jigworkslaw05.PressTrue', WHERE WHAT IT READS IS OF BULK AT MOST 1048576: true; the input reads as it did. -/
def pressTrueUptoRow : OpenClaim := { program := "ytjlbpmcacopbpaa", sum := "47546a4e8dee7b9cb9f4fe03015366775aeb04e32385b54e034d7f4469f6bbd8", func := "jigworks/jigworkslaw05.PressTrue", spec := "pressTrue", unfollowed := true, recurses := true, apart := false, narrowed := true }
def PressTrueUptoSaid : Prop := pressTrueUptoRow.holds Try.pinned (OpenSpec.upto pressTrueSpec)

/-- 'jigworkslaw05.PressEnds', WHERE WHAT IT READS IS OF BULK AT MOST 1048576: true; the input reads as it did. -/
def pressEndsUptoRow : OpenClaim := { program := "ytjlbpmcacopbpaa", sum := "47546a4e8dee7b9cb9f4fe03015366775aeb04e32385b54e034d7f4469f6bbd8", func := "jigworks/jigworkslaw05.PressEnds", spec := "pressEnds", unfollowed := true, recurses := true, apart := false, narrowed := true }
def PressEndsUptoSaid : Prop := pressEndsUptoRow.holds Try.pinned (OpenSpec.upto pressEndsSpec)

/-- 'jigworkslaw05.PressBest', WHERE WHAT IT READS IS OF BULK AT MOST 1048576: true; the input reads as it did. -/
def pressBestUptoRow : OpenClaim := { program := "ytjlbpmcacopbpaa", sum := "47546a4e8dee7b9cb9f4fe03015366775aeb04e32385b54e034d7f4469f6bbd8", func := "jigworks/jigworkslaw05.PressBest", spec := "pressBest", unfollowed := true, recurses := true, apart := false, narrowed := true }
def PressBestUptoSaid : Prop := pressBestUptoRow.holds Try.pinned (OpenSpec.upto pressBestSpec)

/-- 'jigworkslaw05.PressRule', WHERE WHAT IT READS IS OF BULK AT MOST 1048576: true; the input reads as it did. -/
def pressRuleUptoRow : OpenClaim := { program := "ytjlbpmcacopbpaa", sum := "47546a4e8dee7b9cb9f4fe03015366775aeb04e32385b54e034d7f4469f6bbd8", func := "jigworks/jigworkslaw05.PressRule", spec := "pressRule", unfollowed := true, recurses := true, apart := false, narrowed := true }
def PressRuleUptoSaid : Prop := pressRuleUptoRow.holds Try.pinned (OpenSpec.upto pressRuleSpec)

/-- 'jigworkslaw05.PressWhy', WHERE WHAT IT READS IS OF BULK AT MOST 1048576: true; the input reads as it did. -/
def pressWhyUptoRow : OpenClaim := { program := "ytjlbpmcacopbpaa", sum := "47546a4e8dee7b9cb9f4fe03015366775aeb04e32385b54e034d7f4469f6bbd8", func := "jigworks/jigworkslaw05.PressWhy", spec := "pressWhy", unfollowed := true, recurses := true, apart := false, narrowed := true }
def PressWhyUptoSaid : Prop := pressWhyUptoRow.holds Try.pinned (OpenSpec.upto pressWhySpec)

/-- 'jigworkslaw05.PressMore', WHERE WHAT IT READS IS OF BULK AT MOST 1048576: true; the input reads as it did. -/
def pressMoreUptoRow : OpenClaim := { program := "ytjlbpmcacopbpaa", sum := "47546a4e8dee7b9cb9f4fe03015366775aeb04e32385b54e034d7f4469f6bbd8", func := "jigworks/jigworkslaw05.PressMore", spec := "pressMore", unfollowed := true, recurses := true, apart := false, narrowed := true }
def PressMoreUptoSaid : Prop := pressMoreUptoRow.holds Try.pinned (OpenSpec.upto pressMoreSpec)

/-- 'jigworkslaw05.PressTurned', WHERE WHAT IT READS IS OF BULK AT MOST 1048576: true; the input reads as it did. -/
def pressTurnedUptoRow : OpenClaim := { program := "ytjlbpmcacopbpaa", sum := "47546a4e8dee7b9cb9f4fe03015366775aeb04e32385b54e034d7f4469f6bbd8", func := "jigworks/jigworkslaw05.PressTurned", spec := "pressTurned", unfollowed := true, recurses := true, apart := false, narrowed := true }
def PressTurnedUptoSaid : Prop := pressTurnedUptoRow.holds Try.pinned (OpenSpec.upto pressTurnedSpec)

end Rows
end Go.Proofs.Ytjlbpmcacopbpaa
