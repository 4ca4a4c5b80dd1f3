/-
  No cell of these rows narrows 'for every input' (looked for: loops, veiled, ifaces, maps, wideKeys, modest, calm, conditions, laid).
  DERIVED. THE GIVEN ROWS OF THIS SEAT. 9 by the template 'for every input the law returns true; each argument reads behind the call as it read before'; 0 by the template 'total and deterministic' (their statements: YtofjipmheckmjaaTotals.lean).
  GIVEN WITH THE SEED: the statements are not yours to turn. If you find one false, say at which input.
  Laid BY PROGRAM, IN A SANDBOX (cutbox-rows.mjs): the forced cells as the released guide's own fill.sh prints them over the translation ebeb6d0f9ca8c7a7… (all of the seat's roots in one cut). By AI agents, Wed Nov 11 2026. No macro, syntax, notation, axiom, sorry.
-/
import Derived.Test.YtofjipmheckmjaaChecked
import GoSem.Claim
import GoSem.ClaimJoined
import GoSem.ClaimMapViews
import Derived.JoinedTies
import Derived.KernelRfl
namespace Go.Proofs.Ytofjipmheckmjaa
/- THE CELL 'sum', in the pinned program and in every row, IS THE sha256 OF THE DUMP (.gsa) THAT YtofjipmheckmjaaProg.lean LOADS. Nothing in Lean hashes anything: it is a label: what it is worth is what the hold of that sum in a sandbox is worth. -/
noncomputable def Try.pinned : Pinned := { name := "ytofjipmheckmjaa", sum := "ebeb6d0f9ca8c7a7ed4a71df8e14fbea03d244001d13ae7b34dcb66de77112fa", checked := Try.checked }
namespace Rows
def none {H : Type} : Left H := { results := [], args := [] }

/-- 'jigworkslaw06.ScaleReads': WHATEVER THE INPUT: true; the input reads as it did. -/
def scaleReadsSpec : ChangeSpec := { name := "scaleReads", fn := fun _ => fun
  | [d1, d2, d3, d4] => { results := [.lit (.bool true)], args := [d1, d2, d3, d4] }
  | _ => none }
def scaleReadsRow : OpenClaim := { program := "ytofjipmheckmjaa", sum := "ebeb6d0f9ca8c7a7ed4a71df8e14fbea03d244001d13ae7b34dcb66de77112fa", func := "jigworks/jigworkslaw06.ScaleReads", spec := "scaleReads", unfollowed := true, recurses := true, plainKeys := false, apart := false }
def ScaleReadsSaid : Prop := scaleReadsRow.holds Try.pinned (OpenSpec.ofChange scaleReadsSpec)

/-- ITS FALSE NEIGHBOUR: 'it returns false'. Refute it at one input. -/
def scaleReadsWrong : ChangeSpec := { name := "scaleReads", fn := fun _ => fun
  | [d1, d2, d3, d4] => { results := [.lit (.bool false)], args := [d1, d2, d3, d4] }
  | _ => none }
def ScaleReadsWrongFalsely : Prop := scaleReadsRow.holds Try.pinned (OpenSpec.ofChange scaleReadsWrong)

/-- 'jigworkslaw06.ScaleTests': WHATEVER THE INPUT: true; the input reads as it did. -/
def scaleTestsSpec : ChangeSpec := { name := "scaleTests", fn := fun _ => fun
  | [d1, d2, d3] => { results := [.lit (.bool true)], args := [d1, d2, d3] }
  | _ => none }
def scaleTestsRow : OpenClaim := { program := "ytofjipmheckmjaa", sum := "ebeb6d0f9ca8c7a7ed4a71df8e14fbea03d244001d13ae7b34dcb66de77112fa", func := "jigworks/jigworkslaw06.ScaleTests", spec := "scaleTests", unfollowed := true, recurses := true, plainKeys := false, apart := false }
def ScaleTestsSaid : Prop := scaleTestsRow.holds Try.pinned (OpenSpec.ofChange scaleTestsSpec)

/-- ITS FALSE NEIGHBOUR: 'it returns false'. Refute it at one input. -/
def scaleTestsWrong : ChangeSpec := { name := "scaleTests", fn := fun _ => fun
  | [d1, d2, d3] => { results := [.lit (.bool false)], args := [d1, d2, d3] }
  | _ => none }
def ScaleTestsWrongFalsely : Prop := scaleTestsRow.holds Try.pinned (OpenSpec.ofChange scaleTestsWrong)

/-- 'jigworkslaw06.ScaleNames': WHATEVER THE INPUT: true; the input reads as it did. -/
def scaleNamesSpec : ChangeSpec := { name := "scaleNames", fn := fun _ => fun
  | [] => { results := [.lit (.bool true)], args := [] }
  | _ => none }
def scaleNamesRow : OpenClaim := { program := "ytofjipmheckmjaa", sum := "ebeb6d0f9ca8c7a7ed4a71df8e14fbea03d244001d13ae7b34dcb66de77112fa", func := "jigworks/jigworkslaw06.ScaleNames", spec := "scaleNames", unfollowed := true, recurses := true, plainKeys := false, apart := false }
def ScaleNamesSaid : Prop := scaleNamesRow.holds Try.pinned (OpenSpec.ofChange scaleNamesSpec)

/-- ITS FALSE NEIGHBOUR: 'it returns false'. Refute it at one input. -/
def scaleNamesWrong : ChangeSpec := { name := "scaleNames", fn := fun _ => fun
  | [] => { results := [.lit (.bool false)], args := [] }
  | _ => none }
def ScaleNamesWrongFalsely : Prop := scaleNamesRow.holds Try.pinned (OpenSpec.ofChange scaleNamesWrong)

/-- 'jigworkslaw06.ScaleTrue': WHATEVER THE INPUT: true; the input reads as it did. -/
def scaleTrueSpec : ChangeSpec := { name := "scaleTrue", fn := fun _ => fun
  | [d1, d2, d3] => { results := [.lit (.bool true)], args := [d1, d2, d3] }
  | _ => none }
def scaleTrueRow : OpenClaim := { program := "ytofjipmheckmjaa", sum := "ebeb6d0f9ca8c7a7ed4a71df8e14fbea03d244001d13ae7b34dcb66de77112fa", func := "jigworks/jigworkslaw06.ScaleTrue", spec := "scaleTrue", unfollowed := true, recurses := true, plainKeys := false, apart := false }
def ScaleTrueSaid : Prop := scaleTrueRow.holds Try.pinned (OpenSpec.ofChange scaleTrueSpec)

/-- ITS FALSE NEIGHBOUR: 'it returns false'. Refute it at one input. -/
def scaleTrueWrong : ChangeSpec := { name := "scaleTrue", fn := fun _ => fun
  | [d1, d2, d3] => { results := [.lit (.bool false)], args := [d1, d2, d3] }
  | _ => none }
def ScaleTrueWrongFalsely : Prop := scaleTrueRow.holds Try.pinned (OpenSpec.ofChange scaleTrueWrong)

/-- 'jigworkslaw06.ScaleSlips': WHATEVER THE INPUT: true; the input reads as it did. -/
def scaleSlipsSpec : ChangeSpec := { name := "scaleSlips", fn := fun _ => fun
  | [d1, d2, d3] => { results := [.lit (.bool true)], args := [d1, d2, d3] }
  | _ => none }
def scaleSlipsRow : OpenClaim := { program := "ytofjipmheckmjaa", sum := "ebeb6d0f9ca8c7a7ed4a71df8e14fbea03d244001d13ae7b34dcb66de77112fa", func := "jigworks/jigworkslaw06.ScaleSlips", spec := "scaleSlips", unfollowed := true, recurses := true, plainKeys := false, apart := false }
def ScaleSlipsSaid : Prop := scaleSlipsRow.holds Try.pinned (OpenSpec.ofChange scaleSlipsSpec)

/-- ITS FALSE NEIGHBOUR: 'it returns false'. Refute it at one input. -/
def scaleSlipsWrong : ChangeSpec := { name := "scaleSlips", fn := fun _ => fun
  | [d1, d2, d3] => { results := [.lit (.bool false)], args := [d1, d2, d3] }
  | _ => none }
def ScaleSlipsWrongFalsely : Prop := scaleSlipsRow.holds Try.pinned (OpenSpec.ofChange scaleSlipsWrong)

/-- 'jigworkslaw06.ScaleEnough': WHATEVER THE INPUT: true; the input reads as it did. -/
def scaleEnoughSpec : ChangeSpec := { name := "scaleEnough", fn := fun _ => fun
  | [d1, d2, d3] => { results := [.lit (.bool true)], args := [d1, d2, d3] }
  | _ => none }
def scaleEnoughRow : OpenClaim := { program := "ytofjipmheckmjaa", sum := "ebeb6d0f9ca8c7a7ed4a71df8e14fbea03d244001d13ae7b34dcb66de77112fa", func := "jigworks/jigworkslaw06.ScaleEnough", spec := "scaleEnough", unfollowed := true, recurses := true, plainKeys := false, apart := false }
def ScaleEnoughSaid : Prop := scaleEnoughRow.holds Try.pinned (OpenSpec.ofChange scaleEnoughSpec)

/-- ITS FALSE NEIGHBOUR: 'it returns false'. Refute it at one input. -/
def scaleEnoughWrong : ChangeSpec := { name := "scaleEnough", fn := fun _ => fun
  | [d1, d2, d3] => { results := [.lit (.bool false)], args := [d1, d2, d3] }
  | _ => none }
def ScaleEnoughWrongFalsely : Prop := scaleEnoughRow.holds Try.pinned (OpenSpec.ofChange scaleEnoughWrong)

/-- 'jigworkslaw06.ScaleNext': WHATEVER THE INPUT: true; the input reads as it did. -/
def scaleNextSpec : ChangeSpec := { name := "scaleNext", fn := fun _ => fun
  | [d1, d2, d3, d4] => { results := [.lit (.bool true)], args := [d1, d2, d3, d4] }
  | _ => none }
def scaleNextRow : OpenClaim := { program := "ytofjipmheckmjaa", sum := "ebeb6d0f9ca8c7a7ed4a71df8e14fbea03d244001d13ae7b34dcb66de77112fa", func := "jigworks/jigworkslaw06.ScaleNext", spec := "scaleNext", unfollowed := true, recurses := true, plainKeys := false, apart := false }
def ScaleNextSaid : Prop := scaleNextRow.holds Try.pinned (OpenSpec.ofChange scaleNextSpec)

/-- ITS FALSE NEIGHBOUR: 'it returns false'. Refute it at one input. -/
def scaleNextWrong : ChangeSpec := { name := "scaleNext", fn := fun _ => fun
  | [d1, d2, d3, d4] => { results := [.lit (.bool false)], args := [d1, d2, d3, d4] }
  | _ => none }
def ScaleNextWrongFalsely : Prop := scaleNextRow.holds Try.pinned (OpenSpec.ofChange scaleNextWrong)

/-- 'jigworkslaw06.ScaleMore': WHATEVER THE INPUT: true; the input reads as it did. -/
def scaleMoreSpec : ChangeSpec := { name := "scaleMore", fn := fun _ => fun
  | [d1, d2, d3, d4, d5] => { results := [.lit (.bool true)], args := [d1, d2, d3, d4, d5] }
  | _ => none }
def scaleMoreRow : OpenClaim := { program := "ytofjipmheckmjaa", sum := "ebeb6d0f9ca8c7a7ed4a71df8e14fbea03d244001d13ae7b34dcb66de77112fa", func := "jigworks/jigworkslaw06.ScaleMore", spec := "scaleMore", unfollowed := true, recurses := true, plainKeys := false, apart := false }
def ScaleMoreSaid : Prop := scaleMoreRow.holds Try.pinned (OpenSpec.ofChange scaleMoreSpec)

/-- ITS FALSE NEIGHBOUR: 'it returns false'. Refute it at one input. -/
def scaleMoreWrong : ChangeSpec := { name := "scaleMore", fn := fun _ => fun
  | [d1, d2, d3, d4, d5] => { results := [.lit (.bool false)], args := [d1, d2, d3, d4, d5] }
  | _ => none }
def ScaleMoreWrongFalsely : Prop := scaleMoreRow.holds Try.pinned (OpenSpec.ofChange scaleMoreWrong)

/-- 'jigworkslaw06.ScaleOwns': WHATEVER THE INPUT: true; the input reads as it did. -/
def scaleOwnsSpec : ChangeSpec := { name := "scaleOwns", fn := fun _ => fun
  | [d1, d2, d3] => { results := [.lit (.bool true)], args := [d1, d2, d3] }
  | _ => none }
def scaleOwnsRow : OpenClaim := { program := "ytofjipmheckmjaa", sum := "ebeb6d0f9ca8c7a7ed4a71df8e14fbea03d244001d13ae7b34dcb66de77112fa", func := "jigworks/jigworkslaw06.ScaleOwns", spec := "scaleOwns", unfollowed := true, recurses := true, plainKeys := false, apart := false }
def ScaleOwnsSaid : Prop := scaleOwnsRow.holds Try.pinned (OpenSpec.ofChange scaleOwnsSpec)

/-- ITS FALSE NEIGHBOUR: 'it returns false'. Refute it at one input. -/
def scaleOwnsWrong : ChangeSpec := { name := "scaleOwns", fn := fun _ => fun
  | [d1, d2, d3] => { results := [.lit (.bool false)], args := [d1, d2, d3] }
  | _ => none }
def ScaleOwnsWrongFalsely : Prop := scaleOwnsRow.holds Try.pinned (OpenSpec.ofChange scaleOwnsWrong)

/- THE SECOND FORM. 'bulk': how many values and letters a reading holds, each counted each time it is reached (what is shared counts as often as it is met; a slice's spare places count too). A statement '..UptoSaid' is the law's where the arguments, and the package variables that the reading takes, are together of bulk at most 1048576: NARROWER than '..Said'. Prove '..Said' where nothing that the law and all that it calls make is longer than what came in: it says more and counts as full. Else prove '..UptoSaid'. A law counts once. -/
mutual
def uptoBulk {H : Type} : DataW H → Nat
  | .lit (.string bytes) => bytes.length + 1
  | .lit _ => 1
  | .nil => 1
  | .ptr d => uptoBulk d + 1
  | .slice elems spare => uptoBulkAll elems + uptoBulkAll spare + 1
  | .agg parts => uptoBulkAll parts + 1
  | .iface _ d => uptoBulk d + 1
  | .map entries => uptoBulkEntries entries + 1
  | .held _ => 1
def uptoBulkAll {H : Type} : List (DataW H) → Nat
  | [] => 0
  | d :: r => uptoBulk d + uptoBulkAll r
def uptoBulkEntries {H : Type} : List (Lit × DataW H) → Nat
  | [] => 0
  | x :: r => uptoBulkEntry x + uptoBulkEntries r
def uptoBulkEntry {H : Type} : Lit × DataW H → Nat
  | (.string bytes, d) => bytes.length + uptoBulk d + 1
  | (_, d) => uptoBulk d + 1
 end
def uptoSmall : (H : Type) → List (DataW H) → Bool := fun _ ds => decide (uptoBulkAll ds ≤ 1048576)
def OpenSpec.upto (s : _root_.Go.ChangeSpec) : _root_.Go.OpenSpec := { _root_.Go.OpenSpec.ofChange s with cond := some uptoSmall }

/-- 'jigworkslaw06.ScaleReads', WHERE WHAT IT READS IS OF BULK AT MOST 1048576: true; the input reads as it did. -/
def scaleReadsUptoRow : OpenClaim := { program := "ytofjipmheckmjaa", sum := "ebeb6d0f9ca8c7a7ed4a71df8e14fbea03d244001d13ae7b34dcb66de77112fa", func := "jigworks/jigworkslaw06.ScaleReads", spec := "scaleReads", unfollowed := true, recurses := true, plainKeys := false, apart := false, narrowed := true }
def ScaleReadsUptoSaid : Prop := scaleReadsUptoRow.holds Try.pinned (OpenSpec.upto scaleReadsSpec)

/-- 'jigworkslaw06.ScaleTests', WHERE WHAT IT READS IS OF BULK AT MOST 1048576: true; the input reads as it did. -/
def scaleTestsUptoRow : OpenClaim := { program := "ytofjipmheckmjaa", sum := "ebeb6d0f9ca8c7a7ed4a71df8e14fbea03d244001d13ae7b34dcb66de77112fa", func := "jigworks/jigworkslaw06.ScaleTests", spec := "scaleTests", unfollowed := true, recurses := true, plainKeys := false, apart := false, narrowed := true }
def ScaleTestsUptoSaid : Prop := scaleTestsUptoRow.holds Try.pinned (OpenSpec.upto scaleTestsSpec)

/-- 'jigworkslaw06.ScaleNames', WHERE WHAT IT READS IS OF BULK AT MOST 1048576: true; the input reads as it did. -/
def scaleNamesUptoRow : OpenClaim := { program := "ytofjipmheckmjaa", sum := "ebeb6d0f9ca8c7a7ed4a71df8e14fbea03d244001d13ae7b34dcb66de77112fa", func := "jigworks/jigworkslaw06.ScaleNames", spec := "scaleNames", unfollowed := true, recurses := true, plainKeys := false, apart := false, narrowed := true }
def ScaleNamesUptoSaid : Prop := scaleNamesUptoRow.holds Try.pinned (OpenSpec.upto scaleNamesSpec)

/-- 'jigworkslaw06.ScaleTrue', WHERE WHAT IT READS IS OF BULK AT MOST 1048576: true; the input reads as it did. -/
def scaleTrueUptoRow : OpenClaim := { program := "ytofjipmheckmjaa", sum := "ebeb6d0f9ca8c7a7ed4a71df8e14fbea03d244001d13ae7b34dcb66de77112fa", func := "jigworks/jigworkslaw06.ScaleTrue", spec := "scaleTrue", unfollowed := true, recurses := true, plainKeys := false, apart := false, narrowed := true }
def ScaleTrueUptoSaid : Prop := scaleTrueUptoRow.holds Try.pinned (OpenSpec.upto scaleTrueSpec)

/-- 'jigworkslaw06.ScaleSlips', WHERE WHAT IT READS IS OF BULK AT MOST 1048576: true; the input reads as it did. -/
def scaleSlipsUptoRow : OpenClaim := { program := "ytofjipmheckmjaa", sum := "ebeb6d0f9ca8c7a7ed4a71df8e14fbea03d244001d13ae7b34dcb66de77112fa", func := "jigworks/jigworkslaw06.ScaleSlips", spec := "scaleSlips", unfollowed := true, recurses := true, plainKeys := false, apart := false, narrowed := true }
def ScaleSlipsUptoSaid : Prop := scaleSlipsUptoRow.holds Try.pinned (OpenSpec.upto scaleSlipsSpec)

/-- 'jigworkslaw06.ScaleEnough', WHERE WHAT IT READS IS OF BULK AT MOST 1048576: true; the input reads as it did. -/
def scaleEnoughUptoRow : OpenClaim := { program := "ytofjipmheckmjaa", sum := "ebeb6d0f9ca8c7a7ed4a71df8e14fbea03d244001d13ae7b34dcb66de77112fa", func := "jigworks/jigworkslaw06.ScaleEnough", spec := "scaleEnough", unfollowed := true, recurses := true, plainKeys := false, apart := false, narrowed := true }
def ScaleEnoughUptoSaid : Prop := scaleEnoughUptoRow.holds Try.pinned (OpenSpec.upto scaleEnoughSpec)

/-- 'jigworkslaw06.ScaleNext', WHERE WHAT IT READS IS OF BULK AT MOST 1048576: true; the input reads as it did. -/
def scaleNextUptoRow : OpenClaim := { program := "ytofjipmheckmjaa", sum := "ebeb6d0f9ca8c7a7ed4a71df8e14fbea03d244001d13ae7b34dcb66de77112fa", func := "jigworks/jigworkslaw06.ScaleNext", spec := "scaleNext", unfollowed := true, recurses := true, plainKeys := false, apart := false, narrowed := true }
def ScaleNextUptoSaid : Prop := scaleNextUptoRow.holds Try.pinned (OpenSpec.upto scaleNextSpec)

/-- 'jigworkslaw06.ScaleMore', WHERE WHAT IT READS IS OF BULK AT MOST 1048576: true; the input reads as it did. -/
def scaleMoreUptoRow : OpenClaim := { program := "ytofjipmheckmjaa", sum := "ebeb6d0f9ca8c7a7ed4a71df8e14fbea03d244001d13ae7b34dcb66de77112fa", func := "jigworks/jigworkslaw06.ScaleMore", spec := "scaleMore", unfollowed := true, recurses := true, plainKeys := false, apart := false, narrowed := true }
def ScaleMoreUptoSaid : Prop := scaleMoreUptoRow.holds Try.pinned (OpenSpec.upto scaleMoreSpec)

/-- 'jigworkslaw06.ScaleOwns', WHERE WHAT IT READS IS OF BULK AT MOST 1048576: true; the input reads as it did. -/
def scaleOwnsUptoRow : OpenClaim := { program := "ytofjipmheckmjaa", sum := "ebeb6d0f9ca8c7a7ed4a71df8e14fbea03d244001d13ae7b34dcb66de77112fa", func := "jigworks/jigworkslaw06.ScaleOwns", spec := "scaleOwns", unfollowed := true, recurses := true, plainKeys := false, apart := false, narrowed := true }
def ScaleOwnsUptoSaid : Prop := scaleOwnsUptoRow.holds Try.pinned (OpenSpec.upto scaleOwnsSpec)

end Rows
end Go.Proofs.Ytofjipmheckmjaa
