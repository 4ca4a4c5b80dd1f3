/- The numbers of sixteen bits, opened. -/
import Derived.Test.YtpijahglojichaaDoorOpen
import Derived.Test.YtpijahglojichaaDoorWalkL12
namespace Go.Proofs.YtpijahglojichaaDoor
open Go Go.Eng Go.RowKit Go.Proofs Go.ChangeShapes Go.WideShapes
set_option maxRecDepth 100000
section
variable {H : Type} {enc : TypeId × Value → H} {w : World} {spare : Nat → Bool} {held : Bool}
theorem open_u16 {fuel : Nat} {cs : List Value} {x : DataW H × List MemPlace} (h : DataW.trod enc Tryd.prog w 0 spare held fuel 48 cs = some x) : ∃ n : Nat, cs = hRow n ∧ n ≤ 65535 := by
  obtain ⟨n, h1, _, h3⟩ := DataW.trod_int Tryd.underlying48 h
  have h4 := u16_of_wf h3
  refine ⟨n.toNat, ?_, by omega⟩
  unfold hRow
  rw [show ((n.toNat : Nat) : Int) = n by omega]
  exact h1
theorem c48 : Tryd.prog.cellsOf 48 = 1 := by kernel_rfl
end
end Go.Proofs.YtpijahglojichaaDoor
