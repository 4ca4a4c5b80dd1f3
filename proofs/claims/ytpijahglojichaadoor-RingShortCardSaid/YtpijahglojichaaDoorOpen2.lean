/- The bytes, opened. -/
import Derived.Test.YtpijahglojichaaDoorOpen
import Derived.Test.YtpijahglojichaaDoorWalk20
namespace Go.Proofs.YtpijahglojichaaDoor
open Go Go.Eng Go.RowKit Go.Proofs Go.ChangeShapes Go.WideShapes
set_option maxRecDepth 100000
section
variable {H : Type} {enc : TypeId × Value → H} {w : World} {spare : Nat → Bool} {held : Bool}
theorem open_u8 {fuel : Nat} {cs : List Value} {x : DataW H × List MemPlace} (h : DataW.trod enc Tryd.prog w 0 spare held fuel 5 cs = some x) : ∃ n : Nat, cs = uRow n ∧ n ≤ 255 := by
  obtain ⟨n, h1, _, h3⟩ := DataW.trod_int Tryd.underlying5 h
  have h4 := u8_of_wf h3
  refine ⟨n.toNat, ?_, by omega⟩
  unfold uRow
  rw [show ((n.toNat : Nat) : Int) = n by omega]
  exact h1
theorem c5 : Tryd.prog.cellsOf 5 = 1 := by kernel_rfl
end
end Go.Proofs.YtpijahglojichaaDoor
