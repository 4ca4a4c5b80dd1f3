/- The arguments of the laws, opened: whole numbers without a sign. -/
import Derived.Test.YtofjipmheckmjaaOpen
import Derived.Test.YtofjipmheckmjaaWalk26
namespace Go.Proofs.Ytofjipmheckmjaa
open Go Go.Eng Go.RowKit Go.Proofs Go.ChangeShapes Go.WideShapes
section
variable {H : Type} {enc : TypeId × Value → H} {w : World} {spare : Nat → Bool} {held : Bool}
theorem open_u {fuel : Nat} {cs : List Value} {x : DataW H × List MemPlace} (h : DataW.trod enc Try.prog w 0 spare held fuel 67 cs = some x) : ∃ n : Int, cs = uRow n ∧ isU n := by
  obtain ⟨n, h1, _, h3⟩ := DataW.trod_int Try.underlying67 h
  exact ⟨n, h1, u32_of_wf h3⟩
theorem c67 : Try.prog.cellsOf 67 = 1 := by kernel_rfl
end
end Go.Proofs.Ytofjipmheckmjaa
