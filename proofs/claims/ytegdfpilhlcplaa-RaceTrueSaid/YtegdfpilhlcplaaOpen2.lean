/- Raw numbers, opened. -/
import Derived.Test.YtegdfpilhlcplaaOpen
import Derived.Test.YtegdfpilhlcplaaWalk30
namespace Go.Proofs.Ytegdfpilhlcplaa
open Go Go.Eng Go.RowKit Go.Proofs Go.ChangeShapes Go.WideShapes
set_option maxRecDepth 100000
section
variable {H : Type} {enc : TypeId × Value → H} {w : World} {spare : Nat → Bool} {held : Bool}
theorem c48 : Try.prog.cellsOf 48 = 1 := by kernel_rfl
theorem open_u {fuel : Nat} {cs : List Value} {x : DataW H × List MemPlace} (h : DataW.trod enc Try.prog w 0 spare held fuel 48 cs = some x) : ∃ n : Int, cs = [.int .u16 n] ∧ (0 ≤ n ∧ n ≤ 65535) := by
  obtain ⟨n, h1, _, h3⟩ := DataW.trod_int Try.underlying48 h
  refine ⟨n, h1, ?_⟩
  simp [Lit.wf, IntKind.min, IntKind.max, IntKind.bits, IntKind.signed] at h3
  omega
theorem open_us {fuel : Nat} {cs : List Value} {x : DataW H × List MemPlace} (h : DataW.trod enc Try.prog w 0 spare held fuel 47 cs = some x) : ∃ a bs c, cs = [.slice a (List.length bs) c] ∧ U16A 0 w a bs ∧ ∀ x, x ∈ bs → 0 ≤ x ∧ x ≤ 65535 := by
  obtain ⟨a, l, c, h1, _, h3, h4⟩ := open_rows (row := fun x => [.int .u16 x]) (G := fun x => 0 ≤ x ∧ x ≤ 65535) Try.underlying47 c48 (fun _ _ _ => open_u) h
  refine ⟨a, l, c, h1, ⟨fun i s hi => ⟨(h4 i s hi).1, (h4 i s hi).2.1⟩, h3⟩, fun x hx => ?_⟩
  obtain ⟨i, hi⟩ := List.getElem?_of_mem hx
  exact (h4 i x hi).2.2
end
end Go.Proofs.Ytegdfpilhlcplaa
