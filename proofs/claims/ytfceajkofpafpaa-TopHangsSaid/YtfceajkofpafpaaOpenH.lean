/- The arguments of TopHangs, opened. -/
import Derived.Test.YtfceajkofpafpaaOpenB
import Derived.Test.YtfceajkofpafpaaHW10
namespace Go.Proofs.Ytfceajkofpafpaa
open Go Go.Eng Go.RowKit Go.Proofs Go.ChangeShapes Go.WideShapes
open Go.Proofs.Ytfceajkofpafpaa.Sc (iRow)
set_option maxRecDepth 100000
section
variable {H : Type} {enc : TypeId × Value → H} {w : World} {spare : Nat → Bool} {held : Bool}
theorem c22 : Try.prog.cellsOf 22 = 1 := by kernel_rfl
theorem c24 : Try.prog.cellsOf 24 = 3 := by kernel_rfl
theorem open_ii {fuel : Nat} {cs : List Value} {x : DataW H × List MemPlace} (h : DataW.trod enc Try.prog w 0 spare held fuel 3 cs = some x) : ∃ n : Int, cs = iRow n ∧ True := by
  obtain ⟨n, h1, _⟩ := open_i h
  exact ⟨n, h1, trivial⟩
theorem open_ct {fuel : Nat} {cs : List Value} {x : DataW H × List MemPlace} (h : DataW.trod enc Try.prog w 0 spare held fuel 24 cs = some x) : ∃ (c : Ct) (a : Option Addr) (cp : Nat), cs = ctV c a cp ∧ RowsA iRow 1 0 w a c.piece := by
  obtain ⟨hl, n, hf⟩ := open_fields Try.underlying24 h
  rw [c24] at hl
  obtain ⟨x0, x1, x2, rfl⟩ := list3 hl
  obtain ⟨y0, h0⟩ := hf 0 _ rfl
  obtain ⟨z0, e0, _⟩ := open_i (by simpa [c3] using h0)
  obtain rfl : x0 = _ := by simpa using e0
  obtain ⟨y1, h1⟩ := hf 1 _ rfl
  obtain ⟨z1, e1, _⟩ := open_i (by simpa [c3] using h1)
  obtain rfl : x1 = _ := by simpa using e1
  obtain ⟨y2, h2⟩ := hf 2 _ rfl
  obtain ⟨a, l, cp, e2, _, hB, _⟩ := open_rows (row := iRow) (G := fun _ => True) Try.underlying22 c3 (fun _ _ _ => open_ii) (by simpa [c22] using h2)
  obtain rfl : x2 = _ := by simpa using e2
  exact ⟨⟨z0, z1, l⟩, a, cp, rfl, hB⟩
end
end Go.Proofs.Ytfceajkofpafpaa
