/- The arguments of TopBlade, opened. -/
import Derived.Test.YtcgbdecgdddnkaaOpenB
import Derived.Test.YtcgbdecgdddnkaaWalk1
namespace Go.Proofs.Ytcgbdecgdddnkaa
open Go Go.Eng Go.RowKit Go.Proofs Go.ChangeShapes Go.WideShapes
set_option maxRecDepth 100000
section
variable {H : Type} {enc : TypeId × Value → H} {w : World} {spare : Nat → Bool} {held : Bool}
theorem c22 : Try.prog.cellsOf 22 = 1 := by kernel_rfl
theorem c24 : Try.prog.cellsOf 24 = 4 := by kernel_rfl
theorem c29 : Try.prog.cellsOf 29 = 2 := by kernel_rfl
theorem c42 : Try.prog.cellsOf 42 = 4 := by kernel_rfl
theorem open_sp {fuel : Nat} {cs : List Value} {x : DataW H × List MemPlace} (h : DataW.trod enc Try.prog w 0 spare held fuel 29 cs = some x) : ∃ s : Sp, cs = spRow s ∧ True := by
  obtain ⟨y0, y1, n, _, hl, h0, h1⟩ := trod_struct2 Try.underlying29 h
  rw [c29] at hl
  match cs, hl with
  | [a, b], _ =>
    obtain ⟨z0, e0, _⟩ := open_i (by simpa [c3] using h0)
    obtain ⟨z1, e1, _⟩ := open_i (by simpa [c3] using h1)
    simp at e0 e1
    exact ⟨⟨z0, z1⟩, by rw [e0, e1]; rfl, trivial⟩
theorem open_bl {fuel : Nat} {cs : List Value} {x : DataW H × List MemPlace} (h : DataW.trod enc Try.prog w 0 spare held fuel 42 cs = some x) : ∃ b : Bl, cs = blRow b ∧ True := by
  obtain ⟨y0, y1, n, _, hl, h0, h1⟩ := trod_struct2 Try.underlying42 h
  rw [c42] at hl
  match cs, hl with
  | [a, b, c, d], _ =>
    obtain ⟨s0, e0, _⟩ := open_sp (by simpa [c29] using h0)
    obtain ⟨s1, e1, _⟩ := open_sp (by simpa [c29] using h1)
    simp [spRow] at e0 e1
    exact ⟨⟨s0, s1⟩, by rw [e0.1, e0.2, e1.1, e1.2]; rfl, trivial⟩
theorem open_di {fuel : Nat} {cs : List Value} {x : DataW H × List MemPlace} (h : DataW.trod enc Try.prog w 0 spare held fuel 24 cs = some x) : ∃ d a c, cs = diRow d a c ∧ RowsA blRow 4 0 w a d.blades := by
  obtain ⟨y0, y1, y2, y3, n, _, hl, h0, h1, h2, h3⟩ := Go.Joins.trod_struct4 Try.underlying24 h
  rw [c24] at hl
  match cs, hl with
  | [a, b, c, d], _ =>
    obtain ⟨a', l, c', e0, _, hB, _⟩ := open_rows (row := blRow) (G := fun _ => True) Try.underlying22 c42 (fun _ _ _ => open_bl) (by simpa [c22] using h0)
    obtain ⟨z1, e1, i1⟩ := open_i (by simpa [c3] using h1)
    obtain ⟨z2, e2, i2⟩ := open_i (by simpa [c3] using h2)
    obtain ⟨z3, e3, i3⟩ := open_i (by simpa [c3] using h3)
    simp at e0 e1 e2 e3
    exact ⟨⟨l, z1, z2, z3⟩, a', c', by rw [e0, e1, e2, e3]; rfl, hB⟩
end
end Go.Proofs.Ytcgbdecgdddnkaa
