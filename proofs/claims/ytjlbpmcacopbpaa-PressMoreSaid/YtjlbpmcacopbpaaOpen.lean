/- The arguments of the laws, opened. -/
import Derived.Test.YtjlbpmcacopbpaaOpenB
import Derived.Test.YtjlbpmcacopbpaaWalk1
namespace Go.Proofs.Ytjlbpmcacopbpaa
open Go Go.Eng Go.RowKit Go.Proofs Go.ChangeShapes Go.WideShapes
set_option maxRecDepth 100000
section
variable {H : Type} {enc : TypeId × Value → H} {w : World} {spare : Nat → Bool} {held : Bool}
theorem c24 : Try.prog.cellsOf 24 = 2 := by kernel_rfl
theorem c51 : Try.prog.cellsOf 51 = 4 := by kernel_rfl
theorem c58 : Try.prog.cellsOf 58 = 5 := by kernel_rfl
def inSp (s : Sp) : Prop := In64 s.lo ∧ In64 s.hi
theorem open_sp {fuel : Nat} {cs : List Value} {x : DataW H × List MemPlace} (h : DataW.trod enc Try.prog w 0 spare held fuel 24 cs = some x) : ∃ (s : Sp), cs = spRow s ∧ inSp s := by
  obtain ⟨hl, n, hf⟩ := open_fields Try.underlying24 h
  rw [c24] at hl
  obtain ⟨x0, x1, rfl⟩ := list2 hl
  obtain ⟨y0, h0⟩ := hf 0 _ rfl
  obtain ⟨z0, e0, i0⟩ := open_i (by simpa [c3] using h0)
  obtain rfl : x0 = _ := by simpa using e0
  obtain ⟨y1, h1⟩ := hf 1 _ rfl
  obtain ⟨z1, e1, i1⟩ := open_i (by simpa [c3] using h1)
  obtain rfl : x1 = _ := by simpa using e1
  exact ⟨⟨z0, z1⟩, rfl, i0, i1⟩
def inSf (s : Sf) : Prop := inSp s.x ∧ inSp s.y
theorem open_sf {fuel : Nat} {cs : List Value} {x : DataW H × List MemPlace} (h : DataW.trod enc Try.prog w 0 spare held fuel 51 cs = some x) : ∃ (s : Sf), cs = sfRow s ∧ inSf s := by
  obtain ⟨hl, n, hf⟩ := open_fields Try.underlying51 h
  rw [c51] at hl
  obtain ⟨x0, x1, x2, x3, rfl⟩ := list4 hl
  obtain ⟨y0, h0⟩ := hf 0 _ rfl
  obtain ⟨z0, e0, i0⟩ := open_sp (by simpa [c24] using h0)
  simp [spRow] at e0
  obtain ⟨rfl, rfl⟩ := e0
  obtain ⟨y1, h1⟩ := hf 1 _ rfl
  obtain ⟨z1, e1, i1⟩ := open_sp (by simpa [c24] using h1)
  simp [spRow] at e1
  obtain ⟨rfl, rfl⟩ := e1
  exact ⟨⟨z0, z1⟩, rfl, i0, i1⟩
def inJb (s : Jb) : Prop := inSp s.print ∧ inSp s.lay ∧ In64 s.due
theorem open_jb {fuel : Nat} {cs : List Value} {x : DataW H × List MemPlace} (h : DataW.trod enc Try.prog w 0 spare held fuel 58 cs = some x) : ∃ (s : Jb), cs = jbRow s ∧ inJb s := by
  obtain ⟨hl, n, hf⟩ := open_fields Try.underlying58 h
  rw [c58] at hl
  obtain ⟨x0, x1, x2, x3, x4, rfl⟩ := list5 hl
  obtain ⟨y0, h0⟩ := hf 0 _ rfl
  obtain ⟨z0, e0, i0⟩ := open_sp (by simpa [c24] using h0)
  simp [spRow] at e0
  obtain ⟨rfl, rfl⟩ := e0
  obtain ⟨y1, h1⟩ := hf 1 _ rfl
  obtain ⟨z1, e1, i1⟩ := open_sp (by simpa [c24] using h1)
  simp [spRow] at e1
  obtain ⟨rfl, rfl⟩ := e1
  obtain ⟨y2, h2⟩ := hf 2 _ rfl
  obtain ⟨z2, e2, i2⟩ := open_i (by simpa [c3] using h2)
  obtain rfl : x4 = _ := by simpa using e2
  exact ⟨⟨z0, z1, z2⟩, rfl, i0, i1, i2⟩
theorem open_int1 {fuel : Nat} {cs : List Value} {x : DataW H × List MemPlace} (h : DataW.trod enc Try.prog w 0 spare held fuel 3 cs = some x) : ∃ n : Int, cs = iRow n ∧ In64 n := open_i h
def hRow (n : Int) : List Value := [.int .u16 n]
def isH (n : Int) : Prop := 0 ≤ n ∧ n ≤ 65535
def bRow (n : Int) : List Value := [.int .u8 n]
def isB (n : Int) : Prop := 0 ≤ n ∧ n ≤ 255
theorem open_h {fuel : Nat} {cs : List Value} {x : DataW H × List MemPlace} (h : DataW.trod enc Try.prog w 0 spare held fuel 52 cs = some x) : ∃ n : Int, cs = hRow n ∧ isH n := by
  obtain ⟨n, h1, _, h3⟩ := DataW.trod_int Try.underlying52 h
  exact ⟨n, h1, u16_of_wf h3⟩
theorem c52 : Try.prog.cellsOf 52 = 1 := by kernel_rfl
theorem open_b {fuel : Nat} {cs : List Value} {x : DataW H × List MemPlace} (h : DataW.trod enc Try.prog w 0 spare held fuel 5 cs = some x) : ∃ n : Int, cs = bRow n ∧ isB n := by
  obtain ⟨n, h1, _, h3⟩ := DataW.trod_int Try.underlying5 h
  exact ⟨n, h1, u8_of_wf h3⟩
theorem c5 : Try.prog.cellsOf 5 = 1 := by kernel_rfl
end
end Go.Proofs.Ytjlbpmcacopbpaa
