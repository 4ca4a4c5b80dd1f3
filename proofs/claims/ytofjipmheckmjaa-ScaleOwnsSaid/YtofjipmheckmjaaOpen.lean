/- The arguments of the laws, opened. -/
import Derived.Test.YtofjipmheckmjaaOpenB
import Derived.Test.YtofjipmheckmjaaWalk1
namespace Go.Proofs.Ytofjipmheckmjaa
open Go Go.Eng Go.RowKit Go.Proofs Go.ChangeShapes Go.WideShapes
set_option maxRecDepth 100000
section
variable {H : Type} {enc : TypeId × Value → H} {w : World} {spare : Nat → Bool} {held : Bool}
theorem c22 : Try.prog.cellsOf 22 = 1 := by kernel_rfl
theorem c24 : Try.prog.cellsOf 24 = 2 := by kernel_rfl
theorem c26 : Try.prog.cellsOf 26 = 5 := by kernel_rfl
theorem c29 : Try.prog.cellsOf 29 = 7 := by kernel_rfl
theorem c54 : Try.prog.cellsOf 54 = 8 := by kernel_rfl
theorem c74 : Try.prog.cellsOf 74 = 3 := by kernel_rfl
def inSp (s : Sp) : Prop := In64 s.lo ∧ In64 s.hi
theorem open_sp {fuel : Nat} {cs : List Value} {x : DataW H × List MemPlace} (h : DataW.trod enc Try.prog w 0 spare held fuel 24 cs = some x) : ∃ (s : Sp), cs = spRow s ∧ inSp s := by
  obtain ⟨hl, n, hf⟩ := open_fields Try.underlying24 h
  rw [c24] at hl
  obtain ⟨x0, x1, rfl⟩ := list2 hl
  obtain ⟨y0, h0⟩ := hf 0 _ rfl
  obtain ⟨z0, e0, i0⟩ := open_i (by simpa [c3] using h0)
  obtain rfl : x0 = _ := by simpa using e0
  obtain ⟨y1, h1⟩ := hf 1 _ rfl
  obtain ⟨z1, e1, i1⟩ := open_i (by simpa [c3] using h1)
  obtain rfl : x1 = _ := by simpa using e1
  exact ⟨⟨z0, z1⟩, rfl, i0, i1⟩
def inKd (s : Kd) : Prop := In64 s.many ∧ inSp s.wt
theorem open_kd {fuel : Nat} {cs : List Value} {x : DataW H × List MemPlace} (h : DataW.trod enc Try.prog w 0 spare held fuel 74 cs = some x) : ∃ (s : Kd), cs = kdRow s ∧ inKd s := by
  obtain ⟨hl, n, hf⟩ := open_fields Try.underlying74 h
  rw [c74] at hl
  obtain ⟨x0, x1, x2, rfl⟩ := list3 hl
  obtain ⟨y0, h0⟩ := hf 0 _ rfl
  obtain ⟨z0, e0, i0⟩ := open_i (by simpa [c3] using h0)
  obtain rfl : x0 = _ := by simpa using e0
  obtain ⟨y1, h1⟩ := hf 1 _ rfl
  obtain ⟨z1, e1, i1⟩ := open_sp (by simpa [c24] using h1)
  simp [spRow] at e1
  obtain ⟨rfl, rfl⟩ := e1
  exact ⟨⟨z0, z1⟩, rfl, i0, i1⟩
def inTe (s : Te) : Prop := In64 s.how ∧ In64 s.set ∧ inSp s.err ∧ inSp s.pass ∧ In64 s.cost
theorem open_te {fuel : Nat} {cs : List Value} {x : DataW H × List MemPlace} (h : DataW.trod enc Try.prog w 0 spare held fuel 29 cs = some x) : ∃ (s : Te), cs = teRow s ∧ inTe s := by
  obtain ⟨hl, n, hf⟩ := open_fields Try.underlying29 h
  rw [c29] at hl
  obtain ⟨x0, x1, x2, x3, x4, x5, x6, rfl⟩ := list7 hl
  obtain ⟨y0, h0⟩ := hf 0 _ rfl
  obtain ⟨z0, e0, i0⟩ := open_i (by simpa [c3] using h0)
  obtain rfl : x0 = _ := by simpa using e0
  obtain ⟨y1, h1⟩ := hf 1 _ rfl
  obtain ⟨z1, e1, i1⟩ := open_i (by simpa [c3] using h1)
  obtain rfl : x1 = _ := by simpa using e1
  obtain ⟨y2, h2⟩ := hf 2 _ rfl
  obtain ⟨z2, e2, i2⟩ := open_sp (by simpa [c24] using h2)
  simp [spRow] at e2
  obtain ⟨rfl, rfl⟩ := e2
  obtain ⟨y3, h3⟩ := hf 3 _ rfl
  obtain ⟨z3, e3, i3⟩ := open_sp (by simpa [c24] using h3)
  simp [spRow] at e3
  obtain ⟨rfl, rfl⟩ := e3
  obtain ⟨y4, h4⟩ := hf 4 _ rfl
  obtain ⟨z4, e4, i4⟩ := open_i (by simpa [c3] using h4)
  obtain rfl : x6 = _ := by simpa using e4
  exact ⟨⟨z0, z1, z2, z3, z4⟩, rfl, i0, i1, i2, i3, i4⟩
def inRd (s : Rd) : Prop := inTe s.test ∧ In64 s.got
theorem open_rd {fuel : Nat} {cs : List Value} {x : DataW H × List MemPlace} (h : DataW.trod enc Try.prog w 0 spare held fuel 54 cs = some x) : ∃ (s : Rd), cs = rdRow s ∧ inRd s := by
  obtain ⟨hl, n, hf⟩ := open_fields Try.underlying54 h
  rw [c54] at hl
  obtain ⟨x0, x1, x2, x3, x4, x5, x6, x7, rfl⟩ := list8 hl
  obtain ⟨y0, h0⟩ := hf 0 _ rfl
  obtain ⟨z0, e0, i0⟩ := open_te (by simpa [c29] using h0)
  simp [teRow] at e0
  obtain ⟨rfl, rfl, rfl, rfl, rfl, rfl, rfl⟩ := e0
  obtain ⟨y1, h1⟩ := hf 1 _ rfl
  obtain ⟨z1, e1, i1⟩ := open_i (by simpa [c3] using h1)
  obtain rfl : x7 = _ := by simpa using e1
  exact ⟨⟨z0, z1⟩, rfl, i0, i1⟩
def inBx (s : Bx) : Prop := (∀ x, x ∈ s.kinds → inKd x) ∧ inSp s.bag ∧ In64 s.lost ∧ In64 s.extra
theorem open_bx {fuel : Nat} {cs : List Value} {x : DataW H × List MemPlace} (h : DataW.trod enc Try.prog w 0 spare held fuel 26 cs = some x) : ∃ (s : Bx) (a0 : Option Addr) (c0 : Nat), cs = bxRow s a0 c0 ∧ RowsA kdRow 3 0 w a0 s.kinds ∧ inBx s := by
  obtain ⟨hl, n, hf⟩ := open_fields Try.underlying26 h
  rw [c26] at hl
  obtain ⟨x0, x1, x2, x3, x4, rfl⟩ := list5 hl
  obtain ⟨y0, h0⟩ := hf 0 _ rfl
  obtain ⟨a0, z0, c0', e0, _, hB0, i0⟩ := open_rows (row := kdRow) (G := inKd) Try.underlying22 c74 (fun _ _ _ => open_kd) (by simpa [c22] using h0)
  obtain rfl : x0 = _ := by simpa using e0
  obtain ⟨y1, h1⟩ := hf 1 _ rfl
  obtain ⟨z1, e1, i1⟩ := open_sp (by simpa [c24] using h1)
  simp [spRow] at e1
  obtain ⟨rfl, rfl⟩ := e1
  obtain ⟨y2, h2⟩ := hf 2 _ rfl
  obtain ⟨z2, e2, i2⟩ := open_i (by simpa [c3] using h2)
  obtain rfl : x3 = _ := by simpa using e2
  obtain ⟨y3, h3⟩ := hf 3 _ rfl
  obtain ⟨z3, e3, i3⟩ := open_i (by simpa [c3] using h3)
  obtain rfl : x4 = _ := by simpa using e3
  exact ⟨⟨z0, z1, z2, z3⟩, a0, c0', rfl, hB0, i0, i1, i2, i3⟩
theorem open_int1 {fuel : Nat} {cs : List Value} {x : DataW H × List MemPlace} (h : DataW.trod enc Try.prog w 0 spare held fuel 3 cs = some x) : ∃ n : Int, cs = iRow n ∧ In64 n := open_i h
end
end Go.Proofs.Ytofjipmheckmjaa
