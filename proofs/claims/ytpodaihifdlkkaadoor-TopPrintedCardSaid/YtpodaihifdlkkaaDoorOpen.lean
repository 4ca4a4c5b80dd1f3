/- The arguments of TopPrinted, opened. -/
import Derived.Test.YtpodaihifdlkkaaDoorOpenB
import Derived.Test.YtpodaihifdlkkaaDoorWalk3
namespace Go.Proofs.YtpodaihifdlkkaaDoor
open Go Go.Eng Go.RowKit Go.Proofs Go.ChangeShapes Go.WideShapes
set_option maxRecDepth 100000
section
variable {H : Type} {enc : TypeId × Value → H} {w : World} {spare : Nat → Bool} {held : Bool}
theorem c29 : Tryd.prog.cellsOf 29 = 2 := by kernel_rfl
theorem c42 : Tryd.prog.cellsOf 42 = 3 := by kernel_rfl
theorem c50 : Tryd.prog.cellsOf 50 = 5 := by kernel_rfl
theorem c55 : Tryd.prog.cellsOf 55 = 4 := by kernel_rfl
def inSp (s : Sp) : Prop := In64 s.lo ∧ In64 s.hi
theorem open_sp {fuel : Nat} {cs : List Value} {x : DataW H × List MemPlace} (h : DataW.trod enc Tryd.prog w 0 spare held fuel 29 cs = some x) : ∃ (s : Sp), cs = spRow s ∧ inSp s := by
  obtain ⟨hl, n, hf⟩ := open_fields Tryd.underlying29 h
  rw [c29] at hl
  obtain ⟨x0, x1, rfl⟩ := list2 hl
  obtain ⟨y0, h0⟩ := hf 0 _ rfl
  obtain ⟨z0, e0, i0⟩ := open_i (by simpa [c3] using h0)
  obtain rfl : x0 = _ := by simpa using e0
  obtain ⟨y1, h1⟩ := hf 1 _ rfl
  obtain ⟨z1, e1, i1⟩ := open_i (by simpa [c3] using h1)
  obtain rfl : x1 = _ := by simpa using e1
  exact ⟨⟨z0, z1⟩, rfl, i0, i1⟩
def inSh (s : Sh) : Prop := inSp s.many ∧ In64 s.cost
theorem open_sh {fuel : Nat} {cs : List Value} {x : DataW H × List MemPlace} (h : DataW.trod enc Tryd.prog w 0 spare held fuel 42 cs = some x) : ∃ (s : Sh), cs = shRow s ∧ inSh s := by
  obtain ⟨hl, n, hf⟩ := open_fields Tryd.underlying42 h
  rw [c42] at hl
  obtain ⟨x0, x1, x2, rfl⟩ := list3 hl
  obtain ⟨y0, h0⟩ := hf 0 _ rfl
  obtain ⟨z0, e0, i0⟩ := open_sp (by simpa [c29] using h0)
  simp [spRow] at e0
  obtain ⟨rfl, rfl⟩ := e0
  obtain ⟨y1, h1⟩ := hf 1 _ rfl
  obtain ⟨z1, e1, i1⟩ := open_i (by simpa [c3] using h1)
  obtain rfl : x2 = _ := by simpa using e1
  exact ⟨⟨z0, z1⟩, rfl, i0, i1⟩
def inLi (s : Li) : Prop := In64 s.copies ∧ In64 s.from_ ∧ In64 s.to_ ∧ In64 s.fee
theorem open_li {fuel : Nat} {cs : List Value} {x : DataW H × List MemPlace} (h : DataW.trod enc Tryd.prog w 0 spare held fuel 55 cs = some x) : ∃ (s : Li), cs = liRow s ∧ inLi s := by
  obtain ⟨hl, n, hf⟩ := open_fields Tryd.underlying55 h
  rw [c55] at hl
  obtain ⟨x0, x1, x2, x3, rfl⟩ := list4 hl
  obtain ⟨y0, h0⟩ := hf 0 _ rfl
  obtain ⟨z0, e0, i0⟩ := open_i (by simpa [c3] using h0)
  obtain rfl : x0 = _ := by simpa using e0
  obtain ⟨y1, h1⟩ := hf 1 _ rfl
  obtain ⟨z1, e1, i1⟩ := open_i (by simpa [c3] using h1)
  obtain rfl : x1 = _ := by simpa using e1
  obtain ⟨y2, h2⟩ := hf 2 _ rfl
  obtain ⟨z2, e2, i2⟩ := open_i (by simpa [c3] using h2)
  obtain rfl : x2 = _ := by simpa using e2
  obtain ⟨y3, h3⟩ := hf 3 _ rfl
  obtain ⟨z3, e3, i3⟩ := open_i (by simpa [c3] using h3)
  obtain rfl : x3 = _ := by simpa using e3
  exact ⟨⟨z0, z1, z2, z3⟩, rfl, i0, i1, i2, i3⟩
def inWi (s : Wi) : Prop := In64 s.puz ∧ In64 s.many ∧ In64 s.hour ∧ In64 s.price ∧ In64 s.ship
theorem open_wi {fuel : Nat} {cs : List Value} {x : DataW H × List MemPlace} (h : DataW.trod enc Tryd.prog w 0 spare held fuel 50 cs = some x) : ∃ (s : Wi), cs = wiRow s ∧ inWi s := by
  obtain ⟨hl, n, hf⟩ := open_fields Tryd.underlying50 h
  rw [c50] at hl
  obtain ⟨x0, x1, x2, x3, x4, rfl⟩ := list5 hl
  obtain ⟨y0, h0⟩ := hf 0 _ rfl
  obtain ⟨z0, e0, i0⟩ := open_i (by simpa [c3] using h0)
  obtain rfl : x0 = _ := by simpa using e0
  obtain ⟨y1, h1⟩ := hf 1 _ rfl
  obtain ⟨z1, e1, i1⟩ := open_i (by simpa [c3] using h1)
  obtain rfl : x1 = _ := by simpa using e1
  obtain ⟨y2, h2⟩ := hf 2 _ rfl
  obtain ⟨z2, e2, i2⟩ := open_i (by simpa [c3] using h2)
  obtain rfl : x2 = _ := by simpa using e2
  obtain ⟨y3, h3⟩ := hf 3 _ rfl
  obtain ⟨z3, e3, i3⟩ := open_i (by simpa [c3] using h3)
  obtain rfl : x3 = _ := by simpa using e3
  obtain ⟨y4, h4⟩ := hf 4 _ rfl
  obtain ⟨z4, e4, i4⟩ := open_i (by simpa [c3] using h4)
  obtain rfl : x4 = _ := by simpa using e4
  exact ⟨⟨z0, z1, z2, z3, z4⟩, rfl, i0, i1, i2, i3, i4⟩
theorem c22 : Tryd.prog.cellsOf 22 = 1 := by kernel_rfl
theorem c23 : Tryd.prog.cellsOf 23 = 1 := by kernel_rfl
theorem c24 : Tryd.prog.cellsOf 24 = 1 := by kernel_rfl
theorem c25 : Tryd.prog.cellsOf 25 = 1 := by kernel_rfl
theorem c27 : Tryd.prog.cellsOf 27 = 4 := by kernel_rfl
theorem c35 : Tryd.prog.cellsOf 35 = 1 := by kernel_rfl
theorem c57 : Tryd.prog.cellsOf 57 = 2 := by kernel_rfl
theorem open_ii {fuel : Nat} {cs : List Value} {x : DataW H × List MemPlace} (h : DataW.trod enc Tryd.prog w 0 spare held fuel 3 cs = some x) : ∃ n : Int, cs = iRow n ∧ True := by
  obtain ⟨n, h1, _⟩ := open_i h
  exact ⟨n, h1, trivial⟩
def mkRow3 (p : Mk × Option Addr × Nat) : List Value := [.int .i64 p.1.pic, .slice p.2.1 p.1.tk.length p.2.2]
theorem open_mk {fuel : Nat} {cs : List Value} {x : DataW H × List MemPlace} (h : DataW.trod enc Tryd.prog w 0 spare held fuel 57 cs = some x) : ∃ p : Mk × Option Addr × Nat, cs = mkRow3 p ∧ RowsA iRow 1 0 w p.2.1 p.1.tk := by
  obtain ⟨hl, n, hf⟩ := open_fields Tryd.underlying57 h
  rw [c57] at hl
  obtain ⟨x0, x1, rfl⟩ := list2 hl
  obtain ⟨y0, h0⟩ := hf 0 _ rfl
  obtain ⟨z0, e0, _⟩ := open_i (by simpa [c3] using h0)
  obtain rfl : x0 = _ := by simpa using e0
  obtain ⟨y1, h1⟩ := hf 1 _ rfl
  obtain ⟨a1, z1, c1', e1, _, hB1, _⟩ := open_rows (row := iRow) (G := fun _ => True) Tryd.underlying35 c3 (fun _ _ _ => open_ii) (by simpa [c35] using h1)
  obtain rfl : x1 = _ := by simpa using e1
  exact ⟨(⟨z0, z1⟩, a1, c1'), rfl, hB1⟩
theorem open_mks {fuel : Nat} {cs : List Value} {x : DataW H × List MemPlace} (h : DataW.trod enc Tryd.prog w 0 spare held fuel 24 cs = some x) : ∃ a l c f cf, cs = [.slice a (List.length l) c] ∧ MkA 0 w a f cf l := by
  obtain ⟨a, l, c, h1, _, h3, h4⟩ := open_rows (row := mkRow3) (G := fun p => RowsA iRow 1 0 w p.2.1 p.1.tk) Tryd.underlying24 c57 (fun _ _ _ => open_mk) h
  refine ⟨a, l.map (·.1), c, fun i => (l.getD i (mk0, none, 0)).2.1, fun i => (l.getD i (mk0, none, 0)).2.2, by rw [h1, List.length_map], ⟨fun i m hi => ?_, by rw [List.length_map]; exact h3.len⟩⟩
  rw [List.getElem?_map] at hi
  obtain ⟨p, hp, rfl⟩ := Option.map_eq_some_iff.1 hi
  have hg : l.getD i (mk0, none, 0) = p := by rw [List.getD_eq_getElem?_getD, hp]; rfl
  rw [hg]
  have he := h3.el i p hp
  exact ⟨he.1, he.2, h4 p (List.mem_of_getElem? hp)⟩
theorem open_so {fuel : Nat} {cs : List Value} {x : DataW H × List MemPlace} (h : DataW.trod enc Tryd.prog w 0 spare held fuel 27 cs = some x) : ∃ (z : SA) (s : So), cs = stV z s ∧ SoA 0 w z s := by
  obtain ⟨hl, n, hf⟩ := open_fields Tryd.underlying27 h
  rw [c27] at hl
  obtain ⟨x0, x1, x2, x3, rfl⟩ := list4 hl
  obtain ⟨y0, h0⟩ := hf 0 _ rfl
  obtain ⟨a1, z1, c1', e1, _, hB1, _⟩ := open_rows (row := shRow) (G := inSh) Tryd.underlying22 c42 (fun _ _ _ => open_sh) (by simpa [c22] using h0)
  obtain rfl : x0 = _ := by simpa using e1
  obtain ⟨y1, h1⟩ := hf 1 _ rfl
  obtain ⟨a2, z2, c2', e2, _, hB2, _⟩ := open_rows (row := liRow) (G := inLi) Tryd.underlying23 c55 (fun _ _ _ => open_li) (by simpa [c23] using h1)
  obtain rfl : x1 = _ := by simpa using e2
  obtain ⟨y2, h2⟩ := hf 2 _ rfl
  obtain ⟨a3, z3, c3', f, cf, e3, hB3⟩ := open_mks (by simpa [c24] using h2)
  obtain rfl : x2 = _ := by simpa using e3
  obtain ⟨y3, h3⟩ := hf 3 _ rfl
  obtain ⟨a4, z4, c4', e4, _, hB4, _⟩ := open_rows (row := wiRow) (G := inWi) Tryd.underlying25 c50 (fun _ _ _ => open_wi) (by simpa [c25] using h3)
  obtain rfl : x3 = _ := by simpa using e4
  exact ⟨⟨a1, c1', a2, c2', a3, c3', a4, c4', f, cf⟩, ⟨z1, z2, z3, z4⟩, rfl, ⟨hB1, hB2, hB3, hB4⟩⟩
end
end Go.Proofs.YtpodaihifdlkkaaDoor
