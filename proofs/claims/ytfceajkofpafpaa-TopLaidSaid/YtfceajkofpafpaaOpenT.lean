/- The argument of TopLaid, opened. -/
import Derived.Test.YtfceajkofpafpaaOpenB
import Derived.Test.YtfceajkofpafpaaFW7
import Derived.OpenShut
namespace Go.Proofs.Ytfceajkofpafpaa
open Go Go.Eng Go.RowKit Go.Proofs Go.ChangeShapes Go.WideShapes
open Go.Proofs.Ytfceajkofpafpaa.Sc (spRow Sp)
set_option maxRecDepth 100000
section
variable {H : Type} {enc : TypeId × Value → H} {w : World} {spare : Nat → Bool} {held : Bool}
theorem c38 : Try.prog.cellsOf 38 = 2 := by kernel_rfl
theorem c59 : Try.prog.cellsOf 59 = 5 := by kernel_rfl
theorem c60 : Try.prog.cellsOf 60 = 1 := by kernel_rfl
theorem c4 : Try.prog.cellsOf 4 = 1 := by kernel_rfl
theorem c62 : Try.prog.cellsOf 62 = 9 := by kernel_rfl
theorem c81 : Try.prog.cellsOf 81 = 7 := by kernel_rfl
theorem c82 : Try.prog.cellsOf 82 = 28 := by kernel_rfl
theorem c84 : Try.prog.cellsOf 84 = 28 := by kernel_rfl
theorem open_sp38 {fuel : Nat} {cs : List Value} {x : DataW H × List MemPlace} (h : DataW.trod enc Try.prog w 0 spare held fuel 38 cs = some x) : ∃ s : Sp, cs = spRow s := by
  obtain ⟨hl, n, hf⟩ := open_fields Try.underlying38 h
  rw [c38] at hl
  obtain ⟨x0, x1, rfl⟩ := list2 hl
  obtain ⟨y0, h0⟩ := hf 0 _ rfl
  obtain ⟨z0, e0, _⟩ := open_i (by simpa [c3] using h0)
  obtain rfl : x0 = _ := by simpa using e0
  obtain ⟨y1, h1⟩ := hf 1 _ rfl
  obtain ⟨z1, e1, _⟩ := open_i (by simpa [c3] using h1)
  obtain rfl : x1 = _ := by simpa using e1
  exact ⟨⟨z0, z1⟩, rfl⟩
theorem open_eg81 {fuel : Nat} {cs : List Value} {x : DataW H × List MemPlace} (h : DataW.trod enc Try.prog w 0 spare held fuel 81 cs = some x) : ∃ e : Eg, cs = egRow e := by
  obtain ⟨hl, n, hf⟩ := open_fields Try.underlying81 h
  rw [c81] at hl
  obtain ⟨x0, x1, x2, x3, x4, x5, x6, rfl⟩ := list7 hl
  obtain ⟨y0, h0⟩ := hf 0 _ rfl
  obtain ⟨z0, e0, _⟩ := open_i (by simpa [c3] using h0)
  obtain rfl : x0 = _ := by simpa using e0
  obtain ⟨y1, h1⟩ := hf 1 _ rfl
  obtain ⟨s1, e1⟩ := open_sp38 (by simpa [c38] using h1)
  simp [spRow] at e1
  obtain ⟨rfl, rfl⟩ := e1
  obtain ⟨y2, h2⟩ := hf 2 _ rfl
  obtain ⟨s2, e2⟩ := open_sp38 (by simpa [c38] using h2)
  simp [spRow] at e2
  obtain ⟨rfl, rfl⟩ := e2
  obtain ⟨y3, h3⟩ := hf 3 _ rfl
  obtain ⟨s3, e3⟩ := open_sp38 (by simpa [c38] using h3)
  simp [spRow] at e3
  obtain ⟨rfl, rfl⟩ := e3
  exact ⟨⟨z0, s1, s2, s3⟩, rfl⟩
theorem open_ar82 {fuel : Nat} {cs : List Value} {x : DataW H × List MemPlace} (h : DataW.trod enc Try.prog w 0 spare held fuel 82 cs = some x) : ∃ p : Pc, cs = pcRow p := by
  obtain ⟨xs, m, _, _, hl, hn, hf⟩ := DataW.trod_array Try.underlying82 h
  rw [c82] at hl
  rw [c81] at hf
  have g : ∀ i, i < 4 → ∃ e : Eg, (cs.drop (i * 7)).take 7 = egRow e := fun i hi => by
    have h1 := hf i hi
    rw [List.getElem?_eq_getElem (by omega)] at h1
    exact open_eg81 h1
  obtain ⟨e0, g0⟩ := g 0 (by decide)
  obtain ⟨e1, g1⟩ := g 1 (by decide)
  obtain ⟨e2, g2⟩ := g 2 (by decide)
  obtain ⟨e3, g3⟩ := g 3 (by decide)
  refine ⟨⟨e0, e1, e2, e3⟩, ?_⟩
  show cs = egRow e0 ++ (egRow e1 ++ (egRow e2 ++ egRow e3))
  rw [← g0, ← g1, ← g2, ← g3]
  have d : ∀ k, cs.drop k = (cs.drop k).take 7 ++ cs.drop (k + 7) := fun k => by
    rw [← List.drop_drop]; exact (List.take_append_drop 7 _).symm
  have d3 : (cs.drop (3 * 7)).take 7 = cs.drop 21 := List.take_of_length_le (by rw [List.length_drop, hl]; decide)
  rw [d3]
  have a0 := d 0
  have a1 := d 7
  have a2 := d 14
  simp only [Nat.zero_mul, Nat.one_mul, Nat.reduceMul, List.drop_zero, Nat.zero_add, Nat.reduceAdd] at *
  rw [← a2, ← a1, ← a0]
theorem open_pc84 {fuel : Nat} {cs : List Value} {x : DataW H × List MemPlace} (h : DataW.trod enc Try.prog w 0 spare held fuel 84 cs = some x) : ∃ p : Pc, cs = pcRow p ∧ True := by
  obtain ⟨hl, n, hf⟩ := open_fields Try.underlying84 h
  rw [c84] at hl
  obtain ⟨y0, h0⟩ := hf 0 _ rfl
  have h0 : DataW.trod enc Try.prog w 0 spare held n 82 ((cs.drop 0).take (Try.prog.cellsOf 82)) = some y0 := h0
  rw [c82, List.drop_zero, List.take_of_length_le (by omega)] at h0
  obtain ⟨p, hp⟩ := open_ar82 h0
  exact ⟨p, hp, trivial⟩
theorem open_pl59 {fuel : Nat} {cs : List Value} {x : DataW H × List MemPlace} (h : DataW.trod enc Try.prog w 0 spare held fuel 59 cs = some x) : ∃ p : Pl, cs = plRow p := by
  obtain ⟨hl, n, hf⟩ := open_fields Try.underlying59 h
  rw [c59] at hl
  obtain ⟨x0, x1, x2, x3, x4, rfl⟩ := list5 hl
  obtain ⟨y0, h0⟩ := hf 0 _ rfl
  obtain ⟨z0, e0, _⟩ := open_i (by simpa [c3] using h0)
  obtain rfl : x0 = _ := by simpa using e0
  obtain ⟨y1, h1⟩ := hf 1 _ rfl
  obtain ⟨z1, e1, _⟩ := open_i (by simpa [c3] using h1)
  obtain rfl : x1 = _ := by simpa using e1
  obtain ⟨y2, h2⟩ := hf 2 _ rfl
  obtain ⟨z2, e2, _⟩ := open_i (by simpa [c3] using h2)
  obtain rfl : x2 = _ := by simpa using e2
  obtain ⟨y3, h3⟩ := hf 3 _ rfl
  obtain ⟨s3, e3⟩ := open_sp38 (by simpa [c38] using h3)
  simp [spRow] at e3
  obtain ⟨rfl, rfl⟩ := e3
  exact ⟨⟨z0, z1, z2, s3⟩, rfl⟩
theorem open_pz62 {fuel : Nat} {cs : List Value} {x : DataW H × List MemPlace} (h : DataW.trod enc Try.prog w 0 spare held fuel 62 cs = some x) : ∃ (z : Pz) (a : Option Addr) (c : Nat), cs = pzRow z a c ∧ RowsA pcRow 28 0 w a z.pieces := by
  obtain ⟨hl, n, hf⟩ := open_fields Try.underlying62 h
  rw [c62] at hl
  obtain ⟨x0, x1, x2, x3, x4, x5, x6, x7, x8, rfl⟩ := list9 hl
  obtain ⟨y0, h0⟩ := hf 0 _ rfl
  obtain ⟨p0, e0⟩ := open_pl59 (by simpa [c59] using h0)
  simp [plRow] at e0
  obtain ⟨rfl, rfl, rfl, rfl, rfl⟩ := e0
  obtain ⟨y1, h1⟩ := hf 1 _ rfl
  obtain ⟨z1, e1, _⟩ := open_i (by simpa [c3] using h1)
  obtain rfl : x5 = _ := by simpa using e1
  obtain ⟨y2, h2⟩ := hf 2 _ rfl
  obtain ⟨z2, e2, _⟩ := open_i (by simpa [c3] using h2)
  obtain rfl : x6 = _ := by simpa using e2
  obtain ⟨y3, h3⟩ := hf 3 _ rfl
  obtain ⟨z3, e3, _⟩ := DataW.trod_bool Try.underlying4 (by simpa [c4] using h3)
  obtain rfl : x7 = _ := by simpa using e3
  obtain ⟨y4, h4⟩ := hf 4 _ rfl
  obtain ⟨a, l, c, e4, _, hB, _⟩ := open_rows (row := pcRow) (G := fun _ => True) Try.underlying60 c84 (fun _ _ _ => open_pc84) (by simpa [c60] using h4)
  obtain rfl : x8 = _ := by simpa using e4
  exact ⟨⟨p0, z1, z2, z3, l⟩, a, c, rfl, hB⟩
end
end Go.Proofs.Ytfceajkofpafpaa
