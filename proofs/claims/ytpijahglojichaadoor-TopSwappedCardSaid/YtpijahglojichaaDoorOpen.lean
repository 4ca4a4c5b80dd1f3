/- The arguments of the laws, opened. -/
import Derived.Test.YtpijahglojichaaDoorOpenB
import Derived.Test.YtpijahglojichaaDoorWalk3
namespace Go.Proofs.YtpijahglojichaaDoor
open Go Go.Eng Go.RowKit Go.Proofs Go.ChangeShapes Go.WideShapes
set_option maxRecDepth 100000
section
variable {H : Type} {enc : TypeId × Value → H} {w : World} {spare : Nat → Bool} {held : Bool}
theorem c22 : Tryd.prog.cellsOf 22 = 1 := by kernel_rfl
theorem c24 : Tryd.prog.cellsOf 24 = 1 := by kernel_rfl
theorem c25 : Tryd.prog.cellsOf 25 = 1 := by kernel_rfl
theorem open_ii {fuel : Nat} {cs : List Value} {x : DataW H × List MemPlace} (h : DataW.trod enc Tryd.prog w 0 spare held fuel 3 cs = some x) : ∃ n : Int, cs = iRow n ∧ True := by
  obtain ⟨n, h1, _⟩ := open_i h
  exact ⟨n, h1, trivial⟩
def lRow3 (p : List Int × Option Addr × Nat) : List Value := [.slice p.2.1 p.1.length p.2.2]
theorem open_l {fuel : Nat} {cs : List Value} {x : DataW H × List MemPlace} (h : DataW.trod enc Tryd.prog w 0 spare held fuel 25 cs = some x) : ∃ p : List Int × Option Addr × Nat, cs = lRow3 p ∧ RowsA iRow 1 0 w p.2.1 p.1 := by
  obtain ⟨a1, z1, c1', e1, _, hB1, _⟩ := open_rows (row := iRow) (G := fun _ => True) Tryd.underlying25 c3 (fun _ _ _ => open_ii) h
  exact ⟨(z1, a1, c1'), e1, hB1⟩
theorem open_ls {fuel : Nat} {cs : List Value} {x : DataW H × List MemPlace} (h : DataW.trod enc Tryd.prog w 0 spare held fuel 22 cs = some x) : ∃ a l c f cf, cs = [.slice a (List.length l) c] ∧ LsA 0 w a f cf l := by
  obtain ⟨a, l, c, h1, _, h3, h4⟩ := open_rows (row := lRow3) (G := fun p => RowsA iRow 1 0 w p.2.1 p.1) Tryd.underlying22 c25 (fun _ _ _ => open_l) h
  refine ⟨a, l.map (·.1), c, fun i => (l.getD i ([], none, 0)).2.1, fun i => (l.getD i ([], none, 0)).2.2, by rw [h1, List.length_map], ⟨fun i m hi => ?_, by rw [List.length_map]; exact h3.len⟩⟩
  rw [List.getElem?_map] at hi
  obtain ⟨p, hp, rfl⟩ := Option.map_eq_some_iff.1 hi
  have hg : l.getD i ([], none, 0) = p := by rw [List.getD_eq_getElem?_getD, hp]; rfl
  rw [hg]
  have he := h3.el i p hp
  exact ⟨he.1, he.2, h4 p (List.mem_of_getElem? hp)⟩
theorem open_m {fuel : Nat} {cs : List Value} {x : DataW H × List MemPlace} (h : DataW.trod enc Tryd.prog w 0 spare held fuel 24 cs = some x) : ∃ (z : MA) (m : Mt), cs = mV z m ∧ MtA 0 w z m := by
  obtain ⟨hl, n, hf⟩ := open_fields Tryd.underlying24 h
  rw [c24] at hl
  obtain ⟨x0, rfl⟩ := list1 hl
  obtain ⟨y0, h0⟩ := hf 0 _ rfl
  obtain ⟨a, l, c, f, cf, e0, hB⟩ := open_ls (by simpa [c22] using h0)
  obtain rfl : x0 = _ := by simpa using e0
  exact ⟨⟨a, c, f, cf⟩, l, rfl, hB⟩
end
end Go.Proofs.YtpijahglojichaaDoor
