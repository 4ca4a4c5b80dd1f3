/- A market, opened: with the room of its rows. -/
import Derived.Test.YtpijahglojichaaDoorOpen
import Derived.Test.YtpijahglojichaaDoorWalk31
namespace Go.Proofs.YtpijahglojichaaDoor
open Go Go.Eng Go.RowKit Go.Proofs Go.ChangeShapes Go.WideShapes
set_option maxRecDepth 100000
section
variable {H : Type} {enc : TypeId × Value → H} {w : World} {spare : Nat → Bool} {held : Bool}
theorem open_lc {fuel : Nat} {cs : List Value} {x : DataW H × List MemPlace} (h : DataW.trod enc Tryd.prog w 0 spare held fuel 25 cs = some x) : ∃ p : List Int × Option Addr × Nat, cs = lRow3 p ∧ (RowsA iRow 1 0 w p.2.1 p.1 ∧ p.1.length ≤ p.2.2) := by
  obtain ⟨a1, z1, c1', e1, hc, hB1, _⟩ := open_rows (row := iRow) (G := fun _ => True) Tryd.underlying25 c3 (fun _ _ _ => open_ii) h
  exact ⟨(z1, a1, c1'), e1, hB1, hc⟩
theorem open_mc {fuel : Nat} {cs : List Value} {x : DataW H × List MemPlace} (h : DataW.trod enc Tryd.prog w 0 spare held fuel 24 cs = some x) : ∃ (z : MA) (m : Mt), cs = mV z m ∧ MtA 0 w z m ∧ CapF z m := by
  obtain ⟨hl, n, hf⟩ := open_fields Tryd.underlying24 h
  rw [c24] at hl
  obtain ⟨x0, rfl⟩ := list1 hl
  obtain ⟨y0, h0⟩ := hf 0 _ rfl
  obtain ⟨a, l, c, h1, _, h3, h4⟩ := open_rows (row := lRow3) (G := fun p => RowsA iRow 1 0 w p.2.1 p.1 ∧ p.1.length ≤ p.2.2) Tryd.underlying22 c25 (fun _ _ _ => open_lc) (by simpa [c22] using h0)
  obtain rfl : x0 = _ := by simpa using h1
  have hget : ∀ i p, l[i]? = some p → l.getD i ([], none, 0) = p := fun i p hp => by rw [List.getD_eq_getElem?_getD, hp]; rfl
  refine ⟨⟨a, c, fun i => (l.getD i ([], none, 0)).2.1, fun i => (l.getD i ([], none, 0)).2.2⟩, l.map (·.1), by show _ = [Value.slice a (l.map (·.1)).length c]; rw [List.length_map], ⟨fun i m hi => ?_, by rw [List.length_map]; exact h3.len⟩, fun i hi => ?_⟩
  · rw [List.getElem?_map] at hi
    obtain ⟨p, hp, rfl⟩ := Option.map_eq_some_iff.1 hi
    show _ ∧ CA 0 w _ [.slice (l.getD i ([], none, 0)).2.1 p.1.length (l.getD i ([], none, 0)).2.2] ∧ RowsA iRow 1 0 w (l.getD i ([], none, 0)).2.1 p.1
    rw [hget i p hp]
    have he := h3.el i p hp
    exact ⟨he.1, he.2, (h4 p (List.mem_of_getElem? hp)).1⟩
  · rw [List.length_map] at hi
    have hp := List.getElem?_eq_getElem hi
    show ((l.map (·.1)).getD i []).length ≤ (l.getD i ([], none, 0)).2.2
    rw [hget i _ hp, show (l.map (·.1)).getD i [] = l[i].1 by rw [List.getD_eq_getElem?_getD, List.getElem?_map, hp]; rfl]
    exact (h4 _ (List.mem_of_getElem? hp)).2
end
end Go.Proofs.YtpijahglojichaaDoor
