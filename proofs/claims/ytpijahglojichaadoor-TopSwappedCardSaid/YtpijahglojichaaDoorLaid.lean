/- The table of math/bits that the row lists: what its reading says; and that the door's heap bears it. -/
import Derived.Test.YtpijahglojichaaDoorWalk2
import Derived.Test.YtpijahglojichaaDoorRows
import Derived.ProofKit
import Derived.LaidMore
import Derived.OpenShut
import Derived.MakeChecks
import Derived.Stop.Joined
namespace Go.Proofs.YtpijahglojichaaDoor
open Go Go.Eng Go.RowKit Go.Proofs Go.ChangeShapes Go.WideShapes Go.ChangeAt
set_option maxRecDepth 100000
def laidL : List (String × DataW Unit) := [("math/bits.deBruijn32tab", Rows.laid_math_bits_deBruijn32tab), ("math/bits.deBruijn64tab", Rows.laid_math_bits_deBruijn64tab)]
theorem gTab : Tryd.prog.globalNamed "math/bits.deBruijn64tab" = some 1 := by kernel_rfl
theorem tTab : (Tryd.prog.globals[1]?).map (·.type) = some 151 := by kernel_rfl
theorem c5' : Tryd.prog.cellsOf 5 = 1 := by kernel_rfl
theorem laidTab : (Rows.laid_math_bits_deBruijn64tab : DataW Unit) = .agg (tabN.map fun (n : Nat) => .lit (.int .u8 (n : Int))) := rfl
theorem tab_trod {enc : TypeId × Value → Unit} {w : World} {base fuel : Nat} {spare : Nat → Bool} {held : Bool} {cs : List Value} {q : List MemPlace} (h : DataW.trod enc Tryd.prog w base spare held fuel 151 cs = some (Rows.laid_math_bits_deBruijn64tab, q)) : ∀ (j : Nat) (v : Value), tabRow[j]? = some v → cs[j]? = some v := by
  obtain ⟨xs, m, _, hx, hlen, hn, hel⟩ := DataW.trod_array Tryd.underlying151 h
  intro j v hj
  have hj64 : j < 64 := (List.getElem?_eq_some_iff.1 hj).1
  have he := hel j hj64
  rw [List.getElem?_eq_getElem (show j < xs.length by omega)] at he
  obtain ⟨n, e1, e2, _⟩ := DataW.trod_int Tryd.underlying5 he
  rw [laidTab] at hx
  have hx1 : tabN.map (fun (n : Nat) => (DataW.lit (Lit.int .u8 (n : Int)) : DataW Unit)) = xs.map (·.1) := by
    have := congrArg Prod.fst hx
    simpa using this
  have hd := congrArg (fun l => l[j]?) hx1
  rw [List.getElem?_map, List.getElem?_map, List.getElem?_eq_getElem (show j < xs.length by omega), get_of_lt 0 (show j < tabN.length from hj64), Option.map_some, Option.map_some, e2] at hd
  have hn2 : ((tabN.getD j 0 : Nat) : Int) = n := by simpa using hd
  rw [tab_get hj64] at hj
  rw [← Option.some.inj hj, hn2]
  rw [c5', Nat.mul_one] at e1
  have := congrArg (fun l => l[0]?) e1
  rw [List.getElem?_take, if_pos (by decide), List.getElem?_drop] at this
  simpa using this
/-- what the row's premise gives the walks -/
theorem of_laid {w : World} (h : laidMetH Tryd.prog laidL w) : TabAt w := by
  rw [MakeChecks.laidMetH_plain _ _ _ (by kernel_rfl)] at h
  obtain ⟨ps, ⟨g0, t0, cs0, f0, p0, q0, hg0, ht0, hv0, hd0, ⟨g1, t1, cs1, f1, p1, q1, hg1, ht1, hv1, hd1, _, _⟩, _⟩, _, _⟩ := h
  obtain rfl := Option.some.inj (gTab.symm.trans hg1)
  obtain rfl := Option.some.inj (tTab.symm.trans ht1)
  refine ⟨Nat.zero_le _, fun j v hj => ?_⟩
  rw [Addr.add_lit, Nat.zero_add, World.var?_cell hg1 hv1 j]
  have := tab_trod hd1 j v hj
  simpa using this
/-- the door's own heap bears it -/
theorem door_met (os : Os) (args : Array Value) : laidMetH Tryd.prog laidL ((World.doorLaid Tryd.prog 400 os).forCall (fun _ _ => 0) ⟨#[], args, []⟩).memory :=
  laidMetH_of_parts3 (fuel := 8) (laidMet_of_run' 8 (by kernel_rfl) (by kernel_rfl)) (by kernel_rfl) (by kernel_rfl)
end Go.Proofs.YtpijahglojichaaDoor
