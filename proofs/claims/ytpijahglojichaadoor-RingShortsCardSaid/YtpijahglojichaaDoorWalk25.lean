/- The walks of the document's Best and Prices. -/
import Derived.Test.YtpijahglojichaaDoorWalk24
import Derived.Test.YtpijahglojichaaDoorLawQ
namespace Go.Proofs.YtpijahglojichaaDoor
open Go Go.Eng Go.RowKit Go.Proofs
set_option maxRecDepth 100000

theorem Best24 (w : World) (z : MA) (m : Mt) (hz : MtA 0 w z m) : Calls Tryd.prog 24 #[.agg (mV z m).toArray] w fun e w' => ∃ y : Option Addr × Nat, e = .returned (.tuple #[.slice y.1 (bestA m).1.length y.2, .int .i64 (bestA m).2.1, .int .i64 (bestA m).2.2]) ∧ Below w.heap.size w w' ∧ RowsA iRow 1 w.heap.size w' y.1 (bestA m).1 := by
  refine calls_of_SC (args := [.agg (mV z m).toArray]) Tryd.func24 rfl Tryd.ntmps24 rfl ?_
  simp only [argL]
  refine sc_seq ?_
  refine sc_region ?_
  refine sq_box RF rfl (fun b1 => ?_)
  refine qs (y_assign RF) ?_
  refine qs (y_assign RF) ?_
  refine qs (y_assign RF) ?_
  refine sq_nil ?_
  refine sx_then ?_
  refine sc_seq ?_
  refine sc_seq ?_
  refine sc_region ?_
  refine qs LD24 ?_
  refine qy (yc Tryd.call30 E1 (fun w1 hw1 => market30 w1 z m (hz.at hw1 MM))) ?_
  refine qs (y_not RF) ?_
  refine sq_nil ?_
  refine sx_then ?_
  refine scp (fun hc0 => ?_) (fun hc0 => ?_)
  ·
    refine sc_seq ?_
    refine sc_region ?_
    refine qs (y_assign RF) ?_
    refine qs (y_assign RF) ?_
    refine qs (y_assign RF) ?_
    refine sq_nil ?_
    refine sx_then ?_
    refine sc_ret ?_
    refine sx_then_ret ?_
    refine sx_ret3 (.inl rfl) rfl Tryd.results24 RF RF RF ?_
    intro w' hw'
    have hb : mkB m = false := by simpa using hc0
    rw [bestA_no hb]
    exact ⟨(none, 0), rfl, hw'.below MM, RowsA.nil _ _⟩
  ·
    refine sc_skip ?_
    refine sx_then ?_
    refine sc_seq ?_
    have hb : mkB m = true := by simpa using hc0
    have hm := mkF hb
    refine sc_region ?_
    refine qs LD24 ?_
    refine sq_call_new (first := []) (caps := []) (Z := (Option Addr × Nat) × List Int) (fun r => .tuple #[.slice r.1.1 r.2.length r.1.2, .int .i64 (worthL m r.2)]) (fun lo w' r => w.heap.size ≤ lo ∧ RowsA iRow 1 lo w' r.1.1 r.2 ∧ RefF m 7 r.2) RF Tryd.call54 (EvL.cons RF (EvL.cons RF EvL.nil)) (fun w1 hw1 => (best54 w1 z m (hz.at hw1 MM) hm 7 (by decide)).mono (fun e w' ⟨r, h1, h2, h3, h4⟩ => ⟨r, h1, h2, hw1.size, h3, h4⟩)) rfl (fun lo3 wr3 r3 hr3 => ?_)
    refine qs (y_move RF) ?_
    refine qs (y_extract RF RF) ?_
    refine qs (y_extract RF RF) ?_
    refine qs (y_assign RF) ?_
    refine qs (y_assign RF) ?_
    refine sq_nil ?_
    refine sx_then ?_
    refine sc_seq ?_
    refine sc_region ?_
    refine qs (y_move RF) ?_
    refine qs (y_move RF) ?_
    refine qs (y_assign RF) ?_
    refine qs (y_assign RF) ?_
    refine qs (y_assign RF) ?_
    refine sq_nil ?_
    refine sx_then ?_
    refine sc_ret ?_
    refine sx_ret3 (.inl rfl) rfl Tryd.results24 RF RF RF ?_
    intro w' hw'
    obtain ⟨h1, h2⟩ := ref_best hm hr3.2.2
    have h3 := hr3.2.1
    rw [bestA_ok hb]
    rw [h1] at h3 ⊢
    rw [h1] at h2
    rw [h2]
    exact ⟨r3.1, rfl, hw'.below MM, rowsA_keep h3 hw' MM hr3.1⟩
end Go.Proofs.YtpijahglojichaaDoor
