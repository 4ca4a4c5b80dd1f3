/- The walks of the document's Short, and of the law RingShorts. -/
import Derived.Test.YtpijahglojichaaDoorWalk25
import Derived.Test.YtpijahglojichaaDoorLawI
import Derived.Test.YtpijahglojichaaDoorWalk15
namespace Go.Proofs.YtpijahglojichaaDoor
open Go Go.Eng Go.RowKit Go.Proofs
set_option maxRecDepth 100000


theorem Short29 (w : World) (z : MA) (m : Mt) (hz : MtA 0 w z m) (long : Int) : Calls Tryd.prog 29 #[.agg (mV z m).toArray, .int .i64 long] w fun e w' => ∃ y : Option Addr × Nat, e = .returned (.tuple #[.slice y.1 (shortA m long).1.length y.2, .int .i64 (shortA m long).2.1, .int .i64 (shortA m long).2.2]) ∧ Below w.heap.size w w' ∧ RowsA iRow 1 w.heap.size w' y.1 (shortA m long).1 := by
  refine calls_of_SC (args := [.agg (mV z m).toArray, .int .i64 long]) Tryd.func29 rfl Tryd.ntmps29 rfl ?_
  simp only [argL, Nat.zero_add]
  refine sc_seq ?_
  refine sc_region ?_
  refine sq_box RF rfl (fun b2 => ?_)
  refine qs (y_assign RF) ?_
  refine qs (y_assign RF) ?_
  refine qs (y_assign RF) ?_
  refine sq_nil ?_
  refine sx_then ?_
  refine sc_seq ?_
  refine sc_seq ?_
  refine sc_region ?_
  refine qs LD24 ?_
  refine qy (yc Tryd.call30 E1 (fun w1 hw1 => market30 w1 z m (hz.at hw1 MM))) ?_
  refine qs (y_not RF) ?_
  refine sq_nil ?_
  refine sx_then ?_
  refine scp (fun hc0 => ?_) (fun hc0 => ?_)
  ·
    refine sc_seq ?_
    refine sc_region ?_
    refine qs (y_assign RF) ?_
    refine qs (y_assign RF) ?_
    refine qs (y_assign RF) ?_
    refine sq_nil ?_
    refine sx_then ?_
    refine sc_ret ?_
    refine sx_then_ret ?_
    refine sx_ret3 (.inl rfl) rfl Tryd.results29 RF RF RF ?_
    intro w' hw'
    have hb : mkB m = false := by simpa using hc0
    rw [shortA_no hb]
    exact ⟨(none, 0), rfl, hw'.below MM, RowsA.nil _ _⟩
  ·
    refine sc_skip ?_
    refine sx_then ?_
    refine sc_seq ?_
    refine sc_seq ?_
    have hb : mkB m = true := by simpa using hc0
    have hm := mkF hb
    refine sc_region ?_
    refine qs (y_move RF) ?_
    refine qy (yc Tryd.call50 E3 (fun w1 hw1 => in50 long 2 7 w1)) ?_
    refine qs (y_not RF) ?_
    refine sq_nil ?_
    refine sx_then ?_
    refine scp (fun hc1 => ?_) (fun hc1 => ?_)
    ·
      refine sc_seq ?_
      refine sc_region ?_
      refine qs (y_assign RF) ?_
      refine qs (y_assign RF) ?_
      refine qs (y_assign RF) ?_
      refine sq_nil ?_
      refine sx_then ?_
      refine sc_ret ?_
      refine sx_then_ret ?_
      refine sx_ret3 (.inl rfl) rfl Tryd.results29 RF RF RF ?_
      intro w' hw'
      have hb : mkB m = true := by simpa using hc0
      rw [shortA_far hb (by simpa [inB] using hc1)]
      exact ⟨(none, 0), rfl, hw'.below MM, RowsA.nil _ _⟩
    ·
      refine sc_skip ?_
      refine sx_then ?_
      refine sc_seq ?_
      have hlb : inB long 2 7 = true := by simpa [inB] using hc1
      have hlg : 2 ≤ long ∧ long ≤ 7 := by simpa [inB] using hlb
      refine sc_region ?_
      refine qs LD24 ?_
      refine qs (y_move RF) ?_
      refine sq_call_new (first := []) (caps := []) (Z := (Option Addr × Nat) × List Int) (fun r => .tuple #[.slice r.1.1 r.2.length r.1.2, .int .i64 (worthL m r.2)]) (fun lo w' r => w.heap.size ≤ lo ∧ RowsA iRow 1 lo w' r.1.1 r.2 ∧ RefF m long r.2) RF Tryd.call54 (EvL.cons RF (EvL.cons RF EvL.nil)) (fun w1 hw1 => (best54 w1 z m (hz.at hw1 MM) hm long (by omega)).mono (fun e w' ⟨r, h1, h2, h3, h4⟩ => ⟨r, h1, h2, hw1.size, h3, h4⟩)) rfl (fun lo3 wr3 r3 hr3 => ?_)
      refine qs (y_move RF) ?_
      refine qs (y_extract RF RF) ?_
      refine qs (y_extract RF RF) ?_
      refine qs (y_assign RF) ?_
      refine qs (y_assign RF) ?_
      refine sq_nil ?_
      refine sx_then ?_
      refine sc_seq ?_
      refine sc_region ?_
      refine qs (y_move RF) ?_
      refine qs (y_move RF) ?_
      refine qs (y_assign RF) ?_
      refine qs (y_assign RF) ?_
      refine qs (y_assign RF) ?_
      refine sq_nil ?_
      refine sx_then ?_
      refine sc_ret ?_
      refine sx_ret3 (.inl rfl) rfl Tryd.results29 RF RF RF ?_
      intro w' hw'
      obtain ⟨ln, rfl⟩ : ∃ ln : Nat, long = (ln : Int) := ⟨long.toNat, by omega⟩
      obtain ⟨h1, h2⟩ := ref_short hm (by omega) hr3.2.2
      have h3 := hr3.2.1
      rw [shortA_ok hb hlb, Int.toNat_natCast]
      change r3.2 = (shortM m ln).gets at h1
      change _ = (shortM m ln).worth at h2
      rw [h1] at h3 ⊢
      rw [h1] at h2
      rw [h2]
      exact ⟨r3.1, rfl, hw'.below MM, rowsA_keep h3 hw' MM hr3.1⟩
theorem shorts5 (w : World) (z : MA) (m : Mt) (hz : MtA 0 w z m) (hT : TabAt w) (long : Int) : Calls Tryd.prog 5 #[.agg (mV z m).toArray, .int .i64 long] w fun e w' => e = .returned (.bool true) ∧ Below w.heap.size w w' := by
  refine calls_of_SC (args := [.agg (mV z m).toArray, .int .i64 long]) Tryd.func5 rfl Tryd.ntmps5 rfl ?_
  simp only [argL, Nat.zero_add]
  refine sc_seq ?_
  refine sc_region ?_
  refine sq_box RF rfl (fun b2 => ?_)
  refine qs (y_assign RF) ?_
  refine sq_nil ?_
  refine sx_then ?_
  refine sc_seq ?_
  refine sc_seq ?_
  have hlen := hz.len
  refine sc_region ?_
  refine qs LD24 ?_
  refine qy (yc Tryd.call14 E1 (fun w1 hw1 => far14 w1 z m (hz.at hw1 MM))) ?_
  refine qs (y_move RF) ?_
  refine sp 13 (fun hg1_2 => ?_) (fun hg1_2 => ?_)
  ·
    refine qf ?_
    refine qf ?_
    refine qf ?_
    refine qf ?_
    refine qf ?_
    refine sq_gu RF RF rfl ?_
    refine sq_gu RF RF rfl ?_
    refine sq_gu RF RF rfl ?_
    refine sq_gu RF RF rfl ?_
    refine qf ?_
    refine qs (y_pick_t RF RF) ?_
    refine sq_nil ?_
    refine sx_then ?_
    refine sc_t RF ?_
    refine sc_seq ?_
    refine sc_region ?_
    refine qy (yc Tryd.call15 E0 (fun w1 hw1 => awake15 w1 (CA.at hT hw1 MM))) ?_
    refine qs (y_assign RF) ?_
    refine sq_nil ?_
    refine sx_then ?_
    refine sc_ret ?_
    refine sx_then_ret ?_
    refine sx_ret1 (.inl rfl) rfl Tryd.results5 RF ?_
    intro w' hw'
    exact ⟨rfl, hw'.below MM⟩
  ·
    refine qg FA24_22 ?_
    refine qg LD22 ?_
    refine qg (y_len Tryd.underlying22 RF) ?_
    refine qg (y_gtr RF RF) ?_
    refine qg (y_move RF) ?_
    refine sp 18 (fun hg1_7 => ?_) (fun hg1_7 => ?_)
    ·
      refine qg FA24_22 ?_
      refine qg LD22 ?_
      refine qg (y_len Tryd.underlying22 RF) ?_
      refine qg (y_leq RF RF) ?_
      refine qg (y_pick_t RF RF) ?_
      refine qs (y_pick_f RF RF) ?_
      refine sq_nil ?_
      refine sx_then ?_
      refine scp (fun hc0 => ?_) (fun hc0 => ?_)
      ·
        refine sc_seq ?_
        refine sc_region ?_
        refine qy (yc Tryd.call15 E0 (fun w1 hw1 => awake15 w1 (CA.at hT hw1 MM))) ?_
        refine qs (y_assign RF) ?_
        refine sq_nil ?_
        refine sx_then ?_
        refine sc_ret ?_
        refine sx_then_ret ?_
        refine sx_ret1 (.inl rfl) rfl Tryd.results5 RF ?_
        intro w' hw'
        exact ⟨rfl, hw'.below MM⟩
      ·
        refine sc_skip ?_
        refine sx_then ?_
        refine sc_seq ?_
        refine sc_region ?_
        refine qs LD24 ?_
        refine qs (y_move RF) ?_
        refine sq_call_new (first := []) (caps := []) (Z := Option Addr × Nat) (fun q => .tuple #[.slice q.1 (shortA m long).1.length q.2, .int .i64 (shortA m long).2.1, .int .i64 (shortA m long).2.2]) (fun lo w' q => RowsA iRow 1 lo w' q.1 (shortA m long).1) RF Tryd.call28 (EvL.cons RF (EvL.cons RF EvL.nil)) (fun w1 hw1 => Short28 w1 z m (hz.at hw1 MM) (CA.at hT hw1 MM) long) rfl (fun lo3 wr3 y3 hy3 => ?_)
        refine qs (y_move RF) ?_
        refine qs (y_extract RF RF) ?_
        refine qs (y_extract RF RF) ?_
        refine qs (y_extract RF RF) ?_
        refine qs (y_assign RF) ?_
        refine qs (y_assign RF) ?_
        refine qs (y_assign RF) ?_
        refine sq_nil ?_
        refine sx_then ?_
        refine sc_seq ?_
        refine sc_region ?_
        refine qs LD24 ?_
        refine qs (y_move RF) ?_
        refine sq_call_new (first := []) (caps := []) (Z := Option Addr × Nat) (fun q => .tuple #[.slice q.1 (shortA m long).1.length q.2, .int .i64 (shortA m long).2.1, .int .i64 (shortA m long).2.2]) (fun lo w' q => RowsA iRow 1 lo w' q.1 (shortA m long).1) RF Tryd.call29 (EvL.cons RF (EvL.cons RF EvL.nil)) (fun w1 hw1 => Short29 w1 z m (hz.at hw1 MM) long) rfl (fun lo4 wr4 y4 hy4 => ?_)
        refine qs (y_move RF) ?_
        refine qs (y_extract RF RF) ?_
        refine qs (y_extract RF RF) ?_
        refine qs (y_extract RF RF) ?_
        refine qs (y_assign RF) ?_
        refine qs (y_assign RF) ?_
        refine qs (y_assign RF) ?_
        refine sq_nil ?_
        refine sx_then ?_
        refine sc_seq ?_
        refine sc_region ?_
        refine qs (y_move RF) ?_
        refine qs (y_move RF) ?_
        refine qy (yc Tryd.call27 E2 (fun w1 hw1 => ints27 w1 y3.1 y4.1 y3.2 y4.2 _ _ (hy3.at hw1 MM) (hy4.at hw1 MM))) ?_
        refine qs (y_move RF) ?_
        refine sq_known (tt := 43) (b' := true) RF (by simp) ?_
        refine qg (y_move RF) ?_
        refine qg (y_move RF) ?_
        refine qg (y_eql RF RF) ?_
        refine qs (y_pick_t RF RF) ?_
        refine qs (y_move RF) ?_
        refine sq_known (tt := 48) (b' := true) RF (by simp) ?_
        refine qg (y_move RF) ?_
        refine qg (y_move RF) ?_
        refine qg (y_eql RF RF) ?_
        refine qs (y_pick_t RF RF) ?_
        refine qs (y_move RF) ?_
        refine sq_known (tt := 53) (b' := true) RF (by simp) ?_
        refine sq_gt RF RF (y_call (first := []) (caps := []) RF Tryd.call15 EvL.nil (fun w1 hw1 => awake15 w1 (CA.at hT hw1 MM))) rfl ?_
        refine qs (y_pick_t RF RF) ?_
        refine qs (y_assign RF) ?_
        refine sq_nil ?_
        refine sx_then ?_
        refine sc_ret ?_
        refine sx_ret1 (.inl rfl) rfl Tryd.results5 RF ?_
        intro w' hw'
        exact ⟨rfl, hw'.below MM⟩
    ·
      refine qf ?_
      refine qf ?_
      refine qf ?_
      refine qf ?_
      refine qg (y_pick_f RF RF) ?_
      refine qs (y_pick_f RF RF) ?_
      refine sq_nil ?_
      refine sx_then ?_
      refine sc_f RF ?_
      refine sc_skip ?_
      refine sx_then ?_
      refine sc_seq ?_
      refine sc_region ?_
      refine qs LD24 ?_
      refine qs (y_move RF) ?_
      refine sq_call_new (first := []) (caps := []) (Z := Option Addr × Nat) (fun q => .tuple #[.slice q.1 (shortA m long).1.length q.2, .int .i64 (shortA m long).2.1, .int .i64 (shortA m long).2.2]) (fun lo w' q => RowsA iRow 1 lo w' q.1 (shortA m long).1) RF Tryd.call28 (EvL.cons RF (EvL.cons RF EvL.nil)) (fun w1 hw1 => Short28 w1 z m (hz.at hw1 MM) (CA.at hT hw1 MM) long) rfl (fun lo3 wr3 y3 hy3 => ?_)
      refine qs (y_move RF) ?_
      refine qs (y_extract RF RF) ?_
      refine qs (y_extract RF RF) ?_
      refine qs (y_extract RF RF) ?_
      refine qs (y_assign RF) ?_
      refine qs (y_assign RF) ?_
      refine qs (y_assign RF) ?_
      refine sq_nil ?_
      refine sx_then ?_
      refine sc_seq ?_
      refine sc_region ?_
      refine qs LD24 ?_
      refine qs (y_move RF) ?_
      refine sq_call_new (first := []) (caps := []) (Z := Option Addr × Nat) (fun q => .tuple #[.slice q.1 (shortA m long).1.length q.2, .int .i64 (shortA m long).2.1, .int .i64 (shortA m long).2.2]) (fun lo w' q => RowsA iRow 1 lo w' q.1 (shortA m long).1) RF Tryd.call29 (EvL.cons RF (EvL.cons RF EvL.nil)) (fun w1 hw1 => Short29 w1 z m (hz.at hw1 MM) long) rfl (fun lo4 wr4 y4 hy4 => ?_)
      refine qs (y_move RF) ?_
      refine qs (y_extract RF RF) ?_
      refine qs (y_extract RF RF) ?_
      refine qs (y_extract RF RF) ?_
      refine qs (y_assign RF) ?_
      refine qs (y_assign RF) ?_
      refine qs (y_assign RF) ?_
      refine sq_nil ?_
      refine sx_then ?_
      refine sc_seq ?_
      refine sc_region ?_
      refine qs (y_move RF) ?_
      refine qs (y_move RF) ?_
      refine qy (yc Tryd.call27 E2 (fun w1 hw1 => ints27 w1 y3.1 y4.1 y3.2 y4.2 _ _ (hy3.at hw1 MM) (hy4.at hw1 MM))) ?_
      refine qs (y_move RF) ?_
      refine sq_known (tt := 43) (b' := true) RF (by simp) ?_
      refine qg (y_move RF) ?_
      refine qg (y_move RF) ?_
      refine qg (y_eql RF RF) ?_
      refine qs (y_pick_t RF RF) ?_
      refine qs (y_move RF) ?_
      refine sq_known (tt := 48) (b' := true) RF (by simp) ?_
      refine qg (y_move RF) ?_
      refine qg (y_move RF) ?_
      refine qg (y_eql RF RF) ?_
      refine qs (y_pick_t RF RF) ?_
      refine qs (y_move RF) ?_
      refine sq_known (tt := 53) (b' := true) RF (by simp) ?_
      refine sq_gt RF RF (y_call (first := []) (caps := []) RF Tryd.call15 EvL.nil (fun w1 hw1 => awake15 w1 (CA.at hT hw1 MM))) rfl ?_
      refine qs (y_pick_t RF RF) ?_
      refine qs (y_assign RF) ?_
      refine sq_nil ?_
      refine sx_then ?_
      refine sc_ret ?_
      refine sx_ret1 (.inl rfl) rfl Tryd.results5 RF ?_
      intro w' hw'
      exact ⟨rfl, hw'.below MM⟩
end Go.Proofs.YtpijahglojichaaDoor
