/- The walks of what looks whether sides are valid. -/
import Derived.Test.YtfceajkofpafpaaHW1
import Derived.Test.YtfceajkofpafpaaTDat
namespace Go.Proofs.Ytfceajkofpafpaa
open Go Go.Eng Go.RowKit Go.Proofs
open Go.Proofs.Ytfceajkofpafpaa.Sc (iRow spRow sp0 Sp spB getD_of get_of_lt any_range_get all_not_any all_getD)
set_option maxRecDepth 100000
def egRow (e : Eg) : List Value := [.int .i64 e.kind, .int .i64 e.at_.lo, .int .i64 e.at_.hi, .int .i64 e.wd.lo, .int .i64 e.wd.hi, .int .i64 e.dp.lo, .int .i64 e.dp.hi]
def plRow (p : Pl) : List Value := [.int .i64 p.len, .int .i64 p.slack, .int .i64 p.loose, .int .i64 p.damp.lo, .int .i64 p.damp.hi]
theorem egRow_len (e : Eg) : (egRow e).length = 7 := rfl
theorem ei81 : EI Try.prog 81 (.agg #[.int .i64 0, .int .i64 0, .int .i64 0, .int .i64 0, .int .i64 0, .int .i64 0, .int .i64 0]) 7 56 := by unfold EI; kernel_rfl
theorem bt59 : BT Try.prog 59 [(0, 1), (1, 1), (2, 1), (3, 2)] (.agg #[.int .i64 0, .int .i64 0, .int .i64 0, .int .i64 0, .int .i64 0]) := BT.of Try.underlying59 (by kernel_rfl) (by kernel_rfl)
theorem bt81 : BT Try.prog 81 [(0, 1), (1, 2), (3, 2), (5, 2)] (.agg #[.int .i64 0, .int .i64 0, .int .i64 0, .int .i64 0, .int .i64 0, .int .i64 0, .int .i64 0]) := BT.of Try.underlying81 (by kernel_rfl) (by kernel_rfl)
theorem bt229 : BT Try.prog 229 [(0, 1), (1, 1)] (.agg #[.int .i64 0, .int .i64 0]) := BT.of Try.underlying229 (by kernel_rfl) (by kernel_rfl)
theorem bt232 : BT Try.prog 232 [(0, 5), (5, 7), (12, 7)] (.agg #[.int .i64 0, .int .i64 0, .int .i64 0, .int .i64 0, .int .i64 0, .int .i64 0, .int .i64 0, .int .i64 0, .int .i64 0, .int .i64 0, .int .i64 0, .int .i64 0, .int .i64 0, .int .i64 0, .int .i64 0, .int .i64 0, .int .i64 0, .int .i64 0, .int .i64 0]) := BT.of Try.underlying232 (by kernel_rfl) (by kernel_rfl)
theorem within123 (n l h : Int) (w : World) : Calls Try.prog 123 #[.int .i64 n, .int .i64 l, .int .i64 h] w fun e w' => e = .returned (.bool (decide (l ≤ n ∧ n ≤ h))) ∧ Below w.heap.size w w' := by
  refine calls_of_SC (args := [.int .i64 n, .int .i64 l, .int .i64 h]) Try.func123 rfl Try.ntmps123 rfl ?_
  simp only [argL, Nat.reduceAdd, Nat.zero_add]
  refine sc_seq ?_
  refine sc_region ?_
  refine qs (y_assign RF) ?_
  refine sq_nil ?_
  refine sx_then ?_
  refine sc_seq ?_
  refine sc_region ?_
  refine qs (y_move RF) ?_
  refine qs (y_move RF) ?_
  refine qs (y_leq RF RF) ?_
  refine qs (y_move RF) ?_
  refine sp 10 (fun hg1_3 => ?_) (fun hg1_3 => ?_)
  ·
    refine qg (y_move RF) ?_
    refine qg (y_move RF) ?_
    refine qg (y_leq RF RF) ?_
    refine qs (y_pick_t RF RF) ?_
    refine qs (y_assign RF) ?_
    refine sq_nil ?_
    refine sx_then ?_
    refine sc_ret ?_
    refine sx_ret1 (.inl rfl) rfl Try.results123 RF ?_
    intro w' hw'
    exact ⟨by simp [*], hw'.below MM⟩
  ·
    refine qf ?_
    refine qf ?_
    refine qf ?_
    refine qs (y_pick_f RF RF) ?_
    refine qs (y_assign RF) ?_
    refine sq_nil ?_
    refine sx_then ?_
    refine sc_ret ?_
    refine sx_ret1 (.inl rfl) rfl Try.results123 RF ?_
    intro w' hw'
    exact ⟨by simp [*], hw'.below MM⟩
theorem in76 (n l h : Int) (w : World) : Calls Try.prog 76 #[.int .i64 n, .int .i64 l, .int .i64 h] w fun e w' => e = .returned (.bool (decide (l ≤ n ∧ n ≤ h))) ∧ Below w.heap.size w w' := by
  refine calls_of_SC (args := [.int .i64 n, .int .i64 l, .int .i64 h]) Try.func76 rfl Try.ntmps76 rfl ?_
  simp only [argL, Nat.reduceAdd, Nat.zero_add]
  refine sc_seq ?_
  refine sc_region ?_
  refine qs (y_assign RF) ?_
  refine sq_nil ?_
  refine sx_then ?_
  refine sc_seq ?_
  refine sc_region ?_
  refine qs (y_move RF) ?_
  refine qs (y_move RF) ?_
  refine qs (y_leq RF RF) ?_
  refine qs (y_move RF) ?_
  refine sp 10 (fun hg1_3 => ?_) (fun hg1_3 => ?_)
  ·
    refine qg (y_move RF) ?_
    refine qg (y_move RF) ?_
    refine qg (y_leq RF RF) ?_
    refine qs (y_pick_t RF RF) ?_
    refine qs (y_assign RF) ?_
    refine sq_nil ?_
    refine sx_then ?_
    refine sc_ret ?_
    refine sx_ret1 (.inl rfl) rfl Try.results76 RF ?_
    intro w' hw'
    exact ⟨by simp [*], hw'.below MM⟩
  ·
    refine qf ?_
    refine qf ?_
    refine qf ?_
    refine qs (y_pick_f RF RF) ?_
    refine qs (y_assign RF) ?_
    refine sq_nil ?_
    refine sx_then ?_
    refine sc_ret ?_
    refine sx_ret1 (.inl rfl) rfl Try.results76 RF ?_
    intro w' hw'
    exact ⟨by simp [*], hw'.below MM⟩
theorem in43 (n l h : Int) (w : World) : Calls Try.prog 43 #[.int .i64 n, .int .i64 l, .int .i64 h] w fun e w' => e = .returned (.bool (decide (l ≤ n ∧ n ≤ h))) ∧ Below w.heap.size w w' := by
  refine calls_of_SC (args := [.int .i64 n, .int .i64 l, .int .i64 h]) Try.func43 rfl Try.ntmps43 rfl ?_
  simp only [argL, Nat.reduceAdd, Nat.zero_add]
  refine sc_seq ?_
  refine sc_region ?_
  refine qs (y_assign RF) ?_
  refine sq_nil ?_
  refine sx_then ?_
  refine sc_seq ?_
  refine sc_region ?_
  refine qs (y_move RF) ?_
  refine qs (y_move RF) ?_
  refine qs (y_leq RF RF) ?_
  refine qs (y_move RF) ?_
  refine sp 10 (fun hg1_3 => ?_) (fun hg1_3 => ?_)
  ·
    refine qg (y_move RF) ?_
    refine qg (y_move RF) ?_
    refine qg (y_leq RF RF) ?_
    refine qs (y_pick_t RF RF) ?_
    refine qs (y_assign RF) ?_
    refine sq_nil ?_
    refine sx_then ?_
    refine sc_ret ?_
    refine sx_ret1 (.inl rfl) rfl Try.results43 RF ?_
    intro w' hw'
    exact ⟨by simp [*], hw'.below MM⟩
  ·
    refine qf ?_
    refine qf ?_
    refine qf ?_
    refine qs (y_pick_f RF RF) ?_
    refine qs (y_assign RF) ?_
    refine sq_nil ?_
    refine sx_then ?_
    refine sc_ret ?_
    refine sx_ret1 (.inl rfl) rfl Try.results43 RF ?_
    intro w' hw'
    exact ⟨by simp [*], hw'.below MM⟩
theorem within105 (n l h : Int) (w : World) : Calls Try.prog 105 #[.int .i64 n, .int .i64 l, .int .i64 h] w fun e w' => e = .returned (.bool (decide (l ≤ n ∧ n ≤ h))) ∧ Below w.heap.size w w' := by
  refine calls_of_SC (args := [.int .i64 n, .int .i64 l, .int .i64 h]) Try.func105 rfl Try.ntmps105 rfl ?_
  simp only [argL, Nat.reduceAdd, Nat.zero_add]
  refine sc_seq ?_
  refine sc_region ?_
  refine qs (y_assign RF) ?_
  refine sq_nil ?_
  refine sx_then ?_
  refine sc_seq ?_
  refine sc_region ?_
  refine qs (y_move RF) ?_
  refine qs (y_move RF) ?_
  refine qs (y_leq RF RF) ?_
  refine qs (y_move RF) ?_
  refine sp 10 (fun hg1_3 => ?_) (fun hg1_3 => ?_)
  ·
    refine qg (y_move RF) ?_
    refine qg (y_move RF) ?_
    refine qg (y_leq RF RF) ?_
    refine qs (y_pick_t RF RF) ?_
    refine qs (y_assign RF) ?_
    refine sq_nil ?_
    refine sx_then ?_
    refine sc_ret ?_
    refine sx_ret1 (.inl rfl) rfl Try.results105 RF ?_
    intro w' hw'
    exact ⟨by simp [*], hw'.below MM⟩
  ·
    refine qf ?_
    refine qf ?_
    refine qf ?_
    refine qs (y_pick_f RF RF) ?_
    refine qs (y_assign RF) ?_
    refine sq_nil ?_
    refine sx_then ?_
    refine sc_ret ?_
    refine sx_ret1 (.inl rfl) rfl Try.results105 RF ?_
    intro w' hw'
    exact ⟨by simp [*], hw'.below MM⟩
theorem isIn124 (s : Sp) (l h : Int) (w : World) : Calls Try.prog 124 #[.agg (spRow s).toArray, .int .i64 l, .int .i64 h] w fun e w' => e = .returned (.bool (spB s l h)) ∧ Below w.heap.size w w' := by
  unfold spRow spB
  refine calls_of_SC (args := [.agg #[.int .i64 s.lo, .int .i64 s.hi], .int .i64 l, .int .i64 h]) Try.func124 rfl Try.ntmps124 rfl ?_
  simp only [argL, Nat.reduceAdd, Nat.zero_add]
  refine sc_seq ?_
  refine sc_region ?_
  refine sq_box RF rfl (fun b3 => ?_)
  refine qs (y_assign RF) ?_
  refine sq_nil ?_
  refine sx_then ?_
  refine sc_seq ?_
  refine sc_region ?_
  refine qs (y_move RF) ?_
  refine qs FA229_3 ?_
  refine qs LD3 ?_
  refine qs (y_leq RF RF) ?_
  refine qs (y_move RF) ?_
  refine sp 11 (fun hg1_4 => ?_) (fun hg1_4 => ?_)
  ·
    refine qg FA229_3 ?_
    refine qg LD3 ?_
    refine qg FA229_3 ?_
    refine qg LD3 ?_
    refine qg (y_leq RF RF) ?_
    refine qs (y_pick_t RF RF) ?_
    refine qs (y_move RF) ?_
    refine sp 18 (fun hg1_11 => ?_) (fun hg1_11 => ?_)
    ·
      refine qg FA229_3 ?_
      refine qg LD3 ?_
      refine qg (y_move RF) ?_
      refine qg (y_leq RF RF) ?_
      refine qs (y_pick_t RF RF) ?_
      refine qs (y_assign RF) ?_
      refine sq_nil ?_
      refine sx_then ?_
      refine sc_ret ?_
      refine sx_ret1 (.inl rfl) rfl Try.results124 RF ?_
      intro w' hw'
      exact ⟨by simp [*], hw'.below MM⟩
    ·
      refine qf ?_
      refine qf ?_
      refine qf ?_
      refine qf ?_
      refine qs (y_pick_f RF RF) ?_
      refine qs (y_assign RF) ?_
      refine sq_nil ?_
      refine sx_then ?_
      refine sc_ret ?_
      refine sx_ret1 (.inl rfl) rfl Try.results124 RF ?_
      intro w' hw'
      exact ⟨by simp [*], hw'.below MM⟩
  ·
    refine qf ?_
    refine qf ?_
    refine qf ?_
    refine qf ?_
    refine qf ?_
    refine qs (y_pick_f RF RF) ?_
    refine qs (y_move RF) ?_
    refine qf ?_
    refine qf ?_
    refine qf ?_
    refine qf ?_
    refine qs (y_pick_f RF RF) ?_
    refine qs (y_assign RF) ?_
    refine sq_nil ?_
    refine sx_then ?_
    refine sc_ret ?_
    refine sx_ret1 (.inl rfl) rfl Try.results124 RF ?_
    intro w' hw'
    exact ⟨by simp [*], hw'.below MM⟩
theorem span77 (s : Sp) (l h : Int) (w : World) : Calls Try.prog 77 #[.agg (spRow s).toArray, .int .i64 l, .int .i64 h] w fun e w' => e = .returned (.bool (spB s l h)) ∧ Below w.heap.size w w' := by
  unfold spRow spB
  refine calls_of_SC (args := [.agg #[.int .i64 s.lo, .int .i64 s.hi], .int .i64 l, .int .i64 h]) Try.func77 rfl Try.ntmps77 rfl ?_
  simp only [argL, Nat.reduceAdd, Nat.zero_add]
  refine sc_seq ?_
  refine sc_region ?_
  refine sq_box RF rfl (fun b3 => ?_)
  refine qs (y_assign RF) ?_
  refine sq_nil ?_
  refine sx_then ?_
  refine sc_seq ?_
  refine sc_region ?_
  refine qs (y_move RF) ?_
  refine qs FA38_3 ?_
  refine qs LD3 ?_
  refine qs (y_leq RF RF) ?_
  refine qs (y_move RF) ?_
  refine sp 11 (fun hg1_4 => ?_) (fun hg1_4 => ?_)
  ·
    refine qg FA38_3 ?_
    refine qg LD3 ?_
    refine qg FA38_3 ?_
    refine qg LD3 ?_
    refine qg (y_leq RF RF) ?_
    refine qs (y_pick_t RF RF) ?_
    refine qs (y_move RF) ?_
    refine sp 18 (fun hg1_11 => ?_) (fun hg1_11 => ?_)
    ·
      refine qg FA38_3 ?_
      refine qg LD3 ?_
      refine qg (y_move RF) ?_
      refine qg (y_leq RF RF) ?_
      refine qs (y_pick_t RF RF) ?_
      refine qs (y_assign RF) ?_
      refine sq_nil ?_
      refine sx_then ?_
      refine sc_ret ?_
      refine sx_ret1 (.inl rfl) rfl Try.results77 RF ?_
      intro w' hw'
      exact ⟨by simp [*], hw'.below MM⟩
    ·
      refine qf ?_
      refine qf ?_
      refine qf ?_
      refine qf ?_
      refine qs (y_pick_f RF RF) ?_
      refine qs (y_assign RF) ?_
      refine sq_nil ?_
      refine sx_then ?_
      refine sc_ret ?_
      refine sx_ret1 (.inl rfl) rfl Try.results77 RF ?_
      intro w' hw'
      exact ⟨by simp [*], hw'.below MM⟩
  ·
    refine qf ?_
    refine qf ?_
    refine qf ?_
    refine qf ?_
    refine qf ?_
    refine qs (y_pick_f RF RF) ?_
    refine qs (y_move RF) ?_
    refine qf ?_
    refine qf ?_
    refine qf ?_
    refine qf ?_
    refine qs (y_pick_f RF RF) ?_
    refine qs (y_assign RF) ?_
    refine sq_nil ?_
    refine sx_then ?_
    refine sc_ret ?_
    refine sx_ret1 (.inl rfl) rfl Try.results77 RF ?_
    intro w' hw'
    exact ⟨by simp [*], hw'.below MM⟩
theorem isPlay116 (w : World) (p : Pl) : Calls Try.prog 116 #[.agg (plRow p).toArray] w fun e w' => e = .returned (.bool (plB p)) ∧ Below w.heap.size w w' := by
  unfold plRow
  refine calls_of_SC (args := [.agg #[.int .i64 p.len, .int .i64 p.slack, .int .i64 p.loose, .int .i64 p.damp.lo, .int .i64 p.damp.hi]]) Try.func116 rfl Try.ntmps116 rfl ?_
  simp only [argL]
  refine sc_seq ?_
  refine sc_region ?_
  refine sq_box RF rfl (fun b1 => ?_)
  refine qs (y_assign RF) ?_
  refine sq_nil ?_
  refine sx_then ?_
  refine sc_seq ?_
  refine sc_region ?_
  refine qs FA59_3 ?_
  refine qs LD3 ?_
  refine qy (yc Try.call123 E3 (fun w1 _ => within123 _ _ _ w1)) ?_
  refine qs (y_move RF) ?_
  refine sp 7 (fun hg1_3 => ?_) (fun hg1_3 => ?_)
  ·
    refine qg FA59_3 ?_
    refine qg LD3 ?_
    refine sq_gt RF RF (y_call (first := []) (caps := []) RF Try.call123 (EvL.cons RF (EvL.cons RF (EvL.cons RF EvL.nil))) (fun w1 _ => within123 _ _ _ w1)) rfl ?_
    refine qs (y_pick_t RF RF) ?_
    refine qs (y_move RF) ?_
    refine sp 12 (fun hg1_8 => ?_) (fun hg1_8 => ?_)
    ·
      refine qg FA59_3 ?_
      refine qg LD3 ?_
      refine sq_gt RF RF (y_call (first := []) (caps := []) RF Try.call123 (EvL.cons RF (EvL.cons RF (EvL.cons RF EvL.nil))) (fun w1 _ => within123 _ _ _ w1)) rfl ?_
      refine qs (y_pick_t RF RF) ?_
      refine qs (y_assign RF) ?_
      refine sq_nil ?_
      refine sx_then ?_
      refine sc_seq ?_
      refine sc_region ?_
      refine qs (y_move RF) ?_
      refine qs (y_move RF) ?_
      refine sp 18 (fun hg2_1 => ?_) (fun hg2_1 => ?_)
      ·
        refine qg FA59_38 ?_
        refine qg LD38 ?_
        refine sq_gt RF RF (y_call (first := []) (caps := []) RF Try.call124 (EvL.cons RF (EvL.cons RF (EvL.cons RF EvL.nil))) (fun w1 _ => isIn124 p.damp _ _ w1)) rfl ?_
        refine qs (y_pick_t RF RF) ?_
        refine qs (y_assign RF) ?_
        refine sq_nil ?_
        refine sx_then ?_
        refine sc_ret ?_
        refine sx_ret1 (.inl rfl) rfl Try.results116 RF ?_
        intro w' hw'
        refine ⟨?_, hw'.below MM⟩
        unfold plB
        simp [*]
      ·
        refine qf ?_
        refine qf ?_
        refine qf ?_
        refine qs (y_pick_f RF RF) ?_
        refine qs (y_assign RF) ?_
        refine sq_nil ?_
        refine sx_then ?_
        refine sc_ret ?_
        refine sx_ret1 (.inl rfl) rfl Try.results116 RF ?_
        intro w' hw'
        refine ⟨?_, hw'.below MM⟩
        unfold plB
        simp [*]
    ·
      refine qf ?_
      refine qf ?_
      refine qf ?_
      refine qs (y_pick_f RF RF) ?_
      refine qs (y_assign RF) ?_
      refine sq_nil ?_
      refine sx_then ?_
      refine sc_seq ?_
      refine sc_region ?_
      refine qs (y_move RF) ?_
      refine qs (y_move RF) ?_
      refine qf ?_
      refine qf ?_
      refine qf ?_
      refine qs (y_pick_f RF RF) ?_
      refine qs (y_assign RF) ?_
      refine sq_nil ?_
      refine sx_then ?_
      refine sc_ret ?_
      refine sx_ret1 (.inl rfl) rfl Try.results116 RF ?_
      intro w' hw'
      refine ⟨?_, hw'.below MM⟩
      unfold plB
      simp [*]
  ·
    refine qf ?_
    refine qf ?_
    refine qf ?_
    refine qs (y_pick_f RF RF) ?_
    refine qs (y_move RF) ?_
    refine qf ?_
    refine qf ?_
    refine qf ?_
    refine qs (y_pick_f RF RF) ?_
    refine qs (y_assign RF) ?_
    refine sq_nil ?_
    refine sx_then ?_
    refine sc_seq ?_
    refine sc_region ?_
    refine qs (y_move RF) ?_
    refine qs (y_move RF) ?_
    refine qf ?_
    refine qf ?_
    refine qf ?_
    refine qs (y_pick_f RF RF) ?_
    refine qs (y_assign RF) ?_
    refine sq_nil ?_
    refine sx_then ?_
    refine sc_ret ?_
    refine sx_ret1 (.inl rfl) rfl Try.results116 RF ?_
    intro w' hw'
    refine ⟨?_, hw'.below MM⟩
    unfold plB
    simp [*]
theorem isSide117 (w : World) (s : Eg) : Calls Try.prog 117 #[.agg (egRow s).toArray] w fun e w' => e = .returned (.bool (egB s)) ∧ Below w.heap.size w w' := by
  unfold egRow
  refine calls_of_SC (args := [.agg #[.int .i64 s.kind, .int .i64 s.at_.lo, .int .i64 s.at_.hi, .int .i64 s.wd.lo, .int .i64 s.wd.hi, .int .i64 s.dp.lo, .int .i64 s.dp.hi]]) Try.func117 rfl Try.ntmps117 rfl ?_
  simp only [argL]
  refine sc_seq ?_
  refine sc_region ?_
  refine sq_box RF rfl (fun b1 => ?_)
  refine qs (y_assign RF) ?_
  refine sq_nil ?_
  refine sx_then ?_
  refine sc_seq ?_
  refine sc_seq ?_
  refine sc_region ?_
  refine qs FA81_3 ?_
  refine qs LD3 ?_
  refine sq_nil ?_
  refine sx_then ?_
  refine sc_block ?_
  refine sc_seq ?_
  refine sc_region ?_
  refine qs (y_eql RF RF) ?_
  refine qs (y_assign RF) ?_
  refine sq_nil ?_
  refine sx_then ?_
  refine scp (fun hc0 => ?_) (fun hc0 => ?_)
  ·
    refine sc_seq ?_
    refine sc_region ?_
    refine qs (y_assign RF) ?_
    refine sq_nil ?_
    refine sx_then ?_
    refine sc_ret ?_
    refine sx_blk_ret ?_
    refine sx_then_ret ?_
    refine sx_ret1 (.inl rfl) rfl Try.results117 RF ?_
    intro w' hw'
    refine ⟨?_, hw'.below MM⟩
    unfold egB spB
    first
      | (simp [*]; done)
      | (rw [decide_eq_false (show ¬ s.kind = 0 by omega), decide_eq_false (show ¬ (1 ≤ s.kind ∧ s.kind ≤ 2) by omega)]; rfl)
      | (rw [decide_eq_false (show ¬ s.kind = 0 by omega), decide_eq_true (show 1 ≤ s.kind ∧ s.kind ≤ 2 by omega)]; simp [*])
  ·
    refine sc_seq ?_
    refine sc_seq ?_
    refine sc_region ?_
    refine qs (y_eql RF RF) ?_
    refine qs (y_assign RF) ?_
    refine sq_nil ?_
    refine sx_then ?_
    refine scp (fun hc1 => ?_) (fun hc1 => ?_)
    ·
      refine sc_skip ?_
      refine sx_then ?_
      refine scp (fun hc2 => ?_) (fun hc2 => ?_)
      ·
        refine sc_seq ?_
        refine sc_region ?_
        refine qs FA81_38 ?_
        refine qs LD38 ?_
        refine qy (yc Try.call124 E3 (fun w1 _ => isIn124 s.at_ _ _ w1)) ?_
        refine qs (y_move RF) ?_
        refine sp 13 (fun hg6_3 => ?_) (fun hg6_3 => ?_)
        ·
          refine qg FA81_38 ?_
          refine qg LD38 ?_
          refine sq_gt RF RF (y_call (first := []) (caps := []) RF Try.call124 (EvL.cons RF (EvL.cons RF (EvL.cons RF EvL.nil))) (fun w1 _ => isIn124 s.wd _ _ w1)) rfl ?_
          refine qs (y_pick_t RF RF) ?_
          refine qs (y_move RF) ?_
          refine sp 18 (fun hg6_8 => ?_) (fun hg6_8 => ?_)
          ·
            refine qg FA81_38 ?_
            refine qg LD38 ?_
            refine sq_gt RF RF (y_call (first := []) (caps := []) RF Try.call124 (EvL.cons RF (EvL.cons RF (EvL.cons RF EvL.nil))) (fun w1 _ => isIn124 s.dp _ _ w1)) rfl ?_
            refine qs (y_pick_t RF RF) ?_
            refine qs (y_assign RF) ?_
            refine sq_nil ?_
            refine sx_then ?_
            refine sc_ret ?_
            refine sx_blk_ret ?_
            refine sx_then_ret ?_
            refine sx_ret1 (.inl rfl) rfl Try.results117 RF ?_
            intro w' hw'
            refine ⟨?_, hw'.below MM⟩
            unfold egB spB
            first
              | (simp [*]; done)
              | (rw [decide_eq_false (show ¬ s.kind = 0 by omega), decide_eq_false (show ¬ (1 ≤ s.kind ∧ s.kind ≤ 2) by omega)]; rfl)
              | (rw [decide_eq_false (show ¬ s.kind = 0 by omega), decide_eq_true (show 1 ≤ s.kind ∧ s.kind ≤ 2 by omega)]; simp [*])
          ·
            refine qf ?_
            refine qf ?_
            refine qf ?_
            refine qs (y_pick_f RF RF) ?_
            refine qs (y_assign RF) ?_
            refine sq_nil ?_
            refine sx_then ?_
            refine sc_ret ?_
            refine sx_blk_ret ?_
            refine sx_then_ret ?_
            refine sx_ret1 (.inl rfl) rfl Try.results117 RF ?_
            intro w' hw'
            refine ⟨?_, hw'.below MM⟩
            unfold egB spB
            first
              | (simp [*]; done)
              | (rw [decide_eq_false (show ¬ s.kind = 0 by omega), decide_eq_false (show ¬ (1 ≤ s.kind ∧ s.kind ≤ 2) by omega)]; rfl)
              | (rw [decide_eq_false (show ¬ s.kind = 0 by omega), decide_eq_true (show 1 ≤ s.kind ∧ s.kind ≤ 2 by omega)]; simp [*])
        ·
          refine qf ?_
          refine qf ?_
          refine qf ?_
          refine qs (y_pick_f RF RF) ?_
          refine qs (y_move RF) ?_
          refine qf ?_
          refine qf ?_
          refine qf ?_
          refine qs (y_pick_f RF RF) ?_
          refine qs (y_assign RF) ?_
          refine sq_nil ?_
          refine sx_then ?_
          refine sc_ret ?_
          refine sx_blk_ret ?_
          refine sx_then_ret ?_
          refine sx_ret1 (.inl rfl) rfl Try.results117 RF ?_
          intro w' hw'
          refine ⟨?_, hw'.below MM⟩
          unfold egB spB
          first
            | (simp [*]; done)
            | (rw [decide_eq_false (show ¬ s.kind = 0 by omega), decide_eq_false (show ¬ (1 ≤ s.kind ∧ s.kind ≤ 2) by omega)]; rfl)
            | (rw [decide_eq_false (show ¬ s.kind = 0 by omega), decide_eq_true (show 1 ≤ s.kind ∧ s.kind ≤ 2 by omega)]; simp [*])
      ·
        refine sc_skip ?_
        refine sx_blk ?_
        refine sx_then ?_
        refine sc_seq ?_
        refine sc_region ?_
        refine qs (y_assign RF) ?_
        refine sq_nil ?_
        refine sx_then ?_
        refine sc_ret ?_
        refine sx_ret1 (.inl rfl) rfl Try.results117 RF ?_
        intro w' hw'
        refine ⟨?_, hw'.below MM⟩
        unfold egB spB
        first
          | (simp [*]; done)
          | (rw [decide_eq_false (show ¬ s.kind = 0 by omega), decide_eq_false (show ¬ (1 ≤ s.kind ∧ s.kind ≤ 2) by omega)]; rfl)
          | (rw [decide_eq_false (show ¬ s.kind = 0 by omega), decide_eq_true (show 1 ≤ s.kind ∧ s.kind ≤ 2 by omega)]; simp [*])
    ·
      refine sc_region ?_
      refine qs (y_eql RF RF) ?_
      refine qs (y_assign RF) ?_
      refine sq_nil ?_
      refine sx_then ?_
      refine scp (fun hc2 => ?_) (fun hc2 => ?_)
      ·
        refine sc_seq ?_
        refine sc_region ?_
        refine qs FA81_38 ?_
        refine qs LD38 ?_
        refine qy (yc Try.call124 E3 (fun w1 _ => isIn124 s.at_ _ _ w1)) ?_
        refine qs (y_move RF) ?_
        refine sp 13 (fun hg6_3 => ?_) (fun hg6_3 => ?_)
        ·
          refine qg FA81_38 ?_
          refine qg LD38 ?_
          refine sq_gt RF RF (y_call (first := []) (caps := []) RF Try.call124 (EvL.cons RF (EvL.cons RF (EvL.cons RF EvL.nil))) (fun w1 _ => isIn124 s.wd _ _ w1)) rfl ?_
          refine qs (y_pick_t RF RF) ?_
          refine qs (y_move RF) ?_
          refine sp 18 (fun hg6_8 => ?_) (fun hg6_8 => ?_)
          ·
            refine qg FA81_38 ?_
            refine qg LD38 ?_
            refine sq_gt RF RF (y_call (first := []) (caps := []) RF Try.call124 (EvL.cons RF (EvL.cons RF (EvL.cons RF EvL.nil))) (fun w1 _ => isIn124 s.dp _ _ w1)) rfl ?_
            refine qs (y_pick_t RF RF) ?_
            refine qs (y_assign RF) ?_
            refine sq_nil ?_
            refine sx_then ?_
            refine sc_ret ?_
            refine sx_blk_ret ?_
            refine sx_then_ret ?_
            refine sx_ret1 (.inl rfl) rfl Try.results117 RF ?_
            intro w' hw'
            refine ⟨?_, hw'.below MM⟩
            unfold egB spB
            first
              | (simp [*]; done)
              | (rw [decide_eq_false (show ¬ s.kind = 0 by omega), decide_eq_false (show ¬ (1 ≤ s.kind ∧ s.kind ≤ 2) by omega)]; rfl)
              | (rw [decide_eq_false (show ¬ s.kind = 0 by omega), decide_eq_true (show 1 ≤ s.kind ∧ s.kind ≤ 2 by omega)]; simp [*])
          ·
            refine qf ?_
            refine qf ?_
            refine qf ?_
            refine qs (y_pick_f RF RF) ?_
            refine qs (y_assign RF) ?_
            refine sq_nil ?_
            refine sx_then ?_
            refine sc_ret ?_
            refine sx_blk_ret ?_
            refine sx_then_ret ?_
            refine sx_ret1 (.inl rfl) rfl Try.results117 RF ?_
            intro w' hw'
            refine ⟨?_, hw'.below MM⟩
            unfold egB spB
            first
              | (simp [*]; done)
              | (rw [decide_eq_false (show ¬ s.kind = 0 by omega), decide_eq_false (show ¬ (1 ≤ s.kind ∧ s.kind ≤ 2) by omega)]; rfl)
              | (rw [decide_eq_false (show ¬ s.kind = 0 by omega), decide_eq_true (show 1 ≤ s.kind ∧ s.kind ≤ 2 by omega)]; simp [*])
        ·
          refine qf ?_
          refine qf ?_
          refine qf ?_
          refine qs (y_pick_f RF RF) ?_
          refine qs (y_move RF) ?_
          refine qf ?_
          refine qf ?_
          refine qf ?_
          refine qs (y_pick_f RF RF) ?_
          refine qs (y_assign RF) ?_
          refine sq_nil ?_
          refine sx_then ?_
          refine sc_ret ?_
          refine sx_blk_ret ?_
          refine sx_then_ret ?_
          refine sx_ret1 (.inl rfl) rfl Try.results117 RF ?_
          intro w' hw'
          refine ⟨?_, hw'.below MM⟩
          unfold egB spB
          first
            | (simp [*]; done)
            | (rw [decide_eq_false (show ¬ s.kind = 0 by omega), decide_eq_false (show ¬ (1 ≤ s.kind ∧ s.kind ≤ 2) by omega)]; rfl)
            | (rw [decide_eq_false (show ¬ s.kind = 0 by omega), decide_eq_true (show 1 ≤ s.kind ∧ s.kind ≤ 2 by omega)]; simp [*])
      ·
        refine sc_skip ?_
        refine sx_blk ?_
        refine sx_then ?_
        refine sc_seq ?_
        refine sc_region ?_
        refine qs (y_assign RF) ?_
        refine sq_nil ?_
        refine sx_then ?_
        refine sc_ret ?_
        refine sx_ret1 (.inl rfl) rfl Try.results117 RF ?_
        intro w' hw'
        refine ⟨?_, hw'.below MM⟩
        unfold egB spB
        first
          | (simp [*]; done)
          | (rw [decide_eq_false (show ¬ s.kind = 0 by omega), decide_eq_false (show ¬ (1 ≤ s.kind ∧ s.kind ≤ 2) by omega)]; rfl)
          | (rw [decide_eq_false (show ¬ s.kind = 0 by omega), decide_eq_true (show 1 ≤ s.kind ∧ s.kind ≤ 2 by omega)]; simp [*])
end Go.Proofs.Ytfceajkofpafpaa
