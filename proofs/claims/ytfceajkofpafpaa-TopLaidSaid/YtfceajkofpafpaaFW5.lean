/- The walks of the document's words about sides. -/
import Derived.Test.YtfceajkofpafpaaFW4
namespace Go.Proofs.Ytfceajkofpafpaa
open Go Go.Eng Go.RowKit Go.Proofs
open Go.Proofs.Ytfceajkofpafpaa.Sc (iRow spRow sp0 Sp spB plusV getD_of get_of_lt any_range_get all_not_any all_getD)
set_option maxRecDepth 100000
def bothV (a b : Eg) : Eg × Eg × Bool := if a.kind = 1 ∧ b.kind = 2 then (a, b, true) else if b.kind = 1 ∧ a.kind = 2 then (b, a, true) else (a, b, false)
theorem both_yes {a b t h : Eg} {p : Pl} (ha : egB a = true) (hb : egB b = true) (e : bothV a b = (t, h, true)) : Vg t ∧ Vg h ∧ fitV p a b = verdV p t h := by
  unfold bothV at e
  unfold fitV
  split at e
  · rename_i hk
    injection e with e1 e2
    injection e2 with e2 _
    subst e1; subst e2
    exact ⟨vg_of ha (by omega), vg_of hb (by omega), if_pos hk⟩
  · rename_i hn
    split at e
    · rename_i hk
      injection e with e1 e2
      injection e2 with e2 _
      subst e1; subst e2
      exact ⟨vg_of hb (by omega), vg_of ha (by omega), by rw [if_neg hn, if_pos hk]⟩
    · injection e with e1 e2
      injection e2 with _ e3
      cases e3
theorem both_no {a b t h : Eg} {p : Pl} (e : bothV a b = (t, h, false)) : fitV p a b = 0 := by
  unfold bothV at e
  unfold fitV
  split at e
  · injection e with e1 e2; injection e2 with _ e3; cases e3
  · rename_i hn
    split at e
    · injection e with e1 e2; injection e2 with _ e3; cases e3
    · rename_i hk
      rw [if_neg hn, if_neg hk]
def dfRow (p : Pl) (t h : Eg) : List Value := [.int .i64 (offD p t h).lo, .int .i64 (offD p t h).hi, .int .i64 (wideD t h).lo, .int .i64 (wideD t h).hi, .int .i64 (deepD t h).lo, .int .i64 (deepD t h).hi]
theorem bt38 : BT Try.prog 38 [(0, 1), (1, 1)] (.agg #[.int .i64 0, .int .i64 0]) := BT.of Try.underlying38 (by kernel_rfl) (by kernel_rfl)
theorem bt238 : BT Try.prog 238 [(0, 2), (2, 2), (4, 2)] (.agg #[.int .i64 0, .int .i64 0, .int .i64 0, .int .i64 0, .int .i64 0, .int .i64 0]) := BT.of Try.underlying238 (by kernel_rfl) (by kernel_rfl)
theorem Play42 (w : World) (p : Pl) : Calls Try.prog 42 #[.agg (plRow p).toArray] w fun e w' => e = .returned (.bool (plB p)) ∧ Below w.heap.size w w' := by
  unfold plRow
  refine calls_of_SC (args := [.agg #[.int .i64 p.len, .int .i64 p.slack, .int .i64 p.loose, .int .i64 p.damp.lo, .int .i64 p.damp.hi]]) Try.func42 rfl Try.ntmps42 rfl ?_
  simp only [argL]
  refine sc_seq ?_
  refine sc_region ?_
  refine sq_box RF rfl (fun b1 => ?_)
  refine qs (y_assign RF) ?_
  refine sq_nil ?_
  refine sx_then ?_
  refine sc_seq ?_
  refine sc_region ?_
  refine qs FA59_3 ?_
  refine qs LD3 ?_
  refine qy (yc Try.call76 E3 (fun w1 _ => in76 _ _ _ w1)) ?_
  refine qs (y_move RF) ?_
  refine sp 6 (fun hg1_3 => ?_) (fun hg1_3 => ?_)
  ·
    refine qg FA59_3 ?_
    refine qg LD3 ?_
    refine sq_gt RF RF (y_call (first := []) (caps := []) RF Try.call76 (EvL.cons RF (EvL.cons RF (EvL.cons RF EvL.nil))) (fun w1 _ => in76 _ _ _ w1)) rfl ?_
    refine qs (y_pick_t RF RF) ?_
    refine qs (y_move RF) ?_
    refine sp 11 (fun hg1_8 => ?_) (fun hg1_8 => ?_)
    ·
      refine qg FA59_3 ?_
      refine qg LD3 ?_
      refine sq_gt RF RF (y_call (first := []) (caps := []) RF Try.call76 (EvL.cons RF (EvL.cons RF (EvL.cons RF EvL.nil))) (fun w1 _ => in76 _ _ _ w1)) rfl ?_
      refine qs (y_pick_t RF RF) ?_
      refine qs (y_move RF) ?_
      refine sp 16 (fun hg1_13 => ?_) (fun hg1_13 => ?_)
      ·
        refine qg FA59_38 ?_
        refine qg LD38 ?_
        refine sq_gt RF RF (y_call (first := []) (caps := []) RF Try.call77 (EvL.cons RF (EvL.cons RF (EvL.cons RF EvL.nil))) (fun w1 _ => span77 p.damp _ _ w1)) rfl ?_
        refine qs (y_pick_t RF RF) ?_
        refine qs (y_assign RF) ?_
        refine sq_nil ?_
        refine sx_then ?_
        refine sc_ret ?_
        refine sx_ret1 (.inl rfl) rfl Try.results42 RF ?_
        intro w' hw'
        refine ⟨?_, hw'.below MM⟩
        unfold plB
        simp [*]
      ·
        refine qf ?_
        refine qf ?_
        refine qf ?_
        refine qs (y_pick_f RF RF) ?_
        refine qs (y_assign RF) ?_
        refine sq_nil ?_
        refine sx_then ?_
        refine sc_ret ?_
        refine sx_ret1 (.inl rfl) rfl Try.results42 RF ?_
        intro w' hw'
        refine ⟨?_, hw'.below MM⟩
        unfold plB
        simp [*]
    ·
      refine qf ?_
      refine qf ?_
      refine qf ?_
      refine qs (y_pick_f RF RF) ?_
      refine qs (y_move RF) ?_
      refine qf ?_
      refine qf ?_
      refine qf ?_
      refine qs (y_pick_f RF RF) ?_
      refine qs (y_assign RF) ?_
      refine sq_nil ?_
      refine sx_then ?_
      refine sc_ret ?_
      refine sx_ret1 (.inl rfl) rfl Try.results42 RF ?_
      intro w' hw'
      refine ⟨?_, hw'.below MM⟩
      unfold plB
      simp [*]
  ·
    refine qf ?_
    refine qf ?_
    refine qf ?_
    refine qs (y_pick_f RF RF) ?_
    refine qs (y_move RF) ?_
    refine qf ?_
    refine qf ?_
    refine qf ?_
    refine qs (y_pick_f RF RF) ?_
    refine qs (y_move RF) ?_
    refine qf ?_
    refine qf ?_
    refine qf ?_
    refine qs (y_pick_f RF RF) ?_
    refine qs (y_assign RF) ?_
    refine sq_nil ?_
    refine sx_then ?_
    refine sc_ret ?_
    refine sx_ret1 (.inl rfl) rfl Try.results42 RF ?_
    intro w' hw'
    refine ⟨?_, hw'.below MM⟩
    unfold plB
    simp [*]
theorem Side44 (w : World) (s : Eg) : Calls Try.prog 44 #[.agg (egRow s).toArray] w fun e w' => e = .returned (.bool (egB s)) ∧ Below w.heap.size w w' := by
  unfold egRow
  refine calls_of_SC (args := [.agg #[.int .i64 s.kind, .int .i64 s.at_.lo, .int .i64 s.at_.hi, .int .i64 s.wd.lo, .int .i64 s.wd.hi, .int .i64 s.dp.lo, .int .i64 s.dp.hi]]) Try.func44 rfl Try.ntmps44 rfl ?_
  simp only [argL]
  refine sc_seq ?_
  refine sc_region ?_
  refine sq_box RF rfl (fun b1 => ?_)
  refine qs (y_assign RF) ?_
  refine sq_nil ?_
  refine sx_then ?_
  refine sc_seq ?_
  refine sc_seq ?_
  refine sc_region ?_
  refine qs FA81_3 ?_
  refine qs LD3 ?_
  refine qs (y_eql RF RF) ?_
  refine sq_nil ?_
  refine sx_then ?_
  refine scp (fun hc0 => ?_) (fun hc0 => ?_)
  ·
    refine sc_seq ?_
    refine sc_region ?_
    refine qs (y_assign RF) ?_
    refine sq_nil ?_
    refine sx_then ?_
    refine sc_ret ?_
    refine sx_then_ret ?_
    refine sx_ret1 (.inl rfl) rfl Try.results44 RF ?_
    intro w' hw'
    refine ⟨?_, hw'.below MM⟩
    unfold egB spB
    first
      | (simp [*]; done)
      | (rw [decide_eq_false hc0]; simp [*])
  ·
    refine sc_skip ?_
    refine sx_then ?_
    refine sc_seq ?_
    refine sc_region ?_
    refine qs FA81_3 ?_
    refine qs LD3 ?_
    refine qy (yc Try.call76 E3 (fun w1 _ => in76 _ _ _ w1)) ?_
    refine qs (y_move RF) ?_
    refine sp 9 (fun hg3_3 => ?_) (fun hg3_3 => ?_)
    ·
      refine qg FA81_38 ?_
      refine qg LD38 ?_
      refine sq_gt RF RF (y_call (first := []) (caps := []) RF Try.call77 (EvL.cons RF (EvL.cons RF (EvL.cons RF EvL.nil))) (fun w1 _ => span77 s.at_ _ _ w1)) rfl ?_
      refine qs (y_pick_t RF RF) ?_
      refine qs (y_move RF) ?_
      refine sp 14 (fun hg3_8 => ?_) (fun hg3_8 => ?_)
      ·
        refine qg FA81_38 ?_
        refine qg LD38 ?_
        refine sq_gt RF RF (y_call (first := []) (caps := []) RF Try.call77 (EvL.cons RF (EvL.cons RF (EvL.cons RF EvL.nil))) (fun w1 _ => span77 s.wd _ _ w1)) rfl ?_
        refine qs (y_pick_t RF RF) ?_
        refine qs (y_move RF) ?_
        refine sp 19 (fun hg3_13 => ?_) (fun hg3_13 => ?_)
        ·
          refine qg FA81_38 ?_
          refine qg LD38 ?_
          refine sq_gt RF RF (y_call (first := []) (caps := []) RF Try.call77 (EvL.cons RF (EvL.cons RF (EvL.cons RF EvL.nil))) (fun w1 _ => span77 s.dp _ _ w1)) rfl ?_
          refine qs (y_pick_t RF RF) ?_
          refine qs (y_assign RF) ?_
          refine sq_nil ?_
          refine sx_then ?_
          refine sc_ret ?_
          refine sx_ret1 (.inl rfl) rfl Try.results44 RF ?_
          intro w' hw'
          refine ⟨?_, hw'.below MM⟩
          unfold egB spB
          first
            | (simp [*]; done)
            | (rw [decide_eq_false hc0]; simp [*])
        ·
          refine qf ?_
          refine qf ?_
          refine qf ?_
          refine qs (y_pick_f RF RF) ?_
          refine qs (y_assign RF) ?_
          refine sq_nil ?_
          refine sx_then ?_
          refine sc_ret ?_
          refine sx_ret1 (.inl rfl) rfl Try.results44 RF ?_
          intro w' hw'
          refine ⟨?_, hw'.below MM⟩
          unfold egB spB
          first
            | (simp [*]; done)
            | (rw [decide_eq_false hc0]; simp [*])
      ·
        refine qf ?_
        refine qf ?_
        refine qf ?_
        refine qs (y_pick_f RF RF) ?_
        refine qs (y_move RF) ?_
        refine qf ?_
        refine qf ?_
        refine qf ?_
        refine qs (y_pick_f RF RF) ?_
        refine qs (y_assign RF) ?_
        refine sq_nil ?_
        refine sx_then ?_
        refine sc_ret ?_
        refine sx_ret1 (.inl rfl) rfl Try.results44 RF ?_
        intro w' hw'
        refine ⟨?_, hw'.below MM⟩
        unfold egB spB
        first
          | (simp [*]; done)
          | (rw [decide_eq_false hc0]; simp [*])
    ·
      refine qf ?_
      refine qf ?_
      refine qf ?_
      refine qs (y_pick_f RF RF) ?_
      refine qs (y_move RF) ?_
      refine qf ?_
      refine qf ?_
      refine qf ?_
      refine qs (y_pick_f RF RF) ?_
      refine qs (y_move RF) ?_
      refine qf ?_
      refine qf ?_
      refine qf ?_
      refine qs (y_pick_f RF RF) ?_
      refine qs (y_assign RF) ?_
      refine sq_nil ?_
      refine sx_then ?_
      refine sc_ret ?_
      refine sx_ret1 (.inl rfl) rfl Try.results44 RF ?_
      intro w' hw'
      refine ⟨?_, hw'.below MM⟩
      unfold egB spB
      first
        | (simp [*]; done)
        | (rw [decide_eq_false hc0]; simp [*])
theorem Both129 (w : World) (a b : Eg) : Calls Try.prog 129 #[.agg (egRow a).toArray, .agg (egRow b).toArray] w fun e w' => e = .returned (.tuple #[.agg (egRow (bothV a b).1).toArray, .agg (egRow (bothV a b).2.1).toArray, .bool (bothV a b).2.2]) ∧ Below w.heap.size w w' := by
  unfold egRow
  refine calls_of_SC (args := [.agg #[.int .i64 a.kind, .int .i64 a.at_.lo, .int .i64 a.at_.hi, .int .i64 a.wd.lo, .int .i64 a.wd.hi, .int .i64 a.dp.lo, .int .i64 a.dp.hi], .agg #[.int .i64 b.kind, .int .i64 b.at_.lo, .int .i64 b.at_.hi, .int .i64 b.wd.lo, .int .i64 b.wd.hi, .int .i64 b.dp.lo, .int .i64 b.dp.hi]]) Try.func129 rfl Try.ntmps129 rfl ?_
  simp only [argL, Nat.zero_add]
  refine sc_seq ?_
  refine sc_region ?_
  refine sq_box RF rfl (fun b2 => ?_)
  refine sq_box RF rfl (fun b3 => ?_)
  refine sq_alloc Try.zeroValue81 rfl (fun b4 => ?_)
  refine sq_alloc Try.zeroValue81 rfl (fun b5 => ?_)
  refine qs (y_assign RF) ?_
  refine sq_nil ?_
  refine sx_then ?_
  refine sc_seq ?_
  refine sc_seq ?_
  refine sc_region ?_
  refine qs FA81_3 ?_
  refine qs LD3 ?_
  refine qs (y_eql RF RF) ?_
  refine qs (y_move RF) ?_
  refine sp 10 (fun hg1_3 => ?_) (fun hg1_3 => ?_)
  ·
    refine qg FA81_3 ?_
    refine qg LD3 ?_
    refine qg (y_eql RF RF) ?_
    refine qs (y_pick_t RF RF) ?_
    refine sq_nil ?_
    refine sx_then ?_
    refine scp (fun hc0 => ?_) (fun hc0 => ?_)
    ·
      refine sc_seq ?_
      refine sc_drawX ([.blk b2 (.cells #[.int .i64 a.kind, .int .i64 a.at_.lo, .int .i64 a.at_.hi, .int .i64 a.wd.lo, .int .i64 a.wd.hi, .int .i64 a.dp.lo, .int .i64 a.dp.hi] 81 (0, 0)), .blk b3 (.cells #[.int .i64 b.kind, .int .i64 b.at_.lo, .int .i64 b.at_.hi, .int .i64 b.wd.lo, .int .i64 b.wd.hi, .int .i64 b.dp.lo, .int .i64 b.dp.hi] 81 (0, 0)), .reg 0 w]) (by kernel_rfl) ?_
      refine xj_s 0 RF (by kernel_rfl) SR LD81 rfl ?_
      refine xj_s 1 RF (by kernel_rfl) SR LD81 rfl ?_
      refine xj_one 2 RF (by kernel_rfl) ?_
      refine sq_store_all Try.sizeOf81 RF RF rfl RM rfl rfl ?_
      refine sq_nil ?_
      refine sx_xp SR ?_
      refine xj_one 3 RF (by kernel_rfl) ?_
      refine sq_store_all Try.sizeOf81 RF RF rfl RM rfl rfl ?_
      refine sq_nil ?_
      refine sx_xp SR ?_
      refine xj_s 4 RF (by kernel_rfl) SR (y_assign RF) rfl ?_
      refine xj_done (by kernel_rfl) ?_
      refine sx_then ?_
      refine sc_ret ?_
      refine sx_then_ret ?_
      refine sx_retcct (.inl rfl) rfl Try.results129 Try.underlying81 rfl Try.sizeOf81 Try.underlying81 rfl Try.sizeOf81 RF MM rfl RF MM rfl RF ?_
      intro w' hw'
      refine ⟨?_, hw'.below MM⟩
      first
        | (exfalso; omega)
        | (rw [show bothV a b = (a, b, true) from if_pos ⟨by omega, by omega⟩])
        | (rw [show bothV a b = (b, a, true) from (if_neg (by omega)).trans (if_pos ⟨by omega, by omega⟩)])
        | (rw [show bothV a b = (a, b, false) from (if_neg (by omega)).trans (if_neg (by omega))])
    ·
      refine sc_skip ?_
      refine sx_then ?_
      refine sc_seq ?_
      refine sc_seq ?_
      refine sc_region ?_
      refine qs FA81_3 ?_
      refine qs LD3 ?_
      refine qs (y_eql RF RF) ?_
      refine qs (y_move RF) ?_
      refine sp 20 (fun hg3_3 => ?_) (fun hg3_3 => ?_)
      ·
        refine qg FA81_3 ?_
        refine qg LD3 ?_
        refine qg (y_eql RF RF) ?_
        refine qs (y_pick_t RF RF) ?_
        refine sq_nil ?_
        refine sx_then ?_
        refine scp (fun hc1 => ?_) (fun hc1 => ?_)
        ·
          refine sc_seq ?_
          refine sc_drawX ([.blk b2 (.cells #[.int .i64 a.kind, .int .i64 a.at_.lo, .int .i64 a.at_.hi, .int .i64 a.wd.lo, .int .i64 a.wd.hi, .int .i64 a.dp.lo, .int .i64 a.dp.hi] 81 (0, 0)), .blk b3 (.cells #[.int .i64 b.kind, .int .i64 b.at_.lo, .int .i64 b.at_.hi, .int .i64 b.wd.lo, .int .i64 b.wd.hi, .int .i64 b.dp.lo, .int .i64 b.dp.hi] 81 (0, 0)), .reg 0 w]) (by kernel_rfl) ?_
          refine xj_s 0 RF (by kernel_rfl) SR LD81 rfl ?_
          refine xj_s 1 RF (by kernel_rfl) SR LD81 rfl ?_
          refine xj_one 2 RF (by kernel_rfl) ?_
          refine sq_store_all Try.sizeOf81 RF RF rfl RM rfl rfl ?_
          refine sq_nil ?_
          refine sx_xp SR ?_
          refine xj_one 3 RF (by kernel_rfl) ?_
          refine sq_store_all Try.sizeOf81 RF RF rfl RM rfl rfl ?_
          refine sq_nil ?_
          refine sx_xp SR ?_
          refine xj_s 4 RF (by kernel_rfl) SR (y_assign RF) rfl ?_
          refine xj_done (by kernel_rfl) ?_
          refine sx_then ?_
          refine sc_ret ?_
          refine sx_then_ret ?_
          refine sx_retcct (.inl rfl) rfl Try.results129 Try.underlying81 rfl Try.sizeOf81 Try.underlying81 rfl Try.sizeOf81 RF MM rfl RF MM rfl RF ?_
          intro w' hw'
          refine ⟨?_, hw'.below MM⟩
          first
            | (exfalso; omega)
            | (rw [show bothV a b = (a, b, true) from if_pos ⟨by omega, by omega⟩])
            | (rw [show bothV a b = (b, a, true) from (if_neg (by omega)).trans (if_pos ⟨by omega, by omega⟩)])
            | (rw [show bothV a b = (a, b, false) from (if_neg (by omega)).trans (if_neg (by omega))])
        ·
          refine sc_skip ?_
          refine sx_then ?_
          refine sc_seq ?_
          refine sc_drawX ([.blk b2 (.cells #[.int .i64 a.kind, .int .i64 a.at_.lo, .int .i64 a.at_.hi, .int .i64 a.wd.lo, .int .i64 a.wd.hi, .int .i64 a.dp.lo, .int .i64 a.dp.hi] 81 (0, 0)), .blk b3 (.cells #[.int .i64 b.kind, .int .i64 b.at_.lo, .int .i64 b.at_.hi, .int .i64 b.wd.lo, .int .i64 b.wd.hi, .int .i64 b.dp.lo, .int .i64 b.dp.hi] 81 (0, 0)), .reg 0 w]) (by kernel_rfl) ?_
          refine xj_s 0 RF (by kernel_rfl) SR LD81 rfl ?_
          refine xj_s 1 RF (by kernel_rfl) SR LD81 rfl ?_
          refine xj_one 2 RF (by kernel_rfl) ?_
          refine sq_store_all Try.sizeOf81 RF RF rfl RM rfl rfl ?_
          refine sq_nil ?_
          refine sx_xp SR ?_
          refine xj_one 3 RF (by kernel_rfl) ?_
          refine sq_store_all Try.sizeOf81 RF RF rfl RM rfl rfl ?_
          refine sq_nil ?_
          refine sx_xp SR ?_
          refine xj_s 4 RF (by kernel_rfl) SR (y_assign RF) rfl ?_
          refine xj_done (by kernel_rfl) ?_
          refine sx_then ?_
          refine sc_ret ?_
          refine sx_retcct (.inl rfl) rfl Try.results129 Try.underlying81 rfl Try.sizeOf81 Try.underlying81 rfl Try.sizeOf81 RF MM rfl RF MM rfl RF ?_
          intro w' hw'
          refine ⟨?_, hw'.below MM⟩
          first
            | (exfalso; omega)
            | (rw [show bothV a b = (a, b, true) from if_pos ⟨by omega, by omega⟩])
            | (rw [show bothV a b = (b, a, true) from (if_neg (by omega)).trans (if_pos ⟨by omega, by omega⟩)])
            | (rw [show bothV a b = (a, b, false) from (if_neg (by omega)).trans (if_neg (by omega))])
      ·
        refine qf ?_
        refine qf ?_
        refine qf ?_
        refine qs (y_pick_f RF RF) ?_
        refine sq_nil ?_
        refine sx_then ?_
        refine sc_f RF ?_
        refine sc_skip ?_
        refine sx_then ?_
        refine sc_seq ?_
        refine sc_drawX ([.blk b2 (.cells #[.int .i64 a.kind, .int .i64 a.at_.lo, .int .i64 a.at_.hi, .int .i64 a.wd.lo, .int .i64 a.wd.hi, .int .i64 a.dp.lo, .int .i64 a.dp.hi] 81 (0, 0)), .blk b3 (.cells #[.int .i64 b.kind, .int .i64 b.at_.lo, .int .i64 b.at_.hi, .int .i64 b.wd.lo, .int .i64 b.wd.hi, .int .i64 b.dp.lo, .int .i64 b.dp.hi] 81 (0, 0)), .reg 0 w]) (by kernel_rfl) ?_
        refine xj_s 0 RF (by kernel_rfl) SR LD81 rfl ?_
        refine xj_s 1 RF (by kernel_rfl) SR LD81 rfl ?_
        refine xj_one 2 RF (by kernel_rfl) ?_
        refine sq_store_all Try.sizeOf81 RF RF rfl RM rfl rfl ?_
        refine sq_nil ?_
        refine sx_xp SR ?_
        refine xj_one 3 RF (by kernel_rfl) ?_
        refine sq_store_all Try.sizeOf81 RF RF rfl RM rfl rfl ?_
        refine sq_nil ?_
        refine sx_xp SR ?_
        refine xj_s 4 RF (by kernel_rfl) SR (y_assign RF) rfl ?_
        refine xj_done (by kernel_rfl) ?_
        refine sx_then ?_
        refine sc_ret ?_
        refine sx_retcct (.inl rfl) rfl Try.results129 Try.underlying81 rfl Try.sizeOf81 Try.underlying81 rfl Try.sizeOf81 RF MM rfl RF MM rfl RF ?_
        intro w' hw'
        refine ⟨?_, hw'.below MM⟩
        first
          | (exfalso; omega)
          | (rw [show bothV a b = (a, b, true) from if_pos ⟨by omega, by omega⟩])
          | (rw [show bothV a b = (b, a, true) from (if_neg (by omega)).trans (if_pos ⟨by omega, by omega⟩)])
          | (rw [show bothV a b = (a, b, false) from (if_neg (by omega)).trans (if_neg (by omega))])
  ·
    refine qf ?_
    refine qf ?_
    refine qf ?_
    refine qs (y_pick_f RF RF) ?_
    refine sq_nil ?_
    refine sx_then ?_
    refine sc_f RF ?_
    refine sc_skip ?_
    refine sx_then ?_
    refine sc_seq ?_
    refine sc_seq ?_
    refine sc_region ?_
    refine qs FA81_3 ?_
    refine qs LD3 ?_
    refine qs (y_eql RF RF) ?_
    refine qs (y_move RF) ?_
    refine sp 20 (fun hg3_3 => ?_) (fun hg3_3 => ?_)
    ·
      refine qg FA81_3 ?_
      refine qg LD3 ?_
      refine qg (y_eql RF RF) ?_
      refine qs (y_pick_t RF RF) ?_
      refine sq_nil ?_
      refine sx_then ?_
      refine scp (fun hc1 => ?_) (fun hc1 => ?_)
      ·
        refine sc_seq ?_
        refine sc_drawX ([.blk b2 (.cells #[.int .i64 a.kind, .int .i64 a.at_.lo, .int .i64 a.at_.hi, .int .i64 a.wd.lo, .int .i64 a.wd.hi, .int .i64 a.dp.lo, .int .i64 a.dp.hi] 81 (0, 0)), .blk b3 (.cells #[.int .i64 b.kind, .int .i64 b.at_.lo, .int .i64 b.at_.hi, .int .i64 b.wd.lo, .int .i64 b.wd.hi, .int .i64 b.dp.lo, .int .i64 b.dp.hi] 81 (0, 0)), .reg 0 w]) (by kernel_rfl) ?_
        refine xj_s 0 RF (by kernel_rfl) SR LD81 rfl ?_
        refine xj_s 1 RF (by kernel_rfl) SR LD81 rfl ?_
        refine xj_one 2 RF (by kernel_rfl) ?_
        refine sq_store_all Try.sizeOf81 RF RF rfl RM rfl rfl ?_
        refine sq_nil ?_
        refine sx_xp SR ?_
        refine xj_one 3 RF (by kernel_rfl) ?_
        refine sq_store_all Try.sizeOf81 RF RF rfl RM rfl rfl ?_
        refine sq_nil ?_
        refine sx_xp SR ?_
        refine xj_s 4 RF (by kernel_rfl) SR (y_assign RF) rfl ?_
        refine xj_done (by kernel_rfl) ?_
        refine sx_then ?_
        refine sc_ret ?_
        refine sx_then_ret ?_
        refine sx_retcct (.inl rfl) rfl Try.results129 Try.underlying81 rfl Try.sizeOf81 Try.underlying81 rfl Try.sizeOf81 RF MM rfl RF MM rfl RF ?_
        intro w' hw'
        refine ⟨?_, hw'.below MM⟩
        first
          | (exfalso; omega)
          | (rw [show bothV a b = (a, b, true) from if_pos ⟨by omega, by omega⟩])
          | (rw [show bothV a b = (b, a, true) from (if_neg (by omega)).trans (if_pos ⟨by omega, by omega⟩)])
          | (rw [show bothV a b = (a, b, false) from (if_neg (by omega)).trans (if_neg (by omega))])
      ·
        refine sc_skip ?_
        refine sx_then ?_
        refine sc_seq ?_
        refine sc_drawX ([.blk b2 (.cells #[.int .i64 a.kind, .int .i64 a.at_.lo, .int .i64 a.at_.hi, .int .i64 a.wd.lo, .int .i64 a.wd.hi, .int .i64 a.dp.lo, .int .i64 a.dp.hi] 81 (0, 0)), .blk b3 (.cells #[.int .i64 b.kind, .int .i64 b.at_.lo, .int .i64 b.at_.hi, .int .i64 b.wd.lo, .int .i64 b.wd.hi, .int .i64 b.dp.lo, .int .i64 b.dp.hi] 81 (0, 0)), .reg 0 w]) (by kernel_rfl) ?_
        refine xj_s 0 RF (by kernel_rfl) SR LD81 rfl ?_
        refine xj_s 1 RF (by kernel_rfl) SR LD81 rfl ?_
        refine xj_one 2 RF (by kernel_rfl) ?_
        refine sq_store_all Try.sizeOf81 RF RF rfl RM rfl rfl ?_
        refine sq_nil ?_
        refine sx_xp SR ?_
        refine xj_one 3 RF (by kernel_rfl) ?_
        refine sq_store_all Try.sizeOf81 RF RF rfl RM rfl rfl ?_
        refine sq_nil ?_
        refine sx_xp SR ?_
        refine xj_s 4 RF (by kernel_rfl) SR (y_assign RF) rfl ?_
        refine xj_done (by kernel_rfl) ?_
        refine sx_then ?_
        refine sc_ret ?_
        refine sx_retcct (.inl rfl) rfl Try.results129 Try.underlying81 rfl Try.sizeOf81 Try.underlying81 rfl Try.sizeOf81 RF MM rfl RF MM rfl RF ?_
        intro w' hw'
        refine ⟨?_, hw'.below MM⟩
        first
          | (exfalso; omega)
          | (rw [show bothV a b = (a, b, true) from if_pos ⟨by omega, by omega⟩])
          | (rw [show bothV a b = (b, a, true) from (if_neg (by omega)).trans (if_pos ⟨by omega, by omega⟩)])
          | (rw [show bothV a b = (a, b, false) from (if_neg (by omega)).trans (if_neg (by omega))])
    ·
      refine qf ?_
      refine qf ?_
      refine qf ?_
      refine qs (y_pick_f RF RF) ?_
      refine sq_nil ?_
      refine sx_then ?_
      refine sc_f RF ?_
      refine sc_skip ?_
      refine sx_then ?_
      refine sc_seq ?_
      refine sc_drawX ([.blk b2 (.cells #[.int .i64 a.kind, .int .i64 a.at_.lo, .int .i64 a.at_.hi, .int .i64 a.wd.lo, .int .i64 a.wd.hi, .int .i64 a.dp.lo, .int .i64 a.dp.hi] 81 (0, 0)), .blk b3 (.cells #[.int .i64 b.kind, .int .i64 b.at_.lo, .int .i64 b.at_.hi, .int .i64 b.wd.lo, .int .i64 b.wd.hi, .int .i64 b.dp.lo, .int .i64 b.dp.hi] 81 (0, 0)), .reg 0 w]) (by kernel_rfl) ?_
      refine xj_s 0 RF (by kernel_rfl) SR LD81 rfl ?_
      refine xj_s 1 RF (by kernel_rfl) SR LD81 rfl ?_
      refine xj_one 2 RF (by kernel_rfl) ?_
      refine sq_store_all Try.sizeOf81 RF RF rfl RM rfl rfl ?_
      refine sq_nil ?_
      refine sx_xp SR ?_
      refine xj_one 3 RF (by kernel_rfl) ?_
      refine sq_store_all Try.sizeOf81 RF RF rfl RM rfl rfl ?_
      refine sq_nil ?_
      refine sx_xp SR ?_
      refine xj_s 4 RF (by kernel_rfl) SR (y_assign RF) rfl ?_
      refine xj_done (by kernel_rfl) ?_
      refine sx_then ?_
      refine sc_ret ?_
      refine sx_retcct (.inl rfl) rfl Try.results129 Try.underlying81 rfl Try.sizeOf81 Try.underlying81 rfl Try.sizeOf81 RF MM rfl RF MM rfl RF ?_
      intro w' hw'
      refine ⟨?_, hw'.below MM⟩
      first
        | (exfalso; omega)
        | (rw [show bothV a b = (a, b, true) from if_pos ⟨by omega, by omega⟩])
        | (rw [show bothV a b = (b, a, true) from (if_neg (by omega)).trans (if_pos ⟨by omega, by omega⟩)])
        | (rw [show bothV a b = (a, b, false) from (if_neg (by omega)).trans (if_neg (by omega))])
theorem DifferBy130 (w : World) (p : Pl) (t h : Eg) (hp : Vp p) (ht : Vg t) (hh : Vg h) : Calls Try.prog 130 #[.agg (plRow p).toArray, .agg (egRow t).toArray, .agg (egRow h).toArray] w fun e w' => e = .returned (.agg (dfRow p t h).toArray) ∧ Below w.heap.size w w' := by
  have a1 := ht.a
  have a2 := hh.a
  have b1 := ht.w
  have b2 := hh.w
  have c1 := ht.d
  have c2 := hh.d
  have hl := hp.l
  unfold plRow egRow
  refine calls_of_SC (args := [.agg #[.int .i64 p.len, .int .i64 p.slack, .int .i64 p.loose, .int .i64 p.damp.lo, .int .i64 p.damp.hi], .agg #[.int .i64 t.kind, .int .i64 t.at_.lo, .int .i64 t.at_.hi, .int .i64 t.wd.lo, .int .i64 t.wd.hi, .int .i64 t.dp.lo, .int .i64 t.dp.hi], .agg #[.int .i64 h.kind, .int .i64 h.at_.lo, .int .i64 h.at_.hi, .int .i64 h.wd.lo, .int .i64 h.wd.hi, .int .i64 h.dp.lo, .int .i64 h.dp.hi]]) Try.func130 rfl Try.ntmps130 rfl ?_
  simp only [argL, Nat.reduceAdd, Nat.zero_add]
  refine sc_seq ?_
  refine sc_region ?_
  refine sq_box RF rfl (fun b3 => ?_)
  refine sq_box RF rfl (fun b4 => ?_)
  refine sq_box RF rfl (fun b5 => ?_)
  refine sq_alloc Try.zeroValue238 rfl (fun b6 => ?_)
  refine sq_nil ?_
  refine sx_then ?_
  refine sc_seq ?_
  refine sc_region ?_
  refine qs FA81_38 ?_
  refine qs FA38_3 ?_
  refine qs LD3 ?_
  refine qs FA81_38 ?_
  refine qs FA38_3 ?_
  refine qs LD3 ?_
  refine qs (y_add RF RF (by omega)) ?_
  refine qs FA59_3 ?_
  refine qs LD3 ?_
  refine qs (y_sub RF RF (by omega)) ?_
  refine qs FA81_38 ?_
  refine qs FA38_3 ?_
  refine qs LD3 ?_
  refine qs FA81_38 ?_
  refine qs FA38_3 ?_
  refine qs LD3 ?_
  refine qs (y_add RF RF (by omega)) ?_
  refine qs FA59_3 ?_
  refine qs LD3 ?_
  refine qs (y_sub RF RF (by omega)) ?_
  refine qs (y_build (cells := #[.int .i64 (t.at_.lo + h.at_.lo - p.len), .int .i64 (t.at_.hi + h.at_.hi - p.len)]) bt38 (EvP.cons RF (EvP.cons RF EvP.nil)) (by kernel_rfl)) ?_
  refine qs FA81_38 ?_
  refine qs FA38_3 ?_
  refine qs LD3 ?_
  refine qs FA81_38 ?_
  refine qs FA38_3 ?_
  refine qs LD3 ?_
  refine qs (y_sub RF RF (by omega)) ?_
  refine qs FA81_38 ?_
  refine qs FA38_3 ?_
  refine qs LD3 ?_
  refine qs FA81_38 ?_
  refine qs FA38_3 ?_
  refine qs LD3 ?_
  refine qs (y_sub RF RF (by omega)) ?_
  refine qs (y_build (cells := #[.int .i64 (h.wd.lo - t.wd.hi), .int .i64 (h.wd.hi - t.wd.lo)]) bt38 (EvP.cons RF (EvP.cons RF EvP.nil)) (by kernel_rfl)) ?_
  refine qs FA81_38 ?_
  refine qs FA38_3 ?_
  refine qs LD3 ?_
  refine qs FA81_38 ?_
  refine qs FA38_3 ?_
  refine qs LD3 ?_
  refine qs (y_sub RF RF (by omega)) ?_
  refine qs FA81_38 ?_
  refine qs FA38_3 ?_
  refine qs LD3 ?_
  refine qs FA81_38 ?_
  refine qs FA38_3 ?_
  refine qs LD3 ?_
  refine qs (y_sub RF RF (by omega)) ?_
  refine qs (y_build (cells := #[.int .i64 (h.dp.lo - t.dp.hi), .int .i64 (h.dp.hi - t.dp.lo)]) bt38 (EvP.cons RF (EvP.cons RF EvP.nil)) (by kernel_rfl)) ?_
  refine qs (y_build (cells := (dfRow p t h).toArray) bt238 (EvP.cons RF (EvP.cons RF (EvP.cons RF EvP.nil))) (by kernel_rfl)) ?_
  refine sq_store_all (vs := dfRow p t h) Try.sizeOf238 RF RF rfl RM rfl rfl ?_
  refine sq_nil ?_
  refine sx_then ?_
  refine sc_ret ?_
  refine sx_retc (.inl rfl) rfl Try.results130 Try.underlying238 rfl Try.sizeOf238 RF MM rfl ?_
  intro w' hw'
  exact ⟨rfl, hw'.below MM⟩
theorem all131 (w : World) (s d : Sp) (low high : Int) (hs : (-30000 ≤ s.lo ∧ s.lo ≤ 30000) ∧ (-30000 ≤ s.hi ∧ s.hi ≤ 30000)) (hl : -1000 ≤ low ∧ low ≤ 0) (hh : 0 ≤ high ∧ high ≤ 1000) (hd : 0 ≤ d.lo ∧ d.lo ≤ d.hi ∧ d.hi ≤ 100) : Calls Try.prog 131 #[.agg (spRow s).toArray, .int .i64 low, .int .i64 high, .agg (spRow d).toArray] w fun e w' => e = .returned (.bool (allB s low high d)) ∧ Below w.heap.size w w' := by
  have m1 := mul_bd3 (a := s.lo) (b := 1000 + d.hi) (by omega) (by omega)
  have m2 := mul_bd3 (a := s.hi) (b := 1000 + d.hi) (by omega) (by omega)
  unfold spRow
  refine calls_of_SC (args := [.agg #[.int .i64 s.lo, .int .i64 s.hi], .int .i64 low, .int .i64 high, .agg #[.int .i64 d.lo, .int .i64 d.hi]]) Try.func131 rfl Try.ntmps131 rfl ?_
  simp only [argL, Nat.reduceAdd, Nat.zero_add]
  refine sc_seq ?_
  refine sc_region ?_
  refine sq_box RF rfl (fun b4 => ?_)
  refine sq_box RF rfl (fun b7 => ?_)
  refine qs (y_assign RF) ?_
  refine sq_nil ?_
  refine sx_then ?_
  refine sc_seq ?_
  refine sc_region ?_
  refine qs FA38_3 ?_
  refine qs LD3 ?_
  refine qs FA38_3 ?_
  refine qs LD3 ?_
  refine qs (y_add RF RF (by omega)) ?_
  refine qs (y_mul RF RF (by omega)) ?_
  refine qs (y_move RF) ?_
  refine qs (y_mul RF RF (by omega)) ?_
  refine qs (y_geq RF RF) ?_
  refine qs (y_move RF) ?_
  refine sp 18 (fun hg1_9 => ?_) (fun hg1_9 => ?_)
  ·
    refine qg FA38_3 ?_
    refine qg LD3 ?_
    refine qg FA38_3 ?_
    refine qg LD3 ?_
    refine qg (y_add RF RF (by omega)) ?_
    refine qg (y_mul RF RF (by omega)) ?_
    refine qg (y_move RF) ?_
    refine qg (y_mul RF RF (by omega)) ?_
    refine qg (y_leq RF RF) ?_
    refine qs (y_pick_t RF RF) ?_
    refine qs (y_assign RF) ?_
    refine sq_nil ?_
    refine sx_then ?_
    refine sc_ret ?_
    refine sx_ret1 (.inl rfl) rfl Try.results131 RF ?_
    intro w' hw'
    refine ⟨?_, hw'.below MM⟩
    unfold allB
    simp [*]
  ·
    refine qf ?_
    refine qf ?_
    refine qf ?_
    refine qf ?_
    refine qf ?_
    refine qf ?_
    refine qf ?_
    refine qf ?_
    refine qf ?_
    refine qs (y_pick_f RF RF) ?_
    refine qs (y_assign RF) ?_
    refine sq_nil ?_
    refine sx_then ?_
    refine sc_ret ?_
    refine sx_ret1 (.inl rfl) rfl Try.results131 RF ?_
    intro w' hw'
    refine ⟨?_, hw'.below MM⟩
    unfold allB
    simp [*]
theorem some132 (w : World) (s d : Sp) (low high : Int) (hle : s.lo ≤ s.hi) (hs : (-30000 ≤ s.lo ∧ s.lo ≤ 30000) ∧ (-30000 ≤ s.hi ∧ s.hi ≤ 30000)) (hl : -1000 ≤ low ∧ low ≤ 0) (hh : 0 ≤ high ∧ high ≤ 1000) (hd : 0 ≤ d.lo ∧ d.lo ≤ d.hi ∧ d.hi ≤ 100) : Calls Try.prog 132 #[.agg (spRow s).toArray, .int .i64 low, .int .i64 high, .agg (spRow d).toArray] w fun e w' => e = .returned (.bool (mayB s low high d)) ∧ Below w.heap.size w w' := by
  have hsm := some_may (s := s) (d := d) (low := low) (high := high) hle hl.2 hh.1 hd.1
  unfold spRow
  refine calls_of_SC (args := [.agg #[.int .i64 s.lo, .int .i64 s.hi], .int .i64 low, .int .i64 high, .agg #[.int .i64 d.lo, .int .i64 d.hi]]) Try.func132 rfl Try.ntmps132 rfl ?_
  simp only [argL, Nat.reduceAdd, Nat.zero_add]
  refine sc_seq ?_
  refine sc_region ?_
  refine sq_box RF rfl (fun b4 => ?_)
  refine sq_box RF rfl (fun b7 => ?_)
  refine qs (y_assign RF) ?_
  refine sq_nil ?_
  refine sx_then ?_
  refine sc_seq ?_
  refine sc_seq ?_
  refine sc_region ?_
  refine qs FA38_3 ?_
  refine qs LD3 ?_
  refine qs (y_move RF) ?_
  refine qs (y_max RF RF) ?_
  refine qs (y_assign RF) ?_
  refine sq_nil ?_
  refine sx_then ?_
  refine sc_block ?_
  refine sc_loop (σ := Int)
    (fun s_ => [(4, .pointer (some ⟨b4, 0, none⟩)), (7, .pointer (some ⟨b7, 0, none⟩)), (1, .int .i64 low), (2, .int .i64 high), (9, .int .i64 s_)])
    (fun s_ => [.blk b4 (.cells #[.int .i64 s.lo, .int .i64 s.hi] 38 (0, 0)), .blk b7 (.cells #[.int .i64 d.lo, .int .i64 d.hi] 38 (0, 0)), .reg 0 w])
    (fun s_ => max s.lo low ≤ s_ ∧ ∀ n, n < s_ → ¬ okN s low high d n)
    (fun s_ => (min s.hi high + 1 - s_).toNat)
    (max s.lo low) ?_ SU SE ?_
  · exact ⟨Int.le_refl _, fun n hn hk => by have := hk.1.1; omega⟩
  rintro x ⟨hx, hno⟩
  refine sc_seq ?_
  refine sc_seq ?_
  refine sc_region ?_
  refine qs (y_move RF) ?_
  refine qs FA38_3 ?_
  refine qs LD3 ?_
  refine qs (y_move RF) ?_
  refine qs (y_min RF RF) ?_
  refine qs (y_leq RF RF) ?_
  refine sq_nil ?_
  refine sx_then ?_
  refine scp (fun hc0 => ?_) (fun hc0 => ?_)
  ·
    have m1 := mul_bd3 (a := x) (b := 1000 + d.lo) (by omega) (by omega)
    refine sc_skip ?_
    refine sx_then ?_
    refine sc_seq ?_
    refine sc_block ?_
    refine sc_seq ?_
    refine sc_region ?_
    refine qs (y_move RF) ?_
    refine qs FA38_3 ?_
    refine qs LD3 ?_
    refine qs (y_add RF RF (by omega)) ?_
    refine qs (y_mul RF RF (by omega)) ?_
    refine qs (y_move RF) ?_
    refine qs (y_mul RF RF (by omega)) ?_
    refine qs (y_geq RF RF) ?_
    refine qs (y_move RF) ?_
    refine sp 30 (fun hg4_8 => ?_) (fun hg4_8 => ?_)
    ·
      refine qg (y_move RF) ?_
      refine qg FA38_3 ?_
      refine qg LD3 ?_
      refine qg (y_add RF RF (by omega)) ?_
      refine qg (y_mul RF RF (by omega)) ?_
      refine qg (y_move RF) ?_
      refine qg (y_mul RF RF (by omega)) ?_
      refine qg (y_leq RF RF) ?_
      refine qs (y_pick_t RF RF) ?_
      refine sq_nil ?_
      refine sx_then ?_
      refine scp (fun hc1 => ?_) (fun hc1 => ?_)
      ·
        refine sc_seq ?_
        refine sc_region ?_
        refine qs (y_assign RF) ?_
        refine sq_nil ?_
        refine sx_then ?_
        refine sc_ret ?_
        refine sx_blk_ret ?_
        refine sx_then_ret ?_
        refine sx_round_ret ?_
        refine sx_blk_ret ?_
        refine sx_then_ret ?_
        refine sx_ret1 (.inl rfl) rfl Try.results132 RF ?_
        intro w' hw'
        refine ⟨?_, hw'.below MM⟩
        rw [hsm.1 ⟨x, ⟨by omega, by omega⟩, by omega, by omega⟩]
      ·
        refine sc_skip ?_
        refine sx_blk ?_
        refine sx_then ?_
        refine sc_region ?_
        refine qs (y_move RF) ?_
        refine qs (y_add RF RF (by omega)) ?_
        refine qs (y_assign RF) ?_
        refine sq_nil ?_
        refine sx_round (x + 1) ?_ ?_ SU SE
        · refine ⟨by omega, fun n hn => ?_⟩
          rcases (by omega : n < x ∨ n = x) with h9 | rfl
          · exact hno n h9
          · intro hk
            have h1 := hk.2.1
            have h2 := hk.2.2
            omega
        · omega
    ·
      refine qf ?_
      refine qf ?_
      refine qf ?_
      refine qf ?_
      refine qf ?_
      refine qf ?_
      refine qf ?_
      refine qf ?_
      refine qs (y_pick_f RF RF) ?_
      refine sq_nil ?_
      refine sx_then ?_
      refine sc_f RF ?_
      refine sc_skip ?_
      refine sx_blk ?_
      refine sx_then ?_
      refine sc_region ?_
      refine qs (y_move RF) ?_
      refine qs (y_add RF RF (by omega)) ?_
      refine qs (y_assign RF) ?_
      refine sq_nil ?_
      refine sx_round (x + 1) ?_ ?_ SU SE
      · refine ⟨by omega, fun n hn => ?_⟩
        rcases (by omega : n < x ∨ n = x) with h9 | rfl
        · exact hno n h9
        · intro hk
          have h1 := hk.2.1
          have h2 := hk.2.2
          omega
      · omega
  ·
    refine sc_exit ?_
    refine sx_then_exit ?_
    refine sx_round_exit ?_
    refine sx_blk_hit ?_
    refine sx_then ?_
    refine sc_seq ?_
    refine sc_region ?_
    refine qs (y_assign RF) ?_
    refine sq_nil ?_
    refine sx_then ?_
    refine sc_ret ?_
    refine sx_ret1 (.inl rfl) rfl Try.results132 RF ?_
    intro w' hw'
    refine ⟨?_, hw'.below MM⟩
    rw [show mayB s low high d = false from by
      rw [Bool.eq_false_iff]
      intro h9
      obtain ⟨n, hn⟩ := hsm.2 h9
      have h8 := hn.1
      exact hno n (by omega) hn]
theorem fit121 (w : World) (p : Pl) (a b : Eg) (hp : plB p = true) (ha : egB a = true) (hb : egB b = true) : Calls Try.prog 121 #[.agg (plRow p).toArray, .agg (egRow a).toArray, .agg (egRow b).toArray] w fun e w' => e = .returned (.int .i64 (fitV p a b)) ∧ Below w.heap.size w w' := by
  have hvp := vp_of hp
  have hd := hvp.d
  have hs := hvp.s
  have ho := hvp.o
  obtain ⟨t, h, is, hbo⟩ : ∃ t h is, bothV a b = (t, h, is) := ⟨_, _, _, rfl⟩
  refine calls_of_SC (args := [.agg (plRow p).toArray, .agg (egRow a).toArray, .agg (egRow b).toArray]) Try.func121 rfl Try.ntmps121 rfl ?_
  simp only [argL, Nat.reduceAdd, Nat.zero_add]
  refine sc_seq ?_
  refine sc_region ?_
  refine sq_box RF rfl (fun b3 => ?_)
  refine sq_box RF rfl (fun b4 => ?_)
  refine sq_box RF rfl (fun b5 => ?_)
  refine qs (y_assign RF) ?_
  refine sq_nil ?_
  refine sx_then ?_
  refine sc_seq ?_
  refine sc_region ?_
  refine qs LD81 ?_
  refine qs LD81 ?_
  refine qy (yc Try.call129 E2 (fun w1 _ => Both129 w1 a b)) ?_
  rw [hbo]
  dsimp only
  refine qs (y_move RF) ?_
  refine qs (y_extract RF RF) ?_
  refine qs (y_extract RF RF) ?_
  refine qs (y_extract RF RF) ?_
  refine sq_alloc Try.zeroValue81 rfl (fun b7 => ?_)
  refine sq_alloc Try.zeroValue81 rfl (fun b8 => ?_)
  refine sq_store_all (vs := egRow t) Try.sizeOf81 RF RF rfl RM rfl rfl ?_
  refine sq_store_all (vs := egRow h) Try.sizeOf81 RF RF rfl RM rfl rfl ?_
  refine qs (y_assign RF) ?_
  refine sq_nil ?_
  refine sx_then ?_
  refine sc_seq ?_
  refine sc_seq ?_
  refine sc_region ?_
  refine qs (y_move RF) ?_
  refine qs (y_not RF) ?_
  refine sq_nil ?_
  refine sx_then ?_
  refine scp (fun hc0 => ?_) (fun hc0 => ?_)
  ·
    have his : is = false := by simpa using hc0
    subst his
    have hV := both_no (p := p) hbo
    refine sc_seq ?_
    refine sc_region ?_
    refine qs (y_assign RF) ?_
    refine sq_nil ?_
    refine sx_then ?_
    refine sc_ret ?_
    refine sx_then_ret ?_
    refine sx_ret1 (.inl rfl) rfl Try.results121 RF ?_
    intro w' hw'
    exact ⟨by rw [hV], hw'.below MM⟩
  ·
    have his : is = true := by simpa using hc0
    subst his
    have hV := both_yes (p := p) ha hb hbo
    have hb0 : (-30000 ≤ (offD p t h).lo ∧ (offD p t h).lo ≤ 30000) ∧ (-30000 ≤ (offD p t h).hi ∧ (offD p t h).hi ≤ 30000) ∧ (offD p t h).lo ≤ (offD p t h).hi := by_bd (i := 0) hvp hV.1 hV.2.1
    have hb1 : (-30000 ≤ (wideD t h).lo ∧ (wideD t h).lo ≤ 30000) ∧ (-30000 ≤ (wideD t h).hi ∧ (wideD t h).hi ≤ 30000) ∧ (wideD t h).lo ≤ (wideD t h).hi := by_bd (i := 1) hvp hV.1 hV.2.1
    have hb2 : (-30000 ≤ (deepD t h).lo ∧ (deepD t h).lo ≤ 30000) ∧ (-30000 ≤ (deepD t h).hi ∧ (deepD t h).hi ≤ 30000) ∧ (deepD t h).lo ≤ (deepD t h).hi := by_bd (i := 2) hvp hV.1 hV.2.1
    refine sc_skip ?_
    refine sx_then ?_
    refine sc_seq ?_
    refine sc_region ?_
    refine qs LD59 ?_
    refine qs LD81 ?_
    refine qs LD81 ?_
    refine qy (yc Try.call130 E3 (fun w1 _ => DifferBy130 w1 p t h hvp hV.1 hV.2.1)) ?_
    refine sq_alloc Try.zeroValue238 rfl (fun b10 => ?_)
    refine sq_store_all (vs := dfRow p t h) Try.sizeOf238 RF RF rfl RM rfl rfl ?_
    refine sq_nil ?_
    refine sx_then ?_
    refine sc_seq ?_
    refine sc_seq ?_
    refine sc_region ?_
    refine qs FA238_38 ?_
    refine qs LD38 ?_
    refine qs FA59_3 ?_
    refine qs LD3 ?_
    refine qs (y_neg RF (by omega)) ?_
    refine qs FA59_3 ?_
    refine qs LD3 ?_
    refine qs FA59_38 ?_
    refine qs LD38 ?_
    refine qy (yc Try.call131 E4 (fun w1 _ => all131 w1 (offD p t h) p.damp (-p.slack) p.slack ⟨hb0.1, hb0.2.1⟩ (by omega) (by omega) hd)) ?_
    refine qs (y_move RF) ?_
    refine sp 34 (fun hg5_10 => ?_) (fun hg5_10 => ?_)
    ·
      refine qg FA238_38 ?_
      refine qg LD38 ?_
      refine qg FA59_3 ?_
      refine qg LD3 ?_
      refine qg FA59_38 ?_
      refine qg LD38 ?_
      refine sq_gt RF RF (y_call (first := []) (caps := []) RF Try.call131 (EvL.cons RF (EvL.cons RF (EvL.cons RF (EvL.cons RF EvL.nil)))) (fun w1 _ => all131 w1 (wideD t h) p.damp 0 p.loose ⟨hb1.1, hb1.2.1⟩ (by omega) (by omega) hd)) rfl ?_
      refine qs (y_pick_t RF RF) ?_
      refine qs (y_move RF) ?_
      refine sp 43 (fun hg5_19 => ?_) (fun hg5_19 => ?_)
      ·
        refine qg FA238_38 ?_
        refine qg LD38 ?_
        refine qg FA59_3 ?_
        refine qg LD3 ?_
        refine qg FA59_38 ?_
        refine qg LD38 ?_
        refine sq_gt RF RF (y_call (first := []) (caps := []) RF Try.call131 (EvL.cons RF (EvL.cons RF (EvL.cons RF (EvL.cons RF EvL.nil)))) (fun w1 _ => all131 w1 (deepD t h) p.damp 0 p.loose ⟨hb2.1, hb2.2.1⟩ (by omega) (by omega) hd)) rfl ?_
        refine qs (y_pick_t RF RF) ?_
        refine sq_nil ?_
        refine sx_then ?_
        refine scp (fun hc1 => ?_) (fun hc1 => ?_)
        ·
          refine sc_seq ?_
          refine sc_region ?_
          refine qs (y_assign RF) ?_
          refine sq_nil ?_
          refine sx_then ?_
          refine sc_ret ?_
          refine sx_then_ret ?_
          refine sx_ret1 (.inl rfl) rfl Try.results121 RF ?_
          intro w' hw'
          refine ⟨?_, hw'.below MM⟩
          rw [hV.2.2]
          unfold verdV
          simp [*]
        ·
          refine sc_skip ?_
          refine sx_then ?_
          refine sc_seq ?_
          refine sc_seq ?_
          refine sc_region ?_
          refine qs FA238_38 ?_
          refine qs LD38 ?_
          refine qs FA59_3 ?_
          refine qs LD3 ?_
          refine qs (y_neg RF (by omega)) ?_
          refine qs FA59_3 ?_
          refine qs LD3 ?_
          refine qs FA59_38 ?_
          refine qs LD38 ?_
          refine qy (yc Try.call132 E4 (fun w1 _ => some132 w1 (offD p t h) p.damp (-p.slack) p.slack hb0.2.2 ⟨hb0.1, hb0.2.1⟩ (by omega) (by omega) hd)) ?_
          refine qs (y_move RF) ?_
          refine sp 62 (fun hg7_10 => ?_) (fun hg7_10 => ?_)
          ·
            refine qg FA238_38 ?_
            refine qg LD38 ?_
            refine qg FA59_3 ?_
            refine qg LD3 ?_
            refine qg FA59_38 ?_
            refine qg LD38 ?_
            refine sq_gt RF RF (y_call (first := []) (caps := []) RF Try.call132 (EvL.cons RF (EvL.cons RF (EvL.cons RF (EvL.cons RF EvL.nil)))) (fun w1 _ => some132 w1 (wideD t h) p.damp 0 p.loose hb1.2.2 ⟨hb1.1, hb1.2.1⟩ (by omega) (by omega) hd)) rfl ?_
            refine qs (y_pick_t RF RF) ?_
            refine qs (y_move RF) ?_
            refine sp 71 (fun hg7_19 => ?_) (fun hg7_19 => ?_)
            ·
              refine qg FA238_38 ?_
              refine qg LD38 ?_
              refine qg FA59_3 ?_
              refine qg LD3 ?_
              refine qg FA59_38 ?_
              refine qg LD38 ?_
              refine sq_gt RF RF (y_call (first := []) (caps := []) RF Try.call132 (EvL.cons RF (EvL.cons RF (EvL.cons RF (EvL.cons RF EvL.nil)))) (fun w1 _ => some132 w1 (deepD t h) p.damp 0 p.loose hb2.2.2 ⟨hb2.1, hb2.2.1⟩ (by omega) (by omega) hd)) rfl ?_
              refine qs (y_pick_t RF RF) ?_
              refine sq_nil ?_
              refine sx_then ?_
              refine scp (fun hc2 => ?_) (fun hc2 => ?_)
              ·
                refine sc_seq ?_
                refine sc_region ?_
                refine qs (y_assign RF) ?_
                refine sq_nil ?_
                refine sx_then ?_
                refine sc_ret ?_
                refine sx_then_ret ?_
                refine sx_ret1 (.inl rfl) rfl Try.results121 RF ?_
                intro w' hw'
                refine ⟨?_, hw'.below MM⟩
                rw [hV.2.2]
                unfold verdV
                simp [*]
              ·
                refine sc_skip ?_
                refine sx_then ?_
                refine sc_seq ?_
                refine sc_region ?_
                refine qs (y_assign RF) ?_
                refine sq_nil ?_
                refine sx_then ?_
                refine sc_ret ?_
                refine sx_ret1 (.inl rfl) rfl Try.results121 RF ?_
                intro w' hw'
                refine ⟨?_, hw'.below MM⟩
                rw [hV.2.2]
                unfold verdV
                simp [*]
            ·
              refine qf ?_
              refine qf ?_
              refine qf ?_
              refine qf ?_
              refine qf ?_
              refine qf ?_
              refine qf ?_
              refine qs (y_pick_f RF RF) ?_
              refine sq_nil ?_
              refine sx_then ?_
              refine sc_f RF ?_
              refine sc_skip ?_
              refine sx_then ?_
              refine sc_seq ?_
              refine sc_region ?_
              refine qs (y_assign RF) ?_
              refine sq_nil ?_
              refine sx_then ?_
              refine sc_ret ?_
              refine sx_ret1 (.inl rfl) rfl Try.results121 RF ?_
              intro w' hw'
              refine ⟨?_, hw'.below MM⟩
              rw [hV.2.2]
              unfold verdV
              simp [*]
          ·
            refine qf ?_
            refine qf ?_
            refine qf ?_
            refine qf ?_
            refine qf ?_
            refine qf ?_
            refine qf ?_
            refine qs (y_pick_f RF RF) ?_
            refine qs (y_move RF) ?_
            refine qf ?_
            refine qf ?_
            refine qf ?_
            refine qf ?_
            refine qf ?_
            refine qf ?_
            refine qf ?_
            refine qs (y_pick_f RF RF) ?_
            refine sq_nil ?_
            refine sx_then ?_
            refine sc_f RF ?_
            refine sc_skip ?_
            refine sx_then ?_
            refine sc_seq ?_
            refine sc_region ?_
            refine qs (y_assign RF) ?_
            refine sq_nil ?_
            refine sx_then ?_
            refine sc_ret ?_
            refine sx_ret1 (.inl rfl) rfl Try.results121 RF ?_
            intro w' hw'
            refine ⟨?_, hw'.below MM⟩
            rw [hV.2.2]
            unfold verdV
            simp [*]
      ·
        refine qf ?_
        refine qf ?_
        refine qf ?_
        refine qf ?_
        refine qf ?_
        refine qf ?_
        refine qf ?_
        refine qs (y_pick_f RF RF) ?_
        refine sq_nil ?_
        refine sx_then ?_
        refine sc_f RF ?_
        refine sc_skip ?_
        refine sx_then ?_
        refine sc_seq ?_
        refine sc_seq ?_
        refine sc_region ?_
        refine qs FA238_38 ?_
        refine qs LD38 ?_
        refine qs FA59_3 ?_
        refine qs LD3 ?_
        refine qs (y_neg RF (by omega)) ?_
        refine qs FA59_3 ?_
        refine qs LD3 ?_
        refine qs FA59_38 ?_
        refine qs LD38 ?_
        refine qy (yc Try.call132 E4 (fun w1 _ => some132 w1 (offD p t h) p.damp (-p.slack) p.slack hb0.2.2 ⟨hb0.1, hb0.2.1⟩ (by omega) (by omega) hd)) ?_
        refine qs (y_move RF) ?_
        refine sp 62 (fun hg7_10 => ?_) (fun hg7_10 => ?_)
        ·
          refine qg FA238_38 ?_
          refine qg LD38 ?_
          refine qg FA59_3 ?_
          refine qg LD3 ?_
          refine qg FA59_38 ?_
          refine qg LD38 ?_
          refine sq_gt RF RF (y_call (first := []) (caps := []) RF Try.call132 (EvL.cons RF (EvL.cons RF (EvL.cons RF (EvL.cons RF EvL.nil)))) (fun w1 _ => some132 w1 (wideD t h) p.damp 0 p.loose hb1.2.2 ⟨hb1.1, hb1.2.1⟩ (by omega) (by omega) hd)) rfl ?_
          refine qs (y_pick_t RF RF) ?_
          refine qs (y_move RF) ?_
          refine sp 71 (fun hg7_19 => ?_) (fun hg7_19 => ?_)
          ·
            refine qg FA238_38 ?_
            refine qg LD38 ?_
            refine qg FA59_3 ?_
            refine qg LD3 ?_
            refine qg FA59_38 ?_
            refine qg LD38 ?_
            refine sq_gt RF RF (y_call (first := []) (caps := []) RF Try.call132 (EvL.cons RF (EvL.cons RF (EvL.cons RF (EvL.cons RF EvL.nil)))) (fun w1 _ => some132 w1 (deepD t h) p.damp 0 p.loose hb2.2.2 ⟨hb2.1, hb2.2.1⟩ (by omega) (by omega) hd)) rfl ?_
            refine qs (y_pick_t RF RF) ?_
            refine sq_nil ?_
            refine sx_then ?_
            refine scp (fun hc2 => ?_) (fun hc2 => ?_)
            ·
              refine sc_seq ?_
              refine sc_region ?_
              refine qs (y_assign RF) ?_
              refine sq_nil ?_
              refine sx_then ?_
              refine sc_ret ?_
              refine sx_then_ret ?_
              refine sx_ret1 (.inl rfl) rfl Try.results121 RF ?_
              intro w' hw'
              refine ⟨?_, hw'.below MM⟩
              rw [hV.2.2]
              unfold verdV
              simp [*]
            ·
              refine sc_skip ?_
              refine sx_then ?_
              refine sc_seq ?_
              refine sc_region ?_
              refine qs (y_assign RF) ?_
              refine sq_nil ?_
              refine sx_then ?_
              refine sc_ret ?_
              refine sx_ret1 (.inl rfl) rfl Try.results121 RF ?_
              intro w' hw'
              refine ⟨?_, hw'.below MM⟩
              rw [hV.2.2]
              unfold verdV
              simp [*]
          ·
            refine qf ?_
            refine qf ?_
            refine qf ?_
            refine qf ?_
            refine qf ?_
            refine qf ?_
            refine qf ?_
            refine qs (y_pick_f RF RF) ?_
            refine sq_nil ?_
            refine sx_then ?_
            refine sc_f RF ?_
            refine sc_skip ?_
            refine sx_then ?_
            refine sc_seq ?_
            refine sc_region ?_
            refine qs (y_assign RF) ?_
            refine sq_nil ?_
            refine sx_then ?_
            refine sc_ret ?_
            refine sx_ret1 (.inl rfl) rfl Try.results121 RF ?_
            intro w' hw'
            refine ⟨?_, hw'.below MM⟩
            rw [hV.2.2]
            unfold verdV
            simp [*]
        ·
          refine qf ?_
          refine qf ?_
          refine qf ?_
          refine qf ?_
          refine qf ?_
          refine qf ?_
          refine qf ?_
          refine qs (y_pick_f RF RF) ?_
          refine qs (y_move RF) ?_
          refine qf ?_
          refine qf ?_
          refine qf ?_
          refine qf ?_
          refine qf ?_
          refine qf ?_
          refine qf ?_
          refine qs (y_pick_f RF RF) ?_
          refine sq_nil ?_
          refine sx_then ?_
          refine sc_f RF ?_
          refine sc_skip ?_
          refine sx_then ?_
          refine sc_seq ?_
          refine sc_region ?_
          refine qs (y_assign RF) ?_
          refine sq_nil ?_
          refine sx_then ?_
          refine sc_ret ?_
          refine sx_ret1 (.inl rfl) rfl Try.results121 RF ?_
          intro w' hw'
          refine ⟨?_, hw'.below MM⟩
          rw [hV.2.2]
          unfold verdV
          simp [*]
    ·
      refine qf ?_
      refine qf ?_
      refine qf ?_
      refine qf ?_
      refine qf ?_
      refine qf ?_
      refine qf ?_
      refine qs (y_pick_f RF RF) ?_
      refine qs (y_move RF) ?_
      refine qf ?_
      refine qf ?_
      refine qf ?_
      refine qf ?_
      refine qf ?_
      refine qf ?_
      refine qf ?_
      refine qs (y_pick_f RF RF) ?_
      refine sq_nil ?_
      refine sx_then ?_
      refine sc_f RF ?_
      refine sc_skip ?_
      refine sx_then ?_
      refine sc_seq ?_
      refine sc_seq ?_
      refine sc_region ?_
      refine qs FA238_38 ?_
      refine qs LD38 ?_
      refine qs FA59_3 ?_
      refine qs LD3 ?_
      refine qs (y_neg RF (by omega)) ?_
      refine qs FA59_3 ?_
      refine qs LD3 ?_
      refine qs FA59_38 ?_
      refine qs LD38 ?_
      refine qy (yc Try.call132 E4 (fun w1 _ => some132 w1 (offD p t h) p.damp (-p.slack) p.slack hb0.2.2 ⟨hb0.1, hb0.2.1⟩ (by omega) (by omega) hd)) ?_
      refine qs (y_move RF) ?_
      refine sp 62 (fun hg7_10 => ?_) (fun hg7_10 => ?_)
      ·
        refine qg FA238_38 ?_
        refine qg LD38 ?_
        refine qg FA59_3 ?_
        refine qg LD3 ?_
        refine qg FA59_38 ?_
        refine qg LD38 ?_
        refine sq_gt RF RF (y_call (first := []) (caps := []) RF Try.call132 (EvL.cons RF (EvL.cons RF (EvL.cons RF (EvL.cons RF EvL.nil)))) (fun w1 _ => some132 w1 (wideD t h) p.damp 0 p.loose hb1.2.2 ⟨hb1.1, hb1.2.1⟩ (by omega) (by omega) hd)) rfl ?_
        refine qs (y_pick_t RF RF) ?_
        refine qs (y_move RF) ?_
        refine sp 71 (fun hg7_19 => ?_) (fun hg7_19 => ?_)
        ·
          refine qg FA238_38 ?_
          refine qg LD38 ?_
          refine qg FA59_3 ?_
          refine qg LD3 ?_
          refine qg FA59_38 ?_
          refine qg LD38 ?_
          refine sq_gt RF RF (y_call (first := []) (caps := []) RF Try.call132 (EvL.cons RF (EvL.cons RF (EvL.cons RF (EvL.cons RF EvL.nil)))) (fun w1 _ => some132 w1 (deepD t h) p.damp 0 p.loose hb2.2.2 ⟨hb2.1, hb2.2.1⟩ (by omega) (by omega) hd)) rfl ?_
          refine qs (y_pick_t RF RF) ?_
          refine sq_nil ?_
          refine sx_then ?_
          refine scp (fun hc2 => ?_) (fun hc2 => ?_)
          ·
            refine sc_seq ?_
            refine sc_region ?_
            refine qs (y_assign RF) ?_
            refine sq_nil ?_
            refine sx_then ?_
            refine sc_ret ?_
            refine sx_then_ret ?_
            refine sx_ret1 (.inl rfl) rfl Try.results121 RF ?_
            intro w' hw'
            refine ⟨?_, hw'.below MM⟩
            rw [hV.2.2]
            unfold verdV
            simp [*]
          ·
            refine sc_skip ?_
            refine sx_then ?_
            refine sc_seq ?_
            refine sc_region ?_
            refine qs (y_assign RF) ?_
            refine sq_nil ?_
            refine sx_then ?_
            refine sc_ret ?_
            refine sx_ret1 (.inl rfl) rfl Try.results121 RF ?_
            intro w' hw'
            refine ⟨?_, hw'.below MM⟩
            rw [hV.2.2]
            unfold verdV
            simp [*]
        ·
          refine qf ?_
          refine qf ?_
          refine qf ?_
          refine qf ?_
          refine qf ?_
          refine qf ?_
          refine qf ?_
          refine qs (y_pick_f RF RF) ?_
          refine sq_nil ?_
          refine sx_then ?_
          refine sc_f RF ?_
          refine sc_skip ?_
          refine sx_then ?_
          refine sc_seq ?_
          refine sc_region ?_
          refine qs (y_assign RF) ?_
          refine sq_nil ?_
          refine sx_then ?_
          refine sc_ret ?_
          refine sx_ret1 (.inl rfl) rfl Try.results121 RF ?_
          intro w' hw'
          refine ⟨?_, hw'.below MM⟩
          rw [hV.2.2]
          unfold verdV
          simp [*]
      ·
        refine qf ?_
        refine qf ?_
        refine qf ?_
        refine qf ?_
        refine qf ?_
        refine qf ?_
        refine qf ?_
        refine qs (y_pick_f RF RF) ?_
        refine qs (y_move RF) ?_
        refine qf ?_
        refine qf ?_
        refine qf ?_
        refine qf ?_
        refine qf ?_
        refine qf ?_
        refine qf ?_
        refine qs (y_pick_f RF RF) ?_
        refine sq_nil ?_
        refine sx_then ?_
        refine sc_f RF ?_
        refine sc_skip ?_
        refine sx_then ?_
        refine sc_seq ?_
        refine sc_region ?_
        refine qs (y_assign RF) ?_
        refine sq_nil ?_
        refine sx_then ?_
        refine sc_ret ?_
        refine sx_ret1 (.inl rfl) rfl Try.results121 RF ?_
        intro w' hw'
        refine ⟨?_, hw'.below MM⟩
        rw [hV.2.2]
        unfold verdV
        simp [*]
theorem Fit110 (w : World) (p : Pl) (a b : Eg) (hp : plB p = true) (ha : egB a = true) (hb : egB b = true) : Calls Try.prog 110 #[.agg (plRow p).toArray, .agg (egRow a).toArray, .agg (egRow b).toArray] w fun e w' => e = .returned (.tuple #[.int .i64 (fitV p a b), .int .i64 0]) ∧ Below w.heap.size w w' := by
  refine calls_of_SC (args := [.agg (plRow p).toArray, .agg (egRow a).toArray, .agg (egRow b).toArray]) Try.func110 rfl Try.ntmps110 rfl ?_
  simp only [argL, Nat.reduceAdd, Nat.zero_add]
  refine sc_seq ?_
  refine sc_region ?_
  refine sq_box RF rfl (fun b3 => ?_)
  refine sq_box RF rfl (fun b4 => ?_)
  refine sq_box RF rfl (fun b5 => ?_)
  refine qs (y_assign RF) ?_
  refine qs (y_assign RF) ?_
  refine sq_nil ?_
  refine sx_then ?_
  refine sc_seq ?_
  refine sc_seq ?_
  refine sc_region ?_
  refine qs LD59 ?_
  refine qy (yc Try.call42 E1 (fun w1 _ => Play42 w1 p)) ?_
  refine qs (y_not RF) ?_
  refine qs (y_move RF) ?_
  refine sq_known (tt := 11) (b' := false) RF (by rw [hp]; rfl) ?_
  refine qg LD81 ?_
  refine sq_gt RF RF (y_call (first := []) (caps := []) RF Try.call44 (EvL.cons RF EvL.nil) (fun w1 _ => Side44 w1 a)) rfl ?_
  refine qg (y_not RF) ?_
  refine qs (y_pick_f RF RF) ?_
  refine qs (y_move RF) ?_
  refine sq_known (tt := 16) (b' := false) RF (by rw [ha]; rfl) ?_
  refine qg LD81 ?_
  refine sq_gt RF RF (y_call (first := []) (caps := []) RF Try.call44 (EvL.cons RF EvL.nil) (fun w1 _ => Side44 w1 b)) rfl ?_
  refine qg (y_not RF) ?_
  refine qs (y_pick_f RF RF) ?_
  refine sq_nil ?_
  refine sx_then ?_
  refine sc_f (lk_bool rfl (by rw [hb]; rfl)) ?_
  refine sc_skip ?_
  refine sx_then ?_
  refine sc_seq ?_
  refine sc_region ?_
  refine qs LD59 ?_
  refine qs LD81 ?_
  refine qs LD81 ?_
  refine qy (yc Try.call121 E3 (fun w1 _ => fit121 w1 p a b hp ha hb)) ?_
  refine qs (y_assign RF) ?_
  refine qs (y_assign RF) ?_
  refine sq_nil ?_
  refine sx_then ?_
  refine sc_ret ?_
  refine sx_ret2 (.inl rfl) rfl Try.results110 RF RF ?_
  intro w' hw'
  exact ⟨rfl, hw'.below MM⟩
end Go.Proofs.Ytfceajkofpafpaa
