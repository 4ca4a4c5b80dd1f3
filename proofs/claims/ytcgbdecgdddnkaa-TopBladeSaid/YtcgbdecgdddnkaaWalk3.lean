/- The walks of Fit. -/
import Derived.Test.YtcgbdecgdddnkaaWalk2
namespace Go.Proofs.Ytcgbdecgdddnkaa
open Go Go.Eng Go.RowKit Go.Proofs
set_option maxRecDepth 100000
theorem mul_abs {a b A B : Int} (ha : -A ≤ a ∧ a ≤ A) (hb : 0 ≤ b ∧ b ≤ B) : -(A * B) ≤ a * b ∧ a * b ≤ A * B := by
  have h0 : 0 ≤ A := by omega
  have hAB : A * b ≤ A * B := Int.mul_le_mul_of_nonneg_left hb.2 h0
  have h1 : a * b ≤ A * b := Int.mul_le_mul_of_nonneg_right ha.2 hb.1
  have h2 : -A * b ≤ a * b := Int.mul_le_mul_of_nonneg_right ha.1 hb.1
  rw [Int.neg_mul] at h2
  omega

theorem isPlay15 (w : World) (p : Pl) : Calls Try.prog 15 #[.agg (plRow p).toArray] w fun e w' => e = .returned (.bool (plB p)) ∧ Below w.heap.size w w' := by
  refine calls_of_SC (args := [.agg (plRow p).toArray]) Try.func15 rfl Try.ntmps15 rfl ?_
  simp only [argL]
  refine sc_seq ?_
  refine sc_region ?_
  refine sq_box (by exact rfl) rfl (fun b1 => ?_)
  refine sq_y (OpY.s (y_assign (by exact rfl))) rfl ?_
  refine sq_nil ?_
  refine sx_then ?_
  refine sc_seq ?_
  refine sc_region ?_
  refine sq_y (OpY.s (by first | exact y_fab Try.underlying34 (by exact rfl) (by exact Try.sizeOf3) (by exact rfl) rfl | exact y_fa Try.underlying34 (by exact rfl) (by exact Try.sizeOf3) (by exact rfl) rfl)) rfl ?_
  refine sq_y (OpY.s (by first | exact y_load_cajj Try.underlying3 rfl (by exact rfl) (by repeat (first | exact .head _ | refine .tail _ ?_)) (by assumption) (by exact rfl) | exact y_load_blk Try.underlying3 rfl (by exact rfl) (by repeat (first | exact .head _ | refine .tail _ ?_)) (by exact rfl) | exact y_load_caj Try.underlying3 rfl (by exact rfl) (by repeat (first | exact .head _ | refine .tail _ ?_)) (by assumption) (by exact rfl) | exact y_load_ca0 Try.underlying3 rfl (by exact rfl) (by repeat (first | exact .head _ | refine .tail _ ?_)) (by assumption) (by exact rfl))) rfl ?_
  refine sq_y (y_call (first := []) (caps := []) (by exact rfl) Try.call24 (EvL.cons (by exact rfl) (EvL.cons (by exact rfl) (EvL.cons (by exact rfl) EvL.nil))) (fun w1 _ => within24 _ _ _ w1)) rfl ?_
  refine sq_y (OpY.s (y_move (by exact rfl))) rfl ?_
  first | refine sq_splitd (tt := 7) (by exact rfl) (fun hg1_3 => ?_) (fun hg1_3 => ?_) | refine sq_splitn (tt := 7) (by exact rfl) (fun hg1_3 => ?_) (fun hg1_3 => ?_) | refine sq_split (tt := 7) (by exact rfl) (fun hg1_3 => ?_) (fun hg1_3 => ?_)
  ·
    refine sq_gt (by exact rfl) (by exact rfl) (OpY.s (by first | exact y_fab Try.underlying34 (by exact rfl) (by exact Try.sizeOf3) (by exact rfl) rfl | exact y_fa Try.underlying34 (by exact rfl) (by exact Try.sizeOf3) (by exact rfl) rfl)) rfl ?_
    refine sq_gt (by exact rfl) (by exact rfl) (OpY.s (by first | exact y_load_cajj Try.underlying3 rfl (by exact rfl) (by repeat (first | exact .head _ | refine .tail _ ?_)) (by assumption) (by exact rfl) | exact y_load_blk Try.underlying3 rfl (by exact rfl) (by repeat (first | exact .head _ | refine .tail _ ?_)) (by exact rfl) | exact y_load_caj Try.underlying3 rfl (by exact rfl) (by repeat (first | exact .head _ | refine .tail _ ?_)) (by assumption) (by exact rfl) | exact y_load_ca0 Try.underlying3 rfl (by exact rfl) (by repeat (first | exact .head _ | refine .tail _ ?_)) (by assumption) (by exact rfl))) rfl ?_
    refine sq_gt (by exact rfl) (by exact rfl) (y_call (first := []) (caps := []) (by exact rfl) Try.call24 (EvL.cons (by exact rfl) (EvL.cons (by exact rfl) (EvL.cons (by exact rfl) EvL.nil))) (fun w1 _ => within24 _ _ _ w1)) rfl ?_
    refine sq_y (OpY.s (y_pick_t (by exact rfl) (by exact rfl))) rfl ?_
    refine sq_y (OpY.s (y_move (by exact rfl))) rfl ?_
    first | refine sq_splitd (tt := 12) (by exact rfl) (fun hg1_8 => ?_) (fun hg1_8 => ?_) | refine sq_splitn (tt := 12) (by exact rfl) (fun hg1_8 => ?_) (fun hg1_8 => ?_) | refine sq_split (tt := 12) (by exact rfl) (fun hg1_8 => ?_) (fun hg1_8 => ?_)
    ·
      refine sq_gt (by exact rfl) (by exact rfl) (OpY.s (by first | exact y_fab Try.underlying34 (by exact rfl) (by exact Try.sizeOf3) (by exact rfl) rfl | exact y_fa Try.underlying34 (by exact rfl) (by exact Try.sizeOf3) (by exact rfl) rfl)) rfl ?_
      refine sq_gt (by exact rfl) (by exact rfl) (OpY.s (by first | exact y_load_cajj Try.underlying3 rfl (by exact rfl) (by repeat (first | exact .head _ | refine .tail _ ?_)) (by assumption) (by exact rfl) | exact y_load_blk Try.underlying3 rfl (by exact rfl) (by repeat (first | exact .head _ | refine .tail _ ?_)) (by exact rfl) | exact y_load_caj Try.underlying3 rfl (by exact rfl) (by repeat (first | exact .head _ | refine .tail _ ?_)) (by assumption) (by exact rfl) | exact y_load_ca0 Try.underlying3 rfl (by exact rfl) (by repeat (first | exact .head _ | refine .tail _ ?_)) (by assumption) (by exact rfl))) rfl ?_
      refine sq_gt (by exact rfl) (by exact rfl) (y_call (first := []) (caps := []) (by exact rfl) Try.call24 (EvL.cons (by exact rfl) (EvL.cons (by exact rfl) (EvL.cons (by exact rfl) EvL.nil))) (fun w1 _ => within24 _ _ _ w1)) rfl ?_
      refine sq_y (OpY.s (y_pick_t (by exact rfl) (by exact rfl))) rfl ?_
      refine sq_y (OpY.s (y_assign (by exact rfl))) rfl ?_
      refine sq_nil ?_
      refine sx_then ?_
      refine sc_seq ?_
      refine sc_region ?_
      refine sq_y (OpY.s (y_move (by exact rfl))) rfl ?_
      refine sq_y (OpY.s (y_move (by exact rfl))) rfl ?_
      first | refine sq_splitd (tt := 18) (by exact rfl) (fun hg2_1 => ?_) (fun hg2_1 => ?_) | refine sq_splitn (tt := 18) (by exact rfl) (fun hg2_1 => ?_) (fun hg2_1 => ?_) | refine sq_split (tt := 18) (by exact rfl) (fun hg2_1 => ?_) (fun hg2_1 => ?_)
      ·
        refine sq_gt (by exact rfl) (by exact rfl) (OpY.s (by first | exact y_fab Try.underlying34 (by exact rfl) (by exact Try.sizeOf29) (by exact rfl) rfl | exact y_fa Try.underlying34 (by exact rfl) (by exact Try.sizeOf29) (by exact rfl) rfl)) rfl ?_
        refine sq_gt (by exact rfl) (by exact rfl) (OpY.s (by first | exact y_load_all Try.underlying29 rfl Try.sizeOf29 (by exact rfl) (by repeat (first | exact .head _ | refine .tail _ ?_)) (by exact rfl) | exact y_load_2 Try.underlying29 rfl Try.sizeOf29 (by exact rfl) (by repeat (first | exact .head _ | refine .tail _ ?_)) (by exact rfl) (by exact rfl) | exact y_load_ca Try.underlying29 rfl Try.sizeOf29 (by exact rfl) (by repeat (first | exact .head _ | refine .tail _ ?_)) (by assumption) (by exact rfl) | exact y_load_part Try.underlying29 rfl Try.sizeOf29 (by exact rfl) (by repeat (first | exact .head _ | refine .tail _ ?_)) rfl | exact y_load_capart Try.underlying29 rfl Try.sizeOf29 (by exact rfl) (by repeat (first | exact .head _ | refine .tail _ ?_)) (by assumption) rfl)) rfl ?_
        refine sq_gt (by exact rfl) (by exact rfl) (y_call (first := []) (caps := []) (by exact rfl) Try.call25 (EvL.cons (by exact rfl) (EvL.cons (by exact rfl) (EvL.cons (by exact rfl) EvL.nil))) (fun w1 _ => isIn25 p.damp _ _ w1)) rfl ?_
        refine sq_y (OpY.s (y_pick_t (by exact rfl) (by exact rfl))) rfl ?_
        refine sq_y (OpY.s (y_assign (by exact rfl))) rfl ?_
        refine sq_nil ?_
        refine sx_then ?_
        refine sc_ret ?_
        refine sx_ret1 (.inl rfl) rfl Try.results15 (by exact rfl) ?_
        intro w' hw'
        refine ⟨?_, hw'.below (by repeat (first | exact .head _ | refine .tail _ ?_))⟩
        simp [plB, inB, *]
      ·
        refine sq_gf (by exact rfl) (by exact rfl) (by exact rfl) rfl ?_
        refine sq_gf (by exact rfl) (by exact rfl) (by exact rfl) rfl ?_
        refine sq_gf (by exact rfl) (by exact rfl) (by exact rfl) rfl ?_
        refine sq_y (OpY.s (y_pick_f (by exact rfl) (by exact rfl))) rfl ?_
        refine sq_y (OpY.s (y_assign (by exact rfl))) rfl ?_
        refine sq_nil ?_
        refine sx_then ?_
        refine sc_ret ?_
        refine sx_ret1 (.inl rfl) rfl Try.results15 (by exact rfl) ?_
        intro w' hw'
        refine ⟨?_, hw'.below (by repeat (first | exact .head _ | refine .tail _ ?_))⟩
        simp [plB, inB, *]
    ·
      refine sq_gf (by exact rfl) (by exact rfl) (by exact rfl) rfl ?_
      refine sq_gf (by exact rfl) (by exact rfl) (by exact rfl) rfl ?_
      refine sq_gf (by exact rfl) (by exact rfl) (by exact rfl) rfl ?_
      refine sq_y (OpY.s (y_pick_f (by exact rfl) (by exact rfl))) rfl ?_
      refine sq_y (OpY.s (y_assign (by exact rfl))) rfl ?_
      refine sq_nil ?_
      refine sx_then ?_
      refine sc_seq ?_
      refine sc_region ?_
      refine sq_y (OpY.s (y_move (by exact rfl))) rfl ?_
      refine sq_y (OpY.s (y_move (by exact rfl))) rfl ?_
      refine sq_gf (by exact rfl) (by exact rfl) (by exact rfl) rfl ?_
      refine sq_gf (by exact rfl) (by exact rfl) (by exact rfl) rfl ?_
      refine sq_gf (by exact rfl) (by exact rfl) (by exact rfl) rfl ?_
      refine sq_y (OpY.s (y_pick_f (by exact rfl) (by exact rfl))) rfl ?_
      refine sq_y (OpY.s (y_assign (by exact rfl))) rfl ?_
      refine sq_nil ?_
      refine sx_then ?_
      refine sc_ret ?_
      refine sx_ret1 (.inl rfl) rfl Try.results15 (by exact rfl) ?_
      intro w' hw'
      refine ⟨?_, hw'.below (by repeat (first | exact .head _ | refine .tail _ ?_))⟩
      simp [plB, inB, *]
  ·
    refine sq_gf (by exact rfl) (by exact rfl) (by exact rfl) rfl ?_
    refine sq_gf (by exact rfl) (by exact rfl) (by exact rfl) rfl ?_
    refine sq_gf (by exact rfl) (by exact rfl) (by exact rfl) rfl ?_
    refine sq_y (OpY.s (y_pick_f (by exact rfl) (by exact rfl))) rfl ?_
    refine sq_y (OpY.s (y_move (by exact rfl))) rfl ?_
    refine sq_gf (by exact rfl) (by exact rfl) (by exact rfl) rfl ?_
    refine sq_gf (by exact rfl) (by exact rfl) (by exact rfl) rfl ?_
    refine sq_gf (by exact rfl) (by exact rfl) (by exact rfl) rfl ?_
    refine sq_y (OpY.s (y_pick_f (by exact rfl) (by exact rfl))) rfl ?_
    refine sq_y (OpY.s (y_assign (by exact rfl))) rfl ?_
    refine sq_nil ?_
    refine sx_then ?_
    refine sc_seq ?_
    refine sc_region ?_
    refine sq_y (OpY.s (y_move (by exact rfl))) rfl ?_
    refine sq_y (OpY.s (y_move (by exact rfl))) rfl ?_
    refine sq_gf (by exact rfl) (by exact rfl) (by exact rfl) rfl ?_
    refine sq_gf (by exact rfl) (by exact rfl) (by exact rfl) rfl ?_
    refine sq_gf (by exact rfl) (by exact rfl) (by exact rfl) rfl ?_
    refine sq_y (OpY.s (y_pick_f (by exact rfl) (by exact rfl))) rfl ?_
    refine sq_y (OpY.s (y_assign (by exact rfl))) rfl ?_
    refine sq_nil ?_
    refine sx_then ?_
    refine sc_ret ?_
    refine sx_ret1 (.inl rfl) rfl Try.results15 (by exact rfl) ?_
    intro w' hw'
    refine ⟨?_, hw'.below (by repeat (first | exact .head _ | refine .tail _ ?_))⟩
    simp [plB, inB, *]
theorem isSide28a (w : World) (e : Ed) (hk : e.kind = 1) : Calls Try.prog 28 #[.agg (edRow e).toArray] w fun e' w' => e' = .returned (.bool (edB e)) ∧ Below w.heap.size w w' := by
  refine calls_of_SC (args := [.agg (edRow e).toArray]) Try.func28 rfl Try.ntmps28 rfl ?_
  simp only [argL]
  refine sc_seq ?_
  refine sc_region ?_
  refine sq_box (by exact rfl) rfl (fun b1 => ?_)
  refine sq_y (OpY.s (y_assign (by exact rfl))) rfl ?_
  refine sq_nil ?_
  refine sx_then ?_
  refine sc_seq ?_
  refine sc_seq ?_
  refine sc_region ?_
  refine sq_y (OpY.s (by first | exact y_fab Try.underlying36 (by exact rfl) (by exact Try.sizeOf3) (by exact rfl) rfl | exact y_fa Try.underlying36 (by exact rfl) (by exact Try.sizeOf3) (by exact rfl) rfl)) rfl ?_
  refine sq_y (OpY.s (by first | exact y_load_cajj Try.underlying3 rfl (by exact rfl) (by repeat (first | exact .head _ | refine .tail _ ?_)) (by assumption) (by exact rfl) | exact y_load_blk Try.underlying3 rfl (by exact rfl) (by repeat (first | exact .head _ | refine .tail _ ?_)) (by exact rfl) | exact y_load_caj Try.underlying3 rfl (by exact rfl) (by repeat (first | exact .head _ | refine .tail _ ?_)) (by assumption) (by exact rfl) | exact y_load_ca0 Try.underlying3 rfl (by exact rfl) (by repeat (first | exact .head _ | refine .tail _ ?_)) (by assumption) (by exact rfl))) rfl ?_
  refine sq_nil ?_
  refine sx_then ?_
  refine sc_block ?_
  refine sc_seq ?_
  refine sc_region ?_
  refine sq_y (OpY.s (y_eql (by exact rfl) (by exact rfl))) rfl ?_
  refine sq_y (OpY.s (y_assign (by exact rfl))) rfl ?_
  refine sq_nil ?_
  refine sx_then ?_
  refine sc_f (lk_bool rfl (by simp [hk])) ?_
  refine sc_seq ?_
  refine sc_seq ?_
  refine sc_region ?_
  refine sq_y (OpY.s (y_eql (by exact rfl) (by exact rfl))) rfl ?_
  refine sq_y (OpY.s (y_assign (by exact rfl))) rfl ?_
  refine sq_nil ?_
  refine sx_then ?_
  refine sc_t (lk_bool rfl (by simp [hk])) ?_
  refine sc_skip ?_
  refine sx_then ?_
  refine sc_t (lk_bool rfl (by simp [hk])) ?_
  refine sc_seq ?_
  refine sc_region ?_
  refine sq_y (OpY.s (by first | exact y_fab Try.underlying36 (by exact rfl) (by exact Try.sizeOf29) (by exact rfl) rfl | exact y_fa Try.underlying36 (by exact rfl) (by exact Try.sizeOf29) (by exact rfl) rfl)) rfl ?_
  refine sq_y (OpY.s (by first | exact y_load_all Try.underlying29 rfl Try.sizeOf29 (by exact rfl) (by repeat (first | exact .head _ | refine .tail _ ?_)) (by exact rfl) | exact y_load_2 Try.underlying29 rfl Try.sizeOf29 (by exact rfl) (by repeat (first | exact .head _ | refine .tail _ ?_)) (by exact rfl) (by exact rfl) | exact y_load_ca Try.underlying29 rfl Try.sizeOf29 (by exact rfl) (by repeat (first | exact .head _ | refine .tail _ ?_)) (by assumption) (by exact rfl) | exact y_load_part Try.underlying29 rfl Try.sizeOf29 (by exact rfl) (by repeat (first | exact .head _ | refine .tail _ ?_)) rfl | exact y_load_capart Try.underlying29 rfl Try.sizeOf29 (by exact rfl) (by repeat (first | exact .head _ | refine .tail _ ?_)) (by assumption) rfl)) rfl ?_
  refine sq_y (y_call (first := []) (caps := []) (by exact rfl) Try.call25 (EvL.cons (by exact rfl) (EvL.cons (by exact rfl) (EvL.cons (by exact rfl) EvL.nil))) (fun w1 _ => isIn25 e.at_ _ _ w1)) rfl ?_
  refine sq_y (OpY.s (y_move (by exact rfl))) rfl ?_
  first | refine sq_splitd (tt := 13) (by exact rfl) (fun hg6_3 => ?_) (fun hg6_3 => ?_) | refine sq_splitn (tt := 13) (by exact rfl) (fun hg6_3 => ?_) (fun hg6_3 => ?_) | refine sq_split (tt := 13) (by exact rfl) (fun hg6_3 => ?_) (fun hg6_3 => ?_)
  ·
    refine sq_gt (by exact rfl) (by exact rfl) (OpY.s (by first | exact y_fab Try.underlying36 (by exact rfl) (by exact Try.sizeOf29) (by exact rfl) rfl | exact y_fa Try.underlying36 (by exact rfl) (by exact Try.sizeOf29) (by exact rfl) rfl)) rfl ?_
    refine sq_gt (by exact rfl) (by exact rfl) (OpY.s (by first | exact y_load_all Try.underlying29 rfl Try.sizeOf29 (by exact rfl) (by repeat (first | exact .head _ | refine .tail _ ?_)) (by exact rfl) | exact y_load_2 Try.underlying29 rfl Try.sizeOf29 (by exact rfl) (by repeat (first | exact .head _ | refine .tail _ ?_)) (by exact rfl) (by exact rfl) | exact y_load_ca Try.underlying29 rfl Try.sizeOf29 (by exact rfl) (by repeat (first | exact .head _ | refine .tail _ ?_)) (by assumption) (by exact rfl) | exact y_load_part Try.underlying29 rfl Try.sizeOf29 (by exact rfl) (by repeat (first | exact .head _ | refine .tail _ ?_)) rfl | exact y_load_capart Try.underlying29 rfl Try.sizeOf29 (by exact rfl) (by repeat (first | exact .head _ | refine .tail _ ?_)) (by assumption) rfl)) rfl ?_
    refine sq_gt (by exact rfl) (by exact rfl) (y_call (first := []) (caps := []) (by exact rfl) Try.call25 (EvL.cons (by exact rfl) (EvL.cons (by exact rfl) (EvL.cons (by exact rfl) EvL.nil))) (fun w1 _ => isIn25 e.wide _ _ w1)) rfl ?_
    refine sq_y (OpY.s (y_pick_t (by exact rfl) (by exact rfl))) rfl ?_
    refine sq_y (OpY.s (y_move (by exact rfl))) rfl ?_
    first | refine sq_splitd (tt := 18) (by exact rfl) (fun hg6_8 => ?_) (fun hg6_8 => ?_) | refine sq_splitn (tt := 18) (by exact rfl) (fun hg6_8 => ?_) (fun hg6_8 => ?_) | refine sq_split (tt := 18) (by exact rfl) (fun hg6_8 => ?_) (fun hg6_8 => ?_)
    ·
      refine sq_gt (by exact rfl) (by exact rfl) (OpY.s (by first | exact y_fab Try.underlying36 (by exact rfl) (by exact Try.sizeOf29) (by exact rfl) rfl | exact y_fa Try.underlying36 (by exact rfl) (by exact Try.sizeOf29) (by exact rfl) rfl)) rfl ?_
      refine sq_gt (by exact rfl) (by exact rfl) (OpY.s (by first | exact y_load_all Try.underlying29 rfl Try.sizeOf29 (by exact rfl) (by repeat (first | exact .head _ | refine .tail _ ?_)) (by exact rfl) | exact y_load_2 Try.underlying29 rfl Try.sizeOf29 (by exact rfl) (by repeat (first | exact .head _ | refine .tail _ ?_)) (by exact rfl) (by exact rfl) | exact y_load_ca Try.underlying29 rfl Try.sizeOf29 (by exact rfl) (by repeat (first | exact .head _ | refine .tail _ ?_)) (by assumption) (by exact rfl) | exact y_load_part Try.underlying29 rfl Try.sizeOf29 (by exact rfl) (by repeat (first | exact .head _ | refine .tail _ ?_)) rfl | exact y_load_capart Try.underlying29 rfl Try.sizeOf29 (by exact rfl) (by repeat (first | exact .head _ | refine .tail _ ?_)) (by assumption) rfl)) rfl ?_
      refine sq_gt (by exact rfl) (by exact rfl) (y_call (first := []) (caps := []) (by exact rfl) Try.call25 (EvL.cons (by exact rfl) (EvL.cons (by exact rfl) (EvL.cons (by exact rfl) EvL.nil))) (fun w1 _ => isIn25 e.deep _ _ w1)) rfl ?_
      refine sq_y (OpY.s (y_pick_t (by exact rfl) (by exact rfl))) rfl ?_
      refine sq_y (OpY.s (y_assign (by exact rfl))) rfl ?_
      refine sq_nil ?_
      refine sx_then ?_
      refine sc_ret ?_
      refine sx_blk_ret ?_
      refine sx_then_ret ?_
      refine sx_ret1 (.inl rfl) rfl Try.results28 (by exact rfl) ?_
      intro w' hw'
      refine ⟨?_, hw'.below (by repeat (first | exact .head _ | refine .tail _ ?_))⟩
      simp [edB, spB, *]
    ·
      refine sq_gf (by exact rfl) (by exact rfl) (by exact rfl) rfl ?_
      refine sq_gf (by exact rfl) (by exact rfl) (by exact rfl) rfl ?_
      refine sq_gf (by exact rfl) (by exact rfl) (by exact rfl) rfl ?_
      refine sq_y (OpY.s (y_pick_f (by exact rfl) (by exact rfl))) rfl ?_
      refine sq_y (OpY.s (y_assign (by exact rfl))) rfl ?_
      refine sq_nil ?_
      refine sx_then ?_
      refine sc_ret ?_
      refine sx_blk_ret ?_
      refine sx_then_ret ?_
      refine sx_ret1 (.inl rfl) rfl Try.results28 (by exact rfl) ?_
      intro w' hw'
      refine ⟨?_, hw'.below (by repeat (first | exact .head _ | refine .tail _ ?_))⟩
      simp [edB, spB, *]
  ·
    refine sq_gf (by exact rfl) (by exact rfl) (by exact rfl) rfl ?_
    refine sq_gf (by exact rfl) (by exact rfl) (by exact rfl) rfl ?_
    refine sq_gf (by exact rfl) (by exact rfl) (by exact rfl) rfl ?_
    refine sq_y (OpY.s (y_pick_f (by exact rfl) (by exact rfl))) rfl ?_
    refine sq_y (OpY.s (y_move (by exact rfl))) rfl ?_
    refine sq_gf (by exact rfl) (by exact rfl) (by exact rfl) rfl ?_
    refine sq_gf (by exact rfl) (by exact rfl) (by exact rfl) rfl ?_
    refine sq_gf (by exact rfl) (by exact rfl) (by exact rfl) rfl ?_
    refine sq_y (OpY.s (y_pick_f (by exact rfl) (by exact rfl))) rfl ?_
    refine sq_y (OpY.s (y_assign (by exact rfl))) rfl ?_
    refine sq_nil ?_
    refine sx_then ?_
    refine sc_ret ?_
    refine sx_blk_ret ?_
    refine sx_then_ret ?_
    refine sx_ret1 (.inl rfl) rfl Try.results28 (by exact rfl) ?_
    intro w' hw'
    refine ⟨?_, hw'.below (by repeat (first | exact .head _ | refine .tail _ ?_))⟩
    simp [edB, spB, *]
theorem isSide28b (w : World) (e : Ed) (hk : e.kind = 2) : Calls Try.prog 28 #[.agg (edRow e).toArray] w fun e' w' => e' = .returned (.bool (edB e)) ∧ Below w.heap.size w w' := by
  refine calls_of_SC (args := [.agg (edRow e).toArray]) Try.func28 rfl Try.ntmps28 rfl ?_
  simp only [argL]
  refine sc_seq ?_
  refine sc_region ?_
  refine sq_box (by exact rfl) rfl (fun b1 => ?_)
  refine sq_y (OpY.s (y_assign (by exact rfl))) rfl ?_
  refine sq_nil ?_
  refine sx_then ?_
  refine sc_seq ?_
  refine sc_seq ?_
  refine sc_region ?_
  refine sq_y (OpY.s (by first | exact y_fab Try.underlying36 (by exact rfl) (by exact Try.sizeOf3) (by exact rfl) rfl | exact y_fa Try.underlying36 (by exact rfl) (by exact Try.sizeOf3) (by exact rfl) rfl)) rfl ?_
  refine sq_y (OpY.s (by first | exact y_load_cajj Try.underlying3 rfl (by exact rfl) (by repeat (first | exact .head _ | refine .tail _ ?_)) (by assumption) (by exact rfl) | exact y_load_blk Try.underlying3 rfl (by exact rfl) (by repeat (first | exact .head _ | refine .tail _ ?_)) (by exact rfl) | exact y_load_caj Try.underlying3 rfl (by exact rfl) (by repeat (first | exact .head _ | refine .tail _ ?_)) (by assumption) (by exact rfl) | exact y_load_ca0 Try.underlying3 rfl (by exact rfl) (by repeat (first | exact .head _ | refine .tail _ ?_)) (by assumption) (by exact rfl))) rfl ?_
  refine sq_nil ?_
  refine sx_then ?_
  refine sc_block ?_
  refine sc_seq ?_
  refine sc_region ?_
  refine sq_y (OpY.s (y_eql (by exact rfl) (by exact rfl))) rfl ?_
  refine sq_y (OpY.s (y_assign (by exact rfl))) rfl ?_
  refine sq_nil ?_
  refine sx_then ?_
  refine sc_f (lk_bool rfl (by simp [hk])) ?_
  refine sc_seq ?_
  refine sc_seq ?_
  refine sc_region ?_
  refine sq_y (OpY.s (y_eql (by exact rfl) (by exact rfl))) rfl ?_
  refine sq_y (OpY.s (y_assign (by exact rfl))) rfl ?_
  refine sq_nil ?_
  refine sx_then ?_
  refine sc_f (lk_bool rfl (by simp [hk])) ?_
  refine sc_region ?_
  refine sq_y (OpY.s (y_eql (by exact rfl) (by exact rfl))) rfl ?_
  refine sq_y (OpY.s (y_assign (by exact rfl))) rfl ?_
  refine sq_nil ?_
  refine sx_then ?_
  refine sc_t (lk_bool rfl (by simp [hk])) ?_
  refine sc_seq ?_
  refine sc_region ?_
  refine sq_y (OpY.s (by first | exact y_fab Try.underlying36 (by exact rfl) (by exact Try.sizeOf29) (by exact rfl) rfl | exact y_fa Try.underlying36 (by exact rfl) (by exact Try.sizeOf29) (by exact rfl) rfl)) rfl ?_
  refine sq_y (OpY.s (by first | exact y_load_all Try.underlying29 rfl Try.sizeOf29 (by exact rfl) (by repeat (first | exact .head _ | refine .tail _ ?_)) (by exact rfl) | exact y_load_2 Try.underlying29 rfl Try.sizeOf29 (by exact rfl) (by repeat (first | exact .head _ | refine .tail _ ?_)) (by exact rfl) (by exact rfl) | exact y_load_ca Try.underlying29 rfl Try.sizeOf29 (by exact rfl) (by repeat (first | exact .head _ | refine .tail _ ?_)) (by assumption) (by exact rfl) | exact y_load_part Try.underlying29 rfl Try.sizeOf29 (by exact rfl) (by repeat (first | exact .head _ | refine .tail _ ?_)) rfl | exact y_load_capart Try.underlying29 rfl Try.sizeOf29 (by exact rfl) (by repeat (first | exact .head _ | refine .tail _ ?_)) (by assumption) rfl)) rfl ?_
  refine sq_y (y_call (first := []) (caps := []) (by exact rfl) Try.call25 (EvL.cons (by exact rfl) (EvL.cons (by exact rfl) (EvL.cons (by exact rfl) EvL.nil))) (fun w1 _ => isIn25 e.at_ _ _ w1)) rfl ?_
  refine sq_y (OpY.s (y_move (by exact rfl))) rfl ?_
  first | refine sq_splitd (tt := 13) (by exact rfl) (fun hg6_3 => ?_) (fun hg6_3 => ?_) | refine sq_splitn (tt := 13) (by exact rfl) (fun hg6_3 => ?_) (fun hg6_3 => ?_) | refine sq_split (tt := 13) (by exact rfl) (fun hg6_3 => ?_) (fun hg6_3 => ?_)
  ·
    refine sq_gt (by exact rfl) (by exact rfl) (OpY.s (by first | exact y_fab Try.underlying36 (by exact rfl) (by exact Try.sizeOf29) (by exact rfl) rfl | exact y_fa Try.underlying36 (by exact rfl) (by exact Try.sizeOf29) (by exact rfl) rfl)) rfl ?_
    refine sq_gt (by exact rfl) (by exact rfl) (OpY.s (by first | exact y_load_all Try.underlying29 rfl Try.sizeOf29 (by exact rfl) (by repeat (first | exact .head _ | refine .tail _ ?_)) (by exact rfl) | exact y_load_2 Try.underlying29 rfl Try.sizeOf29 (by exact rfl) (by repeat (first | exact .head _ | refine .tail _ ?_)) (by exact rfl) (by exact rfl) | exact y_load_ca Try.underlying29 rfl Try.sizeOf29 (by exact rfl) (by repeat (first | exact .head _ | refine .tail _ ?_)) (by assumption) (by exact rfl) | exact y_load_part Try.underlying29 rfl Try.sizeOf29 (by exact rfl) (by repeat (first | exact .head _ | refine .tail _ ?_)) rfl | exact y_load_capart Try.underlying29 rfl Try.sizeOf29 (by exact rfl) (by repeat (first | exact .head _ | refine .tail _ ?_)) (by assumption) rfl)) rfl ?_
    refine sq_gt (by exact rfl) (by exact rfl) (y_call (first := []) (caps := []) (by exact rfl) Try.call25 (EvL.cons (by exact rfl) (EvL.cons (by exact rfl) (EvL.cons (by exact rfl) EvL.nil))) (fun w1 _ => isIn25 e.wide _ _ w1)) rfl ?_
    refine sq_y (OpY.s (y_pick_t (by exact rfl) (by exact rfl))) rfl ?_
    refine sq_y (OpY.s (y_move (by exact rfl))) rfl ?_
    first | refine sq_splitd (tt := 18) (by exact rfl) (fun hg6_8 => ?_) (fun hg6_8 => ?_) | refine sq_splitn (tt := 18) (by exact rfl) (fun hg6_8 => ?_) (fun hg6_8 => ?_) | refine sq_split (tt := 18) (by exact rfl) (fun hg6_8 => ?_) (fun hg6_8 => ?_)
    ·
      refine sq_gt (by exact rfl) (by exact rfl) (OpY.s (by first | exact y_fab Try.underlying36 (by exact rfl) (by exact Try.sizeOf29) (by exact rfl) rfl | exact y_fa Try.underlying36 (by exact rfl) (by exact Try.sizeOf29) (by exact rfl) rfl)) rfl ?_
      refine sq_gt (by exact rfl) (by exact rfl) (OpY.s (by first | exact y_load_all Try.underlying29 rfl Try.sizeOf29 (by exact rfl) (by repeat (first | exact .head _ | refine .tail _ ?_)) (by exact rfl) | exact y_load_2 Try.underlying29 rfl Try.sizeOf29 (by exact rfl) (by repeat (first | exact .head _ | refine .tail _ ?_)) (by exact rfl) (by exact rfl) | exact y_load_ca Try.underlying29 rfl Try.sizeOf29 (by exact rfl) (by repeat (first | exact .head _ | refine .tail _ ?_)) (by assumption) (by exact rfl) | exact y_load_part Try.underlying29 rfl Try.sizeOf29 (by exact rfl) (by repeat (first | exact .head _ | refine .tail _ ?_)) rfl | exact y_load_capart Try.underlying29 rfl Try.sizeOf29 (by exact rfl) (by repeat (first | exact .head _ | refine .tail _ ?_)) (by assumption) rfl)) rfl ?_
      refine sq_gt (by exact rfl) (by exact rfl) (y_call (first := []) (caps := []) (by exact rfl) Try.call25 (EvL.cons (by exact rfl) (EvL.cons (by exact rfl) (EvL.cons (by exact rfl) EvL.nil))) (fun w1 _ => isIn25 e.deep _ _ w1)) rfl ?_
      refine sq_y (OpY.s (y_pick_t (by exact rfl) (by exact rfl))) rfl ?_
      refine sq_y (OpY.s (y_assign (by exact rfl))) rfl ?_
      refine sq_nil ?_
      refine sx_then ?_
      refine sc_ret ?_
      refine sx_blk_ret ?_
      refine sx_then_ret ?_
      refine sx_ret1 (.inl rfl) rfl Try.results28 (by exact rfl) ?_
      intro w' hw'
      refine ⟨?_, hw'.below (by repeat (first | exact .head _ | refine .tail _ ?_))⟩
      simp [edB, spB, *]
    ·
      refine sq_gf (by exact rfl) (by exact rfl) (by exact rfl) rfl ?_
      refine sq_gf (by exact rfl) (by exact rfl) (by exact rfl) rfl ?_
      refine sq_gf (by exact rfl) (by exact rfl) (by exact rfl) rfl ?_
      refine sq_y (OpY.s (y_pick_f (by exact rfl) (by exact rfl))) rfl ?_
      refine sq_y (OpY.s (y_assign (by exact rfl))) rfl ?_
      refine sq_nil ?_
      refine sx_then ?_
      refine sc_ret ?_
      refine sx_blk_ret ?_
      refine sx_then_ret ?_
      refine sx_ret1 (.inl rfl) rfl Try.results28 (by exact rfl) ?_
      intro w' hw'
      refine ⟨?_, hw'.below (by repeat (first | exact .head _ | refine .tail _ ?_))⟩
      simp [edB, spB, *]
  ·
    refine sq_gf (by exact rfl) (by exact rfl) (by exact rfl) rfl ?_
    refine sq_gf (by exact rfl) (by exact rfl) (by exact rfl) rfl ?_
    refine sq_gf (by exact rfl) (by exact rfl) (by exact rfl) rfl ?_
    refine sq_y (OpY.s (y_pick_f (by exact rfl) (by exact rfl))) rfl ?_
    refine sq_y (OpY.s (y_move (by exact rfl))) rfl ?_
    refine sq_gf (by exact rfl) (by exact rfl) (by exact rfl) rfl ?_
    refine sq_gf (by exact rfl) (by exact rfl) (by exact rfl) rfl ?_
    refine sq_gf (by exact rfl) (by exact rfl) (by exact rfl) rfl ?_
    refine sq_y (OpY.s (y_pick_f (by exact rfl) (by exact rfl))) rfl ?_
    refine sq_y (OpY.s (y_assign (by exact rfl))) rfl ?_
    refine sq_nil ?_
    refine sx_then ?_
    refine sc_ret ?_
    refine sx_blk_ret ?_
    refine sx_then_ret ?_
    refine sx_ret1 (.inl rfl) rfl Try.results28 (by exact rfl) ?_
    intro w' hw'
    refine ⟨?_, hw'.below (by repeat (first | exact .head _ | refine .tail _ ?_))⟩
    simp [edB, spB, *]
theorem isSide28 (w : World) (e : Ed) (hk : e.kind = 1 ∨ e.kind = 2) : Calls Try.prog 28 #[.agg (edRow e).toArray] w fun e' w' => e' = .returned (.bool (edB e)) ∧ Below w.heap.size w w' := hk.elim (isSide28a w e) (isSide28b w e)
theorem side27 (w : World) (e : Ed) (hk : e.kind = 1 ∨ e.kind = 2) (hok : edB e = true) : Calls Try.prog 27 #[.agg (edRow e).toArray] w fun e' w' => e' = .returned (.bool false) ∧ Below w.heap.size w w' := by
  refine calls_of_SC (args := [.agg (edRow e).toArray]) Try.func27 rfl Try.ntmps27 rfl ?_
  simp only [argL]
  refine sc_seq ?_
  refine sc_region ?_
  refine sq_box (by exact rfl) rfl (fun b1 => ?_)
  refine sq_y (OpY.s (y_assign (by exact rfl))) rfl ?_
  refine sq_nil ?_
  refine sx_then ?_
  refine sc_seq ?_
  refine sc_region ?_
  refine sq_y (OpY.s (by first | exact y_load_all Try.underlying36 rfl Try.sizeOf36 (by exact rfl) (by repeat (first | exact .head _ | refine .tail _ ?_)) (by exact rfl) | exact y_load_ca Try.underlying36 rfl Try.sizeOf36 (by exact rfl) (by repeat (first | exact .head _ | refine .tail _ ?_)) (by assumption) (by exact rfl) | exact y_load_part Try.underlying36 rfl Try.sizeOf36 (by exact rfl) (by repeat (first | exact .head _ | refine .tail _ ?_)) rfl | exact y_load_capart Try.underlying36 rfl Try.sizeOf36 (by exact rfl) (by repeat (first | exact .head _ | refine .tail _ ?_)) (by assumption) rfl)) rfl ?_
  refine sq_y (y_call (first := []) (caps := []) (by exact rfl) Try.call28 (EvL.cons (by exact rfl) EvL.nil) (fun w1 _ => isSide28 w1 e hk)) rfl ?_
  refine sq_y (OpY.s (y_not (by exact rfl))) rfl ?_
  refine sq_y (OpY.s (y_assign (by exact rfl))) rfl ?_
  refine sq_nil ?_
  refine sx_then ?_
  refine sc_ret ?_
  refine sx_ret1 (.inl rfl) rfl Try.results27 (by exact rfl) ?_
  intro w' hw'
  refine ⟨?_, hw'.below (by repeat (first | exact .head _ | refine .tail _ ?_))⟩
  rw [hok]; rfl
def ed0 : Ed := ⟨0, sp0, sp0, sp0⟩
theorem areSides16 (w : World) (l : List Ed) (a : Option Addr) (c : Nat) (hA : RowsA edRow 7 0 w a l) (hk : ∀ e, e ∈ l → (e.kind = 1 ∨ e.kind = 2) ∧ edB e = true) : Calls Try.prog 16 #[.slice a l.length c] w fun e w' => e = .returned (.bool true) ∧ Below w.heap.size w w' := by
  refine calls_of_SC (args := [.slice a l.length c]) Try.func16 rfl Try.ntmps16 rfl ?_
  simp only [argL]
  refine sc_seq ?_
  refine sc_region ?_
  refine sq_y (OpY.s (y_assign (by exact rfl))) rfl ?_
  refine sq_nil ?_
  refine sx_then ?_
  refine sc_seq ?_
  refine sc_region ?_
  refine sq_y (OpY.s (y_move (by exact rfl))) rfl ?_
  refine sq_y (y_call (first := []) (caps := []) (by exact rfl) Try.call26 (EvL.cons (by exact rfl) (EvL.cons (by exact rfl) EvL.nil)) (fun w1 hw1 => containsEd 27 [] (fun _ => false) w1 a _ c (fun i => edRow (l.getD i ed0)) hA.len (fun i hi => ⟨(hA.get ed0 hi).1, rfl, CA.at (hA.get ed0 hi).2 hw1 (by repeat (first | exact .head _ | refine .tail _ ?_))⟩) Try.call27 (fun i hi w2 _ => side27 w2 _ (hk _ (List.mem_of_getElem? (get_of_lt ed0 hi))).1 (hk _ (List.mem_of_getElem? (get_of_lt ed0 hi))).2))) rfl ?_
  refine sq_y (OpY.s (y_not (by exact rfl))) rfl ?_
  refine sq_y (OpY.s (y_assign (by exact rfl))) rfl ?_
  refine sq_nil ?_
  refine sx_then ?_
  refine sc_ret ?_
  refine sx_ret1 (.inl rfl) rfl Try.results16 (by exact rfl) ?_
  intro w' hw'
  refine ⟨?_, hw'.below (by repeat (first | exact .head _ | refine .tail _ ?_))⟩
  simp
theorem plus57 (w : World) (s o : Sp) (hs : (-100000 ≤ s.lo ∧ s.lo ≤ 100000) ∧ -100000 ≤ s.hi ∧ s.hi ≤ 100000) (ho : (-100000 ≤ o.lo ∧ o.lo ≤ 100000) ∧ -100000 ≤ o.hi ∧ o.hi ≤ 100000) : Calls Try.prog 57 #[.agg (spRow s).toArray, .agg (spRow o).toArray] w fun e w' => e = .returned (.agg (spRow ⟨s.lo + o.lo, s.hi + o.hi⟩).toArray) ∧ Below w.heap.size w w' := by
  refine calls_of_SC (args := [.agg (spRow s).toArray, .agg (spRow o).toArray]) Try.func57 rfl Try.ntmps57 rfl ?_
  simp only [argL, Nat.zero_add]
  refine sc_seq ?_
  refine sc_region ?_
  refine sq_box (by exact rfl) rfl (fun b2 => ?_)
  refine sq_box (by exact rfl) rfl (fun b3 => ?_)
  refine sq_alloc Try.zeroValue55 rfl (fun b4 => ?_)
  refine sq_nil ?_
  refine sx_then ?_
  refine sc_seq ?_
  refine sc_region ?_
  refine sq_y (OpY.s (by first | exact y_fab Try.underlying55 (by exact rfl) (by exact Try.sizeOf3) (by exact rfl) rfl | exact y_fa Try.underlying55 (by exact rfl) (by exact Try.sizeOf3) (by exact rfl) rfl)) rfl ?_
  refine sq_y (OpY.s (by first | exact y_load_cajj Try.underlying3 rfl (by exact rfl) (by repeat (first | exact .head _ | refine .tail _ ?_)) (by assumption) (by exact rfl) | exact y_load_blk Try.underlying3 rfl (by exact rfl) (by repeat (first | exact .head _ | refine .tail _ ?_)) (by exact rfl) | exact y_load_caj Try.underlying3 rfl (by exact rfl) (by repeat (first | exact .head _ | refine .tail _ ?_)) (by assumption) (by exact rfl) | exact y_load_ca0 Try.underlying3 rfl (by exact rfl) (by repeat (first | exact .head _ | refine .tail _ ?_)) (by assumption) (by exact rfl))) rfl ?_
  refine sq_y (OpY.s (by first | exact y_fab Try.underlying55 (by exact rfl) (by exact Try.sizeOf3) (by exact rfl) rfl | exact y_fa Try.underlying55 (by exact rfl) (by exact Try.sizeOf3) (by exact rfl) rfl)) rfl ?_
  refine sq_y (OpY.s (by first | exact y_load_cajj Try.underlying3 rfl (by exact rfl) (by repeat (first | exact .head _ | refine .tail _ ?_)) (by assumption) (by exact rfl) | exact y_load_blk Try.underlying3 rfl (by exact rfl) (by repeat (first | exact .head _ | refine .tail _ ?_)) (by exact rfl) | exact y_load_caj Try.underlying3 rfl (by exact rfl) (by repeat (first | exact .head _ | refine .tail _ ?_)) (by assumption) (by exact rfl) | exact y_load_ca0 Try.underlying3 rfl (by exact rfl) (by repeat (first | exact .head _ | refine .tail _ ?_)) (by assumption) (by exact rfl))) rfl ?_
  refine sq_y (OpY.s (y_add (by exact rfl) (by exact rfl) (by omega))) rfl ?_
  refine sq_y (OpY.s (by first | exact y_fab Try.underlying55 (by exact rfl) (by exact Try.sizeOf3) (by exact rfl) rfl | exact y_fa Try.underlying55 (by exact rfl) (by exact Try.sizeOf3) (by exact rfl) rfl)) rfl ?_
  refine sq_y (OpY.s (by first | exact y_load_cajj Try.underlying3 rfl (by exact rfl) (by repeat (first | exact .head _ | refine .tail _ ?_)) (by assumption) (by exact rfl) | exact y_load_blk Try.underlying3 rfl (by exact rfl) (by repeat (first | exact .head _ | refine .tail _ ?_)) (by exact rfl) | exact y_load_caj Try.underlying3 rfl (by exact rfl) (by repeat (first | exact .head _ | refine .tail _ ?_)) (by assumption) (by exact rfl) | exact y_load_ca0 Try.underlying3 rfl (by exact rfl) (by repeat (first | exact .head _ | refine .tail _ ?_)) (by assumption) (by exact rfl))) rfl ?_
  refine sq_y (OpY.s (by first | exact y_fab Try.underlying55 (by exact rfl) (by exact Try.sizeOf3) (by exact rfl) rfl | exact y_fa Try.underlying55 (by exact rfl) (by exact Try.sizeOf3) (by exact rfl) rfl)) rfl ?_
  refine sq_y (OpY.s (by first | exact y_load_cajj Try.underlying3 rfl (by exact rfl) (by repeat (first | exact .head _ | refine .tail _ ?_)) (by assumption) (by exact rfl) | exact y_load_blk Try.underlying3 rfl (by exact rfl) (by repeat (first | exact .head _ | refine .tail _ ?_)) (by exact rfl) | exact y_load_caj Try.underlying3 rfl (by exact rfl) (by repeat (first | exact .head _ | refine .tail _ ?_)) (by assumption) (by exact rfl) | exact y_load_ca0 Try.underlying3 rfl (by exact rfl) (by repeat (first | exact .head _ | refine .tail _ ?_)) (by assumption) (by exact rfl))) rfl ?_
  refine sq_y (OpY.s (y_add (by exact rfl) (by exact rfl) (by omega))) rfl ?_
  refine sq_y (OpY.s (y_build bt55 (EvP.cons (by exact rfl) (EvP.cons (by exact rfl) EvP.nil)) (by exact rfl))) rfl ?_
  refine sq_store_all Try.sizeOf55 (by exact rfl) (by exact rfl) rfl (by repeat (first | exact Rem.here | apply Rem.there)) rfl rfl ?_
  refine sq_nil ?_
  refine sx_then ?_
  refine sc_ret ?_
  refine sx_retc (.inl rfl) rfl Try.results57 Try.underlying55 rfl Try.sizeOf55 (by exact rfl) (by repeat (first | exact .head _ | refine .tail _ ?_)) rfl ?_
  intro w' hw'
  exact ⟨rfl, hw'.below (by repeat (first | exact .head _ | refine .tail _ ?_))⟩
theorem less60 (w : World) (s o : Sp) (hs : (-100000 ≤ s.lo ∧ s.lo ≤ 100000) ∧ -100000 ≤ s.hi ∧ s.hi ≤ 100000) (ho : (-100000 ≤ o.lo ∧ o.lo ≤ 100000) ∧ -100000 ≤ o.hi ∧ o.hi ≤ 100000) : Calls Try.prog 60 #[.agg (spRow s).toArray, .agg (spRow o).toArray] w fun e w' => e = .returned (.agg (spRow ⟨s.lo - o.hi, s.hi - o.lo⟩).toArray) ∧ Below w.heap.size w w' := by
  refine calls_of_SC (args := [.agg (spRow s).toArray, .agg (spRow o).toArray]) Try.func60 rfl Try.ntmps60 rfl ?_
  simp only [argL, Nat.zero_add]
  refine sc_seq ?_
  refine sc_region ?_
  refine sq_box (by exact rfl) rfl (fun b2 => ?_)
  refine sq_box (by exact rfl) rfl (fun b3 => ?_)
  refine sq_alloc Try.zeroValue55 rfl (fun b4 => ?_)
  refine sq_nil ?_
  refine sx_then ?_
  refine sc_seq ?_
  refine sc_region ?_
  refine sq_y (OpY.s (by first | exact y_fab Try.underlying55 (by exact rfl) (by exact Try.sizeOf3) (by exact rfl) rfl | exact y_fa Try.underlying55 (by exact rfl) (by exact Try.sizeOf3) (by exact rfl) rfl)) rfl ?_
  refine sq_y (OpY.s (by first | exact y_load_cajj Try.underlying3 rfl (by exact rfl) (by repeat (first | exact .head _ | refine .tail _ ?_)) (by assumption) (by exact rfl) | exact y_load_blk Try.underlying3 rfl (by exact rfl) (by repeat (first | exact .head _ | refine .tail _ ?_)) (by exact rfl) | exact y_load_caj Try.underlying3 rfl (by exact rfl) (by repeat (first | exact .head _ | refine .tail _ ?_)) (by assumption) (by exact rfl) | exact y_load_ca0 Try.underlying3 rfl (by exact rfl) (by repeat (first | exact .head _ | refine .tail _ ?_)) (by assumption) (by exact rfl))) rfl ?_
  refine sq_y (OpY.s (by first | exact y_fab Try.underlying55 (by exact rfl) (by exact Try.sizeOf3) (by exact rfl) rfl | exact y_fa Try.underlying55 (by exact rfl) (by exact Try.sizeOf3) (by exact rfl) rfl)) rfl ?_
  refine sq_y (OpY.s (by first | exact y_load_cajj Try.underlying3 rfl (by exact rfl) (by repeat (first | exact .head _ | refine .tail _ ?_)) (by assumption) (by exact rfl) | exact y_load_blk Try.underlying3 rfl (by exact rfl) (by repeat (first | exact .head _ | refine .tail _ ?_)) (by exact rfl) | exact y_load_caj Try.underlying3 rfl (by exact rfl) (by repeat (first | exact .head _ | refine .tail _ ?_)) (by assumption) (by exact rfl) | exact y_load_ca0 Try.underlying3 rfl (by exact rfl) (by repeat (first | exact .head _ | refine .tail _ ?_)) (by assumption) (by exact rfl))) rfl ?_
  refine sq_y (OpY.s (y_sub (by exact rfl) (by exact rfl) (by omega))) rfl ?_
  refine sq_y (OpY.s (by first | exact y_fab Try.underlying55 (by exact rfl) (by exact Try.sizeOf3) (by exact rfl) rfl | exact y_fa Try.underlying55 (by exact rfl) (by exact Try.sizeOf3) (by exact rfl) rfl)) rfl ?_
  refine sq_y (OpY.s (by first | exact y_load_cajj Try.underlying3 rfl (by exact rfl) (by repeat (first | exact .head _ | refine .tail _ ?_)) (by assumption) (by exact rfl) | exact y_load_blk Try.underlying3 rfl (by exact rfl) (by repeat (first | exact .head _ | refine .tail _ ?_)) (by exact rfl) | exact y_load_caj Try.underlying3 rfl (by exact rfl) (by repeat (first | exact .head _ | refine .tail _ ?_)) (by assumption) (by exact rfl) | exact y_load_ca0 Try.underlying3 rfl (by exact rfl) (by repeat (first | exact .head _ | refine .tail _ ?_)) (by assumption) (by exact rfl))) rfl ?_
  refine sq_y (OpY.s (by first | exact y_fab Try.underlying55 (by exact rfl) (by exact Try.sizeOf3) (by exact rfl) rfl | exact y_fa Try.underlying55 (by exact rfl) (by exact Try.sizeOf3) (by exact rfl) rfl)) rfl ?_
  refine sq_y (OpY.s (by first | exact y_load_cajj Try.underlying3 rfl (by exact rfl) (by repeat (first | exact .head _ | refine .tail _ ?_)) (by assumption) (by exact rfl) | exact y_load_blk Try.underlying3 rfl (by exact rfl) (by repeat (first | exact .head _ | refine .tail _ ?_)) (by exact rfl) | exact y_load_caj Try.underlying3 rfl (by exact rfl) (by repeat (first | exact .head _ | refine .tail _ ?_)) (by assumption) (by exact rfl) | exact y_load_ca0 Try.underlying3 rfl (by exact rfl) (by repeat (first | exact .head _ | refine .tail _ ?_)) (by assumption) (by exact rfl))) rfl ?_
  refine sq_y (OpY.s (y_sub (by exact rfl) (by exact rfl) (by omega))) rfl ?_
  refine sq_y (OpY.s (y_build bt55 (EvP.cons (by exact rfl) (EvP.cons (by exact rfl) EvP.nil)) (by exact rfl))) rfl ?_
  refine sq_store_all Try.sizeOf55 (by exact rfl) (by exact rfl) rfl (by repeat (first | exact Rem.here | apply Rem.there)) rfl rfl ?_
  refine sq_nil ?_
  refine sx_then ?_
  refine sc_ret ?_
  refine sx_retc (.inl rfl) rfl Try.results60 Try.underlying55 rfl Try.sizeOf55 (by exact rfl) (by repeat (first | exact .head _ | refine .tail _ ?_)) rfl ?_
  intro w' hw'
  exact ⟨rfl, hw'.below (by repeat (first | exact .head _ | refine .tail _ ?_))⟩
structure Ok (p : Pl) (a b : Ed) : Prop where
  p : plB p = true
  a : edB a = true
  b : edB b = true
theorem Ok.nums {p a b} (h : Ok p a b) : (1 ≤ p.len ∧ p.len ≤ 10000) ∧ (0 ≤ p.slack ∧ p.slack ≤ 500) ∧ (0 ≤ p.loose ∧ p.loose ≤ 500) ∧ (0 ≤ p.damp.lo ∧ p.damp.lo ≤ p.damp.hi ∧ p.damp.hi ≤ 100) ∧
    (0 ≤ a.at_.lo ∧ a.at_.lo ≤ a.at_.hi ∧ a.at_.hi ≤ 10000) ∧ (1 ≤ a.wide.lo ∧ a.wide.lo ≤ a.wide.hi ∧ a.wide.hi ≤ 3000) ∧ (1 ≤ a.deep.lo ∧ a.deep.lo ≤ a.deep.hi ∧ a.deep.hi ≤ 3000) ∧
    (0 ≤ b.at_.lo ∧ b.at_.lo ≤ b.at_.hi ∧ b.at_.hi ≤ 10000) ∧ (1 ≤ b.wide.lo ∧ b.wide.lo ≤ b.wide.hi ∧ b.wide.hi ≤ 3000) ∧ (1 ≤ b.deep.lo ∧ b.deep.lo ≤ b.deep.hi ∧ b.deep.hi ≤ 3000) := by
  obtain ⟨h1, h2, h3⟩ := h
  simp only [plB, edB, inB, spB, Bool.and_eq_true, decide_eq_true_eq] at h1 h2 h3
  exact ⟨h1.1.1.1, h1.1.1.2, h1.1.2, h1.2, h2.1.1, h2.1.2, h2.2, h3.1.1, h3.1.2, h3.2⟩
theorem Ok.by {p a b} (h : Ok p a b) (i : Nat) : (-30000 ≤ (byV p a b i).lo ∧ (byV p a b i).lo ≤ 30000) ∧ -30000 ≤ (byV p a b i).hi ∧ (byV p a b i).hi ≤ 30000 := by
  have hn := h.nums
  rcases i with _ | _ | i
  · simp only [byV]; omega
  · simp only [byV]; omega
  · simp only [byV]; omega
theorem Ok.bo {p a b} (h : Ok p a b) (i : Nat) : (-500 ≤ (boV p i).lo ∧ (boV p i).lo ≤ 500) ∧ -500 ≤ (boV p i).hi ∧ (boV p i).hi ≤ 500 := by
  have hn := h.nums
  rcases i with _ | i
  · simp only [boV]; omega
  · simp only [boV]; omega
def dT : Nat → TypeId | 0 => 82 | 1 => 83 | _ => 84
def fB : Nat → FuncId | 0 => 55 | 1 => 58 | _ => 61
def fY : Nat → FuncId | 0 => 56 | 1 => 59 | _ => 62
theorem meBo : ∀ (i : Nat) (rv : Value) (w : World), (method (Try.prog.types.size + Made.depth) (dT i) rv "jigworks/fit.bounds").run Try.prog w = .ok (fB i, rv) w
  | 0, _, _ => by kernel_rfl
  | 1, _, _ => by kernel_rfl
  | _ + 2, _, _ => by kernel_rfl
theorem meBy : ∀ (i : Nat) (rv : Value) (w : World), (method (Try.prog.types.size + Made.depth) (dT i) rv "jigworks/fit.by").run Try.prog w = .ok (fY i, rv) w
  | 0, _, _ => by kernel_rfl
  | 1, _, _ => by kernel_rfl
  | _ + 2, _, _ => by kernel_rfl
theorem cgBo : ∀ (i : Nat) args w, (callFunc (fB i) args).run Try.prog w = .ok (.enter (fB i) args) w
  | 0 => Try.call55
  | 1 => Try.call58
  | _ + 2 => Try.call61
theorem cgBy : ∀ (i : Nat) args w, (callFunc (fY i) args).run Try.prog w = .ok (.enter (fY i) args) w
  | 0 => Try.call56
  | 1 => Try.call59
  | _ + 2 => Try.call62
theorem bounds55 (w : World) (p : Pl) (a b : Ed) (h : Ok p a b) : Calls Try.prog 55 #[.agg (coRow p a b).toArray] w fun e w' => e = .returned (.tuple #[.int .i64 (boV p 0).lo, .int .i64 (boV p 0).hi]) ∧ Below w.heap.size w w' := by
  have hn := h.nums
  refine calls_of_SC (args := [.agg (coRow p a b).toArray]) Try.func55 rfl Try.ntmps55 rfl ?_
  simp only [argL]
  refine sc_seq ?_
  refine sc_region ?_
  refine sq_box (by exact rfl) rfl (fun b1 => ?_)
  refine sq_y (OpY.s (y_assign (by exact rfl))) rfl ?_
  refine sq_y (OpY.s (y_assign (by exact rfl))) rfl ?_
  refine sq_nil ?_
  refine sx_then ?_
  refine sc_seq ?_
  refine sc_drawX ([.blk b1 (.cells (coRow p a b).toArray 82 (0, 0)), .reg 0 w]) (by kernel_rfl) ?_
  refine xj_s 0 (by exact rfl) (by kernel_rfl) (by repeat (first | exact Sel.nil | refine Sel.cons (by repeat (first | exact Rem.here | apply Rem.there)) ?_)) (by first | exact y_fab Try.underlying82 (by exact rfl) (by exact Try.sizeOf34) (by exact rfl) rfl | exact y_fa Try.underlying82 (by exact rfl) (by exact Try.sizeOf34) (by exact rfl) rfl) rfl ?_
  refine xj_s 1 (by exact rfl) (by kernel_rfl) (by repeat (first | exact Sel.nil | refine Sel.cons (by repeat (first | exact Rem.here | apply Rem.there)) ?_)) (by first | exact y_fab Try.underlying34 (by exact rfl) (by exact Try.sizeOf3) (by exact rfl) rfl | exact y_fa Try.underlying34 (by exact rfl) (by exact Try.sizeOf3) (by exact rfl) rfl) rfl ?_
  refine xj_s 2 (by exact rfl) (by kernel_rfl) (by repeat (first | exact Sel.nil | refine Sel.cons (by repeat (first | exact Rem.here | apply Rem.there)) ?_)) (by first | exact y_load_cajj Try.underlying3 rfl (by exact rfl) (by repeat (first | exact .head _ | refine .tail _ ?_)) (by assumption) (by exact rfl) | exact y_load_blk Try.underlying3 rfl (by exact rfl) (by repeat (first | exact .head _ | refine .tail _ ?_)) (by exact rfl) | exact y_load_caj Try.underlying3 rfl (by exact rfl) (by repeat (first | exact .head _ | refine .tail _ ?_)) (by assumption) (by exact rfl) | exact y_load_ca0 Try.underlying3 rfl (by exact rfl) (by repeat (first | exact .head _ | refine .tail _ ?_)) (by assumption) (by exact rfl)) rfl ?_
  refine xj_s 3 (by exact rfl) (by kernel_rfl) (by repeat (first | exact Sel.nil | refine Sel.cons (by repeat (first | exact Rem.here | apply Rem.there)) ?_)) (y_neg (by exact rfl) (by omega)) rfl ?_
  refine xj_s 4 (by exact rfl) (by kernel_rfl) (by repeat (first | exact Sel.nil | refine Sel.cons (by repeat (first | exact Rem.here | apply Rem.there)) ?_)) (by first | exact y_fab Try.underlying82 (by exact rfl) (by exact Try.sizeOf34) (by exact rfl) rfl | exact y_fa Try.underlying82 (by exact rfl) (by exact Try.sizeOf34) (by exact rfl) rfl) rfl ?_
  refine xj_s 5 (by exact rfl) (by kernel_rfl) (by repeat (first | exact Sel.nil | refine Sel.cons (by repeat (first | exact Rem.here | apply Rem.there)) ?_)) (by first | exact y_fab Try.underlying34 (by exact rfl) (by exact Try.sizeOf3) (by exact rfl) rfl | exact y_fa Try.underlying34 (by exact rfl) (by exact Try.sizeOf3) (by exact rfl) rfl) rfl ?_
  refine xj_s 6 (by exact rfl) (by kernel_rfl) (by repeat (first | exact Sel.nil | refine Sel.cons (by repeat (first | exact Rem.here | apply Rem.there)) ?_)) (by first | exact y_load_cajj Try.underlying3 rfl (by exact rfl) (by repeat (first | exact .head _ | refine .tail _ ?_)) (by assumption) (by exact rfl) | exact y_load_blk Try.underlying3 rfl (by exact rfl) (by repeat (first | exact .head _ | refine .tail _ ?_)) (by exact rfl) | exact y_load_caj Try.underlying3 rfl (by exact rfl) (by repeat (first | exact .head _ | refine .tail _ ?_)) (by assumption) (by exact rfl) | exact y_load_ca0 Try.underlying3 rfl (by exact rfl) (by repeat (first | exact .head _ | refine .tail _ ?_)) (by assumption) (by exact rfl)) rfl ?_
  refine xj_s 7 (by exact rfl) (by kernel_rfl) (by repeat (first | exact Sel.nil | refine Sel.cons (by repeat (first | exact Rem.here | apply Rem.there)) ?_)) (y_assign (by exact rfl)) rfl ?_
  refine xj_s 8 (by exact rfl) (by kernel_rfl) (by repeat (first | exact Sel.nil | refine Sel.cons (by repeat (first | exact Rem.here | apply Rem.there)) ?_)) (y_assign (by exact rfl)) rfl ?_
  refine xj_done (by kernel_rfl) ?_
  refine sx_then ?_
  refine sc_ret ?_
  refine sx_ret2 (.inl rfl) rfl Try.results55 (by exact rfl) (by exact rfl) ?_
  intro w' hw'
  exact ⟨rfl, hw'.below (by repeat (first | exact .head _ | refine .tail _ ?_))⟩
theorem bounds58 (w : World) (p : Pl) (a b : Ed) (h : Ok p a b) : Calls Try.prog 58 #[.agg (coRow p a b).toArray] w fun e w' => e = .returned (.tuple #[.int .i64 (boV p 1).lo, .int .i64 (boV p 1).hi]) ∧ Below w.heap.size w w' := by
  have hn := h.nums
  refine calls_of_SC (args := [.agg (coRow p a b).toArray]) Try.func58 rfl Try.ntmps58 rfl ?_
  simp only [argL]
  refine sc_seq ?_
  refine sc_region ?_
  refine sq_box (by exact rfl) rfl (fun b1 => ?_)
  refine sq_y (OpY.s (y_assign (by exact rfl))) rfl ?_
  refine sq_y (OpY.s (y_assign (by exact rfl))) rfl ?_
  refine sq_nil ?_
  refine sx_then ?_
  refine sc_seq ?_
  refine sc_drawX ([.blk b1 (.cells (coRow p a b).toArray 83 (0, 0)), .reg 0 w]) (by kernel_rfl) ?_
  refine xj_s 0 (by exact rfl) (by kernel_rfl) (by repeat (first | exact Sel.nil | refine Sel.cons (by repeat (first | exact Rem.here | apply Rem.there)) ?_)) (by first | exact y_fab Try.underlying83 (by exact rfl) (by exact Try.sizeOf34) (by exact rfl) rfl | exact y_fa Try.underlying83 (by exact rfl) (by exact Try.sizeOf34) (by exact rfl) rfl) rfl ?_
  refine xj_s 1 (by exact rfl) (by kernel_rfl) (by repeat (first | exact Sel.nil | refine Sel.cons (by repeat (first | exact Rem.here | apply Rem.there)) ?_)) (by first | exact y_fab Try.underlying34 (by exact rfl) (by exact Try.sizeOf3) (by exact rfl) rfl | exact y_fa Try.underlying34 (by exact rfl) (by exact Try.sizeOf3) (by exact rfl) rfl) rfl ?_
  refine xj_s 2 (by exact rfl) (by kernel_rfl) (by repeat (first | exact Sel.nil | refine Sel.cons (by repeat (first | exact Rem.here | apply Rem.there)) ?_)) (by first | exact y_load_cajj Try.underlying3 rfl (by exact rfl) (by repeat (first | exact .head _ | refine .tail _ ?_)) (by assumption) (by exact rfl) | exact y_load_blk Try.underlying3 rfl (by exact rfl) (by repeat (first | exact .head _ | refine .tail _ ?_)) (by exact rfl) | exact y_load_caj Try.underlying3 rfl (by exact rfl) (by repeat (first | exact .head _ | refine .tail _ ?_)) (by assumption) (by exact rfl) | exact y_load_ca0 Try.underlying3 rfl (by exact rfl) (by repeat (first | exact .head _ | refine .tail _ ?_)) (by assumption) (by exact rfl)) rfl ?_
  refine xj_s 3 (by exact rfl) (by kernel_rfl) (by repeat (first | exact Sel.nil | refine Sel.cons (by repeat (first | exact Rem.here | apply Rem.there)) ?_)) (y_assign (by exact rfl)) rfl ?_
  refine xj_s 4 (by exact rfl) (by kernel_rfl) (by repeat (first | exact Sel.nil | refine Sel.cons (by repeat (first | exact Rem.here | apply Rem.there)) ?_)) (y_assign (by exact rfl)) rfl ?_
  refine xj_done (by kernel_rfl) ?_
  refine sx_then ?_
  refine sc_ret ?_
  refine sx_ret2 (.inl rfl) rfl Try.results58 (by exact rfl) (by exact rfl) ?_
  intro w' hw'
  exact ⟨rfl, hw'.below (by repeat (first | exact .head _ | refine .tail _ ?_))⟩
theorem bounds61 (w : World) (p : Pl) (a b : Ed) (h : Ok p a b) : Calls Try.prog 61 #[.agg (coRow p a b).toArray] w fun e w' => e = .returned (.tuple #[.int .i64 (boV p 2).lo, .int .i64 (boV p 2).hi]) ∧ Below w.heap.size w w' := by
  have hn := h.nums
  refine calls_of_SC (args := [.agg (coRow p a b).toArray]) Try.func61 rfl Try.ntmps61 rfl ?_
  simp only [argL]
  refine sc_seq ?_
  refine sc_region ?_
  refine sq_box (by exact rfl) rfl (fun b1 => ?_)
  refine sq_y (OpY.s (y_assign (by exact rfl))) rfl ?_
  refine sq_y (OpY.s (y_assign (by exact rfl))) rfl ?_
  refine sq_nil ?_
  refine sx_then ?_
  refine sc_seq ?_
  refine sc_drawX ([.blk b1 (.cells (coRow p a b).toArray 84 (0, 0)), .reg 0 w]) (by kernel_rfl) ?_
  refine xj_s 0 (by exact rfl) (by kernel_rfl) (by repeat (first | exact Sel.nil | refine Sel.cons (by repeat (first | exact Rem.here | apply Rem.there)) ?_)) (by first | exact y_fab Try.underlying84 (by exact rfl) (by exact Try.sizeOf34) (by exact rfl) rfl | exact y_fa Try.underlying84 (by exact rfl) (by exact Try.sizeOf34) (by exact rfl) rfl) rfl ?_
  refine xj_s 1 (by exact rfl) (by kernel_rfl) (by repeat (first | exact Sel.nil | refine Sel.cons (by repeat (first | exact Rem.here | apply Rem.there)) ?_)) (by first | exact y_fab Try.underlying34 (by exact rfl) (by exact Try.sizeOf3) (by exact rfl) rfl | exact y_fa Try.underlying34 (by exact rfl) (by exact Try.sizeOf3) (by exact rfl) rfl) rfl ?_
  refine xj_s 2 (by exact rfl) (by kernel_rfl) (by repeat (first | exact Sel.nil | refine Sel.cons (by repeat (first | exact Rem.here | apply Rem.there)) ?_)) (by first | exact y_load_cajj Try.underlying3 rfl (by exact rfl) (by repeat (first | exact .head _ | refine .tail _ ?_)) (by assumption) (by exact rfl) | exact y_load_blk Try.underlying3 rfl (by exact rfl) (by repeat (first | exact .head _ | refine .tail _ ?_)) (by exact rfl) | exact y_load_caj Try.underlying3 rfl (by exact rfl) (by repeat (first | exact .head _ | refine .tail _ ?_)) (by assumption) (by exact rfl) | exact y_load_ca0 Try.underlying3 rfl (by exact rfl) (by repeat (first | exact .head _ | refine .tail _ ?_)) (by assumption) (by exact rfl)) rfl ?_
  refine xj_s 3 (by exact rfl) (by kernel_rfl) (by repeat (first | exact Sel.nil | refine Sel.cons (by repeat (first | exact Rem.here | apply Rem.there)) ?_)) (y_assign (by exact rfl)) rfl ?_
  refine xj_s 4 (by exact rfl) (by kernel_rfl) (by repeat (first | exact Sel.nil | refine Sel.cons (by repeat (first | exact Rem.here | apply Rem.there)) ?_)) (y_assign (by exact rfl)) rfl ?_
  refine xj_done (by kernel_rfl) ?_
  refine sx_then ?_
  refine sc_ret ?_
  refine sx_ret2 (.inl rfl) rfl Try.results61 (by exact rfl) (by exact rfl) ?_
  intro w' hw'
  exact ⟨rfl, hw'.below (by repeat (first | exact .head _ | refine .tail _ ?_))⟩
theorem by56 (w : World) (p : Pl) (a b : Ed) (h : Ok p a b) : Calls Try.prog 56 #[.agg (coRow p a b).toArray] w fun e w' => e = .returned (.agg (spRow (byV p a b 0)).toArray) ∧ Below w.heap.size w w' := by
  have hn := h.nums
  refine calls_of_SC (args := [.agg (coRow p a b).toArray]) Try.func56 rfl Try.ntmps56 rfl ?_
  simp only [argL]
  refine sc_seq ?_
  refine sc_region ?_
  refine sq_box (by exact rfl) rfl (fun b1 => ?_)
  refine sq_alloc Try.zeroValue55 rfl (fun b2 => ?_)
  refine sq_nil ?_
  refine sx_then ?_
  refine sc_seq ?_
  refine sc_drawX ([.blk b1 (.cells (coRow p a b).toArray 82 (0, 0)), .reg 0 w]) (by kernel_rfl) ?_
  refine xj_s 0 (by exact rfl) (by kernel_rfl) (by repeat (first | exact Sel.nil | refine Sel.cons (by repeat (first | exact Rem.here | apply Rem.there)) ?_)) (by first | exact y_fab Try.underlying82 (by exact rfl) (by exact Try.sizeOf36) (by exact rfl) rfl | exact y_fa Try.underlying82 (by exact rfl) (by exact Try.sizeOf36) (by exact rfl) rfl) rfl ?_
  refine xj_s 1 (by exact rfl) (by kernel_rfl) (by repeat (first | exact Sel.nil | refine Sel.cons (by repeat (first | exact Rem.here | apply Rem.there)) ?_)) (by first | exact y_fab Try.underlying36 (by exact rfl) (by exact Try.sizeOf29) (by exact rfl) rfl | exact y_fa Try.underlying36 (by exact rfl) (by exact Try.sizeOf29) (by exact rfl) rfl) rfl ?_
  refine xj_s 2 (by exact rfl) (by kernel_rfl) (by repeat (first | exact Sel.nil | refine Sel.cons (by repeat (first | exact Rem.here | apply Rem.there)) ?_)) (by first | exact y_load_all Try.underlying29 rfl Try.sizeOf29 (by exact rfl) (by repeat (first | exact .head _ | refine .tail _ ?_)) (by exact rfl) | exact y_load_2 Try.underlying29 rfl Try.sizeOf29 (by exact rfl) (by repeat (first | exact .head _ | refine .tail _ ?_)) (by exact rfl) (by exact rfl) | exact y_load_ca Try.underlying29 rfl Try.sizeOf29 (by exact rfl) (by repeat (first | exact .head _ | refine .tail _ ?_)) (by assumption) (by exact rfl) | exact y_load_part Try.underlying29 rfl Try.sizeOf29 (by exact rfl) (by repeat (first | exact .head _ | refine .tail _ ?_)) rfl | exact y_load_capart Try.underlying29 rfl Try.sizeOf29 (by exact rfl) (by repeat (first | exact .head _ | refine .tail _ ?_)) (by assumption) rfl) rfl ?_
  refine xj_s 3 (by exact rfl) (by kernel_rfl) (by repeat (first | exact Sel.nil | refine Sel.cons (by repeat (first | exact Rem.here | apply Rem.there)) ?_)) (by first | exact y_fab Try.underlying82 (by exact rfl) (by exact Try.sizeOf36) (by exact rfl) rfl | exact y_fa Try.underlying82 (by exact rfl) (by exact Try.sizeOf36) (by exact rfl) rfl) rfl ?_
  refine xj_s 4 (by exact rfl) (by kernel_rfl) (by repeat (first | exact Sel.nil | refine Sel.cons (by repeat (first | exact Rem.here | apply Rem.there)) ?_)) (by first | exact y_fab Try.underlying36 (by exact rfl) (by exact Try.sizeOf29) (by exact rfl) rfl | exact y_fa Try.underlying36 (by exact rfl) (by exact Try.sizeOf29) (by exact rfl) rfl) rfl ?_
  refine xj_s 5 (by exact rfl) (by kernel_rfl) (by repeat (first | exact Sel.nil | refine Sel.cons (by repeat (first | exact Rem.here | apply Rem.there)) ?_)) (by first | exact y_load_all Try.underlying29 rfl Try.sizeOf29 (by exact rfl) (by repeat (first | exact .head _ | refine .tail _ ?_)) (by exact rfl) | exact y_load_2 Try.underlying29 rfl Try.sizeOf29 (by exact rfl) (by repeat (first | exact .head _ | refine .tail _ ?_)) (by exact rfl) (by exact rfl) | exact y_load_ca Try.underlying29 rfl Try.sizeOf29 (by exact rfl) (by repeat (first | exact .head _ | refine .tail _ ?_)) (by assumption) (by exact rfl) | exact y_load_part Try.underlying29 rfl Try.sizeOf29 (by exact rfl) (by repeat (first | exact .head _ | refine .tail _ ?_)) rfl | exact y_load_capart Try.underlying29 rfl Try.sizeOf29 (by exact rfl) (by repeat (first | exact .head _ | refine .tail _ ?_)) (by assumption) rfl) rfl ?_
  refine xj_s 7 (by exact rfl) (by kernel_rfl) (by repeat (first | exact Sel.nil | refine Sel.cons (by repeat (first | exact Rem.here | apply Rem.there)) ?_)) (by first | exact y_fab Try.underlying82 (by exact rfl) (by exact Try.sizeOf34) (by exact rfl) rfl | exact y_fa Try.underlying82 (by exact rfl) (by exact Try.sizeOf34) (by exact rfl) rfl) rfl ?_
  refine xj_s 8 (by exact rfl) (by kernel_rfl) (by repeat (first | exact Sel.nil | refine Sel.cons (by repeat (first | exact Rem.here | apply Rem.there)) ?_)) (by first | exact y_fab Try.underlying34 (by exact rfl) (by exact Try.sizeOf3) (by exact rfl) rfl | exact y_fa Try.underlying34 (by exact rfl) (by exact Try.sizeOf3) (by exact rfl) rfl) rfl ?_
  refine xj_s 9 (by exact rfl) (by kernel_rfl) (by repeat (first | exact Sel.nil | refine Sel.cons (by repeat (first | exact Rem.here | apply Rem.there)) ?_)) (by first | exact y_load_cajj Try.underlying3 rfl (by exact rfl) (by repeat (first | exact .head _ | refine .tail _ ?_)) (by assumption) (by exact rfl) | exact y_load_blk Try.underlying3 rfl (by exact rfl) (by repeat (first | exact .head _ | refine .tail _ ?_)) (by exact rfl) | exact y_load_caj Try.underlying3 rfl (by exact rfl) (by repeat (first | exact .head _ | refine .tail _ ?_)) (by assumption) (by exact rfl) | exact y_load_ca0 Try.underlying3 rfl (by exact rfl) (by repeat (first | exact .head _ | refine .tail _ ?_)) (by assumption) (by exact rfl)) rfl ?_
  refine xj_s 10 (by exact rfl) (by kernel_rfl) (by repeat (first | exact Sel.nil | refine Sel.cons (by repeat (first | exact Rem.here | apply Rem.there)) ?_)) (y_neg (by exact rfl) (by omega)) rfl ?_
  refine xj_s 11 (by exact rfl) (by kernel_rfl) (by repeat (first | exact Sel.nil | refine Sel.cons (by repeat (first | exact Rem.here | apply Rem.there)) ?_)) (by first | exact y_fab Try.underlying82 (by exact rfl) (by exact Try.sizeOf34) (by exact rfl) rfl | exact y_fa Try.underlying82 (by exact rfl) (by exact Try.sizeOf34) (by exact rfl) rfl) rfl ?_
  refine xj_s 12 (by exact rfl) (by kernel_rfl) (by repeat (first | exact Sel.nil | refine Sel.cons (by repeat (first | exact Rem.here | apply Rem.there)) ?_)) (by first | exact y_fab Try.underlying34 (by exact rfl) (by exact Try.sizeOf3) (by exact rfl) rfl | exact y_fa Try.underlying34 (by exact rfl) (by exact Try.sizeOf3) (by exact rfl) rfl) rfl ?_
  refine xj_s 13 (by exact rfl) (by kernel_rfl) (by repeat (first | exact Sel.nil | refine Sel.cons (by repeat (first | exact Rem.here | apply Rem.there)) ?_)) (by first | exact y_load_cajj Try.underlying3 rfl (by exact rfl) (by repeat (first | exact .head _ | refine .tail _ ?_)) (by assumption) (by exact rfl) | exact y_load_blk Try.underlying3 rfl (by exact rfl) (by repeat (first | exact .head _ | refine .tail _ ?_)) (by exact rfl) | exact y_load_caj Try.underlying3 rfl (by exact rfl) (by repeat (first | exact .head _ | refine .tail _ ?_)) (by assumption) (by exact rfl) | exact y_load_ca0 Try.underlying3 rfl (by exact rfl) (by repeat (first | exact .head _ | refine .tail _ ?_)) (by assumption) (by exact rfl)) rfl ?_
  refine xj_s 14 (by exact rfl) (by kernel_rfl) (by repeat (first | exact Sel.nil | refine Sel.cons (by repeat (first | exact Rem.here | apply Rem.there)) ?_)) (y_neg (by exact rfl) (by omega)) rfl ?_
  refine xj_s 15 (by exact rfl) (by kernel_rfl) (by repeat (first | exact Sel.nil | refine Sel.cons (by repeat (first | exact Rem.here | apply Rem.there)) ?_)) (y_build bt55 (EvP.cons (by exact rfl) (EvP.cons (by exact rfl) EvP.nil)) (by exact rfl)) rfl ?_
  refine xj_one 6 (by exact rfl) (by kernel_rfl) ?_
  refine sq_y (y_call (first := []) (caps := []) (by exact rfl) Try.call57 (EvL.cons (by exact rfl) (EvL.cons (by exact rfl) EvL.nil)) (fun w1 _ => plus57 w1 a.at_ b.at_ (by omega) (by omega))) rfl ?_
  refine sq_nil ?_
  refine sx_xp (by repeat (first | exact Sel.nil | refine Sel.cons (by repeat (first | exact Rem.here | apply Rem.there)) ?_)) ?_
  refine xj_one 16 (by exact rfl) (by kernel_rfl) ?_
  refine sq_y (y_call (first := []) (caps := []) (by exact rfl) Try.call57 (EvL.cons (by exact rfl) (EvL.cons (by exact rfl) EvL.nil)) (fun w1 _ => plus57 w1 ⟨a.at_.lo + b.at_.lo, a.at_.hi + b.at_.hi⟩ ⟨-p.len, -p.len⟩ (by simp only; omega) (by simp only; omega))) rfl ?_
  refine sq_nil ?_
  refine sx_xp (by repeat (first | exact Sel.nil | refine Sel.cons (by repeat (first | exact Rem.here | apply Rem.there)) ?_)) ?_
  refine xj_one 17 (by exact rfl) (by kernel_rfl) ?_
  refine sq_store_all Try.sizeOf55 (by exact rfl) (by exact rfl) rfl (by repeat (first | exact Rem.here | apply Rem.there)) rfl rfl ?_
  refine sq_nil ?_
  refine sx_xpl (by kernel_rfl) ?_
  refine xj_done (by kernel_rfl) ?_
  refine sx_then ?_
  refine sc_ret ?_
  refine sx_retc (.inl rfl) rfl Try.results56 Try.underlying55 rfl Try.sizeOf55 (by exact rfl) (by repeat (first | exact .head _ | refine .tail _ ?_)) rfl ?_
  intro w' hw'
  exact ⟨rfl, hw'.below (by repeat (first | exact .head _ | refine .tail _ ?_))⟩
theorem by59 (w : World) (p : Pl) (a b : Ed) (h : Ok p a b) : Calls Try.prog 59 #[.agg (coRow p a b).toArray] w fun e w' => e = .returned (.agg (spRow (byV p a b 1)).toArray) ∧ Below w.heap.size w w' := by
  have hn := h.nums
  refine calls_of_SC (args := [.agg (coRow p a b).toArray]) Try.func59 rfl Try.ntmps59 rfl ?_
  simp only [argL]
  refine sc_seq ?_
  refine sc_region ?_
  refine sq_box (by exact rfl) rfl (fun b1 => ?_)
  refine sq_alloc Try.zeroValue55 rfl (fun b2 => ?_)
  refine sq_nil ?_
  refine sx_then ?_
  refine sc_seq ?_
  refine sc_region ?_
  refine sq_y (OpY.s (by first | exact y_fab Try.underlying83 (by exact rfl) (by exact Try.sizeOf36) (by exact rfl) rfl | exact y_fa Try.underlying83 (by exact rfl) (by exact Try.sizeOf36) (by exact rfl) rfl)) rfl ?_
  refine sq_y (OpY.s (by first | exact y_fab Try.underlying36 (by exact rfl) (by exact Try.sizeOf29) (by exact rfl) rfl | exact y_fa Try.underlying36 (by exact rfl) (by exact Try.sizeOf29) (by exact rfl) rfl)) rfl ?_
  refine sq_y (OpY.s (by first | exact y_load_all Try.underlying29 rfl Try.sizeOf29 (by exact rfl) (by repeat (first | exact .head _ | refine .tail _ ?_)) (by exact rfl) | exact y_load_2 Try.underlying29 rfl Try.sizeOf29 (by exact rfl) (by repeat (first | exact .head _ | refine .tail _ ?_)) (by exact rfl) (by exact rfl) | exact y_load_ca Try.underlying29 rfl Try.sizeOf29 (by exact rfl) (by repeat (first | exact .head _ | refine .tail _ ?_)) (by assumption) (by exact rfl) | exact y_load_part Try.underlying29 rfl Try.sizeOf29 (by exact rfl) (by repeat (first | exact .head _ | refine .tail _ ?_)) rfl | exact y_load_capart Try.underlying29 rfl Try.sizeOf29 (by exact rfl) (by repeat (first | exact .head _ | refine .tail _ ?_)) (by assumption) rfl)) rfl ?_
  refine sq_y (OpY.s (by first | exact y_fab Try.underlying83 (by exact rfl) (by exact Try.sizeOf36) (by exact rfl) rfl | exact y_fa Try.underlying83 (by exact rfl) (by exact Try.sizeOf36) (by exact rfl) rfl)) rfl ?_
  refine sq_y (OpY.s (by first | exact y_fab Try.underlying36 (by exact rfl) (by exact Try.sizeOf29) (by exact rfl) rfl | exact y_fa Try.underlying36 (by exact rfl) (by exact Try.sizeOf29) (by exact rfl) rfl)) rfl ?_
  refine sq_y (OpY.s (by first | exact y_load_all Try.underlying29 rfl Try.sizeOf29 (by exact rfl) (by repeat (first | exact .head _ | refine .tail _ ?_)) (by exact rfl) | exact y_load_2 Try.underlying29 rfl Try.sizeOf29 (by exact rfl) (by repeat (first | exact .head _ | refine .tail _ ?_)) (by exact rfl) (by exact rfl) | exact y_load_ca Try.underlying29 rfl Try.sizeOf29 (by exact rfl) (by repeat (first | exact .head _ | refine .tail _ ?_)) (by assumption) (by exact rfl) | exact y_load_part Try.underlying29 rfl Try.sizeOf29 (by exact rfl) (by repeat (first | exact .head _ | refine .tail _ ?_)) rfl | exact y_load_capart Try.underlying29 rfl Try.sizeOf29 (by exact rfl) (by repeat (first | exact .head _ | refine .tail _ ?_)) (by assumption) rfl)) rfl ?_
  refine sq_y (y_call (first := []) (caps := []) (by exact rfl) Try.call60 (EvL.cons (by exact rfl) (EvL.cons (by exact rfl) EvL.nil)) (fun w1 _ => less60 w1 b.wide a.wide (by omega) (by omega))) rfl ?_
  refine sq_store_all Try.sizeOf55 (by exact rfl) (by exact rfl) rfl (by repeat (first | exact Rem.here | apply Rem.there)) rfl rfl ?_
  refine sq_nil ?_
  refine sx_then ?_
  refine sc_ret ?_
  refine sx_retc (.inl rfl) rfl Try.results59 Try.underlying55 rfl Try.sizeOf55 (by exact rfl) (by repeat (first | exact .head _ | refine .tail _ ?_)) rfl ?_
  intro w' hw'
  exact ⟨rfl, hw'.below (by repeat (first | exact .head _ | refine .tail _ ?_))⟩
theorem by62 (w : World) (p : Pl) (a b : Ed) (h : Ok p a b) : Calls Try.prog 62 #[.agg (coRow p a b).toArray] w fun e w' => e = .returned (.agg (spRow (byV p a b 2)).toArray) ∧ Below w.heap.size w w' := by
  have hn := h.nums
  refine calls_of_SC (args := [.agg (coRow p a b).toArray]) Try.func62 rfl Try.ntmps62 rfl ?_
  simp only [argL]
  refine sc_seq ?_
  refine sc_region ?_
  refine sq_box (by exact rfl) rfl (fun b1 => ?_)
  refine sq_alloc Try.zeroValue55 rfl (fun b2 => ?_)
  refine sq_nil ?_
  refine sx_then ?_
  refine sc_seq ?_
  refine sc_region ?_
  refine sq_y (OpY.s (by first | exact y_fab Try.underlying84 (by exact rfl) (by exact Try.sizeOf36) (by exact rfl) rfl | exact y_fa Try.underlying84 (by exact rfl) (by exact Try.sizeOf36) (by exact rfl) rfl)) rfl ?_
  refine sq_y (OpY.s (by first | exact y_fab Try.underlying36 (by exact rfl) (by exact Try.sizeOf29) (by exact rfl) rfl | exact y_fa Try.underlying36 (by exact rfl) (by exact Try.sizeOf29) (by exact rfl) rfl)) rfl ?_
  refine sq_y (OpY.s (by first | exact y_load_all Try.underlying29 rfl Try.sizeOf29 (by exact rfl) (by repeat (first | exact .head _ | refine .tail _ ?_)) (by exact rfl) | exact y_load_2 Try.underlying29 rfl Try.sizeOf29 (by exact rfl) (by repeat (first | exact .head _ | refine .tail _ ?_)) (by exact rfl) (by exact rfl) | exact y_load_ca Try.underlying29 rfl Try.sizeOf29 (by exact rfl) (by repeat (first | exact .head _ | refine .tail _ ?_)) (by assumption) (by exact rfl) | exact y_load_part Try.underlying29 rfl Try.sizeOf29 (by exact rfl) (by repeat (first | exact .head _ | refine .tail _ ?_)) rfl | exact y_load_capart Try.underlying29 rfl Try.sizeOf29 (by exact rfl) (by repeat (first | exact .head _ | refine .tail _ ?_)) (by assumption) rfl)) rfl ?_
  refine sq_y (OpY.s (by first | exact y_fab Try.underlying84 (by exact rfl) (by exact Try.sizeOf36) (by exact rfl) rfl | exact y_fa Try.underlying84 (by exact rfl) (by exact Try.sizeOf36) (by exact rfl) rfl)) rfl ?_
  refine sq_y (OpY.s (by first | exact y_fab Try.underlying36 (by exact rfl) (by exact Try.sizeOf29) (by exact rfl) rfl | exact y_fa Try.underlying36 (by exact rfl) (by exact Try.sizeOf29) (by exact rfl) rfl)) rfl ?_
  refine sq_y (OpY.s (by first | exact y_load_all Try.underlying29 rfl Try.sizeOf29 (by exact rfl) (by repeat (first | exact .head _ | refine .tail _ ?_)) (by exact rfl) | exact y_load_2 Try.underlying29 rfl Try.sizeOf29 (by exact rfl) (by repeat (first | exact .head _ | refine .tail _ ?_)) (by exact rfl) (by exact rfl) | exact y_load_ca Try.underlying29 rfl Try.sizeOf29 (by exact rfl) (by repeat (first | exact .head _ | refine .tail _ ?_)) (by assumption) (by exact rfl) | exact y_load_part Try.underlying29 rfl Try.sizeOf29 (by exact rfl) (by repeat (first | exact .head _ | refine .tail _ ?_)) rfl | exact y_load_capart Try.underlying29 rfl Try.sizeOf29 (by exact rfl) (by repeat (first | exact .head _ | refine .tail _ ?_)) (by assumption) rfl)) rfl ?_
  refine sq_y (y_call (first := []) (caps := []) (by exact rfl) Try.call60 (EvL.cons (by exact rfl) (EvL.cons (by exact rfl) EvL.nil)) (fun w1 _ => less60 w1 b.deep a.deep (by omega) (by omega))) rfl ?_
  refine sq_store_all Try.sizeOf55 (by exact rfl) (by exact rfl) rfl (by repeat (first | exact Rem.here | apply Rem.there)) rfl rfl ?_
  refine sq_nil ?_
  refine sx_then ?_
  refine sc_ret ?_
  refine sx_retc (.inl rfl) rfl Try.results62 Try.underlying55 rfl Try.sizeOf55 (by exact rfl) (by repeat (first | exact .head _ | refine .tail _ ?_)) rfl ?_
  intro w' hw'
  exact ⟨rfl, hw'.below (by repeat (first | exact .head _ | refine .tail _ ?_))⟩
theorem boI (i : Nat) (w : World) (p : Pl) (a b : Ed) (h : Ok p a b) : Calls Try.prog (fB i) #[.agg (coRow p a b).toArray] w fun e w' => e = .returned (.tuple #[.int .i64 (boV p i).lo, .int .i64 (boV p i).hi]) ∧ Below w.heap.size w w' := match i with
  | 0 => bounds55 w p a b h
  | 1 => bounds58 w p a b h
  | _ + 2 => bounds61 w p a b h
theorem byI (i : Nat) (w : World) (p : Pl) (a b : Ed) (h : Ok p a b) : Calls Try.prog (fY i) #[.agg (coRow p a b).toArray] w fun e w' => e = .returned (.agg (spRow (byV p a b i)).toArray) ∧ Below w.heap.size w w' := match i with
  | 0 => by56 w p a b h
  | 1 => by59 w p a b h
  | _ + 2 => by62 w p a b h
theorem always34 (i : Nat) (w : World) (p : Pl) (a b : Ed) (h : Ok p a b) : Calls Try.prog 34 #[.agg (coRow p a b).toArray, .iface (dT i) (.agg (coRow p a b).toArray)] w fun e w' => e = .returned (.bool (alwaysV p a b i)) ∧ Below w.heap.size w w' := by
  have hn := h.nums
  have hy := h.by i
  have hb := h.bo i
  have m1 := mul_abs (a := (byV p a b i).lo) (b := 1000 + p.damp.hi) (A := 30000) (B := 1100) (by omega) (by omega)
  have m2 := mul_abs (a := (byV p a b i).hi) (b := 1000 + p.damp.hi) (A := 30000) (B := 1100) (by omega) (by omega)
  refine calls_of_SC (args := [.agg (coRow p a b).toArray, .iface (dT i) (.agg (coRow p a b).toArray)]) Try.func34 rfl Try.ntmps34 rfl ?_
  simp only [argL, Nat.zero_add]
  refine sc_seq ?_
  refine sc_region ?_
  refine sq_box (by exact rfl) rfl (fun b2 => ?_)
  refine sq_y (OpY.s (y_assign (by exact rfl))) rfl ?_
  refine sq_nil ?_
  refine sx_then ?_
  refine sc_seq ?_
  refine sc_region ?_
  refine sq_y (OpY.s (y_move (by exact rfl))) rfl ?_
  refine sq_y (y_invoke (T := dT i) (by exact rfl) (meBo i _) (cgBo i) EvL.nil (fun w1 _ => boI i w1 p a b h)) rfl ?_
  refine sq_y (OpY.s (y_move (by exact rfl))) rfl ?_
  refine sq_y (OpY.s (y_extract (by exact rfl) (by exact rfl))) rfl ?_
  refine sq_y (OpY.s (y_extract (by exact rfl) (by exact rfl))) rfl ?_
  refine sq_y (OpY.s (y_assign (by exact rfl))) rfl ?_
  refine sq_y (OpY.s (y_assign (by exact rfl))) rfl ?_
  refine sq_nil ?_
  refine sx_then ?_
  refine sc_seq ?_
  refine sc_drawX ([.blk b2 (.cells (coRow p a b).toArray 61 (0, 0)), .reg 0 w]) (by kernel_rfl) ?_
  refine xj_s 0 (by exact rfl) (by kernel_rfl) (by repeat (first | exact Sel.nil | refine Sel.cons (by repeat (first | exact Rem.here | apply Rem.there)) ?_)) (y_move (by exact rfl)) rfl ?_
  refine xj_s 2 (by exact rfl) (by kernel_rfl) (by repeat (first | exact Sel.nil | refine Sel.cons (by repeat (first | exact Rem.here | apply Rem.there)) ?_)) (by first | exact y_fab Try.underlying61 (by exact rfl) (by exact Try.sizeOf34) (by exact rfl) rfl | exact y_fa Try.underlying61 (by exact rfl) (by exact Try.sizeOf34) (by exact rfl) rfl) rfl ?_
  refine xj_s 3 (by exact rfl) (by kernel_rfl) (by repeat (first | exact Sel.nil | refine Sel.cons (by repeat (first | exact Rem.here | apply Rem.there)) ?_)) (by first | exact y_fab Try.underlying34 (by exact rfl) (by exact Try.sizeOf29) (by exact rfl) rfl | exact y_fa Try.underlying34 (by exact rfl) (by exact Try.sizeOf29) (by exact rfl) rfl) rfl ?_
  refine xj_s 4 (by exact rfl) (by kernel_rfl) (by repeat (first | exact Sel.nil | refine Sel.cons (by repeat (first | exact Rem.here | apply Rem.there)) ?_)) (by first | exact y_fab Try.underlying29 (by exact rfl) (by exact Try.sizeOf3) (by exact rfl) rfl | exact y_fa Try.underlying29 (by exact rfl) (by exact Try.sizeOf3) (by exact rfl) rfl) rfl ?_
  refine xj_s 5 (by exact rfl) (by kernel_rfl) (by repeat (first | exact Sel.nil | refine Sel.cons (by repeat (first | exact Rem.here | apply Rem.there)) ?_)) (by first | exact y_load_cajj Try.underlying3 rfl (by exact rfl) (by repeat (first | exact .head _ | refine .tail _ ?_)) (by assumption) (by exact rfl) | exact y_load_blk Try.underlying3 rfl (by exact rfl) (by repeat (first | exact .head _ | refine .tail _ ?_)) (by exact rfl) | exact y_load_caj Try.underlying3 rfl (by exact rfl) (by repeat (first | exact .head _ | refine .tail _ ?_)) (by assumption) (by exact rfl) | exact y_load_ca0 Try.underlying3 rfl (by exact rfl) (by repeat (first | exact .head _ | refine .tail _ ?_)) (by assumption) (by exact rfl)) rfl ?_
  refine xj_s 6 (by exact rfl) (by kernel_rfl) (by repeat (first | exact Sel.nil | refine Sel.cons (by repeat (first | exact Rem.here | apply Rem.there)) ?_)) (y_add (by exact rfl) (by exact rfl) (by omega)) rfl ?_
  refine xj_all (l := [1, 7]) (by kernel_rfl) (by simp) (Each.cons ⟨_, rfl, ?_⟩ (Each.cons ⟨_, rfl, ?_⟩ Each.nil))
  ·
    refine sq_y (y_invoke (T := dT i) (by exact rfl) (meBy i _) (cgBy i) EvL.nil (fun w1 _ => byI i w1 p a b h)) rfl ?_
    refine sq_nil ?_
    refine sx_xp (by repeat (first | exact Sel.nil | refine Sel.cons (by repeat (first | exact Rem.here | apply Rem.there)) ?_)) ?_
    refine xj_one 7 (by exact rfl) (by kernel_rfl) ?_
    refine sq_alloc Try.zeroValue55 rfl (fun b7 => ?_)
    refine sq_nil ?_
    refine sx_xp (by repeat (first | exact Sel.nil | refine Sel.cons (by repeat (first | exact Rem.here | apply Rem.there)) ?_)) ?_
    refine xj_one 8 (by exact rfl) (by kernel_rfl) ?_
    refine sq_store_all Try.sizeOf55 (by exact rfl) (by exact rfl) rfl (by repeat (first | exact Rem.here | apply Rem.there)) rfl rfl ?_
    refine sq_nil ?_
    refine sx_xp (by repeat (first | exact Sel.nil | refine Sel.cons (by repeat (first | exact Rem.here | apply Rem.there)) ?_)) ?_
    refine xj_s 9 (by exact rfl) (by kernel_rfl) (by repeat (first | exact Sel.nil | refine Sel.cons (by repeat (first | exact Rem.here | apply Rem.there)) ?_)) (y_assign (by exact rfl)) rfl ?_
    refine xj_done (by kernel_rfl) ?_
    refine sx_then ?_
    refine sc_seq ?_
    refine sc_region ?_
    refine sq_y (OpY.s (by first | exact y_fab Try.underlying55 (by exact rfl) (by exact Try.sizeOf3) (by exact rfl) rfl | exact y_fa Try.underlying55 (by exact rfl) (by exact Try.sizeOf3) (by exact rfl) rfl)) rfl ?_
    refine sq_y (OpY.s (by first | exact y_load_cajj Try.underlying3 rfl (by exact rfl) (by repeat (first | exact .head _ | refine .tail _ ?_)) (by assumption) (by exact rfl) | exact y_load_blk Try.underlying3 rfl (by exact rfl) (by repeat (first | exact .head _ | refine .tail _ ?_)) (by exact rfl) | exact y_load_caj Try.underlying3 rfl (by exact rfl) (by repeat (first | exact .head _ | refine .tail _ ?_)) (by assumption) (by exact rfl) | exact y_load_ca0 Try.underlying3 rfl (by exact rfl) (by repeat (first | exact .head _ | refine .tail _ ?_)) (by assumption) (by exact rfl))) rfl ?_
    refine sq_y (OpY.s (y_move (by exact rfl))) rfl ?_
    refine sq_y (OpY.s (y_mul (by exact rfl) (by exact rfl) (by omega))) rfl ?_
    refine sq_y (OpY.s (y_move (by exact rfl))) rfl ?_
    refine sq_y (OpY.s (y_mul (by exact rfl) (by exact rfl) (by omega))) rfl ?_
    refine sq_y (OpY.s (y_geq (by exact rfl) (by exact rfl))) rfl ?_
    refine sq_y (OpY.s (y_move (by exact rfl))) rfl ?_
    first | refine sq_splitd (tt := 28) (by exact rfl) (fun hg3_7 => ?_) (fun hg3_7 => ?_) | refine sq_splitn (tt := 28) (by exact rfl) (fun hg3_7 => ?_) (fun hg3_7 => ?_) | refine sq_split (tt := 28) (by exact rfl) (fun hg3_7 => ?_) (fun hg3_7 => ?_)
    ·
      refine sq_gt (by exact rfl) (by exact rfl) (OpY.s (by first | exact y_fab Try.underlying55 (by exact rfl) (by exact Try.sizeOf3) (by exact rfl) rfl | exact y_fa Try.underlying55 (by exact rfl) (by exact Try.sizeOf3) (by exact rfl) rfl)) rfl ?_
      refine sq_gt (by exact rfl) (by exact rfl) (OpY.s (by first | exact y_load_cajj Try.underlying3 rfl (by exact rfl) (by repeat (first | exact .head _ | refine .tail _ ?_)) (by assumption) (by exact rfl) | exact y_load_blk Try.underlying3 rfl (by exact rfl) (by repeat (first | exact .head _ | refine .tail _ ?_)) (by exact rfl) | exact y_load_caj Try.underlying3 rfl (by exact rfl) (by repeat (first | exact .head _ | refine .tail _ ?_)) (by assumption) (by exact rfl) | exact y_load_ca0 Try.underlying3 rfl (by exact rfl) (by repeat (first | exact .head _ | refine .tail _ ?_)) (by assumption) (by exact rfl))) rfl ?_
      refine sq_gt (by exact rfl) (by exact rfl) (OpY.s (y_move (by exact rfl))) rfl ?_
      refine sq_gt (by exact rfl) (by exact rfl) (OpY.s (y_mul (by exact rfl) (by exact rfl) (by omega))) rfl ?_
      refine sq_gt (by exact rfl) (by exact rfl) (OpY.s (y_move (by exact rfl))) rfl ?_
      refine sq_gt (by exact rfl) (by exact rfl) (OpY.s (y_mul (by exact rfl) (by exact rfl) (by omega))) rfl ?_
      refine sq_gt (by exact rfl) (by exact rfl) (OpY.s (y_leq (by exact rfl) (by exact rfl))) rfl ?_
      refine sq_y (OpY.s (y_pick_t (by exact rfl) (by exact rfl))) rfl ?_
      refine sq_y (OpY.s (y_assign (by exact rfl))) rfl ?_
      refine sq_nil ?_
      refine sx_then ?_
      refine sc_ret ?_
      refine sx_ret1 (.inl rfl) rfl Try.results34 (by exact rfl) ?_
      intro w' hw'
      refine ⟨?_, hw'.below (by repeat (first | exact .head _ | refine .tail _ ?_))⟩
      simp [alwaysV, *]
    ·
      refine sq_gf (by exact rfl) (by exact rfl) (by exact rfl) rfl ?_
      refine sq_gf (by exact rfl) (by exact rfl) (by exact rfl) rfl ?_
      refine sq_gf (by exact rfl) (by exact rfl) (by exact rfl) rfl ?_
      refine sq_gf (by exact rfl) (by exact rfl) (by exact rfl) rfl ?_
      refine sq_gf (by exact rfl) (by exact rfl) (by exact rfl) rfl ?_
      refine sq_gf (by exact rfl) (by exact rfl) (by exact rfl) rfl ?_
      refine sq_gf (by exact rfl) (by exact rfl) (by exact rfl) rfl ?_
      refine sq_y (OpY.s (y_pick_f (by exact rfl) (by exact rfl))) rfl ?_
      refine sq_y (OpY.s (y_assign (by exact rfl))) rfl ?_
      refine sq_nil ?_
      refine sx_then ?_
      refine sc_ret ?_
      refine sx_ret1 (.inl rfl) rfl Try.results34 (by exact rfl) ?_
      intro w' hw'
      refine ⟨?_, hw'.below (by repeat (first | exact .head _ | refine .tail _ ?_))⟩
      simp [alwaysV, *]
  ·
    refine sq_alloc Try.zeroValue55 rfl (fun b7 => ?_)
    refine sq_nil ?_
    refine sx_xp (by repeat (first | exact Sel.nil | refine Sel.cons (by repeat (first | exact Rem.here | apply Rem.there)) ?_)) ?_
    refine xj_one 1 (by exact rfl) (by kernel_rfl) ?_
    refine sq_y (y_invoke (T := dT i) (by exact rfl) (meBy i _) (cgBy i) EvL.nil (fun w1 _ => byI i w1 p a b h)) rfl ?_
    refine sq_nil ?_
    refine sx_xp (by repeat (first | exact Sel.nil | refine Sel.cons (by repeat (first | exact Rem.here | apply Rem.there)) ?_)) ?_
    refine xj_one 8 (by exact rfl) (by kernel_rfl) ?_
    refine sq_store_all Try.sizeOf55 (by exact rfl) (by exact rfl) rfl (by repeat (first | exact Rem.here | apply Rem.there)) rfl rfl ?_
    refine sq_nil ?_
    refine sx_xp (by repeat (first | exact Sel.nil | refine Sel.cons (by repeat (first | exact Rem.here | apply Rem.there)) ?_)) ?_
    refine xj_s 9 (by exact rfl) (by kernel_rfl) (by repeat (first | exact Sel.nil | refine Sel.cons (by repeat (first | exact Rem.here | apply Rem.there)) ?_)) (y_assign (by exact rfl)) rfl ?_
    refine xj_done (by kernel_rfl) ?_
    refine sx_then ?_
    refine sc_seq ?_
    refine sc_region ?_
    refine sq_y (OpY.s (by first | exact y_fab Try.underlying55 (by exact rfl) (by exact Try.sizeOf3) (by exact rfl) rfl | exact y_fa Try.underlying55 (by exact rfl) (by exact Try.sizeOf3) (by exact rfl) rfl)) rfl ?_
    refine sq_y (OpY.s (by first | exact y_load_cajj Try.underlying3 rfl (by exact rfl) (by repeat (first | exact .head _ | refine .tail _ ?_)) (by assumption) (by exact rfl) | exact y_load_blk Try.underlying3 rfl (by exact rfl) (by repeat (first | exact .head _ | refine .tail _ ?_)) (by exact rfl) | exact y_load_caj Try.underlying3 rfl (by exact rfl) (by repeat (first | exact .head _ | refine .tail _ ?_)) (by assumption) (by exact rfl) | exact y_load_ca0 Try.underlying3 rfl (by exact rfl) (by repeat (first | exact .head _ | refine .tail _ ?_)) (by assumption) (by exact rfl))) rfl ?_
    refine sq_y (OpY.s (y_move (by exact rfl))) rfl ?_
    refine sq_y (OpY.s (y_mul (by exact rfl) (by exact rfl) (by omega))) rfl ?_
    refine sq_y (OpY.s (y_move (by exact rfl))) rfl ?_
    refine sq_y (OpY.s (y_mul (by exact rfl) (by exact rfl) (by omega))) rfl ?_
    refine sq_y (OpY.s (y_geq (by exact rfl) (by exact rfl))) rfl ?_
    refine sq_y (OpY.s (y_move (by exact rfl))) rfl ?_
    first | refine sq_splitd (tt := 28) (by exact rfl) (fun hg3_7 => ?_) (fun hg3_7 => ?_) | refine sq_splitn (tt := 28) (by exact rfl) (fun hg3_7 => ?_) (fun hg3_7 => ?_) | refine sq_split (tt := 28) (by exact rfl) (fun hg3_7 => ?_) (fun hg3_7 => ?_)
    ·
      refine sq_gt (by exact rfl) (by exact rfl) (OpY.s (by first | exact y_fab Try.underlying55 (by exact rfl) (by exact Try.sizeOf3) (by exact rfl) rfl | exact y_fa Try.underlying55 (by exact rfl) (by exact Try.sizeOf3) (by exact rfl) rfl)) rfl ?_
      refine sq_gt (by exact rfl) (by exact rfl) (OpY.s (by first | exact y_load_cajj Try.underlying3 rfl (by exact rfl) (by repeat (first | exact .head _ | refine .tail _ ?_)) (by assumption) (by exact rfl) | exact y_load_blk Try.underlying3 rfl (by exact rfl) (by repeat (first | exact .head _ | refine .tail _ ?_)) (by exact rfl) | exact y_load_caj Try.underlying3 rfl (by exact rfl) (by repeat (first | exact .head _ | refine .tail _ ?_)) (by assumption) (by exact rfl) | exact y_load_ca0 Try.underlying3 rfl (by exact rfl) (by repeat (first | exact .head _ | refine .tail _ ?_)) (by assumption) (by exact rfl))) rfl ?_
      refine sq_gt (by exact rfl) (by exact rfl) (OpY.s (y_move (by exact rfl))) rfl ?_
      refine sq_gt (by exact rfl) (by exact rfl) (OpY.s (y_mul (by exact rfl) (by exact rfl) (by omega))) rfl ?_
      refine sq_gt (by exact rfl) (by exact rfl) (OpY.s (y_move (by exact rfl))) rfl ?_
      refine sq_gt (by exact rfl) (by exact rfl) (OpY.s (y_mul (by exact rfl) (by exact rfl) (by omega))) rfl ?_
      refine sq_gt (by exact rfl) (by exact rfl) (OpY.s (y_leq (by exact rfl) (by exact rfl))) rfl ?_
      refine sq_y (OpY.s (y_pick_t (by exact rfl) (by exact rfl))) rfl ?_
      refine sq_y (OpY.s (y_assign (by exact rfl))) rfl ?_
      refine sq_nil ?_
      refine sx_then ?_
      refine sc_ret ?_
      refine sx_ret1 (.inl rfl) rfl Try.results34 (by exact rfl) ?_
      intro w' hw'
      refine ⟨?_, hw'.below (by repeat (first | exact .head _ | refine .tail _ ?_))⟩
      simp [alwaysV, *]
    ·
      refine sq_gf (by exact rfl) (by exact rfl) (by exact rfl) rfl ?_
      refine sq_gf (by exact rfl) (by exact rfl) (by exact rfl) rfl ?_
      refine sq_gf (by exact rfl) (by exact rfl) (by exact rfl) rfl ?_
      refine sq_gf (by exact rfl) (by exact rfl) (by exact rfl) rfl ?_
      refine sq_gf (by exact rfl) (by exact rfl) (by exact rfl) rfl ?_
      refine sq_gf (by exact rfl) (by exact rfl) (by exact rfl) rfl ?_
      refine sq_gf (by exact rfl) (by exact rfl) (by exact rfl) rfl ?_
      refine sq_y (OpY.s (y_pick_f (by exact rfl) (by exact rfl))) rfl ?_
      refine sq_y (OpY.s (y_assign (by exact rfl))) rfl ?_
      refine sq_nil ?_
      refine sx_then ?_
      refine sc_ret ?_
      refine sx_ret1 (.inl rfl) rfl Try.results34 (by exact rfl) ?_
      intro w' hw'
      refine ⟨?_, hw'.below (by repeat (first | exact .head _ | refine .tail _ ?_))⟩
      simp [alwaysV, *]
theorem perhaps35 (i : Nat) (w : World) (p : Pl) (a b : Ed) (h : Ok p a b) : Calls Try.prog 35 #[.agg (coRow p a b).toArray, .iface (dT i) (.agg (coRow p a b).toArray)] w fun e w' => e = .returned (.bool (perhapsV p a b i)) ∧ Below w.heap.size w w' := by
  have hn := h.nums
  have hy := h.by i
  have hb := h.bo i
  have m1 := mul_abs (a := min (max 0 (byV p a b i).lo) (byV p a b i).hi) (b := 1000 + p.damp.lo) (A := 30000) (B := 1100) (by omega) (by omega)
  refine calls_of_SC (args := [.agg (coRow p a b).toArray, .iface (dT i) (.agg (coRow p a b).toArray)]) Try.func35 rfl Try.ntmps35 rfl ?_
  simp only [argL, Nat.zero_add]
  refine sc_seq ?_
  refine sc_region ?_
  refine sq_box (by exact rfl) rfl (fun b2 => ?_)
  refine sq_y (OpY.s (y_assign (by exact rfl))) rfl ?_
  refine sq_nil ?_
  refine sx_then ?_
  refine sc_seq ?_
  refine sc_region ?_
  refine sq_y (OpY.s (y_move (by exact rfl))) rfl ?_
  refine sq_y (y_invoke (T := dT i) (by exact rfl) (meBo i _) (cgBo i) EvL.nil (fun w1 _ => boI i w1 p a b h)) rfl ?_
  refine sq_y (OpY.s (y_move (by exact rfl))) rfl ?_
  refine sq_y (OpY.s (y_extract (by exact rfl) (by exact rfl))) rfl ?_
  refine sq_y (OpY.s (y_extract (by exact rfl) (by exact rfl))) rfl ?_
  refine sq_y (OpY.s (y_assign (by exact rfl))) rfl ?_
  refine sq_y (OpY.s (y_assign (by exact rfl))) rfl ?_
  refine sq_nil ?_
  refine sx_then ?_
  refine sc_seq ?_
  refine sc_region ?_
  refine sq_y (OpY.s (y_move (by exact rfl))) rfl ?_
  refine sq_y (y_invoke (T := dT i) (by exact rfl) (meBy i _) (cgBy i) EvL.nil (fun w1 _ => byI i w1 p a b h)) rfl ?_
  refine sq_alloc Try.zeroValue55 rfl (fun b7 => ?_)
  refine sq_store_all Try.sizeOf55 (by exact rfl) (by exact rfl) rfl (by repeat (first | exact Rem.here | apply Rem.there)) rfl rfl ?_
  refine sq_nil ?_
  refine sx_then ?_
  refine sc_seq ?_
  refine sc_region ?_
  refine sq_y (OpY.s (by first | exact y_fab Try.underlying55 (by exact rfl) (by exact Try.sizeOf3) (by exact rfl) rfl | exact y_fa Try.underlying55 (by exact rfl) (by exact Try.sizeOf3) (by exact rfl) rfl)) rfl ?_
  refine sq_y (OpY.s (by first | exact y_load_cajj Try.underlying3 rfl (by exact rfl) (by repeat (first | exact .head _ | refine .tail _ ?_)) (by assumption) (by exact rfl) | exact y_load_blk Try.underlying3 rfl (by exact rfl) (by repeat (first | exact .head _ | refine .tail _ ?_)) (by exact rfl) | exact y_load_caj Try.underlying3 rfl (by exact rfl) (by repeat (first | exact .head _ | refine .tail _ ?_)) (by assumption) (by exact rfl) | exact y_load_ca0 Try.underlying3 rfl (by exact rfl) (by repeat (first | exact .head _ | refine .tail _ ?_)) (by assumption) (by exact rfl))) rfl ?_
  refine sq_y (OpY.s (y_max (by exact rfl) (by exact rfl))) rfl ?_
  refine sq_y (OpY.s (by first | exact y_fab Try.underlying55 (by exact rfl) (by exact Try.sizeOf3) (by exact rfl) rfl | exact y_fa Try.underlying55 (by exact rfl) (by exact Try.sizeOf3) (by exact rfl) rfl)) rfl ?_
  refine sq_y (OpY.s (by first | exact y_load_cajj Try.underlying3 rfl (by exact rfl) (by repeat (first | exact .head _ | refine .tail _ ?_)) (by assumption) (by exact rfl) | exact y_load_blk Try.underlying3 rfl (by exact rfl) (by repeat (first | exact .head _ | refine .tail _ ?_)) (by exact rfl) | exact y_load_caj Try.underlying3 rfl (by exact rfl) (by repeat (first | exact .head _ | refine .tail _ ?_)) (by assumption) (by exact rfl) | exact y_load_ca0 Try.underlying3 rfl (by exact rfl) (by repeat (first | exact .head _ | refine .tail _ ?_)) (by assumption) (by exact rfl))) rfl ?_
  refine sq_y (OpY.s (y_min (by exact rfl) (by exact rfl))) rfl ?_
  refine sq_y (OpY.s (by first | exact y_fab Try.underlying61 (by exact rfl) (by exact Try.sizeOf34) (by exact rfl) rfl | exact y_fa Try.underlying61 (by exact rfl) (by exact Try.sizeOf34) (by exact rfl) rfl)) rfl ?_
  refine sq_y (OpY.s (by first | exact y_fab Try.underlying34 (by exact rfl) (by exact Try.sizeOf29) (by exact rfl) rfl | exact y_fa Try.underlying34 (by exact rfl) (by exact Try.sizeOf29) (by exact rfl) rfl)) rfl ?_
  refine sq_y (OpY.s (by first | exact y_fab Try.underlying29 (by exact rfl) (by exact Try.sizeOf3) (by exact rfl) rfl | exact y_fa Try.underlying29 (by exact rfl) (by exact Try.sizeOf3) (by exact rfl) rfl)) rfl ?_
  refine sq_y (OpY.s (by first | exact y_load_cajj Try.underlying3 rfl (by exact rfl) (by repeat (first | exact .head _ | refine .tail _ ?_)) (by assumption) (by exact rfl) | exact y_load_blk Try.underlying3 rfl (by exact rfl) (by repeat (first | exact .head _ | refine .tail _ ?_)) (by exact rfl) | exact y_load_caj Try.underlying3 rfl (by exact rfl) (by repeat (first | exact .head _ | refine .tail _ ?_)) (by assumption) (by exact rfl) | exact y_load_ca0 Try.underlying3 rfl (by exact rfl) (by repeat (first | exact .head _ | refine .tail _ ?_)) (by assumption) (by exact rfl))) rfl ?_
  refine sq_y (OpY.s (y_add (by exact rfl) (by exact rfl) (by omega))) rfl ?_
  refine sq_y (OpY.s (y_mul (by exact rfl) (by exact rfl) (by omega))) rfl ?_
  refine sq_y (OpY.s (y_assign (by exact rfl))) rfl ?_
  refine sq_nil ?_
  refine sx_then ?_
  refine sc_seq ?_
  refine sc_region ?_
  refine sq_y (OpY.s (y_move (by exact rfl))) rfl ?_
  refine sq_y (OpY.s (y_mul (by exact rfl) (by exact rfl) (by omega))) rfl ?_
  refine sq_y (OpY.s (y_move (by exact rfl))) rfl ?_
  refine sq_y (OpY.s (y_leq (by exact rfl) (by exact rfl))) rfl ?_
  refine sq_y (OpY.s (y_move (by exact rfl))) rfl ?_
  first | refine sq_splitd (tt := 32) (by exact rfl) (fun hg4_4 => ?_) (fun hg4_4 => ?_) | refine sq_splitn (tt := 32) (by exact rfl) (fun hg4_4 => ?_) (fun hg4_4 => ?_) | refine sq_split (tt := 32) (by exact rfl) (fun hg4_4 => ?_) (fun hg4_4 => ?_)
  ·
    refine sq_gt (by exact rfl) (by exact rfl) (OpY.s (y_move (by exact rfl))) rfl ?_
    refine sq_gt (by exact rfl) (by exact rfl) (OpY.s (y_move (by exact rfl))) rfl ?_
    refine sq_gt (by exact rfl) (by exact rfl) (OpY.s (y_mul (by exact rfl) (by exact rfl) (by omega))) rfl ?_
    refine sq_gt (by exact rfl) (by exact rfl) (OpY.s (y_leq (by exact rfl) (by exact rfl))) rfl ?_
    refine sq_y (OpY.s (y_pick_t (by exact rfl) (by exact rfl))) rfl ?_
    refine sq_y (OpY.s (y_assign (by exact rfl))) rfl ?_
    refine sq_nil ?_
    refine sx_then ?_
    refine sc_ret ?_
    refine sx_ret1 (.inl rfl) rfl Try.results35 (by exact rfl) ?_
    intro w' hw'
    refine ⟨?_, hw'.below (by repeat (first | exact .head _ | refine .tail _ ?_))⟩
    unfold perhapsV bestV; rw [decide_eq_true hg4_4, Bool.true_and]
  ·
    refine sq_gf (by exact rfl) (by exact rfl) (by exact rfl) rfl ?_
    refine sq_gf (by exact rfl) (by exact rfl) (by exact rfl) rfl ?_
    refine sq_gf (by exact rfl) (by exact rfl) (by exact rfl) rfl ?_
    refine sq_gf (by exact rfl) (by exact rfl) (by exact rfl) rfl ?_
    refine sq_y (OpY.s (y_pick_f (by exact rfl) (by exact rfl))) rfl ?_
    refine sq_y (OpY.s (y_assign (by exact rfl))) rfl ?_
    refine sq_nil ?_
    refine sx_then ?_
    refine sc_ret ?_
    refine sx_ret1 (.inl rfl) rfl Try.results35 (by exact rfl) ?_
    intro w' hw'
    refine ⟨?_, hw'.below (by repeat (first | exact .head _ | refine .tail _ ?_))⟩
    unfold perhapsV bestV; rw [decide_eq_false hg4_4, Bool.false_and]
end Go.Proofs.Ytcgbdecgdddnkaa
