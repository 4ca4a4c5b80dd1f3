/- The walks of the laws PressSheets, PressRuns and PressBests. -/
import Derived.Test.YtjlbpmcacopbpaaWalk17
namespace Go.Proofs.Ytjlbpmcacopbpaa
open Go Go.Eng Go.RowKit Go.Proofs
set_option maxRecDepth 100000

theorem sheets3 (w : World) (a : Option Addr) (c : Nat) (l : List Sf) (hl : RowsA sfRow 4 0 w a l) (s : Sp) (n need : Int) : Calls Try.prog 3 #[.slice a l.length c, .agg (spRow s).toArray, .int .i64 n, .int .i64 need] w fun e w' => e = .returned (.bool true) ∧ Below w.heap.size w w' := by
  refine calls_of_SC (args := [.slice a l.length c, .agg (spRow s).toArray, .int .i64 n, .int .i64 need]) Try.func3 rfl Try.ntmps3 rfl ?_
  simp only [argL, Nat.reduceAdd, Nat.zero_add]
  refine sc_seq ?_
  refine sc_region ?_
  refine sq_box RF rfl (fun b5 => ?_)
  refine qs (y_assign RF) ?_
  refine sq_nil ?_
  refine sx_then ?_
  refine sc_seq ?_
  refine sc_seq ?_
  refine sc_region ?_
  refine qs (y_move RF) ?_
  refine qs (y_len Try.underlying22 RF) ?_
  refine qs (y_gtr RF RF) ?_
  refine sq_nil ?_
  refine sx_then ?_
  refine scp (fun hc0 => ?_) (fun hc0 => ?_)
  ·
    refine sc_seq ?_
    refine sc_region ?_
    refine qy (yc Try.call13 E0 (fun w1 _ => awake13 w1)) ?_
    refine qs (y_assign RF) ?_
    refine sq_nil ?_
    refine sx_then ?_
    refine sc_ret ?_
    refine sx_then_ret ?_
    refine sx_ret1 (.inl rfl) rfl Try.results3 RF ?_
    intro w' hw'
    exact ⟨rfl, hw'.below MM⟩
  ·
    refine sc_skip ?_
    refine sx_then ?_
    refine sc_seq ?_
    refine sc_region ?_
    refine qs (y_move RF) ?_
    refine qy (yc Try.call14 E1 (fun w1 hw1 => fringe14 w1 a c l (hl.at hw1 MM))) ?_
    refine qs (y_move RF) ?_
    refine qs (y_extract RF RF) ?_
    refine qs (y_extract RF RF) ?_
    refine qs (y_extract RF RF) ?_
    refine sq_alloc Try.zeroValue24 rfl (fun b9 => ?_)
    refine sq_alloc Try.zeroValue24 rfl (fun b10 => ?_)
    refine sq_store_all Try.sizeOf24 RF RF rfl RM rfl rfl ?_
    refine sq_store_all Try.sizeOf24 RF RF rfl RM rfl rfl ?_
    refine qs (y_assign RF) ?_
    refine sq_nil ?_
    refine sx_then ?_
    refine sc_seq ?_
    refine sc_region ?_
    refine qs (y_move RF) ?_
    refine qy (yc Try.call15 E1 (fun w1 hw1 => fringe15 w1 a c l (hl.at hw1 MM))) ?_
    refine qs (y_move RF) ?_
    refine qs (y_extract RF RF) ?_
    refine qs (y_extract RF RF) ?_
    refine qs (y_extract RF RF) ?_
    refine sq_alloc Try.zeroValue24 rfl (fun b12 => ?_)
    refine sq_alloc Try.zeroValue24 rfl (fun b13 => ?_)
    refine sq_store_all Try.sizeOf24 RF RF rfl RM rfl rfl ?_
    refine sq_store_all Try.sizeOf24 RF RF rfl RM rfl rfl ?_
    refine qs (y_assign RF) ?_
    refine sq_nil ?_
    refine sx_then ?_
    refine sc_seq ?_
    refine sc_region ?_
    refine qs LD24 ?_
    refine qs (y_move RF) ?_
    refine qy (yc Try.call16 E2 (fun w1 _ => good16 w1 s n)) ?_
    refine qs (y_move RF) ?_
    refine qs (y_extract RF RF) ?_
    refine qs (y_extract RF RF) ?_
    refine sq_alloc Try.zeroValue24 rfl (fun b15 => ?_)
    refine sq_store_all Try.sizeOf24 RF RF rfl RM rfl rfl ?_
    refine qs (y_assign RF) ?_
    refine sq_nil ?_
    refine sx_then ?_
    refine sc_seq ?_
    refine sc_region ?_
    refine qs LD24 ?_
    refine qs (y_move RF) ?_
    refine qy (yc Try.call17 E2 (fun w1 _ => good17 w1 s n)) ?_
    refine qs (y_move RF) ?_
    refine qs (y_extract RF RF) ?_
    refine qs (y_extract RF RF) ?_
    refine sq_alloc Try.zeroValue24 rfl (fun b17 => ?_)
    refine sq_store_all Try.sizeOf24 RF RF rfl RM rfl rfl ?_
    refine qs (y_assign RF) ?_
    refine sq_nil ?_
    refine sx_then ?_
    refine sc_seq ?_
    refine sc_region ?_
    refine qs LD24 ?_
    refine qs (y_move RF) ?_
    refine qy (yc Try.call18 E2 (fun w1 _ => sheets18 w1 s need)) ?_
    refine qs (y_move RF) ?_
    refine qs (y_extract RF RF) ?_
    refine qs (y_extract RF RF) ?_
    refine qs (y_assign RF) ?_
    refine qs (y_assign RF) ?_
    refine sq_nil ?_
    refine sx_then ?_
    refine sc_seq ?_
    refine sc_region ?_
    refine qs LD24 ?_
    refine qs (y_move RF) ?_
    refine qy (yc Try.call19 E2 (fun w1 _ => sheets19 w1 s need)) ?_
    refine qs (y_move RF) ?_
    refine qs (y_extract RF RF) ?_
    refine qs (y_extract RF RF) ?_
    refine qs (y_assign RF) ?_
    refine qs (y_assign RF) ?_
    refine sq_nil ?_
    refine sx_then ?_
    refine sc_seq ?_
    refine sc_region ?_
    refine qs LD24 ?_
    refine qs LD24 ?_
    refine qs (y_eqls (by kernel_rfl) RF RF (eql24 _ _ _ _)) ?_
    refine qs (y_move RF) ?_
    refine sq_known (tt := 66) (b' := true) RF (by simp) ?_
    refine qg LD24 ?_
    refine qg LD24 ?_
    refine qg (y_eqls (by kernel_rfl) RF RF (eql24 _ _ _ _)) ?_
    refine qs (y_pick_t RF RF) ?_
    refine qs (y_move RF) ?_
    refine sq_known (tt := 71) (b' := true) RF (by simp) ?_
    refine qg (y_move RF) ?_
    refine qg (y_move RF) ?_
    refine qg (y_eql RF RF) ?_
    refine qs (y_pick_t RF RF) ?_
    refine qs (y_move RF) ?_
    refine sq_known (tt := 76) (b' := true) RF (by simp) ?_
    refine qg LD24 ?_
    refine qg LD24 ?_
    refine qg (y_eqls (by kernel_rfl) RF RF (eql24 _ _ _ _)) ?_
    refine qs (y_pick_t RF RF) ?_
    refine qs (y_move RF) ?_
    refine sq_known (tt := 81) (b' := true) RF (by simp) ?_
    refine qg (y_move RF) ?_
    refine qg (y_move RF) ?_
    refine qg (y_eql RF RF) ?_
    refine qs (y_pick_t RF RF) ?_
    refine qs (y_move RF) ?_
    refine sq_known (tt := 86) (b' := true) RF (by simp) ?_
    refine qg (y_move RF) ?_
    refine qg (y_move RF) ?_
    refine qg (y_eql RF RF) ?_
    refine qs (y_pick_t RF RF) ?_
    refine qs (y_move RF) ?_
    refine sq_known (tt := 91) (b' := true) RF (by simp) ?_
    refine qg (y_move RF) ?_
    refine qg (y_move RF) ?_
    refine qg (y_eql RF RF) ?_
    refine qs (y_pick_t RF RF) ?_
    refine qs (y_move RF) ?_
    refine sq_known (tt := 96) (b' := true) RF (by simp) ?_
    refine sq_gt RF RF (y_call (first := []) (caps := []) RF Try.call13 EvL.nil (fun w1 _ => awake13 w1)) rfl ?_
    refine qs (y_pick_t RF RF) ?_
    refine qs (y_assign RF) ?_
    refine sq_nil ?_
    refine sx_then ?_
    refine sc_ret ?_
    refine sx_ret1 (.inl rfl) rfl Try.results3 RF ?_
    intro w' hw'
    exact ⟨rfl, hw'.below MM⟩
theorem runs4 (w : World) (a : Option Addr) (c : Nat) (l : List Jb) (hl : RowsA jbRow 5 0 w a l) (ao : Option Addr) (co : Nat) (o : List Int) (ho : RowsA iRow 1 0 w ao o) : Calls Try.prog 4 #[.slice a l.length c, .slice ao o.length co] w fun e w' => e = .returned (.bool true) ∧ Below w.heap.size w w' := by
  refine calls_of_SC (args := [.slice a l.length c, .slice ao o.length co]) Try.func4 rfl Try.ntmps4 rfl ?_
  simp only [argL, Nat.zero_add]
  refine sc_seq ?_
  refine sc_region ?_
  refine qs (y_assign RF) ?_
  refine sq_nil ?_
  refine sx_then ?_
  refine sc_seq ?_
  refine sc_seq ?_
  refine sc_midE (Z := {v : Bool // v = (decide (12 < (l.length : Int)) || decide (12 < (o.length : Int)))}) (fun v => [(0, .slice a l.length c), (1, .slice ao o.length co), (28, .bool v.1)]) (fun _ => [.reg 0 w]) ?_ ?_
  ·
    refine sc_region ?_
    refine qs (y_move RF) ?_
    refine qs (y_len Try.underlying34 RF) ?_
    refine qs (y_gtr RF RF) ?_
    refine qs (y_move RF) ?_
    refine sp 24 (fun hg1_3 => ?_) (fun hg1_3 => ?_)
    ·
      refine qf ?_
      refine qf ?_
      refine qf ?_
      refine qs (y_pick_t RF RF) ?_
      refine sq_nil ?_
      exact sx_midE (⟨true, by symm; rw [Bool.or_eq_true]; exact .inl (decide_eq_true (by omega))⟩) SU SR
    ·
      refine qg (y_move RF) ?_
      refine qg (y_len Try.underlying35 RF) ?_
      refine qg (y_gtr RF RF) ?_
      refine qs (y_pick_f RF RF) ?_
      refine sq_nil ?_
      exact sx_midE (⟨_, by rw [decide_eq_false (show ¬ 12 < (l.length : Int) by omega), Bool.false_or]⟩) SU SR
  rintro ⟨vb, hvb⟩
  try dsimp only
  refine sx_then ?_
  refine scp (fun hc0 => ?_) (fun hc0 => ?_)
  ·
    refine sc_seq ?_
    refine sc_region ?_
    refine qy (yc Try.call13 E0 (fun w1 _ => awake13 w1)) ?_
    refine qs (y_assign RF) ?_
    refine sq_nil ?_
    refine sx_then ?_
    refine sc_ret ?_
    refine sx_then_ret ?_
    refine sx_ret1 (.inl rfl) rfl Try.results4 RF ?_
    intro w' hw'
    exact ⟨rfl, hw'.below MM⟩
  ·
    have h12 : o.length ≤ 1000 := by
      have hv2 : vb = false := hc0
      rw [hvb, Bool.or_eq_false_iff] at hv2
      have := of_decide_eq_false hv2.2; omega
    refine sc_skip ?_
    refine sx_then ?_
    refine sc_seq ?_
    refine sc_region ?_
    refine qs (y_move RF) ?_
    refine qs (y_move RF) ?_
    refine sq_call_new (first := []) (caps := []) (Z := Option Addr × Nat) (fun z => .tuple #[.slice z.1 (runR l o).1.length z.2, .int .i64 (runR l o).2]) (fun lo w' z => RowsA spRow 2 lo w' z.1 (runR l o).1) RF Try.call20 (EvL.cons RF (EvL.cons RF EvL.nil)) (fun w1 hw1 => run20s w1 a c l (hl.at hw1 MM) ao co o (ho.at hw1 MM) h12) rfl (fun lo1 wr1 z1 hz1 => ?_)
    refine qs (y_move RF) ?_
    refine qs (y_extract RF RF) ?_
    refine qs (y_extract RF RF) ?_
    refine qs (y_assign RF) ?_
    refine qs (y_assign RF) ?_
    refine sq_nil ?_
    refine sx_then ?_
    refine sc_seq ?_
    refine sc_region ?_
    refine qs (y_move RF) ?_
    refine qs (y_move RF) ?_
    refine sq_call_new (first := []) (caps := []) (Z := Option Addr × Nat) (fun z => .tuple #[.slice z.1 (runR l o).1.length z.2, .int .i64 (runR l o).2]) (fun lo w' z => RowsA spRow 2 lo w' z.1 (runR l o).1) RF Try.call21 (EvL.cons RF (EvL.cons RF EvL.nil)) (fun w1 hw1 => run21s w1 a c l (hl.at hw1 MM) ao co o (ho.at hw1 MM) h12) rfl (fun lo2 wr2 z2 hz2 => ?_)
    refine qs (y_move RF) ?_
    refine qs (y_extract RF RF) ?_
    refine qs (y_extract RF RF) ?_
    refine qs (y_assign RF) ?_
    refine qs (y_assign RF) ?_
    refine sq_nil ?_
    refine sx_then ?_
    refine sc_seq ?_
    refine sc_region ?_
    refine qs (y_move RF) ?_
    refine qs (y_move RF) ?_
    refine qy (yc Try.call22 E2 (fun w1 hw1 => late22 w1 a c l (hl.at hw1 MM) ao co o (ho.at hw1 MM) h12)) ?_
    refine qs (y_move RF) ?_
    refine qs (y_extract RF RF) ?_
    refine qs (y_extract RF RF) ?_
    refine qs (y_extract RF RF) ?_
    refine qs (y_assign RF) ?_
    refine qs (y_assign RF) ?_
    refine qs (y_assign RF) ?_
    refine sq_nil ?_
    refine sx_then ?_
    refine sc_seq ?_
    refine sc_region ?_
    refine qs (y_move RF) ?_
    refine qs (y_move RF) ?_
    refine qy (yc Try.call23 E2 (fun w1 hw1 => late23 w1 a c l (hl.at hw1 MM) ao co o (ho.at hw1 MM) h12)) ?_
    refine qs (y_move RF) ?_
    refine qs (y_extract RF RF) ?_
    refine qs (y_extract RF RF) ?_
    refine qs (y_extract RF RF) ?_
    refine qs (y_assign RF) ?_
    refine qs (y_assign RF) ?_
    refine qs (y_assign RF) ?_
    refine sq_nil ?_
    refine sx_then ?_
    refine sc_seq ?_
    refine sc_region ?_
    refine qs (y_move RF) ?_
    refine qs (y_move RF) ?_
    refine qy (yc Try.call24 E2 (fun w1 hw1 => why24 w1 a c l (hl.at hw1 MM) ao co o (ho.at hw1 MM) h12)) ?_
    refine qs (y_move RF) ?_
    refine qs (y_extract RF RF) ?_
    refine qs (y_extract RF RF) ?_
    refine qs (y_extract RF RF) ?_
    refine qs (y_assign RF) ?_
    refine qs (y_assign RF) ?_
    refine qs (y_assign RF) ?_
    refine sq_nil ?_
    refine sx_then ?_
    refine sc_seq ?_
    refine sc_region ?_
    refine qs (y_move RF) ?_
    refine qs (y_move RF) ?_
    refine qy (yc Try.call25 E2 (fun w1 hw1 => why25 w1 a c l (hl.at hw1 MM) ao co o (ho.at hw1 MM) h12)) ?_
    refine qs (y_move RF) ?_
    refine qs (y_extract RF RF) ?_
    refine qs (y_extract RF RF) ?_
    refine qs (y_extract RF RF) ?_
    refine qs (y_assign RF) ?_
    refine qs (y_assign RF) ?_
    refine qs (y_assign RF) ?_
    refine sq_nil ?_
    refine sx_then ?_
    refine sc_seq ?_
    refine sc_region ?_
    refine qs (y_move RF) ?_
    refine qs (y_move RF) ?_
    refine qy (yc Try.call26 E2 (fun w1 hw1 => spans26 w1 z1.1 z2.1 z1.2 z2.2 _ _ (hz1.at hw1 MM) (hz2.at hw1 MM))) ?_
    refine qs (y_move RF) ?_
    refine sq_known (tt := 73) (b' := true) RF (by simp) ?_
    refine qg (y_move RF) ?_
    refine qg (y_move RF) ?_
    refine qg (y_eql RF RF) ?_
    refine qs (y_pick_t RF RF) ?_
    refine qs (y_move RF) ?_
    refine sq_known (tt := 78) (b' := true) RF (by simp) ?_
    refine qg (y_move RF) ?_
    refine qg (y_move RF) ?_
    refine qg (y_eql RF RF) ?_
    refine qs (y_pick_t RF RF) ?_
    refine qs (y_move RF) ?_
    refine sq_known (tt := 83) (b' := true) RF (by simp) ?_
    refine qg (y_move RF) ?_
    refine qg (y_move RF) ?_
    refine qg (y_eql RF RF) ?_
    refine qs (y_pick_t RF RF) ?_
    refine qs (y_move RF) ?_
    refine sq_known (tt := 88) (b' := true) RF (by simp) ?_
    refine qg (y_move RF) ?_
    refine qg (y_move RF) ?_
    refine qg (y_eql RF RF) ?_
    refine qs (y_pick_t RF RF) ?_
    refine qs (y_move RF) ?_
    refine sq_known (tt := 93) (b' := true) RF (by simp) ?_
    refine qg (y_move RF) ?_
    refine qg (y_move RF) ?_
    refine qg (y_eql RF RF) ?_
    refine qs (y_pick_t RF RF) ?_
    refine qs (y_move RF) ?_
    refine sq_known (tt := 98) (b' := true) RF (by simp) ?_
    refine qg (y_move RF) ?_
    refine qg (y_move RF) ?_
    refine qg (y_eql RF RF) ?_
    refine qs (y_pick_t RF RF) ?_
    refine qs (y_move RF) ?_
    refine sq_known (tt := 103) (b' := true) RF (by simp) ?_
    refine qg (y_move RF) ?_
    refine qg (y_move RF) ?_
    refine qg (y_eql RF RF) ?_
    refine qs (y_pick_t RF RF) ?_
    refine qs (y_move RF) ?_
    refine sq_known (tt := 108) (b' := true) RF (by simp) ?_
    refine sq_gt RF RF (y_call (first := []) (caps := []) RF Try.call13 EvL.nil (fun w1 _ => awake13 w1)) rfl ?_
    refine qs (y_pick_t RF RF) ?_
    refine qs (y_assign RF) ?_
    refine sq_nil ?_
    refine sx_then ?_
    refine sc_ret ?_
    refine sx_ret1 (.inl rfl) rfl Try.results4 RF ?_
    intro w' hw'
    exact ⟨rfl, hw'.below MM⟩
theorem bests5 (w : World) (a : Option Addr) (c : Nat) (l : List Jb) (hl : RowsA jbRow 5 0 w a l) : Calls Try.prog 5 #[.slice a l.length c] w fun e w' => e = .returned (.bool true) ∧ Below w.heap.size w w' := by
  refine calls_of_SC (args := [.slice a l.length c]) Try.func5 rfl Try.ntmps5 rfl ?_
  simp only [argL]
  refine sc_seq ?_
  refine sc_region ?_
  refine qs (y_assign RF) ?_
  refine sq_nil ?_
  refine sx_then ?_
  refine sc_seq ?_
  refine sc_seq ?_
  refine sc_midE (Z := Bool) (fun v => [(0, .slice a l.length c), (21, .bool v)]) (fun _ => [.reg 0 w]) ?_ ?_
  ·
    refine sc_region ?_
    refine qs (y_move RF) ?_
    refine qs (y_len Try.underlying34 RF) ?_
    refine qs (y_gtr RF RF) ?_
    refine qs (y_move RF) ?_
    refine sp 12 (fun hg1_3 => ?_) (fun hg1_3 => ?_)
    ·
      refine qg (y_move RF) ?_
      refine qg (y_len Try.underlying34 RF) ?_
      refine qg (y_leq RF RF) ?_
      refine qs (y_pick_t RF RF) ?_
      refine qs (y_move RF) ?_
      refine sp 17 (fun hg1_8 => ?_) (fun hg1_8 => ?_)
      ·
        refine qf ?_
        refine qf ?_
        refine qf ?_
        refine qs (y_pick_t RF RF) ?_
        refine sq_nil ?_
        exact sx_midE (_) SU SR
      ·
        refine qg (y_move RF) ?_
        refine qg (y_len Try.underlying34 RF) ?_
        refine qg (y_gtr RF RF) ?_
        refine qs (y_pick_f RF RF) ?_
        refine sq_nil ?_
        exact sx_midE (_) SU SR
    ·
      refine qf ?_
      refine qf ?_
      refine qf ?_
      refine qs (y_pick_f RF RF) ?_
      refine qs (y_move RF) ?_
      refine qg (y_move RF) ?_
      refine qg (y_len Try.underlying34 RF) ?_
      refine qg (y_gtr RF RF) ?_
      refine qs (y_pick_f RF RF) ?_
      refine sq_nil ?_
      exact sx_midE (_) SU SR
  rintro _
  try dsimp only
  refine sx_then ?_
  refine scp (fun hc0 => ?_) (fun hc0 => ?_)
  ·
    refine sc_seq ?_
    refine sc_region ?_
    refine qy (yc Try.call13 E0 (fun w1 _ => awake13 w1)) ?_
    refine qs (y_assign RF) ?_
    refine sq_nil ?_
    refine sx_then ?_
    refine sc_ret ?_
    refine sx_then_ret ?_
    refine sx_ret1 (.inl rfl) rfl Try.results5 RF ?_
    intro w' hw'
    exact ⟨rfl, hw'.below MM⟩
  ·
    refine sc_skip ?_
    refine sx_then ?_
    refine sc_seq ?_
    refine sc_region ?_
    refine qs (y_move RF) ?_
    refine sq_call_new (first := []) (caps := []) (Z := Option Addr × Nat) (fun z => .tuple #[.slice z.1 (bestR l).1.length z.2, .int .i64 (bestR l).2.1, .int .i64 (bestR l).2.2]) (fun lo w' z => RowsA iRow 1 lo w' z.1 (bestR l).1) RF Try.call27 (EvL.cons RF EvL.nil) (fun w1 hw1 => best27s w1 a c l (hl.at hw1 MM)) rfl (fun lo1 wr1 z1 hz1 => ?_)
    refine qs (y_move RF) ?_
    refine qs (y_extract RF RF) ?_
    refine qs (y_extract RF RF) ?_
    refine qs (y_extract RF RF) ?_
    refine qs (y_assign RF) ?_
    refine qs (y_assign RF) ?_
    refine qs (y_assign RF) ?_
    refine sq_nil ?_
    refine sx_then ?_
    refine sc_seq ?_
    refine sc_region ?_
    refine qs (y_move RF) ?_
    refine sq_call_new (first := []) (caps := []) (Z := Option Addr × Nat) (fun z => .tuple #[.slice z.1 (bestR l).1.length z.2, .int .i64 (bestR l).2.1, .int .i64 (bestR l).2.2]) (fun lo w' z => RowsA iRow 1 lo w' z.1 (bestR l).1) RF Try.call28 (EvL.cons RF EvL.nil) (fun w1 hw1 => best28 w1 a c l (hl.at hw1 MM)) rfl (fun lo2 wr2 z2 hz2 => ?_)
    refine qs (y_move RF) ?_
    refine qs (y_extract RF RF) ?_
    refine qs (y_extract RF RF) ?_
    refine qs (y_extract RF RF) ?_
    refine qs (y_assign RF) ?_
    refine qs (y_assign RF) ?_
    refine qs (y_assign RF) ?_
    refine sq_nil ?_
    refine sx_then ?_
    refine sc_seq ?_
    refine sc_region ?_
    refine qs (y_move RF) ?_
    refine qs (y_move RF) ?_
    refine qy (yc Try.call29 E2 (fun w1 hw1 => ints29 w1 z1.1 z2.1 z1.2 z2.2 _ _ (hz1.at hw1 MM) (hz2.at hw1 MM))) ?_
    refine qs (y_move RF) ?_
    refine sq_known (tt := 38) (b' := true) RF (by simp) ?_
    refine qg (y_move RF) ?_
    refine qg (y_move RF) ?_
    refine qg (y_eql RF RF) ?_
    refine qs (y_pick_t RF RF) ?_
    refine qs (y_move RF) ?_
    refine sq_known (tt := 43) (b' := true) RF (by simp) ?_
    refine qg (y_move RF) ?_
    refine qg (y_move RF) ?_
    refine qg (y_eql RF RF) ?_
    refine qs (y_pick_t RF RF) ?_
    refine qs (y_move RF) ?_
    refine sq_known (tt := 48) (b' := true) RF (by simp) ?_
    refine sq_gt RF RF (y_call (first := []) (caps := []) RF Try.call13 EvL.nil (fun w1 _ => awake13 w1)) rfl ?_
    refine qs (y_pick_t RF RF) ?_
    refine qs (y_assign RF) ?_
    refine sq_nil ?_
    refine sx_then ?_
    refine sc_ret ?_
    refine sx_ret1 (.inl rfl) rfl Try.results5 RF ?_
    intro w' hw'
    exact ⟨rfl, hw'.below MM⟩
end Go.Proofs.Ytjlbpmcacopbpaa
