/- The walk of the law PressBest. -/
import Derived.Test.YtjlbpmcacopbpaaWalk20
import Derived.Test.YtjlbpmcacopbpaaLawX
namespace Go.Proofs.Ytjlbpmcacopbpaa
open Go Go.Eng Go.RowKit Go.Proofs
set_option maxRecDepth 100000

theorem best8 (w : World) (a : Option Addr) (c : Nat) (l : List Jb) (hl : RowsA jbRow 5 0 w a l) (ay : Option Addr) (cy : Nat) (by_ : List Int) (hy : RowsA bRow 1 0 w ay by_) (iny : ∀ x, x ∈ by_ → isB x) : Calls Try.prog 8 #[.slice a l.length c, .slice ay by_.length cy] w fun e w' => e = .returned (.bool true) ∧ Below w.heap.size w w' := by
  refine calls_of_SC (args := [.slice a l.length c, .slice ay by_.length cy]) Try.func8 rfl Try.ntmps8 rfl ?_
  simp only [argL, Nat.zero_add]
  refine sc_seq ?_
  refine sc_region ?_
  refine qs (y_assign RF) ?_
  refine sq_nil ?_
  refine sx_then ?_
  refine sc_seq ?_
  refine sc_seq ?_
  refine sc_midE (Z := {v : Bool // v = (decide (12 < (l.length : Int)) || decide ((by_.length : Int) = 0))}) (fun v => [(0, .slice a l.length c), (1, .slice ay by_.length cy), (22, .bool v.1)]) (fun _ => [.reg 0 w]) ?_ ?_
  ·
    refine sc_region ?_
    refine qs (y_move RF) ?_
    refine qs (y_len Try.underlying34 RF) ?_
    refine qs (y_gtr RF RF) ?_
    refine qs (y_move RF) ?_
    refine sp 18 (fun hg1_3 => ?_) (fun hg1_3 => ?_)
    ·
      refine qf ?_
      refine qf ?_
      refine qf ?_
      refine qs (y_pick_t RF RF) ?_
      refine sq_nil ?_
      exact sx_midE (⟨true, by symm; rw [Bool.or_eq_true]; exact .inl (decide_eq_true (by omega))⟩) SU SR
    ·
      refine qg (y_move RF) ?_
      refine qg (y_len Try.underlying64 RF) ?_
      refine qg (y_eql RF RF) ?_
      refine qs (y_pick_f RF RF) ?_
      refine sq_nil ?_
      exact sx_midE (⟨_, by rw [decide_eq_false (show ¬ 12 < (l.length : Int) by omega), Bool.false_or]⟩) SU SR
  rintro ⟨vb, hvb⟩
  try dsimp only
  refine sx_then ?_
  refine scp (fun hc0 => ?_) (fun hc0 => ?_)
  ·
    refine sc_seq ?_
    refine sc_region ?_
    refine qy (yc Try.call13 E0 (fun w1 _ => awake13 w1)) ?_
    refine qs (y_assign RF) ?_
    refine sq_nil ?_
    refine sx_then ?_
    refine sc_ret ?_
    refine sx_then_ret ?_
    refine sx_ret1 (.inl rfl) rfl Try.results8 RF ?_
    intro w' hw'
    exact ⟨rfl, hw'.below MM⟩
  ·
    have hv2 : vb = false := hc0
    rw [hvb, Bool.or_eq_false_iff] at hv2
    have hyne : 0 < by_.length := by have := of_decide_eq_false hv2.2; omega
    refine sc_skip ?_
    refine sx_then ?_
    refine sc_seq ?_
    refine sc_region ?_
    refine qs (y_move RF) ?_
    refine sq_call_new (first := []) (caps := []) (Z := Option Addr × Nat) (fun z => .tuple #[.slice z.1 (bestR l).1.length z.2, .int .i64 (bestR l).2.1, .int .i64 (bestR l).2.2]) (fun lo w' z => RowsA iRow 1 lo w' z.1 (bestR l).1) RF Try.call27 (EvL.cons RF EvL.nil) (fun w1 hw1 => best27s w1 a c l (hl.at hw1 MM)) rfl (fun lo3 wr3 z3 hz3 => ?_)
    refine qs (y_move RF) ?_
    refine qs (y_extract RF RF) ?_
    refine qs (y_extract RF RF) ?_
    refine qs (y_extract RF RF) ?_
    refine qs (y_assign RF) ?_
    refine qs (y_assign RF) ?_
    refine qs (y_assign RF) ?_
    refine sq_nil ?_
    refine sx_then ?_
    refine sc_seq ?_
    refine sc_seq ?_
    refine sc_region ?_
    refine qs (y_move RF) ?_
    refine qs (y_neq RF RF) ?_
    refine sq_nil ?_
    refine sx_then ?_
    refine scp (fun hc1 => ?_) (fun hc1 => ?_)
    ·
      obtain ⟨hnj, hno⟩ := best_no (by simpa using hc1)
      refine sc_seq ?_
      refine sc_region ?_
      refine qs (y_move RF) ?_
      refine qs (y_len Try.underlying35 RF) ?_
      refine qs (y_eql RF RF) ?_
      refine qs (y_move RF) ?_
      refine sq_known (tt := 35) (b' := true) RF (by simp [hno]) ?_
      refine qg (y_move RF) ?_
      refine qg (y_eql RF RF) ?_
      refine qs (y_pick_t RF RF) ?_
      refine qs (y_move RF) ?_
      refine sq_known (tt := 39) (b' := true) RF (by simp [hno]) ?_
      refine qg (y_move RF) ?_
      refine qg (y_eql RF RF) ?_
      refine qs (y_pick_t RF RF) ?_
      refine qs (y_move RF) ?_
      refine sq_known (tt := 43) (b' := true) RF (by simp [hno]) ?_
      refine qg (y_move RF) ?_
      refine sq_gt RF RF (y_call (first := []) (caps := []) RF Try.call30 (EvL.cons RF EvL.nil) (fun w1 hw1 => jobs30 w1 a c l (hl.at hw1 MM))) rfl ?_
      refine qg (y_not RF) ?_
      refine qs (y_pick_t RF RF) ?_
      refine qs (y_move RF) ?_
      refine sq_known (tt := 48) (b' := true) RF (by simp [hnj]) ?_
      refine sq_gt RF RF (y_call (first := []) (caps := []) RF Try.call13 EvL.nil (fun w1 _ => awake13 w1)) rfl ?_
      refine qs (y_pick_t RF RF) ?_
      refine qs (y_assign RF) ?_
      refine sq_nil ?_
      refine sx_then ?_
      refine sc_ret ?_
      refine sx_then_ret ?_
      refine sx_ret1 (.inl rfl) rfl Try.results8 RF ?_
      intro w' hw'
      exact ⟨rfl, hw'.below MM⟩
    ·
      have hF := best_yes (by simpa using hc1)
      have h7 := (jobsB_parts hF.jobs).1
      have hB := hF.best
      have hord := (ordB_iff _ _).2 hB.perm
      have hok := ordOk.of hF.jobs hord true
      have hhour := hF.hour
      have hbl : (bestR l).1.length = l.length := by rw [hB.perm.length_eq, rngI_len]
      have hsp := shufK_perm by_ l.length
      have hsln := shufK_len by_ l.length
      obtain ⟨hr1, hr2⟩ := run_ok (chk_perm hF.jobs hsp)
      have hsl : (runR l (shufK by_ l.length)).1.length = l.length := by rw [hr1, spansV_len]
      have hle := hB.le _ hsp
      refine sc_skip ?_
      refine sx_then ?_
      refine sc_seq ?_
      refine sc_seq ?_
      refine sc_region ?_
      refine qs (y_move RF) ?_
      refine qy (yc Try.call30 E1 (fun w1 hw1 => jobs30 w1 a c l (hl.at hw1 MM))) ?_
      refine qs (y_not RF) ?_
      refine qs (y_move RF) ?_
      refine sq_known (tt := 54) (b' := false) RF (by simp [hF.jobs]) ?_
      refine qg (y_move RF) ?_
      refine qg (y_move RF) ?_
      refine qg (y_len Try.underlying34 RF) ?_
      refine sq_gt RF RF (y_call (first := []) (caps := []) RF Try.call35 (EvL.cons RF (EvL.cons RF EvL.nil)) (fun w1 hw1 => order35 w1 z3.1 z3.2 _ (hz3.at hw1 MM) l.length (by omega))) rfl ?_
      refine qg (y_not RF) ?_
      refine qs (y_pick_f RF RF) ?_
      refine qs (y_move RF) ?_
      refine sq_known (tt := 61) (b' := false) RF (by simp [hord]) ?_
      refine qg (y_move RF) ?_
      refine sq_guard RF RF ?_
      refine sq_call_new (first := []) (caps := []) (Z := (Option Addr × Nat) × Option Addr × Nat) (fun z => .agg #[.slice z.1.1 l.length z.1.2, .slice z.2.1 l.length z.2.2]) (fun lo w' z => RowsA iRow 1 lo w' z.1.1 ((l.map (timeV true)).map (fun (t : Tm) => t.1)) ∧ RowsA iRow 1 lo w' z.2.1 ((l.map (timeV true)).map (fun (t : Tm) => t.2))) RF Try.call38 (EvL.cons RF EvL.nil) (fun w1 hw1 => slow38 w1 a c l (hl.at hw1 MM) h7) rfl (fun lo6 wr6 z6 hz6 => ?_)
      refine qg (y_move RF) ?_
      refine sq_gt RF RF (y_call (first := []) (caps := []) RF Try.call39 (EvL.cons RF (EvL.cons RF EvL.nil)) (fun w1 hw1 => done39n (co := z3.2) l.length (List.length_map _) (hz6.1.at hw1 MM) (hz6.2.at hw1 MM) (hz3.at hw1 MM) hok)) rfl ?_
      refine qg (y_move RF) ?_
      refine qg (y_neq RF RF) ?_
      refine qs (y_pick_f RF RF) ?_
      refine sq_nil ?_
      refine sx_then ?_
      refine sc_f (lk_bool rfl (by rw [hhour]; simp [doneO])) ?_
      refine sc_skip ?_
      refine sx_then ?_
      refine sc_seq ?_
      refine sc_region ?_
      refine qs (y_move RF) ?_
      refine qs (y_len Try.underlying34 RF) ?_
      refine qs (y_move RF) ?_
      refine sq_call_new (first := []) (caps := []) (Z := Option Addr × Nat) (fun z => .slice z.1 (shufK by_ l.length).length z.2) (fun lo w' z => RowsA iRow 1 lo w' z.1 (shufK by_ l.length)) RF Try.call40 (EvL.cons RF (EvL.cons RF EvL.nil)) (fun w1 hw1 => shuffled40 w1 l.length (by omega) ay cy by_ (hy.at hw1 MM) iny hyne) rfl (fun lo8 wr8 z8 hz8 => ?_)
      refine qs (y_assign RF) ?_
      refine sq_nil ?_
      refine sx_then ?_
      refine sc_seq ?_
      refine sc_region ?_
      refine qs (y_move RF) ?_
      refine qs (y_move RF) ?_
      refine sq_call_new (first := []) (caps := []) (Z := Option Addr × Nat) (fun z => .tuple #[.slice z.1 (runR l (shufK by_ l.length)).1.length z.2, .int .i64 (runR l (shufK by_ l.length)).2]) (fun lo w' z => RowsA spRow 2 lo w' z.1 (runR l (shufK by_ l.length)).1) RF Try.call20 (EvL.cons RF (EvL.cons RF EvL.nil)) (fun w1 hw1 => run20s w1 a c l (hl.at hw1 MM) z8.1 z8.2 (shufK by_ l.length) (hz8.at hw1 MM) (by omega)) rfl (fun lo9 wr9 z9 hz9 => ?_)
      refine qs (y_move RF) ?_
      refine qs (y_extract RF RF) ?_
      refine qs (y_extract RF RF) ?_
      refine qs (y_assign RF) ?_
      refine qs (y_assign RF) ?_
      refine sq_nil ?_
      refine sx_then ?_
      refine sc_seq ?_
      refine sc_region ?_
      refine qs (y_assign RF) ?_
      refine sq_nil ?_
      refine sx_then ?_
      refine sc_seq ?_
      refine sc_seq ?_
      refine sc_region ?_
      refine qs (y_move RF) ?_
      refine qs (y_len Try.underlying36 RF) ?_
      refine qs (y_move RF) ?_
      refine sq_nil ?_
      refine sx_then ?_
      refine sc_block ?_
      refine sc_loop (σ := Nat)
        (fun s => [(0, .slice a l.length c), (5, .slice z3.1 (bestR l).1.length z3.2), (6, .int .i64 (bestR l).2.1), (8, .slice z8.1 (shufK by_ l.length).length z8.2), (9, .slice z9.1 (runR l (shufK by_ l.length)).1.length z9.2), (10, .int .i64 0), (79, .slice z9.1 (runR l (shufK by_ l.length)).1.length z9.2), (80, .int .i64 (runR l (shufK by_ l.length)).1.length), (11, .int .i64 (gtV 0 ((endsV (l.map (timeV true)) (shufK by_ l.length)).take s))), (81, .int .i64 s)])
        (fun s => [.reg lo9 wr9, .reg lo8 wr8, .reg lo3 wr3, .reg 0 w])
        (fun s => s ≤ l.length)
        (fun s => l.length - s)
        (0) ?_ SU SR ?_
      · exact Nat.zero_le _
      rintro k hk
      refine sc_seq ?_
      refine sc_region ?_
      refine qs (y_lss RF RF) ?_
      refine sq_nil ?_
      refine sx_then ?_
      refine sc_seq ?_
      refine scp (fun hc3 => ?_) (fun hc3 => ?_)
      ·
        have hk' : k < l.length := by omega
        have hsm := (hz9.get sp0 (show k < (runR l (shufK by_ l.length)).1.length by omega)).1
        have hca := (hz9.get sp0 (show k < (runR l (shufK by_ l.length)).1.length by omega)).2
        have hgd : (runR l (shufK by_ l.length)).1.getD k sp0 = spanK l (shufK by_ l.length) k := by rw [hr1]; exact spansV_getD hk'
        have hnext := ends_get (o := (shufK by_ l.length)) hk' true
        have hspk : (spanK l (shufK by_ l.length) k).hi = (endsV (l.map (timeV true)) (shufK by_ l.length)).getD k 0 := rfl
        refine sc_skip ?_
        refine sx_then ?_
        refine sc_seq ?_
        refine sc_block ?_
        refine sc_seq ?_
        refine sc_region ?_
        refine qs IA36 ?_
        refine qs (by first | exact y_load_ca Try.underlying24 rfl Try.sizeOf24 RF MM hca rfl | exact LD24) ?_
        refine sq_alloc Try.zeroValue24 rfl (fun b13 => ?_)
        refine sq_store_all Try.sizeOf24 RF RF rfl RM rfl rfl ?_
        refine sq_nil ?_
        refine sx_then ?_
        refine sc_region ?_
        refine qs (y_move RF) ?_
        refine qs FA24_3 ?_
        refine qs LD3 ?_
        refine qs (y_max RF RF) ?_
        rw [hgd, hspk, ← hnext]
        refine qs (y_assign RF) ?_
        refine sq_nil ?_
        refine sx_blk ?_
        refine sx_then ?_
        refine sc_region ?_
        refine qs (y_add RF RF (by omega)) ?_
        refine qs (y_move RF) ?_
        refine sq_nil ?_
        refine sx_round (k + 1) ?_ ?_ SU SR
        · omega
        · omega
      ·
        have hkn : k = l.length := by omega
        have hlast := ends_all (o := (shufK by_ l.length)) hkn true
        rw [hlast]
        refine sc_exit ?_
        refine sx_then_exit ?_
        refine sx_round_exit ?_
        refine sx_blk_hit ?_
        refine sx_then ?_
        refine sc_seq ?_
        refine sc_seq ?_
        refine sc_region ?_
        refine qs (y_move RF) ?_
        refine qs (y_neq RF RF) ?_
        refine qs (y_move RF) ?_
        refine sq_known (tt := 92) (b' := false) RF (by simp) ?_
        refine qg (y_move RF) ?_
        refine qg (y_len Try.underlying36 RF) ?_
        refine qg (y_move RF) ?_
        refine qg (y_len Try.underlying34 RF) ?_
        refine qg (y_neq RF RF) ?_
        refine qs (y_pick_f RF RF) ?_
        refine qs (y_move RF) ?_
        refine sq_known (tt := 99) (b' := false) RF (by rw [hsl]; simp) ?_
        refine qg (y_move RF) ?_
        refine qg (y_move RF) ?_
        refine qg (y_lss RF RF) ?_
        refine qs (y_pick_f RF RF) ?_
        refine sq_nil ?_
        refine sx_then ?_
        refine sc_f (lk_bool rfl (decide_eq_false (by omega))) ?_
        refine sc_skip ?_
        refine sx_then ?_
        refine sc_seq ?_
        refine sc_seq ?_
        refine sc_region ?_
        refine qs (y_move RF) ?_
        refine qs (y_move RF) ?_
        refine qs (y_gtr RF RF) ?_
        refine sq_nil ?_
        refine sx_then ?_
        refine scp (fun hc5 => ?_) (fun hc5 => ?_)
        ·
          refine sc_seq ?_
          refine sc_region ?_
          refine qy (yc Try.call13 E0 (fun w1 _ => awake13 w1)) ?_
          refine qs (y_assign RF) ?_
          refine sq_nil ?_
          refine sx_then ?_
          refine sc_ret ?_
          refine sx_then_ret ?_
          refine sx_ret1 (.inl rfl) rfl Try.results8 RF ?_
          intro w' hw'
          exact ⟨rfl, hw'.below MM⟩
        ·
          refine sc_skip ?_
          refine sx_then ?_
          refine sc_seq ?_
          refine sc_seq ?_
          refine sc_region ?_
          refine qs (y_assign RF) ?_
          refine sq_nil ?_
          refine sx_then ?_
          refine sc_block ?_
          refine sc_loop (σ := Nat)
            (fun s => [(5, .slice z3.1 (bestR l).1.length z3.2), (8, .slice z8.1 (shufK by_ l.length).length z8.2), (14, .int .i64 s)])
            (fun s => [.reg lo9 wr9, .reg lo8 wr8, .reg lo3 wr3, .reg 0 w])
            (fun s => s ≤ (bestR l).1.length ∧ ∀ j, j < s → (bestR l).1.getD j 0 = (shufK by_ l.length).getD j 0)
            (fun s => (bestR l).1.length - s)
            (0) ?_ SU SR ?_
          · exact ⟨Nat.zero_le _, fun j hj => absurd hj (Nat.not_lt_zero j)⟩
          rintro k ⟨hk, hsame⟩
          refine sc_seq ?_
          refine sc_seq ?_
          refine sc_region ?_
          refine qs (y_move RF) ?_
          refine qs (y_move RF) ?_
          refine qs (y_len Try.underlying35 RF) ?_
          refine qs (y_lss RF RF) ?_
          refine sq_nil ?_
          refine sx_then ?_
          refine scp (fun hc6 => ?_) (fun hc6 => ?_)
          ·
            have hk' : k < (bestR l).1.length := by omega
            have hkl : k < (shufK by_ l.length).length := by omega
            have hs3 := (hz3.get 0 hk').1
            have hc3' := (hz3.get 0 hk').2
            have hs8 := (hz8.get 0 hkl).1
            have hc8' := (hz8.get 0 hkl).2
            refine sc_skip ?_
            refine sx_then ?_
            refine sc_seq ?_
            refine sc_block ?_
            refine sc_seq ?_
            refine sc_draw rfl (by kernel_rfl) (by kernel_rfl) ?_
            refine qq_y (OpY.s (y_move RF)) rfl ?_
            refine qq_y (OpY.s (y_move RF)) rfl ?_
            refine qq_y (OpY.s IA35) rfl ?_
            refine qq_y (OpY.s (by first | exact y_load_ca0 Try.underlying3 rfl RF MM hc3' rfl | exact LD3)) rfl ?_
            refine qq_y (OpY.s (y_move RF)) rfl ?_
            refine qq_y (OpY.s (y_move RF)) rfl ?_
            refine qq_y (OpY.s IA35) rfl ?_
            refine qq_y (OpY.s (by first | exact y_load_ca0 Try.underlying3 rfl RF MM hc8' rfl | exact LD3)) rfl ?_
            refine qq_y (OpY.s (y_neq RF RF)) rfl ?_
            refine qq_nil ?_
            refine sx_then ?_
            refine scp (fun hc7 => ?_) (fun hc7 => ?_)
            ·
              have hlt := first_diff (x := (bestR l).1) (y := (shufK by_ l.length)) (by omega) (fun h => by have := hB.lt _ hsp h; omega) k hk' hsame (by simpa using hc7)
              refine sc_seq ?_
              refine sc_draw rfl (by kernel_rfl) (by kernel_rfl) ?_
              refine qq_y (OpY.s (y_move RF)) rfl ?_
              refine qq_y (OpY.s (y_move RF)) rfl ?_
              refine qq_y (OpY.s IA35) rfl ?_
              refine qq_y (OpY.s (by first | exact y_load_ca0 Try.underlying3 rfl RF MM hc3' rfl | exact LD3)) rfl ?_
              refine qq_y (OpY.s (y_move RF)) rfl ?_
              refine qq_y (OpY.s (y_move RF)) rfl ?_
              refine qq_y (OpY.s IA35) rfl ?_
              refine qq_y (OpY.s (by first | exact y_load_ca0 Try.underlying3 rfl RF MM hc8' rfl | exact LD3)) rfl ?_
              refine qq_y (OpY.s (y_lss RF RF)) rfl ?_
              refine qq_y (OpY.s (y_move RF)) rfl ?_
              refine qq_known (tt := 132) (b' := true) RF (decide_eq_true hlt) ?_
              refine qq_gt RF RF (y_call (first := []) (caps := []) RF Try.call13 EvL.nil (fun w1 _ => awake13 w1)) rfl ?_
              refine qq_y (OpY.s (y_pick_t RF RF)) rfl ?_
              refine qq_y (OpY.s (y_assign RF)) rfl ?_
              refine qq_nil ?_
              refine sx_then ?_
              refine sc_ret ?_
              refine sx_blk_ret ?_
              refine sx_then_ret ?_
              refine sx_round_ret ?_
              refine sx_blk_ret ?_
              refine sx_then_ret ?_
              refine sx_ret1 (.inl rfl) rfl Try.results8 RF ?_
              intro w' hw'
              exact ⟨rfl, hw'.below MM⟩
            ·
              refine sc_skip ?_
              refine sx_blk ?_
              refine sx_then ?_
              refine sc_region ?_
              refine qs (y_move RF) ?_
              refine qs (y_add RF RF (by omega)) ?_
              refine qs (y_assign RF) ?_
              refine sq_nil ?_
              refine sx_round (k + 1) ?_ ?_ SU SR
              · refine ⟨by omega, fun j hj => ?_⟩
                rcases Nat.lt_succ_iff_lt_or_eq.1 hj with h | rfl
                · exact hsame j h
                · simpa using hc7
              · omega
          ·
            refine sc_exit ?_
            refine sx_then_exit ?_
            refine sx_round_exit ?_
            refine sx_blk_hit ?_
            refine sx_then ?_
            refine sc_seq ?_
            refine sc_region ?_
            refine qy (yc Try.call13 E0 (fun w1 _ => awake13 w1)) ?_
            refine qs (y_assign RF) ?_
            refine sq_nil ?_
            refine sx_then ?_
            refine sc_ret ?_
            refine sx_ret1 (.inl rfl) rfl Try.results8 RF ?_
            intro w' hw'
            exact ⟨rfl, hw'.below MM⟩
end Go.Proofs.Ytjlbpmcacopbpaa
