/- The walk of the law PressWhy. -/
import Derived.Test.YtjlbpmcacopbpaaWalk17
import Derived.Test.YtjlbpmcacopbpaaLawX
namespace Go.Proofs.Ytjlbpmcacopbpaa
open Go Go.Eng Go.RowKit Go.Proofs
set_option maxRecDepth 100000

theorem why10 (w : World) (a : Option Addr) (c : Nat) (l : List Jb) (hl : RowsA jbRow 5 0 w a l) (ao : Option Addr) (co : Nat) (o : List Int) (ho : RowsA iRow 1 0 w ao o) : Calls Try.prog 10 #[.slice a l.length c, .slice ao o.length co] w fun e w' => e = .returned (.bool true) ∧ Below w.heap.size w w' := by
  refine calls_of_SC (args := [.slice a l.length c, .slice ao o.length co]) Try.func10 rfl Try.ntmps10 rfl ?_
  simp only [argL, Nat.zero_add]
  refine sc_seq ?_
  refine sc_region ?_
  refine qs (y_assign RF) ?_
  refine sq_nil ?_
  refine sx_then ?_
  refine sc_seq ?_
  refine sc_seq ?_
  refine sc_midE (Z := {v : Bool // v = (decide (12 < (l.length : Int)) || decide (12 < (o.length : Int)))}) (fun v => [(0, .slice a l.length c), (1, .slice ao o.length co), (24, .bool v.1)]) (fun _ => [.reg 0 w]) ?_ ?_
  ·
    refine sc_region ?_
    refine qs (y_move RF) ?_
    refine qs (y_len Try.underlying34 RF) ?_
    refine qs (y_gtr RF RF) ?_
    refine qs (y_move RF) ?_
    refine sp 20 (fun hg1_3 => ?_) (fun hg1_3 => ?_)
    ·
      refine qf ?_
      refine qf ?_
      refine qf ?_
      refine qs (y_pick_t RF RF) ?_
      refine sq_nil ?_
      exact sx_midE (⟨true, by symm; rw [Bool.or_eq_true]; exact .inl (decide_eq_true (by omega))⟩) SU SR
    ·
      refine qg (y_move RF) ?_
      refine qg (y_len Try.underlying35 RF) ?_
      refine qg (y_gtr RF RF) ?_
      refine qs (y_pick_f RF RF) ?_
      refine sq_nil ?_
      exact sx_midE (⟨_, by rw [decide_eq_false (show ¬ 12 < (l.length : Int) by omega), Bool.false_or]⟩) SU SR
  rintro ⟨vb, hvb⟩
  try dsimp only
  refine sx_then ?_
  refine scp (fun hc0 => ?_) (fun hc0 => ?_)
  ·
    refine sc_seq ?_
    refine sc_region ?_
    refine qy (yc Try.call13 E0 (fun w1 _ => awake13 w1)) ?_
    refine qs (y_assign RF) ?_
    refine sq_nil ?_
    refine sx_then ?_
    refine sc_ret ?_
    refine sx_then_ret ?_
    refine sx_ret1 (.inl rfl) rfl Try.results10 RF ?_
    intro w' hw'
    exact ⟨rfl, hw'.below MM⟩
  ·
    have h12 : o.length ≤ 1000 := by
      have hv2 : vb = false := hc0
      rw [hvb, Bool.or_eq_false_iff] at hv2
      have := of_decide_eq_false hv2.2; omega
    refine sc_skip ?_
    refine sx_then ?_
    refine sc_seq ?_
    refine sc_region ?_
    refine qs (y_move RF) ?_
    refine qs (y_move RF) ?_
    refine qy (yc Try.call24 E2 (fun w1 hw1 => why24 w1 a c l (hl.at hw1 MM) ao co o (ho.at hw1 MM) h12)) ?_
    refine qs (y_move RF) ?_
    refine qs (y_extract RF RF) ?_
    refine qs (y_extract RF RF) ?_
    refine qs (y_extract RF RF) ?_
    refine qs (y_assign RF) ?_
    refine qs (y_assign RF) ?_
    refine qs (y_assign RF) ?_
    refine sq_nil ?_
    refine sx_then ?_
    refine sc_seq ?_
    refine sc_region ?_
    refine qs (y_move RF) ?_
    refine qs (y_move RF) ?_
    refine sq_call_new (first := []) (caps := []) (Z := Option Addr × Nat) (fun z => .tuple #[.slice z.1 (runR l o).1.length z.2, .int .i64 (runR l o).2]) (fun lo w' z => RowsA spRow 2 lo w' z.1 (runR l o).1) RF Try.call20 (EvL.cons RF (EvL.cons RF EvL.nil)) (fun w1 hw1 => run20s w1 a c l (hl.at hw1 MM) ao co o (ho.at hw1 MM) h12) rfl (fun lo1 wr1 z1 hz1 => ?_)
    refine qs (y_move RF) ?_
    refine qs (y_extract RF RF) ?_
    refine qs (y_extract RF RF) ?_
    refine qs (y_assign RF) ?_
    refine qs (y_assign RF) ?_
    refine sq_nil ?_
    refine sx_then ?_
    refine sc_seq ?_
    refine sc_seq ?_
    refine sc_region ?_
    refine qs (y_move RF) ?_
    refine qs (y_neq RF RF) ?_
    refine sq_nil ?_
    refine sx_then ?_
    refine scp (fun hc1 => ?_) (fun hc1 => ?_)
    ·
      obtain ⟨h1, h2, h3⟩ := why_no (by simpa using hc1)
      refine sc_seq ?_
      refine sc_region ?_
      refine qs (y_move RF) ?_
      refine qs (y_eql RF RF) ?_
      refine qs (y_move RF) ?_
      refine sq_known (tt := 43) (b' := true) RF (by simp [h1]) ?_
      refine qg (y_move RF) ?_
      refine qg (y_eql RF RF) ?_
      refine qs (y_pick_t RF RF) ?_
      refine qs (y_move RF) ?_
      refine sq_known (tt := 47) (b' := true) RF (by simp [h2]) ?_
      refine qg (y_move RF) ?_
      refine qg (y_move RF) ?_
      refine qg (y_eql RF RF) ?_
      refine qg (y_move RF) ?_
      refine sp 51 (fun hg6_10 => ?_) (fun hg6_10 => ?_)
      ·
        refine qf ?_
        refine qf ?_
        refine qf ?_
        refine sq_gu RF RF rfl ?_
        refine sq_gu RF RF rfl ?_
        refine qf ?_
        refine qf ?_
        refine sq_gu RF RF rfl ?_
        refine sq_gu RF RF rfl ?_
        refine sq_gu RF RF rfl ?_
        refine qf ?_
        refine qg (y_pick_t RF RF) ?_
        refine qs (y_pick_t RF RF) ?_
        refine qs (y_move RF) ?_
        refine sq_gt RF RF (y_call (first := []) (caps := []) RF Try.call13 EvL.nil (fun w1 _ => awake13 w1)) rfl ?_
        refine qs (y_pick_t RF RF) ?_
        refine qs (y_assign RF) ?_
        refine sq_nil ?_
        refine sx_then ?_
        refine sc_ret ?_
        refine sx_then_ret ?_
        refine sx_ret1 (.inl rfl) rfl Try.results10 RF ?_
        intro w' hw'
        exact ⟨rfl, hw'.below MM⟩
      ·
        refine qg (y_move RF) ?_
        refine qg (y_eql RF RF) ?_
        refine qg (y_move RF) ?_
        refine sq_known (tt := 54) (b' := true) RF (by
          rcases h3 with h | h
          · exact absurd h hg6_10
          · simp [h.1]) ?_
        refine qg (y_move RF) ?_
        refine qg (y_eql RF RF) ?_
        refine qg (y_pick_t RF RF) ?_
        refine qg (y_move RF) ?_
        refine sq_known (tt := 58) (b' := true) RF (by
          rcases h3 with h | h
          · exact absurd h hg6_10
          · simp [h.2.1]) ?_
        refine qg (y_move RF) ?_
        refine qg (y_len Try.underlying34 RF) ?_
        refine qg (y_eql RF RF) ?_
        refine qg (y_pick_t RF RF) ?_
        refine qg (y_pick_f RF RF) ?_
        refine qs (y_pick_t RF RF) ?_
        refine qs (y_move RF) ?_
        refine sq_known (tt := 65) (b' := true) RF (by
          rcases h3 with h | h
          · exact absurd h hg6_10
          · simp [h.2.2]) ?_
        refine sq_gt RF RF (y_call (first := []) (caps := []) RF Try.call13 EvL.nil (fun w1 _ => awake13 w1)) rfl ?_
        refine qs (y_pick_t RF RF) ?_
        refine qs (y_assign RF) ?_
        refine sq_nil ?_
        refine sx_then ?_
        refine sc_ret ?_
        refine sx_then_ret ?_
        refine sx_ret1 (.inl rfl) rfl Try.results10 RF ?_
        intro w' hw'
        exact ⟨rfl, hw'.below MM⟩
    ·
      obtain ⟨s0, hF⟩ := why_ok (l := l) (o := o) (by simpa using hc1)
      obtain ⟨hr1, hr2⟩ := run_ok hF.chk
      have h7 := (jobsB_parts hF.jobs).1
      have hok := ordOk.of hF.jobs hF.ord true
      have hhour := hF.hour
      have hol := hF.len
      have hpos := hF.pos
      have hsl : (runR l o).1.length = l.length := by rw [hr1, spansV_len]
      refine sc_skip ?_
      refine sx_then ?_
      refine sc_seq ?_
      refine sc_seq ?_
      refine sc_region ?_
      refine qs (y_move RF) ?_
      refine qs (y_neq RF RF) ?_
      refine qs (y_move RF) ?_
      refine sq_known (tt := 70) (b' := false) RF (by simp [hr2]) ?_
      refine qg (y_move RF) ?_
      refine sq_gt RF RF (y_call (first := []) (caps := []) RF Try.call30 (EvL.cons RF EvL.nil) (fun w1 hw1 => jobs30 w1 a c l (hl.at hw1 MM))) rfl ?_
      refine qg (y_not RF) ?_
      refine qs (y_pick_f RF RF) ?_
      refine qs (y_move RF) ?_
      refine sq_known (tt := 75) (b' := false) RF (by simp [hF.jobs]) ?_
      refine qg (y_move RF) ?_
      refine qg (y_move RF) ?_
      refine qg (y_len Try.underlying34 RF) ?_
      refine sq_gt RF RF (y_call (first := []) (caps := []) RF Try.call35 (EvL.cons RF (EvL.cons RF EvL.nil)) (fun w1 hw1 => order35 w1 ao co o (ho.at hw1 MM) l.length (by omega))) rfl ?_
      refine qg (y_not RF) ?_
      refine qs (y_pick_f RF RF) ?_
      refine qs (y_move RF) ?_
      refine sq_known (tt := 82) (b' := false) RF (by simp [hF.ord]) ?_
      refine qg (y_move RF) ?_
      refine qg (y_len Try.underlying36 RF) ?_
      refine qg (y_move RF) ?_
      refine qg (y_len Try.underlying34 RF) ?_
      refine qg (y_neq RF RF) ?_
      refine qs (y_pick_f RF RF) ?_
      refine qs (y_move RF) ?_
      refine sq_known (tt := 89) (b' := false) RF (by rw [hsl]; simp) ?_
      refine qg (y_move RF) ?_
      refine qg (y_len Try.underlying34 RF) ?_
      refine qg (y_eql RF RF) ?_
      refine qs (y_pick_f RF RF) ?_
      refine sq_nil ?_
      refine sx_then ?_
      refine sc_f (lk_bool rfl (decide_eq_false (by omega))) ?_
      refine sc_skip ?_
      refine sx_then ?_
      refine sc_seq ?_
      refine sc_region ?_
      refine qs (y_assign RF) ?_
      refine qs (y_assign RF) ?_
      refine sq_nil ?_
      refine sx_then ?_
      refine sc_seq ?_
      refine sc_seq ?_
      refine sc_region ?_
      refine qs (y_move RF) ?_
      refine qs (y_len Try.underlying36 RF) ?_
      refine qs (y_move RF) ?_
      refine sq_nil ?_
      refine sx_then ?_
      refine sc_block ?_
      refine sc_loop (σ := Nat)
        (fun s => [(0, .slice a l.length c), (1, .slice ao o.length co), (5, .int .i64 (whyR l o).1), (6, .int .i64 (whyR l o).2.1), (11, .bool false), (94, .slice z1.1 (runR l o).1.length z1.2), (95, .int .i64 (runR l o).1.length), (10, .int .i64 (gtV 0 ((endsV (l.map (timeV true)) o).take s))), (96, .int .i64 s)])
        (fun s => [.reg lo1 wr1, .reg 0 w])
        (fun s => s ≤ l.length)
        (fun s => l.length - s)
        (0) ?_ SU SR ?_
      · exact Nat.zero_le _
      rintro k hk
      refine sc_seq ?_
      refine sc_region ?_
      refine qs (y_lss RF RF) ?_
      refine sq_nil ?_
      refine sx_then ?_
      refine sc_seq ?_
      refine scp (fun hc3 => ?_) (fun hc3 => ?_)
      ·
        have hk' : k < l.length := by omega
        have hsm := (hz1.get sp0 (show k < (runR l o).1.length by omega)).1
        have hca := (hz1.get sp0 (show k < (runR l o).1.length by omega)).2
        have hgd : (runR l o).1.getD k sp0 = spanK l o k := by rw [hr1]; exact spansV_getD hk'
        have hnext := ends_get (o := o) hk' true
        have hspk : (spanK l o k).hi = (endsV (l.map (timeV true)) o).getD k 0 := rfl
        refine sc_skip ?_
        refine sx_then ?_
        refine sc_seq ?_
        refine sc_block ?_
        refine sc_seq ?_
        refine sc_region ?_
        refine qs IA36 ?_
        refine qs (by first | exact y_load_ca Try.underlying24 rfl Try.sizeOf24 RF MM hca rfl | exact LD24) ?_
        refine sq_alloc Try.zeroValue24 rfl (fun b13 => ?_)
        refine sq_store_all Try.sizeOf24 RF RF rfl RM rfl rfl ?_
        refine sq_nil ?_
        refine sx_then ?_
        refine sc_region ?_
        refine qs (y_move RF) ?_
        refine qs FA24_3 ?_
        refine qs LD3 ?_
        refine qs (y_max RF RF) ?_
        rw [hgd, hspk, ← hnext]
        refine qs (y_assign RF) ?_
        refine sq_nil ?_
        refine sx_blk ?_
        refine sx_then ?_
        refine sc_region ?_
        refine qs (y_add RF RF (by omega)) ?_
        refine qs (y_move RF) ?_
        refine sq_nil ?_
        refine sx_round (k + 1) ?_ ?_ SU SR
        · omega
        · omega
      ·
        have hkn : k = l.length := by omega
        have hlast := ends_all (o := o) hkn true
        rw [hlast]
        refine sc_exit ?_
        refine sx_then_exit ?_
        refine sx_round_exit ?_
        refine sx_blk_hit ?_
        refine sx_then ?_
        refine sc_seq ?_
        refine sc_region ?_
        refine qs (y_move RF) ?_
        refine sq_call_new (first := []) (caps := []) (Z := (Option Addr × Nat) × Option Addr × Nat) (fun z => .agg #[.slice z.1.1 l.length z.1.2, .slice z.2.1 l.length z.2.2]) (fun lo w' z => RowsA iRow 1 lo w' z.1.1 ((l.map (timeV true)).map (fun (t : Tm) => t.1)) ∧ RowsA iRow 1 lo w' z.2.1 ((l.map (timeV true)).map (fun (t : Tm) => t.2))) RF Try.call38 (EvL.cons RF EvL.nil) (fun w1 hw1 => slow38 w1 a c l (hl.at hw1 MM) h7) rfl (fun lo2 wr2 z2 hz2 => ?_)
        refine sq_alloc Try.zeroValue56 rfl (fun b14 => ?_)
        refine sq_store_all Try.sizeOf56 RF RF rfl RM rfl rfl ?_
        refine sq_nil ?_
        refine sx_then ?_
        refine sc_seq ?_
        refine sc_seq ?_
        refine sc_region ?_
        refine qs (y_assign RF) ?_
        refine sq_nil ?_
        refine sx_then ?_
        refine sc_block ?_
        refine sc_loop (σ := Nat)
          (fun s => [(0, .slice a l.length c), (1, .slice ao o.length co), (5, .int .i64 (whyR l o).1), (6, .int .i64 (whyR l o).2.1), (10, .int .i64 (doneO (l.map (timeV true)) o)), (11, .bool (decide (s0 < s))), (14, .pointer (some ⟨b14, 0, none⟩)), (15, .int .i64 s)])
          (fun s => [.blk b14 (.cells #[.slice z2.1.1 l.length z2.1.2, .slice z2.2.1 l.length z2.2.2] 56 (0, 0)), .reg lo2 wr2, .reg 0 w])
          (fun s => s ≤ o.length)
          (fun s => o.length - s)
          (0) ?_ SU SR ?_
        · exact Nat.zero_le _
        rintro k hk
        refine sc_seq ?_
        refine sc_seq ?_
        refine sc_region ?_
        refine qs (y_move RF) ?_
        refine qs (y_move RF) ?_
        refine qs (y_len Try.underlying35 RF) ?_
        refine qs (y_lss RF RF) ?_
        refine sq_nil ?_
        refine sx_then ?_
        refine scp (fun hc4 => ?_) (fun hc4 => ?_)
        ·
          have hk' : k < o.length := by omega
          have hso := (ho.get 0 hk').1
          have hco := (ho.get 0 hk').2
          obtain ⟨PK, hPK⟩ : ∃ PK, pathK (l.map (timeV true)) o (k : Int) o.length = PK := ⟨_, rfl⟩
          have hle := hF.le k hk'
          rw [hPK] at hle
          have hinj : o.getD k 0 = (whyR l o).1 ↔ k = s0 := by
            rw [hF.job]; exact ⟨fun e => ord_inj hF.ord hk' hF.pos e, fun e => by rw [e]⟩
          have hiff : ¬ s0 < k → decide (PK = (whyR l o).2.1) = decide (o.getD k 0 = (whyR l o).1) := fun h => by
            rw [decide_eq_decide, hinj, hhour]
            constructor
            · intro e
              rcases Nat.lt_or_ge k s0 with h1 | h1
              · exact absurd (hPK.trans e) (hF.bef k h1)
              · omega
            · rintro rfl; rw [← hPK]; exact hF.at_
          refine sc_skip ?_
          refine sx_then ?_
          refine sc_seq ?_
          refine sc_block ?_
          refine sc_seq ?_
          refine sc_region ?_
          refine qs LD56 ?_
          refine qs (y_move RF) ?_
          refine qs (y_move RF) ?_
          refine qy (yc Try.call42 E3 (fun w1 hw1 => path42n l.length (List.length_map _) (hz2.1.at hw1 MM) (hz2.2.at hw1 MM) (ho.at hw1 MM) hok (k : Int))) ?_
          rw [hPK]
          refine qs (y_assign RF) ?_
          refine sq_nil ?_
          refine sx_then ?_
          refine sc_seq ?_
          refine sc_seq ?_
          refine sc_midE (Z := {v : Bool // v = false}) (fun v => [(0, .slice a l.length c), (1, .slice ao o.length co), (5, .int .i64 (whyR l o).1), (6, .int .i64 (whyR l o).2.1), (10, .int .i64 (doneO (l.map (timeV true)) o)), (11, .bool (decide (s0 < k))), (14, .pointer (some ⟨b14, 0, none⟩)), (15, .int .i64 k), (135, .bool v.1)]) (fun _ => [.blk b14 (.cells #[.slice z2.1.1 l.length z2.1.2, .slice z2.2.1 l.length z2.2.2] 56 (0, 0)), .reg lo2 wr2, .reg 0 w]) ?_ ?_
          ·
            refine sc_region ?_
            refine qs (y_move RF) ?_
            refine qs (y_move RF) ?_
            refine qs (y_gtr RF RF) ?_
            refine qs (y_move RF) ?_
            refine sq_known (tt := 120) (b' := false) RF (decide_eq_false (by omega)) ?_
            refine qg (y_move RF) ?_
            refine qg (y_not RF) ?_
            refine qg (y_move RF) ?_
            refine sp 123 (fun hg20_6 => ?_) (fun hg20_6 => ?_)
            ·
              refine qg (y_move RF) ?_
              refine qg (y_move RF) ?_
              refine qg (y_eql RF RF) ?_
              refine qg (y_move RF) ?_
              refine qg (y_move RF) ?_
              refine qg IA35 ?_
              refine qg (by first | exact y_load_ca0 Try.underlying3 rfl RF MM hco rfl | exact LD3) ?_
              refine qg (y_move RF) ?_
              refine qg (y_eql RF RF) ?_
              refine qg (y_neqb Try.underlying4 RF RF) ?_
              refine qg (y_pick_t RF RF) ?_
              refine qs (y_pick_f RF RF) ?_
              refine sq_nil ?_
              exact sx_midE (⟨!(decide (PK = (whyR l o).2.1) == decide (o.getD k 0 = (whyR l o).1)), by rw [hiff hg20_6]; simp⟩) SU SR
            ·
              refine qf ?_
              refine qf ?_
              refine qf ?_
              refine qf ?_
              refine qf ?_
              refine qf ?_
              refine qf ?_
              refine qf ?_
              refine qf ?_
              refine qf ?_
              refine qg (y_pick_f RF RF) ?_
              refine qs (y_pick_f RF RF) ?_
              refine sq_nil ?_
              exact sx_midE (⟨false, rfl⟩) SU SR
          rintro ⟨_, rfl⟩
          try dsimp only
          refine sx_then ?_
          refine sc_f (lk_bool rfl (rfl)) ?_
          refine sc_skip ?_
          refine sx_then ?_
          refine sc_midE (Z := {v : Bool // v = decide (s0 < k + 1)}) (fun v => [(0, .slice a l.length c), (1, .slice ao o.length co), (5, .int .i64 (whyR l o).1), (6, .int .i64 (whyR l o).2.1), (10, .int .i64 (doneO (l.map (timeV true)) o)), (11, .bool v.1), (14, .pointer (some ⟨b14, 0, none⟩)), (15, .int .i64 k)]) (fun _ => [.blk b14 (.cells #[.slice z2.1.1 l.length z2.1.2, .slice z2.2.1 l.length z2.2.2] 56 (0, 0)), .reg lo2 wr2, .reg 0 w]) ?_ ?_
          ·
            refine sc_region ?_
            refine qs (y_move RF) ?_
            refine qs (y_move RF) ?_
            refine sp 137 (fun hg22_1 => ?_) (fun hg22_1 => ?_)
            ·
              refine qf ?_
              refine qf ?_
              refine qf ?_
              refine qf ?_
              refine qf ?_
              refine qf ?_
              refine qs (y_pick_t RF RF) ?_
              refine qs (y_assign RF) ?_
              refine sq_nil ?_
              exact sx_midE (⟨true, by symm; exact decide_eq_true (by omega)⟩) SU SR
            ·
              refine qg (y_move RF) ?_
              refine qg (y_move RF) ?_
              refine qg IA35 ?_
              refine qg (by first | exact y_load_ca0 Try.underlying3 rfl RF MM hco rfl | exact LD3) ?_
              refine qg (y_move RF) ?_
              refine qg (y_eql RF RF) ?_
              refine qs (y_pick_f RF RF) ?_
              refine qs (y_assign RF) ?_
              refine sq_nil ?_
              exact sx_midE (⟨decide (o.getD k 0 = (whyR l o).1), by rw [decide_eq_decide, hinj]; omega⟩) SU SR
          rintro ⟨_, rfl⟩
          try dsimp only
          refine sx_blk ?_
          refine sx_then ?_
          refine sc_region ?_
          refine qs (y_move RF) ?_
          refine qs (y_add RF RF (by omega)) ?_
          refine qs (y_assign RF) ?_
          refine sq_nil ?_
          refine sx_round (k + 1) ?_ ?_ SU SR
          · omega
          · omega
        ·
          have hkn : k = o.length := by omega
          refine sc_exit ?_
          refine sx_then_exit ?_
          refine sx_round_exit ?_
          refine sx_blk_hit ?_
          refine sx_then ?_
          refine sc_seq ?_
          refine sc_region ?_
          refine qs (y_move RF) ?_
          refine qs (y_move RF) ?_
          refine sq_known (tt := 146) (b' := true) RF (decide_eq_true (by omega)) ?_
          refine qg (y_move RF) ?_
          refine qg (y_move RF) ?_
          refine qg (y_eql RF RF) ?_
          refine qs (y_pick_t RF RF) ?_
          refine qs (y_move RF) ?_
          refine sq_known (tt := 151) (b' := true) RF (decide_eq_true (by omega)) ?_
          refine sq_gt RF RF (y_call (first := []) (caps := []) RF Try.call13 EvL.nil (fun w1 _ => awake13 w1)) rfl ?_
          refine qs (y_pick_t RF RF) ?_
          refine qs (y_assign RF) ?_
          refine sq_nil ?_
          refine sx_then ?_
          refine sc_ret ?_
          refine sx_ret1 (.inl rfl) rfl Try.results10 RF ?_
          intro w' hw'
          exact ⟨rfl, hw'.below MM⟩
end Go.Proofs.Ytjlbpmcacopbpaa
