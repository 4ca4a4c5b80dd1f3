/- The walk of the law TopPrinted. -/
import Derived.Test.YtpodaihifdlkkaaDoorWalk13
namespace Go.Proofs.YtpodaihifdlkkaaDoor
open Go Go.Eng Go.RowKit Go.Proofs
set_option maxRecDepth 100000
theorem reSoA {lo : Nat} {w : World} {z : SA} {s : So} {k : Nat} {x : Sh} (hz : SoA 0 w z s) {y : Option Addr × Nat} (hy : RowsA shRow 3 lo w y.1 (s.sh.set k x)) : SoA 0 w (reS z y) (putS s k x) := ⟨hy.low (Nat.zero_le _), hz.li, hz.mks, hz.wi⟩

theorem top3 (w : World) (z : SA) (s : So) (hz : SoA 0 w z s) (hT : TabAt w) (x : Int) (spl : Sp) (wh : Nat) (hwh : wh ≤ 255) : Calls Tryd.prog 3 #[.agg (stV z s).toArray, .int .i64 x, .agg (spRow spl).toArray, .int .u8 wh] w fun e w' => e = .returned (.bool true) ∧ Below w.heap.size w w' := by
  refine calls_of_SC (args := [.agg (stV z s).toArray, .int .i64 x, .agg (spRow spl).toArray, .int .u8 wh]) Tryd.func3 rfl Tryd.ntmps3 rfl ?_
  simp only [argL, Nat.reduceAdd, Nat.zero_add]
  refine sc_seq ?_
  refine sc_region ?_
  refine sq_box RF rfl (fun b4 => ?_)
  refine sq_box RF rfl (fun b6 => ?_)
  refine qs (y_assign RF) ?_
  refine sq_nil ?_
  refine sx_then ?_
  refine sc_seq ?_
  refine sc_seq ?_
  refine sc_midE (Z := {v : Bool // v = false → stB s = true}) (fun v => [(1, .int .i64 x), (3, .int .u8 wh), (4, .pointer (some ⟨b4, 0, none⟩)), (6, .pointer (some ⟨b6, 0, none⟩)), (54, .bool v.1)]) (fun _ => [.blk b6 (.cells (spRow spl).toArray 29 (0, 0)), .blk b4 (.cells (stV z s).toArray 27 (0, 0)), .reg 0 w]) ?_ ?_
  ·
    refine sc_region ?_
    refine qs FA27_22 ?_
    refine qs LD22 ?_
    refine qs (y_len Tryd.underlying22 RF) ?_
    refine qs (y_gtr RF RF) ?_
    refine qs (y_move RF) ?_
    refine sp 32 (fun hg1_4 => ?_) (fun hg1_4 => ?_)
    ·
      refine qf ?_
      refine qf ?_
      refine qf ?_
      refine qf ?_
      refine qs (y_pick_t RF RF) ?_
      refine qs (y_move RF) ?_
      refine qf ?_
      refine qf ?_
      refine qf ?_
      refine qf ?_
      refine qs (y_pick_t RF RF) ?_
      refine qs (y_move RF) ?_
      refine qf ?_
      refine qf ?_
      refine qf ?_
      refine qf ?_
      refine qs (y_pick_t RF RF) ?_
      refine qs (y_move RF) ?_
      refine qf ?_
      refine qf ?_
      refine qf ?_
      refine qs (y_pick_t RF RF) ?_
      refine sq_nil ?_
      exact sx_midE (⟨true, fun h => by cases h⟩) SU SR
    ·
      refine qg FA27_23 ?_
      refine qg LD23 ?_
      refine qg (y_len Tryd.underlying23 RF) ?_
      refine qg (y_gtr RF RF) ?_
      refine qs (y_pick_f RF RF) ?_
      refine qs (y_move RF) ?_
      refine sp 38 (fun hg1_10 => ?_) (fun hg1_10 => ?_)
      ·
        refine qf ?_
        refine qf ?_
        refine qf ?_
        refine qf ?_
        refine qs (y_pick_t RF RF) ?_
        refine qs (y_move RF) ?_
        refine qf ?_
        refine qf ?_
        refine qf ?_
        refine qf ?_
        refine qs (y_pick_t RF RF) ?_
        refine qs (y_move RF) ?_
        refine qf ?_
        refine qf ?_
        refine qf ?_
        refine qs (y_pick_t RF RF) ?_
        refine sq_nil ?_
        exact sx_midE (⟨true, fun h => by cases h⟩) SU SR
      ·
        refine qg FA27_24 ?_
        refine qg LD24 ?_
        refine qg (y_len Tryd.underlying24 RF) ?_
        refine qg (y_gtr RF RF) ?_
        refine qs (y_pick_f RF RF) ?_
        refine qs (y_move RF) ?_
        refine sp 44 (fun hg1_16 => ?_) (fun hg1_16 => ?_)
        ·
          refine qf ?_
          refine qf ?_
          refine qf ?_
          refine qf ?_
          refine qs (y_pick_t RF RF) ?_
          refine qs (y_move RF) ?_
          refine qf ?_
          refine qf ?_
          refine qf ?_
          refine qs (y_pick_t RF RF) ?_
          refine sq_nil ?_
          exact sx_midE (⟨true, fun h => by cases h⟩) SU SR
        ·
          refine qg FA27_25 ?_
          refine qg LD25 ?_
          refine qg (y_len Tryd.underlying25 RF) ?_
          refine qg (y_gtr RF RF) ?_
          refine qs (y_pick_f RF RF) ?_
          refine qs (y_move RF) ?_
          refine sp 50 (fun hg1_22 => ?_) (fun hg1_22 => ?_)
          ·
            refine qf ?_
            refine qf ?_
            refine qf ?_
            refine qs (y_pick_t RF RF) ?_
            refine sq_nil ?_
            exact sx_midE (⟨true, fun h => by cases h⟩) SU SR
          ·
            refine qg LD27 ?_
            refine sq_gt RF RF (y_call (first := []) (caps := []) RF Tryd.call4 (EvL.cons RF EvL.nil) (fun w1 hw1 => store4 w1 z s (hz.at hw1 MM))) rfl ?_
            refine qg (y_not RF) ?_
            refine qs (y_pick_f RF RF) ?_
            refine sq_nil ?_
            exact sx_midE (⟨!(stB s), fun h => by simpa using h⟩) SU SR
  rintro ⟨vb, hvb⟩
  try dsimp only
  refine sx_then ?_
  refine scp (fun hc0 => ?_) (fun hc0 => ?_)
  ·
    refine sc_seq ?_
    refine sc_region ?_
    refine qy (yc Tryd.call5 E0 (fun w1 hw1 => awake5 w1 (CA.at hT hw1 MM))) ?_
    refine qs (y_assign RF) ?_
    refine sq_nil ?_
    refine sx_then ?_
    refine sc_ret ?_
    refine sx_then_ret ?_
    refine sx_ret1 (.inl rfl) rfl Tryd.results3 RF ?_
    intro w' hw'
    exact ⟨rfl, hw'.below MM⟩
  ·
    have hb := hvb hc0
    have hv := stF hb
    have hs4 := hv.sh1
    refine sc_skip ?_
    refine sx_then ?_
    refine sc_seq ?_
    refine sc_region ?_
    refine qs LD27 ?_
    refine qs (y_move RF) ?_
    refine qy (yc Tryd.call6 E2 (fun w1 hw1 => May6 w1 z s (hz.at hw1 MM) hb (CA.at hT hw1 MM) x)) ?_
    refine qs (y_move RF) ?_
    refine qs (y_extract RF RF) ?_
    refine qs (y_extract RF RF) ?_
    refine qs (y_assign RF) ?_
    refine qs (y_assign RF) ?_
    refine sq_nil ?_
    refine sx_then ?_
    refine sc_seq ?_
    refine sc_region ?_
    refine qs LD27 ?_
    refine qs (y_move RF) ?_
    refine sq_call_new (first := []) (caps := []) (Z := Option Addr × Nat) (fun y => .tuple #[.slice y.1 (takesV s x).length y.2, .int .i64 (openE s x false)]) (fun lo w' y => RowsA iRow 1 lo w' y.1 (takesV s x)) RF Tryd.call7 (EvL.cons RF (EvL.cons RF EvL.nil)) (fun w1 hw1 => Takes7 w1 z s (hz.at hw1 MM) hb (CA.at hT hw1 MM) x) rfl (fun lo65 wr65 y65 hy65 => ?_)
    refine qs (y_move RF) ?_
    refine qs (y_extract RF RF) ?_
    refine qs (y_extract RF RF) ?_
    refine qs (y_assign RF) ?_
    refine qs (y_assign RF) ?_
    refine sq_nil ?_
    refine sx_then ?_
    refine sc_seq ?_
    refine sc_seq ?_
    refine sc_region ?_
    refine qs (y_move RF) ?_
    refine qs (y_neq RF RF) ?_
    refine sq_nil ?_
    refine sx_then ?_
    refine scp (fun hc1 => ?_) (fun hc1 => ?_)
    ·
      refine sc_seq ?_
      refine sc_region ?_
      refine qs (y_move RF) ?_
      refine qs (y_eql RF RF) ?_
      refine qs (y_move RF) ?_
      refine qs (y_eql RF RF) ?_
      refine qs (y_eqlb Tryd.underlying4 RF RF) ?_
      refine qs (y_move RF) ?_
      refine sq_known (tt := 75) (b' := true) RF (by rw [open_eq s x hc1]; simp) ?_
      refine sq_gt RF RF (y_call (first := []) (caps := []) RF Tryd.call5 EvL.nil (fun w1 hw1 => awake5 w1 (CA.at hT hw1 MM))) rfl ?_
      refine qs (y_pick_t RF RF) ?_
      refine qs (y_assign RF) ?_
      refine sq_nil ?_
      refine sx_then ?_
      refine sc_ret ?_
      refine sx_then_ret ?_
      refine sx_ret1 (.inl rfl) rfl Tryd.results3 RF ?_
      intro w' hw'
      exact ⟨rfl, hw'.below MM⟩
    ·
      have he0 : openE s x true = 0 := by simpa using hc1
      have hf0 := open_false s x he0
      have htl := takesV_len (openE_in he0)
      refine sc_skip ?_
      refine sx_then ?_
      refine sc_seq ?_
      refine sc_seq ?_
      refine sc_region ?_
      refine qs (y_move RF) ?_
      refine qs (y_neq RF RF) ?_
      refine qs (y_move RF) ?_
      refine sq_known (tt := 80) (b' := false) RF (by rw [hf0]; rfl) ?_
      refine qg (y_move RF) ?_
      refine qg (y_len Tryd.underlying35 RF) ?_
      refine qg FA27_22 ?_
      refine qg LD22 ?_
      refine qg (y_len Tryd.underlying22 RF) ?_
      refine qg (y_neq RF RF) ?_
      refine qs (y_pick_f RF RF) ?_
      refine sq_nil ?_
      refine sx_then ?_
      refine scp (fun hc2 => ?_) (fun hc2 => ?_)
      ·
        exact absurd hc2 (by simp [htl])
      ·
        refine sc_skip ?_
        refine sx_then ?_
        refine sc_seq ?_
        refine sc_region ?_
        refine qs (y_move RF) ?_
        refine qs (y_conv Tryd.underlying5 Tryd.underlying3 RF (wrap64_in (by omega) (by omega))) ?_
        refine qs (y_move RF) ?_
        refine qs (y_len Tryd.underlying35 RF) ?_
        refine qs (y_rem RF RF (by omega) (by omega)) ?_
        obtain ⟨k, hkd⟩ : ∃ k : Nat, (wh : Int) % ((takesV s x).length : Int) = (k : Int) ∧ k < (takesV s x).length := ⟨wh % (takesV s x).length, (Int.natCast_emod _ _).symm, Nat.mod_lt _ (by omega)⟩
        rw [hkd.1]
        have hk : k < s.sh.length := by omega
        have hs65 := (hy65.get 0 hkd.2).1
        have hc65 := (hy65.get 0 hkd.2).2
        refine sq_alloc Tryd.zeroValue3 rfl (fun b13 => ?_)
        refine sq_store Tryd.sizeOf3 RF RF (by first | rfl | assumption) RM (by first | exact Nat.le_of_ble_eq_true rfl | simp | omega) ?_
        refine sq_nil ?_
        refine sx_then ?_
        refine sc_seq ?_
        refine sc_drawR (by kernel_rfl) ?_
        refine xj_s 0 RF (by kernel_rfl) SR LD29 rfl ?_
        refine xj_s 1 RF (by kernel_rfl) SR (y_move RF) rfl ?_
        refine xj_s 2 RF (by kernel_rfl) SR LD3 rfl ?_
        refine xj_s 3 RF (by kernel_rfl) SR IA35 rfl ?_
        refine xj_s 4 RF (by kernel_rfl) SR (by first | exact y_load_ca0 Tryd.underlying3 rfl RF MM hc65 rfl | exact LD3) rfl ?_
        refine xj_one 5 RF (by kernel_rfl) ?_
        refine qy (yc Tryd.call8 E2 (fun w1 hw1 => sheets8 w1 spl ((takesV s x).getD k 0))) ?_
        refine sq_nil ?_
        refine sx_xp SR ?_
        refine xj_s 6 RF (by kernel_rfl) SR (y_move RF) rfl ?_
        refine xj_s 7 RF (by kernel_rfl) SR (y_extract RF RF) rfl ?_
        refine xj_s 8 RF (by kernel_rfl) SR (y_extract RF RF) rfl ?_
        refine xj_s 9 RF (by kernel_rfl) SR (y_assign RF) rfl ?_
        refine xj_s 10 RF (by kernel_rfl) SR (y_assign RF) rfl ?_
        refine xj_done (by kernel_rfl) ?_
        refine sx_then ?_
        refine sc_seq ?_
        refine sc_region ?_
        refine qs LD29 ?_
        refine qs (y_move RF) ?_
        refine qy (yc Tryd.call9 E2 (fun w1 _ => good9 w1 spl _)) ?_
        refine qs (y_move RF) ?_
        refine qs (y_extract RF RF) ?_
        refine qs (y_extract RF RF) ?_
        refine sq_alloc Tryd.zeroValue29 rfl (fun b16 => ?_)
        refine sq_store_all Tryd.sizeOf29 RF RF rfl RM rfl rfl ?_
        refine qs (y_assign RF) ?_
        refine sq_nil ?_
        refine sx_then ?_
        refine sc_seq ?_
        refine sc_seq ?_
        refine sc_region ?_
        refine qs (y_move RF) ?_
        refine qs (y_neq RF RF) ?_
        refine sq_nil ?_
        refine sx_then ?_
        refine scp (fun hc3 => ?_) (fun hc3 => ?_)
        ·
          refine sc_seq ?_
          refine sc_region ?_
          refine qs (y_move RF) ?_
          refine qs (y_eql RF RF) ?_
          refine qs (y_move RF) ?_
          refine sq_known (tt := 112) (b' := true) RF (decide_eq_true (sheets_no hc3)) ?_
          refine sq_gt RF RF (y_call (first := []) (caps := []) RF Tryd.call5 EvL.nil (fun w1 hw1 => awake5 w1 (CA.at hT hw1 MM))) rfl ?_
          refine qs (y_pick_t RF RF) ?_
          refine qs (y_assign RF) ?_
          refine sq_nil ?_
          refine sx_then ?_
          refine sc_ret ?_
          refine sx_then_ret ?_
          refine sx_ret1 (.inl rfl) rfl Tryd.results3 RF ?_
          intro w' hw'
          exact ⟨rfl, hw'.below MM⟩
        ·
          obtain ⟨n, hP⟩ := prF (s := s) (x := x) (sp := spl) (k := k) (by simpa using hc3)
          rw [hP.val]
          dsimp only
          rw [hP.good]
          dsimp only
          refine sc_skip ?_
          refine sx_then ?_
          refine sc_seq ?_
          refine sc_seq ?_
          refine sc_drawR (by kernel_rfl) ?_
          refine xj_s 0 RF (by kernel_rfl) SR (y_move RF) rfl ?_
          refine xj_s 1 RF (by kernel_rfl) SR (y_neq RF RF) rfl ?_
          refine xj_s 2 RF (by kernel_rfl) SR (y_move RF) rfl ?_
          refine xj_known (tt := 117) (b' := false) RF (rfl) ?_
          refine xj_gt 3 RF RF RF (by kernel_rfl) SR FA29_3 rfl ?_
          refine xj_gt 4 RF RF RF (by kernel_rfl) SR LD3 rfl ?_
          refine xj_gt 5 RF RF RF (by kernel_rfl) SR (y_move RF) rfl ?_
          refine xj_gt 6 RF RF RF (by kernel_rfl) SR LD3 rfl ?_
          refine xj_gt 7 RF RF RF (by kernel_rfl) SR IA35 rfl ?_
          refine xj_gt 8 RF RF RF (by kernel_rfl) SR (by first | exact y_load_ca0 Tryd.underlying3 rfl RF MM hc65 rfl | exact LD3) rfl ?_
          refine xj_gt 9 RF RF RF (by kernel_rfl) SR (y_lss RF RF) rfl ?_
          refine xj_s 10 RF (by kernel_rfl) SR (y_pick_f RF RF) rfl ?_
          refine xj_done (by kernel_rfl) ?_
          refine sx_then ?_
          refine scp (fun hc4 => ?_) (fun hc4 => ?_)
          ·
            have := hP.lo
            omega
          ·
            refine sc_skip ?_
            refine sx_then ?_
            refine sc_seq ?_
            refine sc_seq ?_
            refine sc_region ?_
            refine qs FA29_3 ?_
            refine qs LD3 ?_
            refine qs (y_gtr RF RF) ?_
            refine sq_nil ?_
            refine sx_then ?_
            refine scp (fun hc5 => ?_) (fun hc5 => ?_)
            ·
              refine sc_seq ?_
              refine sc_region ?_
              refine qy (yc Tryd.call5 E0 (fun w1 hw1 => awake5 w1 (CA.at hT hw1 MM))) ?_
              refine qs (y_assign RF) ?_
              refine sq_nil ?_
              refine sx_then ?_
              refine sc_ret ?_
              refine sx_then_ret ?_
              refine sx_ret1 (.inl rfl) rfl Tryd.results3 RF ?_
              intro w' hw'
              exact ⟨rfl, hw'.below MM⟩
            ·
              have hle := hP.le
              have hhi : (goodV spl (n : Int)).hi ≤ 100000 := by omega
              have hnb := hP.bd
              have hL1 := lacks_put (m := (goodV spl (n : Int))) hk x he0 1
              have hz1 : (lacksV (putS s k ⟨(goodV spl (n : Int)), 1⟩) x).getD k sp0 = sp0 := by
                have := hP.lo
                rw [hL1.2]
                unfold sp0
                congr 1 <;> omega
              refine sc_skip ?_
              refine sx_then ?_
              refine sc_seq ?_
              refine sc_region ?_
              refine qs (y_makeFunc EvL.nil (EvL.cons RF (EvL.cons RF EvL.nil))) ?_
              refine qs (y_assign RF) ?_
              refine sq_nil ?_
              refine sx_then ?_
              refine sc_seq ?_
              refine sc_region ?_
              refine qs (y_move RF) ?_
              refine qs LD29 ?_
              refine sq_call_new (first := []) (caps := [.pointer (some ⟨b4, 0, none⟩), .pointer (some ⟨b13, 0, none⟩)]) (Z := Option Addr × Nat) (fun y => .agg (stV (reS z y) (putS s k ⟨(goodV spl (n : Int)), 1⟩)).toArray) (fun lo w' y => RowsA shRow 3 lo w' y.1 (s.sh.set k ⟨(goodV spl (n : Int)), 1⟩)) RF Tryd.call10 (EvL.cons RF (EvL.cons RF EvL.nil)) (fun w1 hw1 => with10 w1 z s (hz.at hw1 MM) hv.sh1.2 (goodV spl (n : Int)) 1 ⟨b4, 0, none⟩ ⟨b13, 0, none⟩ k hk (CA.blk hw1 MM) (CA.blk hw1 (vs := [.int .i64 (k : Int)]) MM)) rfl (fun lo134 wr134 y134 hy134 => ?_)
              refine qs (y_move RF) ?_
              refine sq_call_new (first := []) (caps := []) (Z := Option Addr × Nat) (fun y => .tuple #[.slice y.1 (lacksV (putS s k ⟨(goodV spl (n : Int)), 1⟩) x).length y.2, .int .i64 (openE (putS s k ⟨(goodV spl (n : Int)), 1⟩) x true)]) (fun lo w' y => RowsA spRow 2 lo w' y.1 (lacksV (putS s k ⟨(goodV spl (n : Int)), 1⟩) x)) RF Tryd.call11 (EvL.cons RF (EvL.cons RF EvL.nil)) (fun w1 hw1 => Lacks11 w1 (reS z y134) (putS s k ⟨(goodV spl (n : Int)), 1⟩) (reSoA (hz.at hw1 MM) (hy134.at hw1 MM)) (put_ok hb k (sheet_ok hle (by omega) (by omega))) (CA.at hT hw1 MM) x) rfl (fun lo136 wr136 y136 hy136 => ?_)
              rw [put_open, he0, hL1.1]
              refine qs (y_move RF) ?_
              refine qs (y_extract RF RF) ?_
              refine qs (y_extract RF RF) ?_
              refine qs (y_assign RF) ?_
              refine qs (y_assign RF) ?_
              refine sq_nil ?_
              refine sx_then ?_
              refine sc_seq ?_
              refine sc_region ?_
              refine qs (y_move RF) ?_
              refine qs LD29 ?_
              refine sq_call_new (first := []) (caps := [.pointer (some ⟨b4, 0, none⟩), .pointer (some ⟨b13, 0, none⟩)]) (Z := Option Addr × Nat) (fun y => .agg (stV (reS z y) (putS s k ⟨(goodV spl (n : Int)), 10000⟩)).toArray) (fun lo w' y => RowsA shRow 3 lo w' y.1 (s.sh.set k ⟨(goodV spl (n : Int)), 10000⟩)) RF Tryd.call10 (EvL.cons RF (EvL.cons RF EvL.nil)) (fun w1 hw1 => with10 w1 z s (hz.at hw1 MM) hv.sh1.2 (goodV spl (n : Int)) 10000 ⟨b4, 0, none⟩ ⟨b13, 0, none⟩ k hk (CA.blk hw1 MM) (CA.blk hw1 (vs := [.int .i64 (k : Int)]) MM)) rfl (fun lo142 wr142 y142 hy142 => ?_)
              refine qs (y_move RF) ?_
              refine qy (yc Tryd.call12 E2 (fun w1 hw1 => Profit12 w1 (reS z y142) (putS s k ⟨(goodV spl (n : Int)), 10000⟩) (reSoA (hz.at hw1 MM) (hy142.at hw1 MM)) (put_ok hb k (sheet_ok hle (by omega) (by omega))) (CA.at hT hw1 MM) x)) ?_
              rw [put_open, he0, prof_put hk x hP.lo hle.2 10000 0]
              refine qs (y_move RF) ?_
              refine qs (y_extract RF RF) ?_
              refine qs (y_extract RF RF) ?_
              refine sq_alloc Tryd.zeroValue29 rfl (fun b21 => ?_)
              refine sq_store_all Tryd.sizeOf29 RF RF rfl RM rfl rfl ?_
              refine qs (y_assign RF) ?_
              refine sq_nil ?_
              refine sx_then ?_
              refine sc_seq ?_
              refine sc_region ?_
              refine qs (y_move RF) ?_
              refine qs LD29 ?_
              refine sq_call_new (first := []) (caps := [.pointer (some ⟨b4, 0, none⟩), .pointer (some ⟨b13, 0, none⟩)]) (Z := Option Addr × Nat) (fun y => .agg (stV (reS z y) (putS s k ⟨(goodV spl (n : Int)), 0⟩)).toArray) (fun lo w' y => RowsA shRow 3 lo w' y.1 (s.sh.set k ⟨(goodV spl (n : Int)), 0⟩)) RF Tryd.call10 (EvL.cons RF (EvL.cons RF EvL.nil)) (fun w1 hw1 => with10 w1 z s (hz.at hw1 MM) hv.sh1.2 (goodV spl (n : Int)) 0 ⟨b4, 0, none⟩ ⟨b13, 0, none⟩ k hk (CA.blk hw1 MM) (CA.blk hw1 (vs := [.int .i64 (k : Int)]) MM)) rfl (fun lo150 wr150 y150 hy150 => ?_)
              refine qs (y_move RF) ?_
              refine qy (yc Tryd.call12 E2 (fun w1 hw1 => Profit12 w1 (reS z y150) (putS s k ⟨(goodV spl (n : Int)), 0⟩) (reSoA (hz.at hw1 MM) (hy150.at hw1 MM)) (put_ok hb k (sheet_ok hle (by omega) (by omega))) (CA.at hT hw1 MM) x)) ?_
              rw [put_open, he0]
              refine qs (y_move RF) ?_
              refine qs (y_extract RF RF) ?_
              refine qs (y_extract RF RF) ?_
              refine sq_alloc Tryd.zeroValue29 rfl (fun b23 => ?_)
              refine sq_store_all Tryd.sizeOf29 RF RF rfl RM rfl rfl ?_
              refine qs (y_assign RF) ?_
              refine sq_nil ?_
              refine sx_then ?_
              refine sc_seq ?_
              refine sc_seq ?_
              have hk1 : k < (lacksV (putS s k ⟨(goodV spl (n : Int)), 1⟩) x).length := by rw [hL1.1]; exact hkd.2
              have hs136 := (hy136.get sp0 hk1).1
              have hc136 := (hy136.get sp0 hk1).2
              rw [hz1] at hc136
              refine sc_region ?_
              refine qs (y_move RF) ?_
              refine qs (y_neq RF RF) ?_
              refine qs (y_move RF) ?_
              refine sq_known (tt := 157) (b' := false) RF (rfl) ?_
              refine qg (y_move RF) ?_
              refine qg (y_len Tryd.underlying44 RF) ?_
              refine qg (y_move RF) ?_
              refine qg (y_len Tryd.underlying35 RF) ?_
              refine qg (y_neq RF RF) ?_
              refine qs (y_pick_f RF RF) ?_
              refine qs (y_move RF) ?_
              refine sq_known (tt := 164) (b' := false) RF (by simp) ?_
              refine qg (y_move RF) ?_
              refine qg LD3 ?_
              refine qg IA44 ?_
              refine qg (by first | exact y_load_ca Tryd.underlying29 rfl Tryd.sizeOf29 RF MM hc136 rfl | exact LD29) ?_
              refine qg (y_build bt29 EvP.nil RF) ?_
              refine qg (y_neqs (by kernel_rfl) RF RF (neq29 _ _ _ _)) ?_
              refine qs (y_pick_f RF RF) ?_
              refine qs (y_move RF) ?_
              refine sq_known (tt := 172) (b' := false) RF (rfl) ?_
              refine qg (y_move RF) ?_
              refine qg (y_neq RF RF) ?_
              refine qs (y_pick_f RF RF) ?_
              refine qs (y_move RF) ?_
              refine sq_known (tt := 176) (b' := false) RF (rfl) ?_
              refine qg (y_move RF) ?_
              refine qg (y_neq RF RF) ?_
              refine qs (y_pick_f RF RF) ?_
              refine qs (y_move RF) ?_
              refine sq_known (tt := 180) (b' := false) RF (rfl) ?_
              refine qg LD29 ?_
              refine qg LD29 ?_
              refine qg (y_neqs (by kernel_rfl) RF RF (neq29 _ _ _ _)) ?_
              refine qs (y_pick_f RF RF) ?_
              refine sq_nil ?_
              refine sx_then ?_
              refine scp (fun hc6 => ?_) (fun hc6 => ?_)
              ·
                exact absurd ⟨rfl, rfl⟩ hc6
              ·
                refine sc_skip ?_
                refine sx_then ?_
                refine sc_seq ?_
                refine sc_seq ?_
                refine sc_region ?_
                refine qs (y_move RF) ?_
                refine qs (y_eql RF RF) ?_
                refine sq_nil ?_
                refine sx_then ?_
                refine scp (fun hc7 => ?_) (fun hc7 => ?_)
                ·
                  refine sc_seq ?_
                  refine sc_region ?_
                  refine qy (yc Tryd.call5 E0 (fun w1 hw1 => awake5 w1 (CA.at hT hw1 MM))) ?_
                  refine qs (y_assign RF) ?_
                  refine sq_nil ?_
                  refine sx_then ?_
                  refine sc_ret ?_
                  refine sx_then_ret ?_
                  refine sx_ret1 (.inl rfl) rfl Tryd.results3 RF ?_
                  intro w' hw'
                  exact ⟨rfl, hw'.below MM⟩
                ·
                  have hpos : 0 < n := by omega
                  obtain ⟨hf1, hf2, hf3, hf4, hf5⟩ := hP.few hpos
                  have hfle := And.intro hf3 hf4
                  have hL2 := lacks_put (m := (goodV spl ((n : Int) - 1))) hk x he0 1
                  refine sc_skip ?_
                  refine sx_then ?_
                  refine sc_seq ?_
                  refine sc_region ?_
                  refine qs LD29 ?_
                  refine qs (y_move RF) ?_
                  refine qs (y_sub RF RF (by omega)) ?_
                  refine qy (yc Tryd.call9 E2 (fun w1 _ => good9 w1 spl ((n : Int) - 1))) ?_
                  rw [hf1]
                  dsimp only
                  refine qs (y_move RF) ?_
                  refine qs (y_extract RF RF) ?_
                  refine qs (y_extract RF RF) ?_
                  refine sq_alloc Tryd.zeroValue29 rfl (fun b25 => ?_)
                  refine sq_store_all Tryd.sizeOf29 RF RF rfl RM rfl rfl ?_
                  refine qs (y_assign RF) ?_
                  refine sq_nil ?_
                  refine sx_then ?_
                  refine sc_seq ?_
                  refine sc_region ?_
                  refine qs (y_move RF) ?_
                  refine qs LD29 ?_
                  refine sq_call_new (first := []) (caps := [.pointer (some ⟨b4, 0, none⟩), .pointer (some ⟨b13, 0, none⟩)]) (Z := Option Addr × Nat) (fun y => .agg (stV (reS z y) (putS s k ⟨(goodV spl ((n : Int) - 1)), 1⟩)).toArray) (fun lo w' y => RowsA shRow 3 lo w' y.1 (s.sh.set k ⟨(goodV spl ((n : Int) - 1)), 1⟩)) RF Tryd.call10 (EvL.cons RF (EvL.cons RF EvL.nil)) (fun w1 hw1 => with10 w1 z s (hz.at hw1 MM) hv.sh1.2 (goodV spl ((n : Int) - 1)) 1 ⟨b4, 0, none⟩ ⟨b13, 0, none⟩ k hk (CA.blk hw1 MM) (CA.blk hw1 (vs := [.int .i64 (k : Int)]) MM)) rfl (fun lo198 wr198 y198 hy198 => ?_)
                  refine qs (y_move RF) ?_
                  refine sq_call_new (first := []) (caps := []) (Z := Option Addr × Nat) (fun y => .tuple #[.slice y.1 (lacksV (putS s k ⟨(goodV spl ((n : Int) - 1)), 1⟩) x).length y.2, .int .i64 (openE (putS s k ⟨(goodV spl ((n : Int) - 1)), 1⟩) x true)]) (fun lo w' y => RowsA spRow 2 lo w' y.1 (lacksV (putS s k ⟨(goodV spl ((n : Int) - 1)), 1⟩) x)) RF Tryd.call11 (EvL.cons RF (EvL.cons RF EvL.nil)) (fun w1 hw1 => Lacks11 w1 (reS z y198) (putS s k ⟨(goodV spl ((n : Int) - 1)), 1⟩) (reSoA (hz.at hw1 MM) (hy198.at hw1 MM)) (put_ok hb k (sheet_ok hfle (by omega) (by omega))) (CA.at hT hw1 MM) x) rfl (fun lo200 wr200 y200 hy200 => ?_)
                  rw [put_open, he0, hL2.1]
                  refine qs (y_move RF) ?_
                  refine qs (y_extract RF RF) ?_
                  refine qs (y_extract RF RF) ?_
                  refine qs (y_assign RF) ?_
                  refine qs (y_assign RF) ?_
                  refine sq_nil ?_
                  refine sx_then ?_
                  refine sc_seq ?_
                  have hk2 : k < (lacksV (putS s k ⟨(goodV spl ((n : Int) - 1)), 1⟩) x).length := by rw [hL2.1]; exact hkd.2
                  have hs200 := (hy200.get sp0 hk2).1
                  have hc200 := (hy200.get sp0 hk2).2
                  refine sc_region ?_
                  refine qs (y_move RF) ?_
                  refine qs (y_eql RF RF) ?_
                  refine qs (y_move RF) ?_
                  refine sq_known (tt := 205) (b' := true) RF (rfl) ?_
                  refine qg (y_move RF) ?_
                  refine qg (y_eql RF RF) ?_
                  refine qs (y_pick_t RF RF) ?_
                  refine qs (y_move RF) ?_
                  refine sq_known (tt := 209) (b' := true) RF (rfl) ?_
                  refine qg (y_move RF) ?_
                  refine qg (y_len Tryd.underlying44 RF) ?_
                  refine qg (y_move RF) ?_
                  refine qg (y_len Tryd.underlying35 RF) ?_
                  refine qg (y_eql RF RF) ?_
                  refine qs (y_pick_t RF RF) ?_
                  refine qs (y_move RF) ?_
                  refine sq_known (tt := 216) (b' := true) RF (by simp) ?_
                  refine qg (y_move RF) ?_
                  refine qg LD3 ?_
                  refine qg IA44 ?_
                  refine qg FA29_3 ?_
                  refine qg (by first | exact y_load_caj Tryd.underlying3 rfl RF MM hc200 rfl | exact LD3) ?_
                  refine qg (y_gtr RF RF) ?_
                  refine qs (y_pick_t RF RF) ?_
                  refine qs (y_move RF) ?_
                  refine sq_known (tt := 224) (b' := true) RF (decide_eq_true (by rw [hL2.2]; dsimp only; omega)) ?_
                  refine sq_gt RF RF (y_call (first := []) (caps := []) RF Tryd.call5 EvL.nil (fun w1 hw1 => awake5 w1 (CA.at hT hw1 MM))) rfl ?_
                  refine qs (y_pick_t RF RF) ?_
                  refine qs (y_assign RF) ?_
                  refine sq_nil ?_
                  refine sx_then ?_
                  refine sc_ret ?_
                  refine sx_ret1 (.inl rfl) rfl Tryd.results3 RF ?_
                  intro w' hw'
                  exact ⟨rfl, hw'.below MM⟩
end Go.Proofs.YtpodaihifdlkkaaDoor
