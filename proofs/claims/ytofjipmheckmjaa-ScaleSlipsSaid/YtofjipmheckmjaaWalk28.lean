/- The walk of the law ScaleSlips. -/
import Derived.Test.YtofjipmheckmjaaWalk26
import Derived.Test.YtofjipmheckmjaaLaw2
namespace Go.Proofs.Ytofjipmheckmjaa
open Go Go.Eng Go.RowKit Go.Proofs
set_option maxRecDepth 100000
theorem readAns_ok {b : Bx} {L : List Int} {t : Te} (hok : bxB b = true) (ht : teB b t = true) (hc : canV b L = true) : readAns b L t = .tuple #[.agg (spRow (readV b t L)).toArray, .int .i64 0] := by
  unfold readAns; rw [if_pos ⟨hok, ht⟩, if_pos hc]

theorem could37 (w : World) (b : Bx) (a : Option Addr) (c : Nat) (hB : RowsA kdRow 3 0 w a b.kinds) (hok : bxB b = true) (at_ : Option Addr) (ct : Nat) (ts : List Te) (ht : RowsA teRow 7 0 w at_ ts) (hte : ∀ t, t ∈ ts → teB b t = true) (al : Option Addr) (cl : Nat) (L : List Int) (hl : RowsA iRow 1 0 w al L) (hcan : canV b L = true) (pt pb : Addr) (hpt : CA 0 w pt [.slice at_ ts.length ct]) (hpb : CA 0 w pb (bxRow b a c)) : Calls Try.prog 37 #[.slice al L.length cl, .pointer (some pt), .pointer (some pb)] w fun e w' => e = .returned (.bool (okAll b ts L)) ∧ Below w.heap.size w w' := by
  have htlen := ht.len
  refine calls_of_SC (args := [.slice al L.length cl, .pointer (some pt), .pointer (some pb)]) Try.func37 rfl Try.ntmps37 rfl ?_
  simp only [argL, Nat.reduceAdd, Nat.zero_add]
  refine sc_seq ?_
  refine sc_region ?_
  refine qs (y_assign RF) ?_
  refine sq_nil ?_
  refine sx_then ?_
  refine sc_seq ?_
  refine sc_seq ?_
  refine sc_region ?_
  refine qs (by first | exact y_load_ca0 Try.underlying43 rfl RF MM hpt rfl | exact LD43) ?_
  refine qs (y_len Try.underlying43 RF) ?_
  refine qs (y_move RF) ?_
  refine sq_nil ?_
  refine sx_then ?_
  refine sc_block ?_
  refine sc_loop (σ := Nat)
    (fun s => [(0, .slice al L.length cl), (1, .pointer (some pt)), (2, .pointer (some pb)), (9, .slice at_ ts.length ct), (10, .int .i64 ts.length), (11, .int .i64 s)])
    (fun s => [.reg 0 w])
    (fun s => s ≤ ts.length ∧ ∀ j, j < s → passV b (ts.getD j te0) L = true)
    (fun s => ts.length - s)
    (0) ?_ SU SR ?_
  · exact ⟨Nat.zero_le _, fun j hj => absurd hj (Nat.not_lt_zero j)⟩
  rintro k ⟨hk, hyes⟩
  refine sc_seq ?_
  refine sc_region ?_
  refine qs (y_lss RF RF) ?_
  refine sq_nil ?_
  refine sx_then ?_
  refine sc_seq ?_
  refine scp (fun hc0 => ?_) (fun hc0 => ?_)
  ·
    have hk' : k < ts.length := by omega
    have hsm := (ht.get te0 hk').1
    have hca := (ht.get te0 hk').2
    have htv := hte _ (List.mem_of_getElem? (get_of_lt te0 hk'))
    refine sc_skip ?_
    refine sx_then ?_
    refine sc_seq ?_
    refine sc_block ?_
    refine sc_seq ?_
    refine sc_region ?_
    refine qs IA43 ?_
    refine qs (by first | exact y_load_ca Try.underlying29 rfl Try.sizeOf29 RF MM hca rfl | exact LD29) ?_
    refine sq_alloc Try.zeroValue29 rfl (fun b6 => ?_)
    refine sq_store_all Try.sizeOf29 RF RF rfl RM rfl rfl ?_
    refine sq_nil ?_
    refine sx_then ?_
    refine sc_seq ?_
    refine sc_region ?_
    refine qs (by first | exact y_load_ca Try.underlying26 rfl Try.sizeOf26 RF MM hpb rfl | exact LD26) ?_
    refine qs (y_move RF) ?_
    refine qs LD29 ?_
    refine qy (yc Try.call14 E3 (fun w1 hw1 => reads14x w1 b a c (hB.at hw1 MM) al cl L (hl.at hw1 MM) (ts.getD k te0) (readAns_ok hok htv hcan))) ?_
    refine qs (y_move RF) ?_
    refine qs (y_extract RF RF) ?_
    refine qs (y_extract RF RF) ?_
    refine sq_alloc Try.zeroValue24 rfl (fun b7 => ?_)
    refine sq_store_all Try.sizeOf24 RF RF rfl RM rfl rfl ?_
    refine qs (y_assign RF) ?_
    refine sq_nil ?_
    refine sx_then ?_
    refine sc_seq ?_
    refine sc_region ?_
    refine qs (y_move RF) ?_
    refine qs (y_neq RF RF) ?_
    refine qs (y_move RF) ?_
    refine sq_known (tt := 24) (b' := false) RF (by simp) ?_
    refine qg FA24_3 ?_
    refine qg LD3 ?_
    refine qg FA29_24 ?_
    refine qg FA24_3 ?_
    refine qg LD3 ?_
    refine qg (y_gtr RF RF) ?_
    refine qs (y_pick_f RF RF) ?_
    refine qs (y_move RF) ?_
    refine sp 32 (fun hg5_10 => ?_) (fun hg5_10 => ?_)
    ·
      refine qf ?_
      refine qf ?_
      refine qf ?_
      refine qf ?_
      refine qf ?_
      refine qf ?_
      refine qs (y_pick_t RF RF) ?_
      refine sq_nil ?_
      refine sx_then ?_
      refine sc_t RF ?_
      refine sc_seq ?_
      refine sc_region ?_
      refine qs (y_assign RF) ?_
      refine sq_nil ?_
      refine sx_then ?_
      refine sc_ret ?_
      refine sx_blk_ret ?_
      refine sx_then_ret ?_
      refine sx_round_ret ?_
      refine sx_blk_ret ?_
      refine sx_then_ret ?_
      refine sx_ret1 (.inl rfl) rfl Try.results37 RF ?_
      intro w' hw'
      refine ⟨?_, hw'.below MM⟩
      have hf : passV b (ts.getD k te0) L = false := by unfold passV meetsV; exact decide_eq_false (by omega)
      have hall : okAll b ts L = false := List.all_eq_false.2 ⟨k, List.mem_range.2 hk', by rw [hf]; decide⟩
      rw [hall]
    ·
      refine qg FA24_3 ?_
      refine qg LD3 ?_
      refine qg FA29_24 ?_
      refine qg FA24_3 ?_
      refine qg LD3 ?_
      refine qg (y_lss RF RF) ?_
      refine qs (y_pick_f RF RF) ?_
      refine sq_nil ?_
      refine sx_then ?_
      refine scp (fun hc1 => ?_) (fun hc1 => ?_)
      ·
        refine sc_seq ?_
        refine sc_region ?_
        refine qs (y_assign RF) ?_
        refine sq_nil ?_
        refine sx_then ?_
        refine sc_ret ?_
        refine sx_blk_ret ?_
        refine sx_then_ret ?_
        refine sx_round_ret ?_
        refine sx_blk_ret ?_
        refine sx_then_ret ?_
        refine sx_ret1 (.inl rfl) rfl Try.results37 RF ?_
        intro w' hw'
        refine ⟨?_, hw'.below MM⟩
        have hf : passV b (ts.getD k te0) L = false := by unfold passV meetsV; exact decide_eq_false (by omega)
        have hall : okAll b ts L = false := List.all_eq_false.2 ⟨k, List.mem_range.2 hk', by rw [hf]; decide⟩
        rw [hall]
      ·
        refine sc_skip ?_
        refine sx_blk ?_
        refine sx_then ?_
        refine sc_region ?_
        refine qs (y_add RF RF (by omega)) ?_
        refine qs (y_move RF) ?_
        refine sq_nil ?_
        refine sx_round (k + 1) ?_ ?_ SU SR
        · refine ⟨by omega, fun j hj => ?_⟩
          rcases Nat.lt_succ_iff_lt_or_eq.1 hj with h9 | rfl
          · exact hyes j h9
          · unfold passV meetsV; exact decide_eq_true (by omega)
        · omega
  ·
    refine sc_exit ?_
    refine sx_then_exit ?_
    refine sx_round_exit ?_
    refine sx_blk_hit ?_
    refine sx_then ?_
    refine sc_seq ?_
    refine sc_region ?_
    refine qs (y_assign RF) ?_
    refine sq_nil ?_
    refine sx_then ?_
    refine sc_ret ?_
    refine sx_ret1 (.inl rfl) rfl Try.results37 RF ?_
    intro w' hw'
    refine ⟨?_, hw'.below MM⟩
    have hkn : k = ts.length := by omega
    subst hkn
    have hall : okAll b ts L = true := List.all_eq_true.2 fun j hj => hyes j (List.mem_range.1 hj)
    rw [hall]
theorem slips7 (w : World) (b : Bx) (a : Option Addr) (c : Nat) (hB : RowsA kdRow 3 0 w a b.kinds) (at_ : Option Addr) (ct : Nat) (ts : List Te) (ht : RowsA teRow 7 0 w at_ ts) (ay : Option Addr) (cy : Nat) (bys : List Int) (hy : RowsA uRow 1 0 w ay bys) (hu : ∀ x, x ∈ bys → isU x) : Calls Try.prog 7 #[.agg (bxRow b a c).toArray, .slice at_ ts.length ct, .slice ay bys.length cy] w fun e w' => e = .returned (.bool true) ∧ Below w.heap.size w w' := by
  have htlen := ht.len
  refine calls_of_SC (args := [.agg (bxRow b a c).toArray, .slice at_ ts.length ct, .slice ay bys.length cy]) Try.func7 rfl Try.ntmps7 rfl ?_
  simp only [argL, Nat.reduceAdd, Nat.zero_add]
  refine sc_seq ?_
  refine sc_region ?_
  refine sq_box RF rfl (fun b3 => ?_)
  refine sq_box RF rfl (fun b4 => ?_)
  refine qs (y_assign RF) ?_
  refine sq_nil ?_
  refine sx_then ?_
  refine sc_seq ?_
  refine sc_seq ?_
  refine sc_region ?_
  refine qs LD26 ?_
  refine qs LD43 ?_
  refine qy (yc Try.call12 E4 (fun w1 hw1 => great12 w1 b a c (hB.at hw1 MM) 4 none 0 0 at_ ct ts.length)) ?_
  refine qs (y_move RF) ?_
  refine spb 16 (fun hg1_3 => ?_) (fun hg1_3 => ?_)
  ·
    refine qf ?_
    refine qf ?_
    refine qf ?_
    refine qs (y_pick_t RF RF) ?_
    refine sq_nil ?_
    refine sx_then ?_
    refine sc_t RF ?_
    refine sc_seq ?_
    refine sc_region ?_
    refine qy (yc Try.call13 E0 (fun w1 _ => alive13 w1)) ?_
    refine qs (y_assign RF) ?_
    refine sq_nil ?_
    refine sx_then ?_
    refine sc_ret ?_
    refine sx_then_ret ?_
    refine sx_ret1 (.inl rfl) rfl Try.results7 RF ?_
    intro w' hw'
    exact ⟨rfl, hw'.below MM⟩
  ·
    refine qg (y_move RF) ?_
    refine qg (y_len Try.underlying56 RF) ?_
    refine qg (y_eql RF RF) ?_
    refine qs (y_pick_f RF RF) ?_
    refine sq_nil ?_
    refine sx_then ?_
    refine scp (fun hc0 => ?_) (fun hc0 => ?_)
    ·
      refine sc_seq ?_
      refine sc_region ?_
      refine qy (yc Try.call13 E0 (fun w1 _ => alive13 w1)) ?_
      refine qs (y_assign RF) ?_
      refine sq_nil ?_
      refine sx_then ?_
      refine sc_ret ?_
      refine sx_then_ret ?_
      refine sx_ret1 (.inl rfl) rfl Try.results7 RF ?_
      intro w' hw'
      exact ⟨rfl, hw'.below MM⟩
    ·
      refine sc_skip ?_
      refine sx_then ?_
      refine sc_seq ?_
      refine sc_region ?_
      refine qs LD26 ?_
      refine qs LD43 ?_
      refine sq_call_new (first := []) (caps := []) (Z := Option Addr × Nat) (fun z => .tuple #[.slice z.1 (slipR b ts).1.length z.2, .int .i64 (slipR b ts).2]) (fun lo w' z => RowsA iRow 1 lo w' z.1 (slipR b ts).1) RF Try.call21 (EvL.cons RF (EvL.cons RF EvL.nil)) (fun w1 hw1 => slips21 w1 b a c (hB.at hw1 MM) at_ ct ts (ht.at hw1 MM)) rfl (fun lo wr zk hk0 => ?_)
      refine qs (y_move RF) ?_
      refine qs (y_extract RF RF) ?_
      refine qs (y_extract RF RF) ?_
      refine qs (y_assign RF) ?_
      refine qs (y_assign RF) ?_
      refine sq_nil ?_
      refine sx_then ?_
      refine sc_seq ?_
      refine sc_seq ?_
      refine sc_midE (Z := {x : Bool // x = true ↔ ¬ (slipR b ts).2 = 0 ∧ ¬ (slipR b ts).2 = 4}) (fun z => [(2, .slice ay bys.length cy), (3, .pointer (some ⟨b3, 0, none⟩)), (4, .pointer (some ⟨b4, 0, none⟩)), (7, .slice zk.1 (slipR b ts).1.length zk.2), (8, .int .i64 (slipR b ts).2), (33, .bool z.1)]) (fun _ => [.blk b4 (.cells [Value.slice at_ ts.length ct].toArray 43 (0, 0)), .blk b3 (.cells (bxRow b a c).toArray 26 (0, 0)), .reg lo wr, .reg 0 w]) ?_ ?_
      ·
        refine sc_region ?_
        refine qs (y_move RF) ?_
        refine qs (y_neq RF RF) ?_
        refine qs (y_move RF) ?_
        refine sp 30 (fun hg4_2 => ?_) (fun hg4_2 => ?_)
        ·
          refine qg (y_move RF) ?_
          refine qg (y_neq RF RF) ?_
          refine qs (y_pick_t RF RF) ?_
          refine sq_nil ?_
          exact sx_midE (⟨!decide ((slipR b ts).2 = 4), by simp [hg4_2]⟩) SU SR
        ·
          refine qf ?_
          refine qf ?_
          refine qs (y_pick_f RF RF) ?_
          refine sq_nil ?_
          exact sx_midE (⟨false, by simp [hg4_2]⟩) SU SR
      rintro ⟨x, hx⟩
      try dsimp only
      refine sx_then ?_
      refine scp (fun hc1 => ?_) (fun hc1 => ?_)
      ·
        refine sc_seq ?_
        refine sc_region ?_
        refine qs (y_move RF) ?_
        refine qs (y_len Try.underlying27 RF) ?_
        refine qs (y_eql RF RF) ?_
        refine qs (y_move RF) ?_
        refine sq_known (tt := 37) (b' := true) RF (by rw [slip_err (hx.1 hc1).1]; rfl) ?_
        refine sq_gt RF RF (y_call (first := []) (caps := []) RF Try.call13 EvL.nil (fun w1 _ => alive13 w1)) rfl ?_
        refine qs (y_pick_t RF RF) ?_
        refine qs (y_assign RF) ?_
        refine sq_nil ?_
        refine sx_then ?_
        refine sc_ret ?_
        refine sx_then_ret ?_
        refine sx_ret1 (.inl rfl) rfl Try.results7 RF ?_
        intro w' hw'
        exact ⟨rfl, hw'.below MM⟩
      ·
        refine sc_skip ?_
        refine sx_then ?_
        refine sc_seq ?_
        refine sc_seq ?_
        have he : (slipR b ts).2 = 0 ∨ (slipR b ts).2 = 4 := by rw [hc1] at hx; simp at hx; omega
        have hz := chk_zero (he.elim (fun h => (slip_some h).1) (fun h => (slip_none h).1))
        have h0 : 0 < bys.length := by omega
        refine sc_region ?_
        refine qs LD26 ?_
        refine qy (yc Try.call32 E1 (fun w1 hw1 => box32 w1 b a c (hB.at hw1 MM))) ?_
        refine qs (y_not RF) ?_
        refine qs (y_move RF) ?_
        refine sq_known (tt := 43) (b' := false) RF (by rw [hz.1]; rfl) ?_
        refine qg LD43 ?_
        refine qg (y_len Try.underlying43 RF) ?_
        refine qg (y_gtr RF RF) ?_
        refine qs (y_pick_f RF RF) ?_
        refine sq_nil ?_
        refine sx_then ?_
        refine sc_f (lk_bool rfl (decide_eq_false (by have := hz.2.2.1; omega))) ?_
        refine sc_skip ?_
        refine sx_then ?_
        refine sc_seq ?_
        refine sc_region ?_
        refine qs (y_makeFunc EvL.nil (EvL.cons RF (EvL.cons RF EvL.nil))) ?_
        refine qs (y_assign RF) ?_
        refine sq_nil ?_
        refine sx_then ?_
        refine sc_seq ?_
        refine sc_region ?_
        refine qs LD26 ?_
        refine qs (y_move RF) ?_
        refine sq_call_new (first := []) (caps := []) (Z := Option Addr × Nat × List Int) (fun z => .slice z.1 z.2.2.length z.2.1) (fun lo w' z => RowsA iRow 1 lo w' z.1 z.2.2 ∧ canV b z.2.2 = true) RF Try.call33 (EvL.cons RF (EvL.cons RF EvL.nil)) (fun w1 hw1 => has33 w1 b a c (hB.at hw1 MM) hz.1 ay cy bys (hy.at hw1 MM) hu h0) rfl (fun lo2 wr2 zh hzh => ?_)
        obtain ⟨ah, ch, M⟩ := zh
        obtain ⟨hM, hcan⟩ := hzh
        dsimp only at hM hcan ⊢
        refine qs (y_assign RF) ?_
        refine sq_nil ?_
        refine sx_then ?_
        refine sc_seq ?_
        refine sc_region ?_
        refine qs (y_move RF) ?_
        refine qy (yc Try.call36 E1 (fun w1 hw1 => whole36 w1 ah ch M (hM.at hw1 MM))) ?_
        refine qs (y_not RF) ?_
        refine qs (y_move RF) ?_
        refine sp 55 (fun hg10_3 => ?_) (fun hg10_3 => ?_)
        ·
          refine qg (y_move RF) ?_
          refine qg (y_move RF) ?_
          refine sq_gt RF RF (y_call (first := []) (caps := [.pointer (some ⟨b4, 0, none⟩), .pointer (some ⟨b3, 0, none⟩)]) RF Try.call37 E1 (fun w1 hw1 => could37 w1 b a c (hB.at hw1 MM) hz.1 at_ ct ts (ht.at hw1 MM) hz.2.2.2.2 ah ch M (hM.at hw1 MM) hcan _ _ (CA.blk (vs := [.slice at_ ts.length ct]) hw1 MM) (CA.blk hw1 MM))) rfl ?_
          refine qs (y_pick_t RF RF) ?_
          refine qs (y_assign RF) ?_
          refine sq_nil ?_
          refine sx_then ?_
          refine sc_seq ?_
          refine sc_seq ?_
          refine sc_region ?_
          refine qs (y_move RF) ?_
          refine qs (y_neq RF RF) ?_
          refine sq_nil ?_
          refine sx_then ?_
          refine scp (fun hc3 => ?_) (fun hc3 => ?_)
          ·
            refine sc_seq ?_
            refine sc_region ?_
            refine qs (y_move RF) ?_
            refine qs (y_len Try.underlying27 RF) ?_
            refine qs (y_eql RF RF) ?_
            refine qs (y_move RF) ?_
            refine sq_known (tt := 65) (b' := true) RF (by rw [slip_err hc3]; rfl) ?_
            refine qg (y_move RF) ?_
            refine qg (y_not RF) ?_
            refine qs (y_pick_t RF RF) ?_
            refine qs (y_move RF) ?_
            refine sq_known (tt := 69) (b' := true) RF (by first | rfl | (rw [none_ok (slip_none (he.resolve_left hc3)).2.1 (inc_of hz.1 hcan (by simpa using hg10_3))]; rfl)) ?_
            refine sq_gt RF RF (y_call (first := []) (caps := []) RF Try.call13 EvL.nil (fun w1 _ => alive13 w1)) rfl ?_
            refine qs (y_pick_t RF RF) ?_
            refine qs (y_assign RF) ?_
            refine sq_nil ?_
            refine sx_then ?_
            refine sc_ret ?_
            refine sx_then_ret ?_
            refine sx_ret1 (.inl rfl) rfl Try.results7 RF ?_
            intro w' hw'
            exact ⟨rfl, hw'.below MM⟩
          ·
            refine sc_skip ?_
            refine sx_then ?_
            refine sc_seq ?_
            refine sc_seq ?_
            have he0 : (slipR b ts).2 = 0 := by omega
            have hsl := slip_in (slip_some he0).2
            have hki := inc_can hz.1 hsl.1
            refine sc_region ?_
            refine qs LD26 ?_
            refine qs (y_move RF) ?_
            refine qy (yc Try.call38 E2 (fun w1 hw1 => can38 w1 b a c (hB.at hw1 MM) hz.1 zk.1 zk.2 (slipR b ts).1 (hk0.at hw1 MM))) ?_
            refine qs (y_not RF) ?_
            refine qs (y_move RF) ?_
            refine sq_known (tt := 76) (b' := false) RF (by rw [hki.1]; rfl) ?_
            refine qg (y_move RF) ?_
            refine sq_gt RF RF (y_call (first := []) (caps := []) RF Try.call36 (EvL.cons RF EvL.nil) (fun w1 hw1 => whole36 w1 zk.1 zk.2 (slipR b ts).1 (hk0.at hw1 MM))) rfl ?_
            refine qs (y_pick_f RF RF) ?_
            refine qs (y_move RF) ?_
            refine sq_known (tt := 80) (b' := false) RF (hki.2) ?_
            refine qg (y_move RF) ?_
            refine qg (y_move RF) ?_
            refine sq_gt RF RF (y_call (first := []) (caps := [.pointer (some ⟨b4, 0, none⟩), .pointer (some ⟨b3, 0, none⟩)]) RF Try.call37 E1 (fun w1 hw1 => could37 w1 b a c (hB.at hw1 MM) hz.1 at_ ct ts (ht.at hw1 MM) hz.2.2.2.2 zk.1 zk.2 (slipR b ts).1 (hk0.at hw1 MM) hki.1 _ _ (CA.blk (vs := [.slice at_ ts.length ct]) hw1 MM) (CA.blk hw1 MM))) rfl ?_
            refine qg (y_not RF) ?_
            refine qs (y_pick_f RF RF) ?_
            refine sq_nil ?_
            refine sx_then ?_
            refine sc_f (lk_bool rfl (by rw [hsl.2]; rfl)) ?_
            refine sc_skip ?_
            refine sx_then ?_
            refine sc_seq ?_
            refine sc_seq ?_
            refine sc_region ?_
            refine qs (y_move RF) ?_
            refine sq_nil ?_
            refine sx_then ?_
            refine scp (fun hc5 => ?_) (fun hc5 => ?_)
            ·
              have hbp := (bxB_parts hz.1).1
              have hw : wholeV M = false := by simpa using hg10_3
              have hfst := slip_first (slip_some he0).2 (inc_of hz.1 hcan hw) hc5
              have hlk : (slipR b ts).1.length = b.kinds.length := by have := hki.1; unfold canV at this; simp only [Bool.and_eq_true, decide_eq_true_eq] at this; exact this.1.1
              have hlm : M.length = b.kinds.length := by have := hcan; unfold canV at this; simp only [Bool.and_eq_true, decide_eq_true_eq] at this; exact this.1.1
              refine sc_seq ?_
              refine sc_region ?_
              refine qs (y_move RF) ?_
              refine qs (y_len Try.underlying27 RF) ?_
              refine qs (y_move RF) ?_
              refine sq_nil ?_
              refine sx_then ?_
              refine sc_block ?_
              refine sc_loop (σ := Nat)
                (fun s => [(7, .slice zk.1 (slipR b ts).1.length zk.2), (10, .slice ah M.length ch), (87, .slice zk.1 (slipR b ts).1.length zk.2), (88, .int .i64 (slipR b ts).1.length), (89, .int .i64 s)])
                (fun s => [.reg lo2 wr2, .reg lo wr, .reg 0 w])
                (fun s => s ≤ (slipR b ts).1.length ∧ ∀ j, j < s → (slipR b ts).1.getD j 0 = M.getD j 0)
                (fun s => (slipR b ts).1.length - s)
                (0) ?_ SU SR ?_
              · exact ⟨Nat.zero_le _, fun j hj => absurd hj (Nat.not_lt_zero j)⟩
              rintro i ⟨hi, hsame⟩
              refine sc_seq ?_
              refine sc_region ?_
              refine qs (y_lss RF RF) ?_
              refine sq_nil ?_
              refine sx_then ?_
              refine sc_seq ?_
              refine scp (fun hc6 => ?_) (fun hc6 => ?_)
              ·
                have hi' : i < (slipR b ts).1.length := by omega
                have him : i < M.length := by omega
                have hsk := (hk0.get 0 hi').1
                have hck := (hk0.get 0 hi').2
                have hsm := (hM.get 0 him).1
                have hcm := (hM.get 0 him).2
                refine sc_skip ?_
                refine sx_then ?_
                refine sc_seq ?_
                refine sc_block ?_
                refine sc_seq ?_
                refine sc_region ?_
                refine qs (y_move RF) ?_
                refine qs (y_assign RF) ?_
                refine sq_nil ?_
                refine sx_then ?_
                refine sc_seq ?_
                refine sc_draw rfl (by kernel_rfl) (by kernel_rfl) ?_
                refine qq_y (OpY.s (y_move RF)) rfl ?_
                refine qq_y (OpY.s (y_move RF)) rfl ?_
                refine qq_y (OpY.s IA27) rfl ?_
                refine qq_y (OpY.s (by first | exact y_load_ca0 Try.underlying3 rfl RF MM hck rfl | exact LD3)) rfl ?_
                refine qq_y (OpY.s (y_move RF)) rfl ?_
                refine qq_y (OpY.s (y_move RF)) rfl ?_
                refine qq_y (OpY.s IA27) rfl ?_
                refine qq_y (OpY.s (by first | exact y_load_ca0 Try.underlying3 rfl RF MM hcm rfl | exact LD3)) rfl ?_
                refine qq_y (OpY.s (y_neq RF RF)) rfl ?_
                refine qq_nil ?_
                refine sx_then ?_
                refine scp (fun hc7 => ?_) (fun hc7 => ?_)
                ·
                  refine sc_seq ?_
                  refine sc_drawR (by kernel_rfl) ?_
                  refine xj_s 0 RF (by kernel_rfl) SR (y_move RF) rfl ?_
                  refine xj_s 1 RF (by kernel_rfl) SR (y_move RF) rfl ?_
                  refine xj_s 2 RF (by kernel_rfl) SR IA27 rfl ?_
                  refine xj_s 3 RF (by kernel_rfl) SR (by first | exact y_load_ca0 Try.underlying3 rfl RF MM hck rfl | exact LD3) rfl ?_
                  refine xj_s 4 RF (by kernel_rfl) SR (y_move RF) rfl ?_
                  refine xj_s 5 RF (by kernel_rfl) SR (y_move RF) rfl ?_
                  refine xj_s 6 RF (by kernel_rfl) SR IA27 rfl ?_
                  refine xj_s 7 RF (by kernel_rfl) SR (by first | exact y_load_ca0 Try.underlying3 rfl RF MM hcm rfl | exact LD3) rfl ?_
                  refine xj_s 8 RF (by kernel_rfl) SR (y_lss RF RF) rfl ?_
                  refine xj_s 9 RF (by kernel_rfl) SR (y_move RF) rfl ?_
                  refine xj_known (tt := 110) (b' := true) RF (decide_eq_true (first_lt hfst hsame hc7)) ?_
                  refine xj_one 10 RF (by kernel_rfl) ?_
                  refine sq_gt RF RF (y_call (first := []) (caps := []) RF Try.call13 EvL.nil (fun w1 _ => alive13 w1)) rfl ?_
                  refine sq_nil ?_
                  refine sx_xp SR ?_
                  refine xj_s 11 RF (by kernel_rfl) SR (y_pick_t RF RF) rfl ?_
                  refine xj_s 12 RF (by kernel_rfl) SR (y_assign RF) rfl ?_
                  refine xj_done (by kernel_rfl) ?_
                  refine sx_then ?_
                  refine sc_ret ?_
                  refine sx_blk_ret ?_
                  refine sx_then_ret ?_
                  refine sx_round_ret ?_
                  refine sx_blk_ret ?_
                  refine sx_then_ret ?_
                  refine sx_ret1 (.inl rfl) rfl Try.results7 RF ?_
                  intro w' hw'
                  exact ⟨rfl, hw'.below MM⟩
                ·
                  refine sc_skip ?_
                  refine sx_blk ?_
                  refine sx_then ?_
                  refine sc_region ?_
                  refine qs (y_add RF RF (by omega)) ?_
                  refine qs (y_move RF) ?_
                  refine sq_nil ?_
                  refine sx_round (i + 1) ?_ ?_ SU SR
                  · refine ⟨by omega, fun j hj => ?_⟩
                    rcases Nat.lt_succ_iff_lt_or_eq.1 hj with h9 | rfl
                    · exact hsame j h9
                    · exact hc7
                  · omega
              ·
                refine sc_exit ?_
                refine sx_then_exit ?_
                refine sx_round_exit ?_
                refine sx_blk_hit ?_
                refine sx_then ?_
                refine sc_seq ?_
                refine sc_region ?_
                refine qy (yc Try.call13 E0 (fun w1 _ => alive13 w1)) ?_
                refine qs (y_assign RF) ?_
                refine sq_nil ?_
                refine sx_then ?_
                refine sc_ret ?_
                refine sx_ret1 (.inl rfl) rfl Try.results7 RF ?_
                intro w' hw'
                exact ⟨rfl, hw'.below MM⟩
            ·
              refine sc_skip ?_
              refine sx_then ?_
              refine sc_seq ?_
              refine sc_region ?_
              refine qy (yc Try.call13 E0 (fun w1 _ => alive13 w1)) ?_
              refine qs (y_assign RF) ?_
              refine sq_nil ?_
              refine sx_then ?_
              refine sc_ret ?_
              refine sx_ret1 (.inl rfl) rfl Try.results7 RF ?_
              intro w' hw'
              exact ⟨rfl, hw'.below MM⟩
        ·
          refine qf ?_
          refine qf ?_
          refine qf ?_
          refine qs (y_pick_f RF RF) ?_
          refine qs (y_assign RF) ?_
          refine sq_nil ?_
          refine sx_then ?_
          refine sc_seq ?_
          refine sc_seq ?_
          refine sc_region ?_
          refine qs (y_move RF) ?_
          refine qs (y_neq RF RF) ?_
          refine sq_nil ?_
          refine sx_then ?_
          refine scp (fun hc3 => ?_) (fun hc3 => ?_)
          ·
            refine sc_seq ?_
            refine sc_region ?_
            refine qs (y_move RF) ?_
            refine qs (y_len Try.underlying27 RF) ?_
            refine qs (y_eql RF RF) ?_
            refine qs (y_move RF) ?_
            refine sq_known (tt := 65) (b' := true) RF (by rw [slip_err hc3]; rfl) ?_
            refine qg (y_move RF) ?_
            refine qg (y_not RF) ?_
            refine qs (y_pick_t RF RF) ?_
            refine qs (y_move RF) ?_
            refine sq_known (tt := 69) (b' := true) RF (by first | rfl | (rw [none_ok (slip_none (he.resolve_left hc3)).2.1 (inc_of hz.1 hcan (by simpa using hg10_3))]; rfl)) ?_
            refine sq_gt RF RF (y_call (first := []) (caps := []) RF Try.call13 EvL.nil (fun w1 _ => alive13 w1)) rfl ?_
            refine qs (y_pick_t RF RF) ?_
            refine qs (y_assign RF) ?_
            refine sq_nil ?_
            refine sx_then ?_
            refine sc_ret ?_
            refine sx_then_ret ?_
            refine sx_ret1 (.inl rfl) rfl Try.results7 RF ?_
            intro w' hw'
            exact ⟨rfl, hw'.below MM⟩
          ·
            refine sc_skip ?_
            refine sx_then ?_
            refine sc_seq ?_
            refine sc_seq ?_
            have he0 : (slipR b ts).2 = 0 := by omega
            have hsl := slip_in (slip_some he0).2
            have hki := inc_can hz.1 hsl.1
            refine sc_region ?_
            refine qs LD26 ?_
            refine qs (y_move RF) ?_
            refine qy (yc Try.call38 E2 (fun w1 hw1 => can38 w1 b a c (hB.at hw1 MM) hz.1 zk.1 zk.2 (slipR b ts).1 (hk0.at hw1 MM))) ?_
            refine qs (y_not RF) ?_
            refine qs (y_move RF) ?_
            refine sq_known (tt := 76) (b' := false) RF (by rw [hki.1]; rfl) ?_
            refine qg (y_move RF) ?_
            refine sq_gt RF RF (y_call (first := []) (caps := []) RF Try.call36 (EvL.cons RF EvL.nil) (fun w1 hw1 => whole36 w1 zk.1 zk.2 (slipR b ts).1 (hk0.at hw1 MM))) rfl ?_
            refine qs (y_pick_f RF RF) ?_
            refine qs (y_move RF) ?_
            refine sq_known (tt := 80) (b' := false) RF (hki.2) ?_
            refine qg (y_move RF) ?_
            refine qg (y_move RF) ?_
            refine sq_gt RF RF (y_call (first := []) (caps := [.pointer (some ⟨b4, 0, none⟩), .pointer (some ⟨b3, 0, none⟩)]) RF Try.call37 E1 (fun w1 hw1 => could37 w1 b a c (hB.at hw1 MM) hz.1 at_ ct ts (ht.at hw1 MM) hz.2.2.2.2 zk.1 zk.2 (slipR b ts).1 (hk0.at hw1 MM) hki.1 _ _ (CA.blk (vs := [.slice at_ ts.length ct]) hw1 MM) (CA.blk hw1 MM))) rfl ?_
            refine qg (y_not RF) ?_
            refine qs (y_pick_f RF RF) ?_
            refine sq_nil ?_
            refine sx_then ?_
            refine sc_f (lk_bool rfl (by rw [hsl.2]; rfl)) ?_
            refine sc_skip ?_
            refine sx_then ?_
            refine sc_seq ?_
            refine sc_seq ?_
            refine sc_region ?_
            refine qs (y_move RF) ?_
            refine sq_nil ?_
            refine sx_then ?_
            refine sc_f RF ?_
            refine sc_skip ?_
            refine sx_then ?_
            refine sc_seq ?_
            refine sc_region ?_
            refine qy (yc Try.call13 E0 (fun w1 _ => alive13 w1)) ?_
            refine qs (y_assign RF) ?_
            refine sq_nil ?_
            refine sx_then ?_
            refine sc_ret ?_
            refine sx_ret1 (.inl rfl) rfl Try.results7 RF ?_
            intro w' hw'
            exact ⟨rfl, hw'.below MM⟩
end Go.Proofs.Ytofjipmheckmjaa
