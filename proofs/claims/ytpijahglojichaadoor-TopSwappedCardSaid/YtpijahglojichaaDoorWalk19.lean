/- The walk of the law RingRound. -/
import Derived.Test.YtpijahglojichaaDoorWalk16
import Derived.Test.YtpijahglojichaaDoorLawD
namespace Go.Proofs.YtpijahglojichaaDoor
open Go Go.Eng Go.RowKit Go.Proofs
set_option maxRecDepth 100000
def lastR (R : List (List Int)) : Nat → Int
  | 0 => -1
  | s + 1 => (R.getD s []).getD 0 0
structure RoundsF (o : List Int) (R : List (List Int)) : Prop where
  len : ∀ {j : Nat}, j < R.length → 2 ≤ (R.getD j []).length ∧ (R.getD j []).length ≤ o.length
  last : ∀ {j : Nat}, j < R.length → lastR R j < (R.getD j []).getD 0 0
  ok : ∀ {j t : Nat}, j < R.length → t < (R.getD j []).length → ∃ k, RoundF o R j t k
  all : ∀ {i : Nat}, i < o.length → seenV R R.length 0 i = !decide ((i : Int) = o.getD i 0)
theorem rounds_ok {o : List Int} (ho : ordB o o.length = true) : RoundsF o (ringsN (getN o) o.length o.length) := ⟨round_len ho, fun {j} hj => match j, hj with
  | 0, hj => Int.lt_of_lt_of_le (show (-1 : Int) < 0 by decide) (round_first ho hj)
  | _ + 1, hj => round_inc ho hj, round_ok ho, round_all ho⟩
theorem boolC_none (R : List (List Int)) : (Value.agg #[.bool false, .bool false, .bool false, .bool false, .bool false, .bool false, .bool false]).cells = (boolC (seenV R 0 0)).toArray := by
  have : seenV R 0 0 = fun _ => false := by funext x; simp [seenV]
  rw [this]; rfl

theorem round8 (w : World) (hT : TabAt w) (a : Option Addr) (c : Nat) (o : List Int) (ho : RowsA iRow 1 0 w a o) : Calls Tryd.prog 8 #[.slice a o.length c] w fun e w' => e = .returned (.bool true) ∧ Below w.heap.size w w' := by
  refine calls_of_SC (args := [.slice a o.length c]) Tryd.func8 rfl Tryd.ntmps8 rfl ?_
  simp only [argL]
  refine sc_seq ?_
  refine sc_region ?_
  refine qs (y_assign RF) ?_
  refine sq_nil ?_
  refine sx_then ?_
  refine sc_seq ?_
  refine sc_seq ?_
  refine sc_region ?_
  refine qs (y_move RF) ?_
  refine qs (y_len Tryd.underlying25 RF) ?_
  refine qs (y_gtr RF RF) ?_
  refine sq_nil ?_
  refine sx_then ?_
  refine scp (fun hc0 => ?_) (fun hc0 => ?_)
  ·
    refine sc_seq ?_
    refine sc_region ?_
    refine qy (yc Tryd.call15 E0 (fun w1 hw1 => awake15 w1 (CA.at hT hw1 MM))) ?_
    refine qs (y_assign RF) ?_
    refine sq_nil ?_
    refine sx_then ?_
    refine sc_ret ?_
    refine sx_then_ret ?_
    refine sx_ret1 (.inl rfl) rfl Tryd.results8 RF ?_
    intro w' hw'
    exact ⟨rfl, hw'.below MM⟩
  ·
    refine sc_skip ?_
    refine sx_then ?_
    refine sc_seq ?_
    refine sc_region ?_
    refine qs (y_move RF) ?_
    refine sq_call_new (first := []) (caps := []) (Z := (Option Addr × Nat) × (Nat → Option Addr) × (Nat → Nat)) (fun q => .tuple #[.slice q.1.1 (ringsR o).1.length q.1.2, .int .i64 (ringsR o).2]) (fun lo w' q => LsA lo w' q.1.1 q.2.1 q.2.2 (ringsR o).1) RF Tryd.call18 (EvL.cons RF EvL.nil) (fun w1 hw1 => Rings18 w1 a c o (ho.at hw1 MM) (by omega)) rfl (fun lo3 wr3 q3 hq3 => ?_)
    refine qs (y_move RF) ?_
    refine qs (y_extract RF RF) ?_
    refine qs (y_extract RF RF) ?_
    refine qs (y_assign RF) ?_
    refine qs (y_assign RF) ?_
    refine sq_nil ?_
    refine sx_then ?_
    refine sc_seq ?_
    refine sc_seq ?_
    have hE : (ringsR o).2 ≠ 0 → (ringsR o).1.length = 0 ∧ (ringsR o).2 = 2 ∧ (o.length ≤ 7 → ordB o o.length = false) := fun h => by
      unfold ringsR at h ⊢
      by_cases hv : o.length ≤ 7 ∧ ordB o o.length = true
      · rw [if_pos hv] at h; exact absurd rfl h
      · rw [if_neg hv]; exact ⟨rfl, rfl, fun h7 => by simpa using fun e => hv ⟨h7, e⟩⟩
    have hO : (ringsR o).2 = 0 → o.length ≤ 7 ∧ ordB o o.length = true := fun h => by
      unfold ringsR at h
      by_cases hv : o.length ≤ 7 ∧ ordB o o.length = true
      · exact hv
      · rw [if_neg hv] at h; cases h
    refine sc_region ?_
    refine qs (y_move RF) ?_
    refine qs (y_neq RF RF) ?_
    refine sq_nil ?_
    refine sx_then ?_
    refine scp (fun hc1 => ?_) (fun hc1 => ?_)
    ·
      refine sc_seq ?_
      refine sc_region ?_
      refine qs (y_move RF) ?_
      refine qs (y_len Tryd.underlying22 RF) ?_
      refine qs (y_eql RF RF) ?_
      refine qs (y_move RF) ?_
      refine sq_known (tt := 27) (b' := true) RF (decide_eq_true (by have := (hE hc1).1; omega)) ?_
      refine qg (y_move RF) ?_
      refine qg (y_eql RF RF) ?_
      refine qs (y_pick_t RF RF) ?_
      refine qs (y_move RF) ?_
      refine sq_known (tt := 31) (b' := true) RF (decide_eq_true (hE hc1).2.1) ?_
      refine qg (y_move RF) ?_
      refine qg (y_len Tryd.underlying25 RF) ?_
      refine qg (y_gtr RF RF) ?_
      refine qg (y_move RF) ?_
      refine sp 35 (fun hg5_11 => ?_) (fun hg5_11 => ?_)
      ·
        refine qf ?_
        refine qf ?_
        refine qf ?_
        refine qf ?_
        refine qf ?_
        refine qg (y_pick_t RF RF) ?_
        refine qs (y_pick_t RF RF) ?_
        refine qs (y_move RF) ?_
        refine sq_gt RF RF (y_call (first := []) (caps := []) RF Tryd.call15 EvL.nil (fun w1 hw1 => awake15 w1 (CA.at hT hw1 MM))) rfl ?_
        refine qs (y_pick_t RF RF) ?_
        refine qs (y_assign RF) ?_
        refine sq_nil ?_
        refine sx_then ?_
        refine sc_ret ?_
        refine sx_then_ret ?_
        refine sx_ret1 (.inl rfl) rfl Tryd.results8 RF ?_
        intro w' hw'
        exact ⟨rfl, hw'.below MM⟩
      ·
        refine qg (y_move RF) ?_
        refine qg (y_move RF) ?_
        refine qg (y_len Tryd.underlying25 RF) ?_
        refine sq_gt RF RF (y_call (first := []) (caps := []) RF Tryd.call31 (EvL.cons RF (EvL.cons RF EvL.nil)) (fun w1 hw1 => exchange31 w1 a c o (ho.at hw1 MM) o.length (by omega))) rfl ?_
        refine qg (y_not RF) ?_
        refine qg (y_pick_f RF RF) ?_
        refine qs (y_pick_t RF RF) ?_
        refine qs (y_move RF) ?_
        refine sq_known (tt := 43) (b' := true) RF (by first | rfl | (rw [(hE hc1).2.2 (by omega)]; rfl)) ?_
        refine sq_gt RF RF (y_call (first := []) (caps := []) RF Tryd.call15 EvL.nil (fun w1 hw1 => awake15 w1 (CA.at hT hw1 MM))) rfl ?_
        refine qs (y_pick_t RF RF) ?_
        refine qs (y_assign RF) ?_
        refine sq_nil ?_
        refine sx_then ?_
        refine sc_ret ?_
        refine sx_then_ret ?_
        refine sx_ret1 (.inl rfl) rfl Tryd.results8 RF ?_
        intro w' hw'
        exact ⟨rfl, hw'.below MM⟩
    ·
      refine sc_skip ?_
      refine sx_then ?_
      refine sc_seq ?_
      refine sc_seq ?_
      obtain ⟨ho7, hord⟩ := hO (by omega)
      obtain ⟨R, hgr, hF⟩ : ∃ R, ringsR o = (R, 0) ∧ RoundsF o R := ⟨_, if_pos ⟨ho7, hord⟩, rounds_ok hord⟩
      rw [hgr] at hq3 ⊢
      replace hq3 : LsA lo3 wr3 q3.1.1 q3.2.1 q3.2.2 R := hq3
      have hRlen := hq3.len
      refine sc_region ?_
      refine qs (y_move RF) ?_
      refine qs (y_len Tryd.underlying25 RF) ?_
      refine qs (y_gtr RF RF) ?_
      refine qs (y_move RF) ?_
      refine sq_known (tt := 49) (b' := false) RF (decide_eq_false (by omega)) ?_
      refine qg (y_move RF) ?_
      refine qg (y_move RF) ?_
      refine qg (y_len Tryd.underlying25 RF) ?_
      refine sq_gt RF RF (y_call (first := []) (caps := []) RF Tryd.call31 (EvL.cons RF (EvL.cons RF EvL.nil)) (fun w1 hw1 => exchange31 w1 a c o (ho.at hw1 MM) o.length (by omega))) rfl ?_
      refine qg (y_not RF) ?_
      refine qs (y_pick_f RF RF) ?_
      refine sq_nil ?_
      refine sx_then ?_
      refine scp (fun hc2 => ?_) (fun hc2 => ?_)
      ·
        rw [hord] at hc2
        cases hc2
      ·
        refine sc_skip ?_
        refine sx_then ?_
        refine sc_seq ?_
        refine sc_region ?_
        refine sq_alloc (z := .agg #[.bool false, .bool false, .bool false, .bool false, .bool false, .bool false, .bool false]) Tryd.zeroValue50 rfl (fun b5 => ?_)
        rw [boolC_none R]
        refine sq_nil ?_
        refine sx_then ?_
        refine sc_seq ?_
        refine sc_region ?_
        refine qs (y_assign RF) ?_
        refine sq_nil ?_
        refine sx_then ?_
        refine sc_seq ?_
        refine sc_seq ?_
        refine sc_region ?_
        refine qs (y_move RF) ?_
        refine qs (y_len Tryd.underlying22 RF) ?_
        refine qs (y_move RF) ?_
        refine sq_nil ?_
        refine sx_then ?_
        refine sc_block ?_
        refine sc_loop (σ := Nat)
          (fun s => [(0, .slice a o.length c), (5, .pointer (some ⟨b5, 0, none⟩)), (56, .slice q3.1.1 R.length q3.1.2), (57, .int .i64 R.length), (6, .int .i64 (lastR R s)), (58, .int .i64 s)])
          (fun s => [.blk b5 (.cells (boolC (seenV R s 0)).toArray 50 (0, 0)), .reg lo3 wr3, .reg 0 w])
          (fun s => s ≤ R.length)
          (fun s => R.length - s)
          (0) ?_ SU SR ?_
        · exact Nat.zero_le _
        rintro j hj
        refine sc_seq ?_
        refine sc_region ?_
        refine qs (y_lss RF RF) ?_
        refine sq_nil ?_
        refine sx_then ?_
        refine sc_seq ?_
        refine scp (fun hc3 => ?_) (fun hc3 => ?_)
        ·
          have hj' : j < R.length := by omega
          have hls := hq3.get hj'
          have hrl := hF.len hj'
          have hrs := hls.1
          have hsf := (hls.2.2.get 0 (show 0 < (R.getD j []).length by omega)).1
          have hcf := (hls.2.2.get 0 (show 0 < (R.getD j []).length by omega)).2
          refine sc_skip ?_
          refine sx_then ?_
          refine sc_seq ?_
          refine sc_block ?_
          refine sc_seq ?_
          refine sc_region ?_
          refine qs IA22 ?_
          refine qs (by first | exact y_load_ca0 Tryd.underlying25 rfl RF MM hls.2.1 rfl | exact LD25) ?_
          refine qs (y_assign RF) ?_
          refine sq_nil ?_
          refine sx_then ?_
          refine sc_seq ?_
          refine sc_seq ?_
          refine sc_region ?_
          refine qs (y_move RF) ?_
          refine qs (y_len Tryd.underlying25 RF) ?_
          refine qs (y_lss RF RF) ?_
          refine qs (y_move RF) ?_
          refine sq_known (tt := 65) (b' := false) RF (decide_eq_false (by omega)) ?_
          refine qg (y_move RF) ?_
          refine qg (y_ia_el (i := 0) Tryd.underlying25 Tryd.sizeOf3 RF RF (by omega) hsf) ?_
          refine qg (by first | exact y_load_ca0 Tryd.underlying3 rfl RF MM hcf rfl | exact LD3) ?_
          refine qg (y_move RF) ?_
          refine qg (y_leq RF RF) ?_
          refine qs (y_pick_f RF RF) ?_
          refine sq_nil ?_
          refine sx_then ?_
          refine scp (fun hc4 => ?_) (fun hc4 => ?_)
          ·
            have := hF.last hj'
            omega
          ·
            refine sc_skip ?_
            refine sx_then ?_
            refine sc_seq ?_
            refine sc_region ?_
            refine qs (y_move RF) ?_
            refine qs (y_ia_el (i := 0) Tryd.underlying25 Tryd.sizeOf3 RF RF (by omega) hsf) ?_
            refine qs (by first | exact y_load_ca0 Tryd.underlying3 rfl RF MM hcf rfl | exact LD3) ?_
            refine qs (y_assign RF) ?_
            refine sq_nil ?_
            refine sx_then ?_
            refine sc_seq ?_
            refine sc_region ?_
            refine qs (y_move RF) ?_
            refine qs (y_len Tryd.underlying25 RF) ?_
            refine qs (y_move RF) ?_
            refine sq_nil ?_
            refine sx_then ?_
            refine sc_block ?_
            refine sc_loop (σ := Nat)
              (fun s => [(0, .slice a o.length c), (5, .pointer (some ⟨b5, 0, none⟩)), (56, .slice q3.1.1 R.length q3.1.2), (57, .int .i64 R.length), (6, .int .i64 ((R.getD j []).getD 0 0)), (58, .int .i64 j), (8, .slice (q3.2.1 j) (R.getD j []).length (q3.2.2 j)), (75, .slice (q3.2.1 j) (R.getD j []).length (q3.2.2 j)), (76, .int .i64 (R.getD j []).length), (77, .int .i64 s)])
              (fun s => [.blk b5 (.cells (boolC (seenV R j s)).toArray 50 (0, 0)), .reg lo3 wr3, .reg 0 w])
              (fun s => s ≤ (R.getD j []).length)
              (fun s => (R.getD j []).length - s)
              (0) ?_ SU SR ?_
            · exact Nat.zero_le _
            rintro t ht
            refine sc_seq ?_
            refine sc_region ?_
            refine qs (y_lss RF RF) ?_
            refine sq_nil ?_
            refine sx_then ?_
            refine sc_seq ?_
            refine scp (fun hc5 => ?_) (fun hc5 => ?_)
            ·
              have ht' : t < (R.getD j []).length := by omega
              obtain ⟨k, hk⟩ := hF.ok hj' ht'
              have hkl := hk.lt
              have hst := (hls.2.2.get 0 ht').1
              have hct := (hls.2.2.get 0 ht').2
              rw [hk.at'] at hct
              have hso := (ho.get 0 hkl).1
              have hco := (ho.get 0 hkl).2
              have hmd : (t + 1) % (R.getD j []).length < (R.getD j []).length := Nat.mod_lt _ (by omega)
              have hsn := (hls.2.2.get 0 hmd).1
              have hcn := (hls.2.2.get 0 hmd).2
              refine sc_skip ?_
              refine sx_then ?_
              refine sc_seq ?_
              refine sc_block ?_
              refine sc_seq ?_
              refine sc_region ?_
              refine qs (y_move RF) ?_
              refine qs IA25 ?_
              refine qs (by first | exact y_load_ca0 Tryd.underlying3 rfl RF MM hct rfl | exact LD3) ?_
              refine qs (y_assign RF) ?_
              refine qs (y_assign RF) ?_
              refine sq_nil ?_
              refine sx_then ?_
              refine sc_seq ?_
              refine sc_seq ?_
              refine sc_drawX ([.blk b5 (.cells (boolC (seenV R j t)).toArray 50 (0, 0)), .reg lo3 wr3, .reg 0 w]) (by kernel_rfl) ?_
              refine xj_s 0 RF (by kernel_rfl) SR (y_move RF) rfl ?_
              refine xj_s 1 RF (by kernel_rfl) SR (y_move RF) rfl ?_
              refine xj_s 2 RF (by kernel_rfl) SR (y_ia_el (i := 0) Tryd.underlying25 Tryd.sizeOf3 RF RF (by omega) hsf) rfl ?_
              refine xj_s 3 RF (by kernel_rfl) SR (by first | exact y_load_ca0 Tryd.underlying3 rfl RF MM hcf rfl | exact LD3) rfl ?_
              refine xj_s 4 RF (by kernel_rfl) SR (y_lss RF RF) rfl ?_
              refine xj_s 5 RF (by kernel_rfl) SR (y_move RF) rfl ?_
              refine xj_known (tt := 87) (b' := false) RF (decide_eq_false (by have := hk.ge; omega)) ?_
              refine xj_gt 6 RF RF RF (by kernel_rfl) SR (y_move RF) rfl ?_
              refine xj_gt 7 RF RF RF (by kernel_rfl) SR (y_move RF) rfl ?_
              refine xj_gt 8 RF RF RF (by kernel_rfl) SR (y_len Tryd.underlying25 RF) rfl ?_
              refine xj_gt 9 RF RF RF (by kernel_rfl) SR (y_geq RF RF) rfl ?_
              refine xj_s 10 RF (by kernel_rfl) SR (y_pick_f RF RF) rfl ?_
              refine xj_s 11 RF (by kernel_rfl) SR (y_move RF) rfl ?_
              refine xj_known (tt := 93) (b' := false) RF (decide_eq_false (by omega)) ?_
              refine xj_gt 12 RF RF RF (by kernel_rfl) SR (y_move RF) rfl ?_
              refine xj_gt 13 RF RF RF (by kernel_rfl) SR (y_ia_arr Tryd.underlying50 Tryd.sizeOf4 RF RF (by omega)) rfl ?_
              refine xj_gt 14 RF RF RF (by kernel_rfl) SR (by first | exact y_load_blk (cs := (boolC (seenV R j t)).toArray) Tryd.underlying4 rfl RF MM (boolC_get _ (by omega)) | exact LD4) rfl ?_
              refine xj_s 15 RF (by kernel_rfl) SR (y_pick_f RF RF) rfl ?_
              refine xj_s 16 RF (by kernel_rfl) SR (y_move RF) rfl ?_
              refine xj_known (tt := 98) (b' := false) RF (hk.new) ?_
              refine xj_gt 17 RF RF RF (by kernel_rfl) SR (y_move RF) rfl ?_
              refine xj_gt 18 RF RF RF (by kernel_rfl) SR (y_move RF) rfl ?_
              refine xj_gt 19 RF RF RF (by kernel_rfl) SR IA25 rfl ?_
              refine xj_gt 20 RF RF RF (by kernel_rfl) SR (by first | exact y_load_ca0 Tryd.underlying3 rfl RF MM hco rfl | exact LD3) rfl ?_
              refine xj_gt 21 RF RF RF (by kernel_rfl) SR (y_move RF) rfl ?_
              refine xj_gt 22 RF RF RF (by kernel_rfl) SR (y_move RF) rfl ?_
              refine xj_gt 23 RF RF RF (by kernel_rfl) SR (y_add RF RF (by omega)) rfl ?_
              refine xj_gt 24 RF RF RF (by kernel_rfl) SR (y_move RF) rfl ?_
              refine xj_gt 25 RF RF RF (by kernel_rfl) SR (y_len Tryd.underlying25 RF) rfl ?_
              refine xj_gt 26 RF RF RF (by kernel_rfl) SR (y_rem RF RF (by omega) (by omega)) rfl ?_
              rw [show (((t : Nat) : Int) + 1) % (((R.getD j []).length : Nat) : Int) = (((t + 1) % (R.getD j []).length : Nat) : Int) from (Int.natCast_emod (t + 1) (R.getD j []).length).symm]
              refine xj_gt 27 RF RF RF (by kernel_rfl) SR IA25 rfl ?_
              refine xj_gt 28 RF RF RF (by kernel_rfl) SR (by first | exact y_load_ca0 Tryd.underlying3 rfl RF MM hcn rfl | exact LD3) rfl ?_
              refine xj_gt 29 RF RF RF (by kernel_rfl) SR (y_neq RF RF) rfl ?_
              refine xj_s 30 RF (by kernel_rfl) SR (y_pick_f RF RF) rfl ?_
              refine xj_done (by kernel_rfl) ?_
              refine sx_then ?_
              refine scp (fun hc6 => ?_) (fun hc6 => ?_)
              ·
                exact absurd hk.next hc6
              ·
                refine sc_skip ?_
                refine sx_then ?_
                refine sc_region ?_
                refine qs (y_move RF) ?_
                refine qs (y_ia_arr Tryd.underlying50 Tryd.sizeOf4 RF RF (by omega)) ?_
                refine sq_store_eq (cs' := (boolC (seenV R j (t + 1))).toArray) Tryd.sizeOf4 RF RF rfl RM (by rw [boolC_size]; omega) (by rw [boolC_set _ (by omega), seenV_step R ht' hk.at']) ?_
                refine sq_nil ?_
                refine sx_blk ?_
                refine sx_then ?_
                refine sc_region ?_
                refine qs (y_add RF RF (by omega)) ?_
                refine qs (y_move RF) ?_
                refine sq_nil ?_
                refine sx_round (t + 1) ?_ ?_ SU SR
                · omega
                · omega
            ·
              have htn : t = (R.getD j []).length := by omega
              subst htn
              rw [show seenV R j (R.getD j []).length = seenV R (j + 1) 0 from funext (seenV_ring R hj')]
              refine sc_exit ?_
              refine sx_then_exit ?_
              refine sx_round_exit ?_
              refine sx_blk_hit ?_
              refine sx_blk ?_
              refine sx_then ?_
              refine sc_region ?_
              refine qs (y_add RF RF (by omega)) ?_
              refine qs (y_move RF) ?_
              refine sq_nil ?_
              refine sx_round (j + 1) ?_ ?_ SU SR
              · omega
              · omega
        ·
          have hjn : j = R.length := by omega
          subst hjn
          refine sc_exit ?_
          refine sx_then_exit ?_
          refine sx_round_exit ?_
          refine sx_blk_hit ?_
          refine sx_then ?_
          refine sc_seq ?_
          refine sc_seq ?_
          refine sc_region ?_
          refine qs (y_move RF) ?_
          refine qs (y_len Tryd.underlying25 RF) ?_
          refine qs (y_move RF) ?_
          refine sq_nil ?_
          refine sx_then ?_
          refine sc_block ?_
          refine sc_loop (σ := Nat)
            (fun s => [(0, .slice a o.length c), (5, .pointer (some ⟨b5, 0, none⟩)), (117, .slice a o.length c), (118, .int .i64 o.length), (119, .int .i64 s)])
            (fun s => [.blk b5 (.cells (boolC (seenV R R.length 0)).toArray 50 (0, 0)), .reg lo3 wr3, .reg 0 w])
            (fun s => s ≤ o.length)
            (fun s => o.length - s)
            (0) ?_ SU SR ?_
          · exact Nat.zero_le _
          rintro i hi
          refine sc_seq ?_
          refine sc_region ?_
          refine qs (y_lss RF RF) ?_
          refine sq_nil ?_
          refine sx_then ?_
          refine sc_seq ?_
          refine scp (fun hc7 => ?_) (fun hc7 => ?_)
          ·
            have hi' : i < o.length := by omega
            have hso := (ho.get 0 hi').1
            have hco := (ho.get 0 hi').2
            refine sc_skip ?_
            refine sx_then ?_
            refine sc_seq ?_
            refine sc_block ?_
            refine sc_seq ?_
            refine sc_region ?_
            refine qs (y_move RF) ?_
            refine qs IA25 ?_
            refine qs (by first | exact y_load_ca0 Tryd.underlying3 rfl RF MM hco rfl | exact LD3) ?_
            refine qs (y_assign RF) ?_
            refine qs (y_assign RF) ?_
            refine sq_nil ?_
            refine sx_then ?_
            refine sc_seq ?_
            refine sc_region ?_
            refine qs (y_move RF) ?_
            refine qs (y_ia_arr Tryd.underlying50 Tryd.sizeOf4 RF RF (by omega)) ?_
            refine qs (by first | exact y_load_blk (cs := (boolC (seenV R R.length 0)).toArray) Tryd.underlying4 rfl RF MM (boolC_get _ (by omega)) | exact LD4) ?_
            refine qs (y_move RF) ?_
            refine qs (y_move RF) ?_
            refine qs (y_neq RF RF) ?_
            refine qs (y_neqb Tryd.underlying4 RF RF) ?_
            refine sq_nil ?_
            refine sx_then ?_
            refine scp (fun hc8 => ?_) (fun hc8 => ?_)
            ·
              exact absurd hc8 (by rw [hF.all hi']; simp)
            ·
              refine sc_skip ?_
              refine sx_blk ?_
              refine sx_then ?_
              refine sc_region ?_
              refine qs (y_add RF RF (by omega)) ?_
              refine qs (y_move RF) ?_
              refine sq_nil ?_
              refine sx_round (i + 1) ?_ ?_ SU SR
              · omega
              · omega
          ·
            refine sc_exit ?_
            refine sx_then_exit ?_
            refine sx_round_exit ?_
            refine sx_blk_hit ?_
            refine sx_then ?_
            refine sc_seq ?_
            refine sc_region ?_
            refine qy (yc Tryd.call15 E0 (fun w1 hw1 => awake15 w1 (CA.at hT hw1 MM))) ?_
            refine qs (y_assign RF) ?_
            refine sq_nil ?_
            refine sx_then ?_
            refine sc_ret ?_
            refine sx_ret1 (.inl rfl) rfl Tryd.results8 RF ?_
            intro w' hw'
            exact ⟨rfl, hw'.below MM⟩
end Go.Proofs.YtpijahglojichaaDoor
