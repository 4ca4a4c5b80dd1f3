/- The walk of the reference's Next. -/
import Derived.Test.YtofjipmheckmjaaWalk16
namespace Go.Proofs.Ytofjipmheckmjaa
open Go Go.Eng Go.RowKit Go.Proofs
set_option maxRecDepth 100000

theorem bI_nat {b : Bx} {ts : List Te} {ll : List (List Int)} {k : Nat} (h : ¬ bI b ts ll k < 0) : ∃ i : Nat, bI b ts ll k = i ∧ i < k := by
  rcases bI_ok b ts ll k with h1 | ⟨i, hi, h1⟩
  · exact absurd ((bI_lt b ts ll k).2 h1) h
  · refine ⟨i, ?_, hi⟩
    have h0 : ¬ (chL b ts ll k).length = 0 := fun h0 => h ((bI_lt b ts ll k).2 h0)
    unfold bI; rw [if_neg h0, h1]
theorem next26 (w : World) (b : Bx) (a : Option Addr) (c : Nat) (hB : RowsA kdRow 3 0 w a b.kinds) (al : Option Addr) (cl : Nat) (ls : List Rd) (hl : RowsA rdRow 8 0 w al ls) (at_ : Option Addr) (ct : Nat) (ts : List Te) (ht : RowsA teRow 7 0 w at_ ts) : Calls Try.prog 26 #[.agg (bxRow b a c).toArray, .slice al ls.length cl, .slice at_ ts.length ct] w fun e w' => e = .returned (.tuple #[.int .i64 (nextR b ls ts).1, .int .i64 (nextR b ls ts).2]) ∧ Below w.heap.size w w' := by
  have htlen := ht.len
  obtain ⟨jv, je, hj⟩ : ∃ jv je : Int, judgeAns b ls = .tuple #[.int .i64 jv, .int .i64 je] := by
    unfold judgeAns; split
    · exact ⟨_, _, rfl⟩
    · exact ⟨_, _, rfl⟩
  refine calls_of_SC (args := [.agg (bxRow b a c).toArray, .slice al ls.length cl, .slice at_ ts.length ct]) Try.func26 rfl Try.ntmps26 rfl ?_
  simp only [argL, Nat.reduceAdd, Nat.zero_add]
  refine sc_seq ?_
  refine sc_region ?_
  refine sq_box RF rfl (fun b3 => ?_)
  refine qs (y_assign RF) ?_
  refine qs (y_assign RF) ?_
  refine sq_nil ?_
  refine sx_then ?_
  refine sc_seq ?_
  refine sc_region ?_
  refine qs LD26 ?_
  refine qs (y_move RF) ?_
  refine qs (y_move RF) ?_
  refine qy (yc Try.call51 E3 (fun w1 hw1 => check51 w1 b a c (hB.at hw1 MM) al cl ls (hl.at hw1 MM) at_ ct ts (ht.at hw1 MM))) ?_
  refine qs (y_assign RF) ?_
  refine sq_nil ?_
  refine sx_then ?_
  refine sc_seq ?_
  refine sc_seq ?_
  refine sc_region ?_
  refine qs (y_move RF) ?_
  refine qs (y_neq RF RF) ?_
  refine sq_nil ?_
  refine sx_then ?_
  refine scp (fun hc0 => ?_) (fun hc0 => ?_)
  ·
    refine sc_seq ?_
    refine sc_region ?_
    refine qs (y_move RF) ?_
    refine qs (y_assign RF) ?_
    refine qs (y_assign RF) ?_
    refine sq_nil ?_
    refine sx_then ?_
    refine sc_ret ?_
    refine sx_then_ret ?_
    refine sx_ret2 (.inl rfl) rfl Try.results26 RF RF ?_
    intro w' hw'
    refine ⟨?_, hw'.below MM⟩
    have hE : openE b ls ts = chk b ls ts := by unfold openE; rw [if_pos (by simpa using hc0)]
    unfold nextR; rw [if_pos (by rw [hE]; simpa using hc0), hE]
  ·
    refine sc_skip ?_
    refine sx_then ?_
    refine sc_seq ?_
    have hz0 : chk b ls ts = 0 := by simpa using hc0
    have hz := chk_zero hz0
    have hzn := chk_nil hz0
    have hin : ∀ h, h ∈ fitL b ls → HasOk b h := fun h hh => allL_ok hz.1 h (List.mem_filter.1 hh).1
    have hx : openE b ls ts = if (fitL b ls).length = 0 then 6 else 0 := by unfold openE; rw [if_neg (by simpa using hz0)]
    have hy : openE b ls [] = if (fitL b ls).length = 0 then 6 else 0 := by unfold openE; rw [if_neg (by simpa using hzn)]
    have hjj : (fitL b ls).length = 0 ∧ je = 6 ∨ ¬ (fitL b ls).length = 0 ∧ je = 0 ∧ jv = judgeV (fitL b ls) := by
      unfold judgeAns at hj
      rw [hy] at hj
      by_cases h0 : (fitL b ls).length = 0
      · rw [if_pos h0, if_neg (by decide)] at hj
        simp at hj; exact .inl ⟨h0, by omega⟩
      · rw [if_neg h0, if_pos rfl] at hj
        simp at hj; exact .inr ⟨h0, by omega, by omega⟩
    refine sc_region ?_
    refine qs LD26 ?_
    refine qs (y_move RF) ?_
    refine qy (yc Try.call17 E2 (fun w1 hw1 => judge17x w1 b a c (hB.at hw1 MM) al cl ls (hl.at hw1 MM) hj)) ?_
    refine qs (y_move RF) ?_
    refine qs (y_extract RF RF) ?_
    refine qs (y_extract RF RF) ?_
    refine qs (y_assign RF) ?_
    refine qs (y_assign RF) ?_
    refine sq_nil ?_
    refine sx_then ?_
    refine sc_seq ?_
    refine sc_seq ?_
    refine sc_region ?_
    refine qs (y_move RF) ?_
    refine qs (y_neq RF RF) ?_
    refine qs (y_move RF) ?_
    refine sp 28 (fun hg5_2 => ?_) (fun hg5_2 => ?_)
    ·
      refine qf ?_
      refine qf ?_
      refine qs (y_pick_t RF RF) ?_
      refine sq_nil ?_
      refine sx_then ?_
      refine sc_t RF ?_
      refine sc_seq ?_
      refine sc_region ?_
      refine qs (y_assign RF) ?_
      refine qs (y_assign RF) ?_
      refine sq_nil ?_
      refine sx_then ?_
      refine sc_ret ?_
      refine sx_then_ret ?_
      refine sx_ret2 (.inl rfl) rfl Try.results26 RF RF ?_
      intro w' hw'
      refine ⟨?_, hw'.below MM⟩
      unfold nextR
      rcases hjj with ⟨h0, h1⟩ | ⟨h0, h1, h2⟩
      · have hE : openE b ls ts = 6 := by rw [hx, if_pos h0]
        rw [if_pos (by rw [hE]; decide), hE]
      · have hE : openE b ls ts = 0 := by rw [hx, if_neg h0]
        rw [if_neg (by simpa using hE), if_pos (by omega)]
    ·
      refine qg (y_move RF) ?_
      refine qg (y_neq RF RF) ?_
      refine qs (y_pick_f RF RF) ?_
      refine sq_nil ?_
      refine sx_then ?_
      refine scp (fun hc1 => ?_) (fun hc1 => ?_)
      ·
        refine sc_seq ?_
        refine sc_region ?_
        refine qs (y_assign RF) ?_
        refine qs (y_assign RF) ?_
        refine sq_nil ?_
        refine sx_then ?_
        refine sc_ret ?_
        refine sx_then_ret ?_
        refine sx_ret2 (.inl rfl) rfl Try.results26 RF RF ?_
        intro w' hw'
        refine ⟨?_, hw'.below MM⟩
        unfold nextR
        rcases hjj with ⟨h0, h1⟩ | ⟨h0, h1, h2⟩
        · have hE : openE b ls ts = 6 := by rw [hx, if_pos h0]
          rw [if_pos (by rw [hE]; decide), hE]
        · have hE : openE b ls ts = 0 := by rw [hx, if_neg h0]
          rw [if_neg (by simpa using hE), if_pos (by omega)]
      ·
        refine sc_skip ?_
        refine sx_then ?_
        refine sc_seq ?_
        refine sc_region ?_
        refine qs LD26 ?_
        refine qs (y_move RF) ?_
        refine sq_call_new (first := []) (caps := []) (Z := Option Addr × (Nat → Option Addr) × Nat × (Nat → Nat)) (fun z => .slice z.1 (fitL b ls).length z.2.2.1) (fun lo w' z => w.heap.size ≤ lo ∧ Opened lo w' b ls z) RF Try.call40 (EvL.cons RF (EvL.cons RF EvL.nil)) (fun w1 hw1 => (fitting40 w1 b a c (hB.at hw1 MM) hz.1 al cl ls (hl.at hw1 MM) hz.2.2.2.1).mono (fun e w' ⟨a2, f, c2, cf, he, hb, hL⟩ => ⟨(a2, f, c2, cf), he, hb, hw1.size, hL⟩)) rfl (fun lo wr zf hzf => ?_)
        refine qs (y_assign RF) ?_
        refine sq_nil ?_
        refine sx_then ?_
        refine sc_seq ?_
        refine sc_region ?_
        refine qs (y_assign RF) ?_
        refine sq_nil ?_
        refine sx_then ?_
        refine sc_seq ?_
        refine sc_seq ?_
        refine sc_region ?_
        refine qs (y_assign RF) ?_
        refine sq_nil ?_
        refine sx_then ?_
        refine sc_block ?_
        refine sc_loop (σ := Nat)
          (fun s => [(1, .slice al ls.length cl), (2, .slice at_ ts.length ct), (3, .pointer (some ⟨b3, 0, none⟩)), (10, .slice zf.1 (fitL b ls).length zf.2.2.1), (11, .int .i64 (bI b ts (fitL b ls) s)), (12, .int .i64 s)])
          (fun s => .blk b3 (.cells (bxRow b a c).toArray 26 (0, 0)) :: .reg lo wr :: [.reg 0 w])
          (fun s => s ≤ ts.length)
          (fun s => ts.length - s)
          (0) ?_ SU SR ?_
        · exact Nat.zero_le _
        rintro k hk
        refine sc_seq ?_
        refine sc_seq ?_
        refine sc_region ?_
        refine qs (y_move RF) ?_
        refine qs (y_move RF) ?_
        refine qs (y_len Try.underlying43 RF) ?_
        refine qs (y_lss RF RF) ?_
        refine sq_nil ?_
        refine sx_then ?_
        refine scp (fun hc2 => ?_) (fun hc2 => ?_)
        ·
          have hk' : k < ts.length := by omega
          have hsm := (ht.get te0 hk').1
          have hca := (ht.get te0 hk').2
          obtain ⟨i0, hi2, hi0⟩ : ∃ i0 : Nat, i0 < ts.length ∧ (¬ bI b ts (fitL b ls) k < 0 → bI b ts (fitL b ls) k = i0) := by
            by_cases h : bI b ts (fitL b ls) k < 0
            · exact ⟨k, hk', fun h2 => absurd h h2⟩
            · obtain ⟨i0, h1, h2⟩ := bI_nat h
              exact ⟨i0, by omega, fun _ => h1⟩
          have hsmi := (ht.get te0 hi2).1
          have hcai := (ht.get te0 hi2).2
          refine sc_skip ?_
          refine sx_then ?_
          refine sc_seq ?_
          refine sc_block ?_
          refine sc_seq ?_
          refine sc_drawR (by kernel_rfl) ?_
          refine xj_s 0 RF (by kernel_rfl) SR LD26 rfl ?_
          refine xj_s 1 RF (by kernel_rfl) SR (y_move RF) rfl ?_
          refine xj_s 2 RF (by kernel_rfl) SR (y_move RF) rfl ?_
          refine xj_s 3 RF (by kernel_rfl) SR (y_move RF) rfl ?_
          refine xj_s 4 RF (by kernel_rfl) SR IA43 rfl ?_
          refine xj_s 5 RF (by kernel_rfl) SR (by first | exact y_load_ca Try.underlying29 rfl Try.sizeOf29 RF MM hca rfl | exact LD29) rfl ?_
          refine xj_one 6 RF (by kernel_rfl) ?_
          refine qy (yc Try.call61 E3 (fun w1 hw1 => settles61 w1 b a c (hB.at hw1 MM) hz.1 zf.1 zf.2.2.1 zf.2.1 zf.2.2.2 (fitL b ls) (hzf.2.at hw1 MM) hin (ts.getD k te0) (hz.2.2.2.2 _ (List.mem_of_getElem? (get_of_lt te0 hk'))))) ?_
          refine sq_nil ?_
          refine sx_xp SR ?_
          refine xj_s 7 RF (by kernel_rfl) SR (y_move RF) rfl ?_
          first | refine xj_splitd (tt := 48) RF (fun hg12_7 => ?_) (fun hg12_7 => ?_) | refine xj_splitn (tt := 48) RF (fun hg12_7 => ?_) (fun hg12_7 => ?_) | refine xj_split (tt := 48) RF (fun hg12_7 => ?_) (fun hg12_7 => ?_)
          ·
            refine xj_gt 8 RF RF RF (by kernel_rfl) SR (y_move RF) rfl ?_
            refine xj_gt 9 RF RF RF (by kernel_rfl) SR (y_lss RF RF) rfl ?_
            refine xj_gt 10 RF RF RF (by kernel_rfl) SR (y_move RF) rfl ?_
            first | refine xj_splitd (tt := 51) RF (fun hg12_10 => ?_) (fun hg12_10 => ?_) | refine xj_splitn (tt := 51) RF (fun hg12_10 => ?_) (fun hg12_10 => ?_) | refine xj_split (tt := 51) RF (fun hg12_10 => ?_) (fun hg12_10 => ?_)
            ·
              refine xj_gf 11 RF RF RF rfl (by kernel_rfl) SR rfl ?_
              refine xj_gf 12 RF RF RF rfl (by kernel_rfl) SR rfl ?_
              refine xj_gf 13 RF RF RF rfl (by kernel_rfl) SR rfl ?_
              refine xj_gf 14 RF RF RF rfl (by kernel_rfl) SR rfl ?_
              refine xj_gf 15 RF RF RF rfl (by kernel_rfl) SR rfl ?_
              refine xj_gf 16 RF RF RF rfl (by kernel_rfl) SR rfl ?_
              refine xj_gf 17 RF RF RF rfl (by kernel_rfl) SR rfl ?_
              refine xj_gf 18 RF RF RF rfl (by kernel_rfl) SR rfl ?_
              refine xj_gf 19 RF RF RF rfl (by kernel_rfl) SR rfl ?_
              refine xj_gf 20 RF RF RF rfl (by kernel_rfl) SR rfl ?_
              refine xj_gf 21 RF RF RF rfl (by kernel_rfl) SR rfl ?_
              refine xj_gt 22 RF RF RF (by kernel_rfl) SR (y_pick_t RF RF) rfl ?_
              refine xj_s 23 RF (by kernel_rfl) SR (y_pick_t RF RF) rfl ?_
              refine xj_done (by kernel_rfl) ?_
              refine sx_then ?_
              refine sc_t RF ?_
              refine sc_region ?_
              refine qs (y_move RF) ?_
              refine qs (y_assign RF) ?_
              refine sq_nil ?_
              refine sx_blk ?_
              refine sx_then ?_
              refine sc_region ?_
              refine qs (y_move RF) ?_
              refine qs (y_add RF RF (by omega)) ?_
              refine qs (y_assign RF) ?_
              refine sq_nil ?_
              have hbk : bI b ts (fitL b ls) (k + 1) = (k : Int) := by rw [bI_add hg12_7, if_pos hg12_10]
              refine sx_round (k + 1) ?_ ?_ SU SR
              · omega
              · omega
            ·
              refine xj_gt 11 RF RF RF (by kernel_rfl) SR (y_move RF) rfl ?_
              refine xj_gt 12 RF RF RF (by kernel_rfl) SR (y_move RF) rfl ?_
              refine xj_gt 13 RF RF RF (by kernel_rfl) SR IA43 rfl ?_
              refine xj_gt 14 RF RF RF (by kernel_rfl) SR FA29_3 rfl ?_
              refine xj_gt 15 RF RF RF (by kernel_rfl) SR (by first | exact y_load_caj (j := 6) Try.underlying3 rfl RF MM hca rfl | exact LD3) rfl ?_
              refine xj_gt 16 RF RF RF (by kernel_rfl) SR (y_move RF) rfl ?_
              refine xj_gt 17 RF RF RF (by kernel_rfl) SR (y_move RF) rfl ?_
              refine xj_gt 18 RF RF RF (by kernel_rfl) SR (by first | exact y_ia_blk Try.underlying43 Try.sizeOf29 RF (lk_int rfl (hi0 hg12_10)) (by omega) | exact y_ia_el Try.underlying43 Try.sizeOf29 RF (lk_int rfl (hi0 hg12_10)) (by omega) (by first | assumption | simp)) rfl ?_
              refine xj_gt 19 RF RF RF (by kernel_rfl) SR FA29_3 rfl ?_
              refine xj_gt 20 RF RF RF (by kernel_rfl) SR (by first | exact y_load_caj (j := 6) Try.underlying3 rfl RF MM hcai rfl | exact LD3) rfl ?_
              refine xj_gt 21 RF RF RF (by kernel_rfl) SR (y_lss RF RF) rfl ?_
              refine xj_gt 22 RF RF RF (by kernel_rfl) SR (y_pick_f RF RF) rfl ?_
              refine xj_s 23 RF (by kernel_rfl) SR (y_pick_t RF RF) rfl ?_
              refine xj_done (by kernel_rfl) ?_
              refine sx_then ?_
              refine scp (fun hc3 => ?_) (fun hc3 => ?_)
              ·
                refine sc_region ?_
                refine qs (y_move RF) ?_
                refine qs (y_assign RF) ?_
                refine sq_nil ?_
                refine sx_blk ?_
                refine sx_then ?_
                refine sc_region ?_
                refine qs (y_move RF) ?_
                refine qs (y_add RF RF (by omega)) ?_
                refine qs (y_assign RF) ?_
                refine sq_nil ?_
                have hbk : bI b ts (fitL b ls) (k + 1) = (k : Int) := by rw [bI_add hg12_7, if_neg hg12_10, hi0 hg12_10, Int.toNat_natCast, if_pos hc3]
                refine sx_round (k + 1) ?_ ?_ SU SR
                · omega
                · omega
              ·
                refine sc_skip ?_
                refine sx_blk ?_
                refine sx_then ?_
                refine sc_region ?_
                refine qs (y_move RF) ?_
                refine qs (y_add RF RF (by omega)) ?_
                refine qs (y_assign RF) ?_
                refine sq_nil ?_
                have hbk : bI b ts (fitL b ls) (k + 1) = bI b ts (fitL b ls) k := by rw [bI_add hg12_7, if_neg hg12_10, hi0 hg12_10, Int.toNat_natCast, if_neg hc3]
                refine sx_round (k + 1) ?_ ?_ SU SR
                · omega
                · omega
          ·
            refine xj_gf 8 RF RF RF rfl (by kernel_rfl) SR rfl ?_
            refine xj_gf 9 RF RF RF rfl (by kernel_rfl) SR rfl ?_
            refine xj_gf 10 RF RF RF rfl (by kernel_rfl) SR rfl ?_
            refine xj_gu 11 RF RF RF (by kernel_rfl) SR rfl ?_
            refine xj_gu 12 RF RF RF (by kernel_rfl) SR rfl ?_
            refine xj_gu 13 RF RF RF (by kernel_rfl) SR rfl ?_
            refine xj_gu 14 RF RF RF (by kernel_rfl) SR rfl ?_
            refine xj_gu 15 RF RF RF (by kernel_rfl) SR rfl ?_
            refine xj_gu 16 RF RF RF (by kernel_rfl) SR rfl ?_
            refine xj_gu 17 RF RF RF (by kernel_rfl) SR rfl ?_
            refine xj_gu 18 RF RF RF (by kernel_rfl) SR rfl ?_
            refine xj_gu 19 RF RF RF (by kernel_rfl) SR rfl ?_
            refine xj_gu 20 RF RF RF (by kernel_rfl) SR rfl ?_
            refine xj_gu 21 RF RF RF (by kernel_rfl) SR rfl ?_
            refine xj_gf 22 RF RF RF rfl (by kernel_rfl) SR rfl ?_
            refine xj_s 23 RF (by kernel_rfl) SR (y_pick_f RF RF) rfl ?_
            refine xj_done (by kernel_rfl) ?_
            refine sx_then ?_
            refine sc_f RF ?_
            refine sc_skip ?_
            refine sx_blk ?_
            refine sx_then ?_
            refine sc_region ?_
            refine qs (y_move RF) ?_
            refine qs (y_add RF RF (by omega)) ?_
            refine qs (y_assign RF) ?_
            refine sq_nil ?_
            have hbk : bI b ts (fitL b ls) (k + 1) = bI b ts (fitL b ls) k := by exact bI_skip hg12_7
            refine sx_round (k + 1) ?_ ?_ SU SR
            · omega
            · omega
        ·
          have hkn : k = ts.length := by omega
          subst hkn
          refine sc_exit ?_
          refine sx_then_exit ?_
          refine sx_round_exit ?_
          refine sx_blk_hit ?_
          refine sx_then ?_
          refine sc_seq ?_
          refine sc_seq ?_
          refine sc_region ?_
          refine qs (y_move RF) ?_
          refine qs (y_lss RF RF) ?_
          refine sq_nil ?_
          refine sx_then ?_
          refine scp (fun hc4 => ?_) (fun hc4 => ?_)
          ·
            refine sc_seq ?_
            refine sc_region ?_
            refine qs (y_assign RF) ?_
            refine qs (y_assign RF) ?_
            refine sq_nil ?_
            refine sx_then ?_
            refine sc_ret ?_
            refine sx_then_ret ?_
            refine sx_ret2 (.inl rfl) rfl Try.results26 RF RF ?_
            intro w' hw'
            refine ⟨?_, hw'.below MM⟩
            have hh : ¬ (fitL b ls).length = 0 ∧ jv = judgeV (fitL b ls) ∧ jv = 1 := by
              rcases hjj with ⟨_, h1⟩ | ⟨h0, _, h2⟩
              · omega
              · exact ⟨h0, h2, by omega⟩
            have hE : openE b ls ts = 0 := by rw [hx, if_neg hh.1]
            have hJ : judgeV (fitL b ls) = 1 := by omega
            rw [nextR_bI b ls ts hE hJ, if_pos hc4]
          ·
            refine sc_skip ?_
            refine sx_then ?_
            refine sc_seq ?_
            refine sc_region ?_
            refine qs (y_move RF) ?_
            refine qs (y_assign RF) ?_
            refine qs (y_assign RF) ?_
            refine sq_nil ?_
            refine sx_then ?_
            refine sc_ret ?_
            refine sx_ret2 (.inl rfl) rfl Try.results26 RF RF ?_
            intro w' hw'
            refine ⟨?_, hw'.below MM⟩
            have hh : ¬ (fitL b ls).length = 0 ∧ jv = judgeV (fitL b ls) ∧ jv = 1 := by
              rcases hjj with ⟨_, h1⟩ | ⟨h0, _, h2⟩
              · omega
              · exact ⟨h0, h2, by omega⟩
            have hE : openE b ls ts = 0 := by rw [hx, if_neg hh.1]
            have hJ : judgeV (fitL b ls) = 1 := by omega
            rw [nextR_bI b ls ts hE hJ, if_neg hc4]
end Go.Proofs.Ytofjipmheckmjaa
