/- The walks of what looks whether a tale is valid, of who can have lost a piece, and of who is free. -/
import Derived.Test.YtpijahglojichaaDoorWalkL1
namespace Go.Proofs.YtpijahglojichaaDoor
open Go Go.Eng Go.RowKit Go.Proofs
set_option maxRecDepth 100000
theorem any_false (n : Nat) : (List.range n).any (fun _ => false) = false := by simp
theorem contLn0 (g : FuncId) (caps : List Value) (w : World) (a : Option Addr) (c : Nat) (hcg : ∀ args w, (callFunc g args).run Tryd.prog w = .ok (.enter g args) w) : Calls Tryd.prog 90 #[.slice a 0 c, .func (.func g) #[] caps.toArray] w fun e w' => e = .returned (.bool false) ∧ Below w.heap.size w w' := by
  have h := containsLn g caps (fun _ => false) w a 0 c (fun _ => []) (by omega) (fun i hi => absurd hi (Nat.not_lt_zero i)) hcg (fun i hi => absurd hi (Nat.not_lt_zero i))
  rw [any_false] at h; exact h
theorem contSg0 (g : FuncId) (caps : List Value) (w : World) (a : Option Addr) (c : Nat) (l : List Sg) (hl : RowsA sgRow 3 0 w a l) (hcg : ∀ args w, (callFunc g args).run Tryd.prog w = .ok (.enter g args) w) (hp : ∀ s, s ∈ l → ∀ w1, Below w.heap.size w w1 → Calls Tryd.prog g (.agg (sgRow s).toArray :: caps).toArray w1 fun e w' => e = .returned (.bool false) ∧ Below w1.heap.size w1 w') : Calls Tryd.prog 93 #[.slice a l.length c, .func (.func g) #[] caps.toArray] w fun e w' => e = .returned (.bool false) ∧ Below w.heap.size w w' := by
  have h := containsSg g caps (fun _ => false) w a l.length c (fun i => sgRow (l.getD i sg0)) hl.len (fun i hi => ⟨(hl.get sg0 hi).1, rfl, (hl.get sg0 hi).2⟩) hcg (fun i hi w1 hw1 => hp _ (getD_mem hi) w1 hw1)
  rw [any_false] at h; exact h
theorem contIn0 (g : FuncId) (caps : List Value) (w : World) (a : Option Addr) (c : Nat) (l : List Int) (hl : RowsA iRow 1 0 w a l) (hcg : ∀ args w, (callFunc g args).run Tryd.prog w = .ok (.enter g args) w) (hp : ∀ s, s ∈ l → ∀ w1, Below w.heap.size w w1 → Calls Tryd.prog g (.int .i64 s :: caps).toArray w1 fun e w' => e = .returned (.bool false) ∧ Below w1.heap.size w1 w') : Calls Tryd.prog 48 #[.slice a l.length c, .func (.func g) #[] caps.toArray] w fun e w' => e = .returned (.bool false) ∧ Below w.heap.size w w' := by
  have h := containsInt g caps (fun _ => false) w a l.length c (fun i => .int .i64 (l.getD i 0)) hl.len (fun i hi => ⟨(hl.get 0 hi).1, (hl.get 0 hi).2⟩) hcg (fun i hi w1 hw1 => hp _ (getD_mem hi) w1 hw1)
  rw [any_false] at h; exact h

theorem isTale62 (w : World) (z : TlA) (t : Tl) (hz : TlAt 0 w z t) (ok : OkT t) : Calls Tryd.prog 62 #[.agg (tlV z t).toArray] w fun e w' => e = .returned (.bool true) ∧ Below w.heap.size w w' := by
  have hp1 := ok.p1
  have hp16 := ok.p16
  have ha1 := ok.a1
  have ha6 := ok.a6
  have hl1 := ok.l1
  have hs20 := ok.s20
  have hpw := pow16 hp16
  refine calls_of_SC (args := [.agg (tlV z t).toArray]) Tryd.func62 rfl Tryd.ntmps62 rfl ?_
  simp only [argL]
  refine sc_seq ?_
  refine sc_region ?_
  refine sq_box RF rfl (fun b1 => ?_)
  refine qs (y_assign RF) ?_
  refine sq_nil ?_
  refine sx_then ?_
  refine sc_seq ?_
  refine sc_seq ?_
  refine sc_region ?_
  refine qs FA61_3 ?_
  refine qs LD3 ?_
  refine qy (yc Tryd.call63 E3 (fun w1 hw1 => within63 t.pieces 1 16 w1)) ?_
  refine qs (y_not RF) ?_
  refine qs (y_move RF) ?_
  refine sq_known (tt := 12) (b' := false) RF (by rw [decide_eq_true (by omega)]; rfl) ?_
  refine qg FA61_25 ?_
  refine qg LD25 ?_
  refine qg (y_len Tryd.underlying25 RF) ?_
  refine sq_gt RF RF (y_call (first := []) (caps := []) RF Tryd.call63 (EvL.cons RF (EvL.cons RF (EvL.cons RF EvL.nil))) (fun w1 hw1 => within63 t.admits.length 1 6 w1)) rfl ?_
  refine qg (y_not RF) ?_
  refine qs (y_pick_f RF RF) ?_
  refine qs (y_move RF) ?_
  refine sq_known (tt := 19) (b' := false) RF (by rw [decide_eq_true (by omega)]; rfl) ?_
  refine qg FA61_59 ?_
  refine qg LD59 ?_
  refine qg (y_len Tryd.underlying59 RF) ?_
  refine qg (y_gtr RF RF) ?_
  refine qs (y_pick_f RF RF) ?_
  refine qs (y_move RF) ?_
  refine sq_known (tt := 25) (b' := false) RF (decide_eq_false (by omega)) ?_
  refine qg FA61_58 ?_
  refine qg LD58 ?_
  refine qg (y_len Tryd.underlying58 RF) ?_
  refine qg (y_gtr RF RF) ?_
  refine qs (y_pick_f RF RF) ?_
  refine sq_nil ?_
  refine sx_then ?_
  refine scp (fun hc0 => ?_) (fun hc0 => ?_)
  ·
    omega
  ·
    refine sc_skip ?_
    refine sx_then ?_
    refine sc_seq ?_
    refine sc_region ?_
    refine qs FA61_3 ?_
    refine qs LD3 ?_
    refine qs (y_shl RF RF (by omega) (by rw [pw2_shl]; omega)) ?_
    rw [pw2_shl]
    refine qs (y_sub RF RF (by omega)) ?_
    rw [show ((pw2 t.pieces : Nat) : Int) - 1 = ((pw2 t.pieces - 1 : Nat) : Int) by have := pw2_pos t.pieces; omega]
    refine sq_alloc Tryd.zeroValue3 rfl (fun b3 => ?_)
    refine sq_store Tryd.sizeOf3 RF RF (by first | rfl | assumption) RM (by first | exact Nat.le_of_ble_eq_true rfl | simp | omega) ?_
    refine sq_nil ?_
    refine sx_then ?_
    refine sc_seq ?_
    refine sc_region ?_
    refine qs (y_makeFunc EvL.nil (EvL.cons RF EvL.nil)) ?_
    refine qs (y_assign RF) ?_
    refine sq_nil ?_
    refine sx_then ?_
    refine sc_seq ?_
    refine sc_region ?_
    refine qs (y_assign RF) ?_
    refine sq_nil ?_
    refine sx_then ?_
    refine sc_seq ?_
    refine sc_seq ?_
    refine sc_region ?_
    refine qs FA61_59 ?_
    refine qs LD59 ?_
    refine qs (y_len Tryd.underlying59 RF) ?_
    refine qs (y_move RF) ?_
    refine sq_nil ?_
    refine sx_then ?_
    refine sc_block ?_
    refine sc_loop (σ := Nat)
      (fun s_ => [(1, .pointer (some ⟨b1, 0, none⟩)), (4, .func (.func 88) #[] #[.pointer (some ⟨b3, 0, none⟩)]), (5, .func (.func 89) #[] #[]), (37, .slice z.la t.loans.length z.lc), (38, .int .i64 t.loans.length), (39, .int .i64 s_)])
      (fun s_ => [.blk b1 (.cells (tlV z t).toArray 61 (0, 0)), .blk b3 (.cells #[.int .i64 ((pw2 t.pieces - 1 : Nat) : Int)] 3 (0, 0)), .reg 0 w])
      (fun s_ => s_ ≤ t.loans.length)
      (fun s_ => t.loans.length - s_)
      (0) ?_ SU SR ?_
    · exact Nat.zero_le _
    rintro i hi
    refine sc_seq ?_
    refine sc_region ?_
    refine qs (y_lss RF RF) ?_
    refine sq_nil ?_
    refine sx_then ?_
    refine sc_seq ?_
    refine scp (fun hc1 => ?_) (fun hc1 => ?_)
    ·
      have hi' : i < t.loans.length := by omega
      have h0 : i = 0 := by omega
      have hsi := (hz.ln.get ln0 hi').1
      have hci := (hz.ln.get ln0 hi').2
      obtain ⟨hb1, hb2, hb3, hb4⟩ := ok.ln _ (getD_mem (d := ln0) hi')
      refine sc_skip ?_
      refine sx_then ?_
      refine sc_seq ?_
      refine sc_block ?_
      refine sc_seq ?_
      refine sc_region ?_
      refine qs (y_move RF) ?_
      refine qs IA59 ?_
      refine qs (by first | exact y_load_ca Tryd.underlying63 rfl Tryd.sizeOf63 RF MM hci (lnRow_len _) | exact LD63) ?_
      refine sq_alloc Tryd.zeroValue63 rfl (fun b7 => ?_)
      refine qs (y_assign RF) ?_
      refine sq_store_all Tryd.sizeOf63 RF RF rfl RM rfl rfl ?_
      refine sq_nil ?_
      refine sx_then ?_
      refine sc_seq ?_
      refine sc_seq ?_
      refine sc_region ?_
      refine qs FA63_3 ?_
      refine qs LD3 ?_
      refine qs FA61_25 ?_
      refine qs LD25 ?_
      refine qs (y_len Tryd.underlying25 RF) ?_
      refine qs (y_sub RF RF (by omega)) ?_
      refine qy (yc Tryd.call63 E3 (fun w1 hw1 => within63 (t.loans.getD i ln0).p 0 ((t.admits.length : Int) - 1) w1)) ?_
      refine qs (y_not RF) ?_
      refine qs (y_move RF) ?_
      refine sq_known (tt := 52) (b' := false) RF (by rw [decide_eq_true (by omega)]; rfl) ?_
      refine qg FA63_3 ?_
      refine qg LD3 ?_
      refine sq_gt RF RF (y_call (first := []) (caps := []) RF Tryd.call63 (EvL.cons RF (EvL.cons RF (EvL.cons RF EvL.nil))) (fun w1 hw1 => within63 (t.loans.getD i ln0).f 0 1048575 w1)) rfl ?_
      refine qg (y_not RF) ?_
      refine qs (y_pick_f RF RF) ?_
      refine qs (y_move RF) ?_
      refine sq_known (tt := 58) (b' := false) RF (by rw [decide_eq_true (by omega)]; rfl) ?_
      refine qg FA63_3 ?_
      refine qg LD3 ?_
      refine qg FA63_3 ?_
      refine qg LD3 ?_
      refine qg (y_add RF RF (by omega)) ?_
      refine sq_gt RF RF (y_call (first := []) (caps := []) RF Tryd.call63 (EvL.cons RF (EvL.cons RF (EvL.cons RF EvL.nil))) (fun w1 hw1 => within63 (t.loans.getD i ln0).t ((t.loans.getD i ln0).f + 1) 1048576 w1)) rfl ?_
      refine qg (y_not RF) ?_
      refine qs (y_pick_f RF RF) ?_
      refine sq_nil ?_
      refine sx_then ?_
      refine scp (fun hc2 => ?_) (fun hc2 => ?_)
      ·
        omega
      ·
        refine sc_skip ?_
        refine sx_then ?_
        refine sc_seq ?_
        obtain rfl := h0
        refine sc_region ?_
        refine qs FA61_59 ?_
        refine qs LD59 ?_
        refine qs (y_move RF) ?_
        refine qs (y_slice_h Tryd.underlying59 Tryd.sizeOf63 RF RF (by omega)) ?_
        refine qs (y_makeFunc EvL.nil (EvL.cons RF EvL.nil)) ?_
        refine qy (yc Tryd.call90 E2 (fun w1 hw1 => contLn0 91 [.pointer (some ⟨b7, 0, none⟩)] w1 z.la z.lc Tryd.call91)) ?_
        refine sq_nil ?_
        refine sx_then ?_
        refine scp (fun hc3 => ?_) (fun hc3 => ?_)
        ·
          cases hc3
        ·
          refine sc_skip ?_
          refine sx_blk ?_
          refine sx_then ?_
          refine sc_region ?_
          refine qs (y_add RF RF (by omega)) ?_
          refine qs (y_move RF) ?_
          refine sq_nil ?_
          refine sx_round (1) ?_ ?_ SU SR
          · omega
          · omega
    ·
      refine sc_exit ?_
      refine sx_then_exit ?_
      refine sx_round_exit ?_
      refine sx_blk_hit ?_
      refine sx_then ?_
      refine sc_seq ?_
      refine sc_region ?_
      refine qs FA61_58 ?_
      refine qs LD58 ?_
      refine qs (y_move RF) ?_
      refine qy (yc Tryd.call93 E2 (fun w1 hw1 => contSg0 88 [.pointer (some ⟨b3, 0, none⟩)] w1 z.sa z.sc t.looks (hz.sg.at hw1 MM) Tryd.call88 (fun s hs w2 hw2 => badLook88 w2 s t.pieces hp16 ⟨b3, 0, none⟩ (CA.blk (hw1.ext hw2) MM) (ok.sg s hs)))) ?_
      refine qs (y_not RF) ?_
      refine qs (y_move RF) ?_
      refine sq_known (tt := 79) (b' := true) RF (rfl) ?_
      refine qg FA61_25 ?_
      refine qg LD25 ?_
      refine qg (y_move RF) ?_
      refine sq_gt RF RF (y_call (first := []) (caps := []) RF Tryd.call48 (EvL.cons RF (EvL.cons RF EvL.nil)) (fun w1 hw1 => contIn0 89 [] w1 z.aa z.ac t.admits (hz.ad.at hw1 MM) Tryd.call89 (fun s hs w2 hw2 => (badAdmit89 w2 s).mono fun e w' h => ⟨by rw [h.1, decide_eq_true (ok.ad s hs)]; rfl, h.2⟩))) rfl ?_
      refine qg (y_not RF) ?_
      refine qs (y_pick_t RF RF) ?_
      refine qs (y_assign RF) ?_
      refine sq_nil ?_
      refine sx_then ?_
      refine sc_ret ?_
      refine sx_ret1 (.inl rfl) rfl Tryd.results62 RF ?_
      intro w' hw'
      exact ⟨rfl, hw'.below MM⟩
theorem suspects95 (w : World) (z : TlA) (t : Tl) (hz : TlAt 0 w z t) (ok : OkT t) (k : Nat) (hk : k < t.pieces) (hw : (winW t.looks k).1 < (winW t.looks k).2) : Calls Tryd.prog 95 #[.agg (tlV z t).toArray, .int .i64 (k : Int)] w fun e w' => e = .returned (.int .i64 (canN t k : Int)) ∧ Below w.heap.size w w' := by
  have hp16 := ok.p16
  have ha6 := ok.a6
  have hpw := pow16 hp16
  have hwb := winW_bd (l := t.looks) (fun s hs => (ok.sg s hs).1) k t.looks.length (Nat.le_refl _)
  rw [List.take_length] at hwb
  refine calls_of_SC (args := [.agg (tlV z t).toArray, .int .i64 (k : Int)]) Tryd.func95 rfl Tryd.ntmps95 rfl ?_
  simp only [argL, Nat.zero_add]
  refine sc_seq ?_
  refine sc_region ?_
  refine sq_box RF rfl (fun b2 => ?_)
  refine qs (y_assign RF) ?_
  refine sq_nil ?_
  refine sx_then ?_
  refine sc_seq ?_
  refine sc_region ?_
  refine qs FA61_58 ?_
  refine qs LD58 ?_
  refine qs (y_move RF) ?_
  refine qy (yc Tryd.call66 E2 (fun w1 hw1 => windowOf66 w1 z.sa z.sc t.looks (hz.sg.at hw1 MM) (fun s hs => ⟨(ok.sg s hs).1, by have := ok.sg s hs; omega⟩) k (by omega))) ?_
  refine sq_alloc Tryd.zeroValue113 rfl (fun b5 => ?_)
  refine sq_store_all Tryd.sizeOf113 RF RF rfl RM rfl rfl ?_
  refine sq_nil ?_
  refine sx_then ?_
  refine sc_seq ?_
  refine sc_seq ?_
  refine sc_region ?_
  refine qs LD113 ?_
  refine qy (yc Tryd.call67 E1 (fun w1 hw1 => isEmpty67 w1 (winW t.looks k).1 (winW t.looks k).2)) ?_
  refine sq_nil ?_
  refine sx_then ?_
  refine scp (fun hc0 => ?_) (fun hc0 => ?_)
  ·
    omega
  ·
    refine sc_skip ?_
    refine sx_then ?_
    refine sc_seq ?_
    refine sc_region ?_
    refine qs FA113_3 ?_
    refine qs LD3 ?_
    refine qs (y_min RF RF) ?_
    refine qs FA113_3 ?_
    refine qs LD3 ?_
    refine qs (y_sub RF RF (by omega)) ?_
    rw [show min ((winW t.looks k).2 : Int) 1048576 - ((winW t.looks k).1 : Int) = (susW t k 0).1 from by unfold susW; simp only [List.take_zero, List.foldl_nil]; omega]
    refine qs (y_assign RF) ?_
    refine sq_nil ?_
    refine sx_then ?_
    refine sc_seq ?_
    refine sc_seq ?_
    refine sc_region ?_
    refine qs FA61_59 ?_
    refine qs LD59 ?_
    refine qs (y_len Tryd.underlying59 RF) ?_
    refine qs (y_move RF) ?_
    refine sq_nil ?_
    refine sx_then ?_
    refine sc_block ?_
    refine sc_loop (σ := Nat)
      (fun s_ => [(2, .pointer (some ⟨b2, 0, none⟩)), (5, .pointer (some ⟨b5, 0, none⟩)), (25, .slice z.la t.loans.length z.lc), (26, .int .i64 t.loans.length), (27, .int .i64 s_), (4, .int .i64 ((susW t k s_).2 : Int)), (6, .int .i64 (susW t k s_).1)])
      (fun s_ => [.blk b2 (.cells (tlV z t).toArray 61 (0, 0)), .blk b5 (.cells #[.int .i64 ((winW t.looks k).1 : Int), .int .i64 ((winW t.looks k).2 : Int)] 113 (0, 0)), .reg 0 w])
      (fun s_ => s_ ≤ t.loans.length)
      (fun s_ => t.loans.length - s_)
      (0) ?_ SU SR ?_
    · exact Nat.zero_le _
    rintro i hi
    refine sc_seq ?_
    refine sc_region ?_
    refine qs (y_lss RF RF) ?_
    refine sq_nil ?_
    refine sx_then ?_
    refine sc_seq ?_
    refine scp (fun hc1 => ?_) (fun hc1 => ?_)
    ·
      have hi' : i < t.loans.length := by omega
      have hsi := (hz.ln.get ln0 hi').1
      have hci := (hz.ln.get ln0 hi').2
      obtain ⟨hb1, hb2, hb3, hb4⟩ := ok.ln _ (getD_mem (d := ln0) hi')
      have hpl := pow_lt8 (show (t.loans.getD i ln0).p ≤ 7 by omega)
      have hsb := susW_bd ok k i (Nat.le_of_lt hi')
      have hl1 := ok.l1
      refine sc_skip ?_
      refine sx_then ?_
      refine sc_seq ?_
      refine sc_block ?_
      refine sc_seq ?_
      refine sc_region ?_
      refine qs IA59 ?_
      refine qs (by first | exact y_load_ca Tryd.underlying63 rfl Tryd.sizeOf63 RF MM hci (lnRow_len _) | exact LD63) ?_
      refine sq_alloc Tryd.zeroValue63 rfl (fun b8 => ?_)
      refine sq_store_all Tryd.sizeOf63 RF RF rfl RM rfl rfl ?_
      refine sq_nil ?_
      refine sx_then ?_
      refine sc_seq ?_
      refine sc_region ?_
      refine qs FA63_3 ?_
      refine qs LD3 ?_
      refine qs FA113_3 ?_
      refine qs LD3 ?_
      refine qs (y_min RF RF) ?_
      refine qs FA63_3 ?_
      refine qs LD3 ?_
      refine qs FA113_3 ?_
      refine qs LD3 ?_
      refine qs (y_max RF RF) ?_
      refine qs (y_sub RF RF (by omega)) ?_
      refine qs (y_assign RF) ?_
      refine sq_nil ?_
      refine sx_then ?_
      refine sc_seq ?_
      refine sc_region ?_
      refine qs (y_move RF) ?_
      refine qs (y_gtr RF RF) ?_
      refine sq_nil ?_
      refine sx_then ?_
      refine sc_midE (Z := {q : Int × Nat // q = susW t k (i + 1)}) (fun q => [(2, .pointer (some ⟨b2, 0, none⟩)), (5, .pointer (some ⟨b5, 0, none⟩)), (25, .slice z.la t.loans.length z.lc), (26, .int .i64 t.loans.length), (27, .int .i64 i), (4, .int .i64 (q.1.2 : Int)), (6, .int .i64 q.1.1)]) (fun q => [.blk b2 (.cells (tlV z t).toArray 61 (0, 0)), .blk b5 (.cells #[.int .i64 ((winW t.looks k).1 : Int), .int .i64 ((winW t.looks k).2 : Int)] 113 (0, 0)), .reg 0 w]) ?_ ?_
      ·
        refine scp (fun hc2 => ?_) (fun hc2 => ?_)
        ·
          refine sc_seq ?_
          refine sc_region ?_
          refine qs (y_move RF) ?_
          refine qs (y_move RF) ?_
          refine qs (y_sub RF RF (by omega)) ?_
          refine qs (y_assign RF) ?_
          refine sq_nil ?_
          refine sx_then ?_
          refine sc_region ?_
          refine qs (y_move RF) ?_
          refine qs FA63_3 ?_
          refine qs LD3 ?_
          refine qs (y_shl RF RF (by omega) (by rw [pw2_shl]; omega)) ?_
          rw [pw2_shl]
          refine qs (y_or RF RF (by omega) (by omega)) ?_
          rw [Int.toNat_natCast, Int.toNat_natCast]
          refine qs (y_assign RF) ?_
          refine sq_nil ?_
          exact sx_midE (⟨((susW t k i).1 - (min ((t.loans.getD i ln0).t : Int) ((winW t.looks k).2 : Int) - max ((t.loans.getD i ln0).f : Int) ((winW t.looks k).1 : Int)), (susW t k i).2 ||| pw2 (t.loans.getD i ln0).p), by rw [susW_take t k hi']; unfold susF; rw [if_pos (by omega)]; congr 1; omega⟩) SU SR
        ·
          refine sc_skip ?_
          exact sx_midE (⟨susW t k i, by rw [susW_take t k hi']; unfold susF; rw [if_neg (by omega)]⟩) SU SR
      rintro ⟨q, hq⟩
      try dsimp only
      refine sx_blk ?_
      refine sx_then ?_
      refine sc_region ?_
      refine qs (y_add RF RF (by omega)) ?_
      refine qs (y_move RF) ?_
      refine sq_nil ?_
      subst hq
      exact sx_round (i + 1) (by omega) (by omega) SU SR
    ·
      have hin : i = t.loans.length := by omega
      subst hin
      have hsb := susW_bd ok k t.loans.length (Nat.le_refl _)
      refine sc_exit ?_
      refine sx_then_exit ?_
      refine sx_round_exit ?_
      refine sx_blk_hit ?_
      refine sx_then ?_
      refine sc_seq ?_
      refine sc_seq ?_
      refine sc_region ?_
      refine qs (y_move RF) ?_
      refine qs (y_gtr RF RF) ?_
      refine sq_nil ?_
      refine sx_then ?_
      refine sc_midE (Z := {q : Nat // q = if 0 < (susW t k t.loans.length).1 then (susW t k t.loans.length).2 ||| 64 else (susW t k t.loans.length).2}) (fun q => [(4, .int .i64 (q.1 : Int)), (5, .pointer (some ⟨b5, 0, none⟩))]) (fun q => [.blk b5 (.cells #[.int .i64 ((winW t.looks k).1 : Int), .int .i64 ((winW t.looks k).2 : Int)] 113 (0, 0)), .reg 0 w]) ?_ ?_
      ·
        refine scp (fun hc3 => ?_) (fun hc3 => ?_)
        ·
          refine sc_region ?_
          refine qs (y_move RF) ?_
          refine qs (y_or RF RF (by omega) (by decide)) ?_
          rw [Int.toNat_natCast, show (64 : Int).toNat = 64 from rfl]
          refine qs (y_assign RF) ?_
          refine sq_nil ?_
          exact sx_midE (⟨(susW t k t.loans.length).2 ||| 64, (if_pos (by omega)).symm⟩) SU SR
        ·
          refine sc_skip ?_
          exact sx_midE (⟨(susW t k t.loans.length).2, (if_neg (by omega)).symm⟩) SU SR
      rintro ⟨q, hq⟩
      try dsimp only
      refine sx_then ?_
      refine sc_seq ?_
      refine sc_seq ?_
      refine sc_region ?_
      refine qs FA113_3 ?_
      refine qs LD3 ?_
      refine qs (y_eql RF RF) ?_
      refine sq_nil ?_
      refine sx_then ?_
      refine sc_midE (Z := {q' : Nat // q' = canN t k}) (fun q => [(4, .int .i64 (q.1 : Int))]) (fun q => [.reg 0 w]) ?_ ?_
      ·
        refine scp (fun hc4 => ?_) (fun hc4 => ?_)
        ·
          refine sc_region ?_
          refine qs (y_move RF) ?_
          refine qs (y_or RF RF (by have h9 : q < 256 := (by rw [hq]; split; exact or_lt8 hsb.2.2 (by decide); exact hsb.2.2); omega) (by decide)) ?_
          rw [Int.toNat_natCast, show (128 : Int).toNat = 128 from rfl]
          refine qs (y_assign RF) ?_
          refine sq_nil ?_
          exact sx_midE (⟨q ||| 128, by unfold canN; dsimp only; rw [if_pos (by omega), hq]⟩) SU SR
        ·
          refine sc_skip ?_
          exact sx_midE (⟨q, by unfold canN; dsimp only; rw [if_neg (by omega), hq]⟩) SU SR
      rintro ⟨q', hq'⟩
      try dsimp only
      refine sx_then ?_
      refine sc_seq ?_
      refine sc_region ?_
      refine qs (y_move RF) ?_
      refine qs (y_assign RF) ?_
      refine sq_nil ?_
      refine sx_then ?_
      refine sc_ret ?_
      refine sx_ret1 (.inl rfl) rfl Tryd.results95 RF ?_
      intro w' hw'
      exact ⟨by rw [hq'], hw'.below MM⟩
/-- who is free: those who are silent, the library and nobody -/
def freeN (l : List Int) : Nat → Nat
  | 0 => 192
  | i + 1 => if l.getD i 0 = -1 then freeN l i ||| pw2 i else freeN l i
theorem freeN_lt (l : List Int) : ∀ i, i ≤ 6 → freeN l i < 256
  | 0, _ => by show (192 : Nat) < 256; decide
  | i + 1, h => by
    have := freeN_lt l i (by omega)
    unfold freeN
    split
    · exact or_lt8 this (pow_lt8 (by omega))
    · exact this
/-- a tale, with who can have lost each piece -/
def bkV (z : TlA) (t : Tl) (cs : List Nat) : List Value := tlV z t ++ cs.map fun (n : Nat) => .int .i64 (n : Int)
theorem bkV_len (z : TlA) (t : Tl) {cs : List Nat} (h : cs.length = 16) : (bkV z t cs).length = 20 := by simp [bkV, tlV, h]
theorem bkV_get (z : TlA) (t : Tl) {cs : List Nat} {i : Nat} (h : i < cs.length) : (bkV z t cs)[4 + i]? = some (.int .i64 ((cs.getD i 0 : Nat) : Int)) := by
  unfold bkV
  rw [List.getElem?_append_right (by simp [tlV]), show 4 + i - (tlV z t).length = i by simp [tlV], List.getElem?_map, get_of_lt 0 h]; rfl

theorem free96 (w : World) (z : TlA) (t : Tl) (hz : TlAt 0 w z t) (ha6 : t.admits.length ≤ 6) (cs : List Nat) (hcs : cs.length = 16) : Calls Tryd.prog 96 #[.agg (bkV z t cs).toArray] w fun e w' => e = .returned (.int .i64 (freeN t.admits t.admits.length : Int)) ∧ Below w.heap.size w w' := by
  have hbl := bkV_len z t hcs
  refine calls_of_SC (args := [.agg (bkV z t cs).toArray]) Tryd.func96 rfl Tryd.ntmps96 rfl ?_
  simp only [argL]
  refine sc_seq ?_
  refine sc_region ?_
  refine sq_box RF rfl (fun b1 => ?_)
  refine qs (y_assign RF) ?_
  refine sq_nil ?_
  refine sx_then ?_
  refine sc_seq ?_
  refine sc_region ?_
  refine qs (y_assign RF) ?_
  refine sq_nil ?_
  refine sx_then ?_
  refine sc_seq ?_
  refine sc_seq ?_
  refine sc_region ?_
  refine qs FA118_61 ?_
  refine qs FA61_25 ?_
  refine qs LD25 ?_
  refine qs (y_len Tryd.underlying25 RF) ?_
  refine qs (y_move RF) ?_
  refine sq_nil ?_
  refine sx_then ?_
  refine sc_block ?_
  refine sc_loop (σ := Nat)
    (fun s_ => [(3, .int .i64 (freeN t.admits s_ : Int)), (8, .slice z.aa t.admits.length z.ac), (9, .int .i64 t.admits.length), (10, .int .i64 s_)])
    (fun s_ => [.reg 0 w])
    (fun s_ => s_ ≤ t.admits.length)
    (fun s_ => t.admits.length - s_)
    (0) ?_ SU SR ?_
  · exact Nat.zero_le _
  rintro i hi
  refine sc_seq ?_
  refine sc_region ?_
  refine qs (y_lss RF RF) ?_
  refine sq_nil ?_
  refine sx_then ?_
  refine sc_seq ?_
  refine scp (fun hc0 => ?_) (fun hc0 => ?_)
  ·
    have hi' : i < t.admits.length := by omega
    have hsi := (hz.ad.get 0 hi').1
    have hci := (hz.ad.get 0 hi').2
    have hpl := pow_lt8 (show i ≤ 7 by omega)
    have hfl := freeN_lt t.admits i (by omega)
    refine sc_skip ?_
    refine sx_then ?_
    refine sc_seq ?_
    refine sc_block ?_
    refine sc_seq ?_
    refine sc_region ?_
    refine qs (y_move RF) ?_
    refine qs IA25 ?_
    refine qs (by first | exact y_load_ca0 Tryd.underlying3 rfl RF MM hci rfl | exact LD3) ?_
    refine qs (y_assign RF) ?_
    refine qs (y_assign RF) ?_
    refine sq_nil ?_
    refine sx_then ?_
    refine sc_seq ?_
    refine sc_region ?_
    refine qs (y_move RF) ?_
    refine qs (y_eql RF RF) ?_
    refine sq_nil ?_
    refine sx_then ?_
    refine sc_midE (Z := {q : Nat // q = freeN t.admits (i + 1)}) (fun q => [(3, .int .i64 (q.1 : Int)), (8, .slice z.aa t.admits.length z.ac), (9, .int .i64 t.admits.length), (10, .int .i64 i)]) (fun q => [.reg 0 w]) ?_ ?_
    ·
      refine scp (fun hc1 => ?_) (fun hc1 => ?_)
      ·
        refine sc_region ?_
        refine qs (y_move RF) ?_
        refine qs (y_move RF) ?_
        refine qs (y_shl RF RF (by omega) (by rw [pw2_shl]; omega)) ?_
        rw [pw2_shl]
        refine qs (y_or RF RF (by omega) (by omega)) ?_
        rw [Int.toNat_natCast, Int.toNat_natCast]
        refine qs (y_assign RF) ?_
        refine sq_nil ?_
        exact sx_midE (⟨freeN t.admits i ||| pw2 i, by rw [show freeN t.admits (i + 1) = if t.admits.getD i 0 = -1 then freeN t.admits i ||| pw2 i else freeN t.admits i from rfl, if_pos hc1]⟩) SU SR
      ·
        refine sc_skip ?_
        exact sx_midE (⟨freeN t.admits i, by rw [show freeN t.admits (i + 1) = if t.admits.getD i 0 = -1 then freeN t.admits i ||| pw2 i else freeN t.admits i from rfl, if_neg hc1]⟩) SU SR
    rintro ⟨q, hq⟩
    try dsimp only
    refine sx_blk ?_
    refine sx_then ?_
    refine sc_region ?_
    refine qs (y_add RF RF (by omega)) ?_
    refine qs (y_move RF) ?_
    refine sq_nil ?_
    subst hq
    exact sx_round (i + 1) (by omega) (by omega) SU SR
  ·
    have hin : i = t.admits.length := by omega
    subst hin
    refine sc_exit ?_
    refine sx_then_exit ?_
    refine sx_round_exit ?_
    refine sx_blk_hit ?_
    refine sx_then ?_
    refine sc_seq ?_
    refine sc_region ?_
    refine qs (y_move RF) ?_
    refine qs (y_assign RF) ?_
    refine sq_nil ?_
    refine sx_then ?_
    refine sc_ret ?_
    refine sx_ret1 (.inl rfl) rfl Tryd.results96 RF ?_
    intro w' hw'
    exact ⟨rfl, hw'.below MM⟩
end Go.Proofs.YtpijahglojichaaDoor
