/- The walk of the law ScaleNames. -/
import Derived.Test.YtofjipmheckmjaaWalk23
namespace Go.Proofs.Ytofjipmheckmjaa
open Go Go.Eng Go.RowKit Go.Proofs
set_option maxRecDepth 100000
theorem nm_bx : bxB smpB = true := by decide +kernel
theorem nm_te : teB smpB cameraT = true := by decide +kernel
theorem nm_r1 : readAns smpB [0, 0] fineT = .tuple #[.agg (spRow ⟨110450, 110740⟩).toArray, .int .i64 0] := by
  unfold readAns; rw [if_pos ⟨nm_bx, smp_fine⟩, if_pos (by decide +kernel), show readV smpB fineT [0, 0] = ⟨110450, 110740⟩ by decide +kernel]
theorem nm_r2 : readAns smpB [-1, 0] cameraT = .tuple #[.agg (spRow ⟨97, 99⟩).toArray, .int .i64 0] := by
  unfold readAns; rw [if_pos ⟨nm_bx, nm_te⟩, if_pos smp_can, show readV smpB cameraT [-1, 0] = ⟨97, 99⟩ by decide +kernel]
theorem nm_j1 : judgeAns smpB [⟨cameraT, 98⟩, ⟨fineT, 110600⟩] = .tuple #[.int .i64 2, .int .i64 0] := by
  unfold judgeAns; rw [if_pos (by decide +kernel), show judgeV (fitL smpB [⟨cameraT, 98⟩, ⟨fineT, 110600⟩]) = 2 by decide +kernel]
theorem nm_j2 : judgeAns smpB [⟨cameraT, 98⟩, ⟨fineT, 109500⟩] = .tuple #[.int .i64 0, .int .i64 0] := by
  unfold judgeAns; rw [if_pos (by decide +kernel), show judgeV (fitL smpB [⟨cameraT, 98⟩, ⟨fineT, 109500⟩]) = 0 by decide +kernel]
theorem nm_l : leftR smpB [⟨cameraT, 100⟩] = [⟨-1, 1⟩, ⟨-1, 1⟩] := by decide +kernel
theorem nm_le : openE smpB [⟨cameraT, 100⟩] [] = 0 := by decide +kernel
theorem nm_s1 : slipR smpB [cameraT] = ([-1, 0], 0) := by decide +kernel
theorem nm_s2 : slipR smpB [fineT] = ([], 4) := by decide +kernel

theorem left18q (w : World) (a : Option Addr) (c : Nat) (hB : RowsA kdRow 3 0 w a smpB.kinds) (al : Option Addr) (cl : Nat) (hl : RowsA rdRow 8 0 w al [⟨cameraT, 100⟩]) : Calls Try.prog 18 #[.agg (bxRow smpB a c).toArray, .slice al 1 cl] w fun e w' => ∃ z : Option Addr × Nat, e = .returned (.tuple #[.slice z.1 2 z.2, .int .i64 0]) ∧ Below w.heap.size w w' ∧ RowsA spRow 2 w.heap.size w' z.1 [⟨-1, 1⟩, ⟨-1, 1⟩] :=
  (left18s w smpB a c hB al cl [⟨cameraT, 100⟩] hl).mono fun e w' ⟨z, he, hb, hr⟩ => by
    rw [nm_l] at he hr; rw [nm_le] at he; exact ⟨z, he, hb, hr⟩
theorem slips21q (w : World) (a : Option Addr) (c : Nat) (hB : RowsA kdRow 3 0 w a smpB.kinds) (at_ : Option Addr) (ct : Nat) (ht : RowsA teRow 7 0 w at_ [cameraT]) : Calls Try.prog 21 #[.agg (bxRow smpB a c).toArray, .slice at_ 1 ct] w fun e w' => ∃ z : Option Addr × Nat, e = .returned (.tuple #[.slice z.1 2 z.2, .int .i64 0]) ∧ Below w.heap.size w w' ∧ RowsA iRow 1 w.heap.size w' z.1 [-1, 0] :=
  (slips21 w smpB a c hB at_ ct [cameraT] ht).mono fun e w' ⟨z, he, hb, hr⟩ => by
    rw [nm_s1] at he hr; exact ⟨z, he, hb, hr⟩
theorem slips21r (w : World) (a : Option Addr) (c : Nat) (hB : RowsA kdRow 3 0 w a smpB.kinds) (at_ : Option Addr) (ct : Nat) (ht : RowsA teRow 7 0 w at_ [fineT]) : Calls Try.prog 21 #[.agg (bxRow smpB a c).toArray, .slice at_ 1 ct] w fun e w' => ∃ z : Option Addr × Nat, e = .returned (.tuple #[.slice z.1 0 z.2, .int .i64 4]) ∧ Below w.heap.size w w' ∧ True :=
  (slips21 w smpB a c hB at_ ct [fineT] ht).mono fun e w' ⟨z, he, hb, hr⟩ => by
    rw [nm_s2] at he; exact ⟨z, he, hb, trivial⟩
theorem names5 (w : World) : Calls Try.prog 5 #[] w fun e w' => e = .returned (.bool true) ∧ Below w.heap.size w w' := by
  refine calls_of_SC (args := []) Try.func5 rfl Try.ntmps5 rfl ?_
  simp only [argL]
  refine sc_seq ?_
  refine sc_region ?_
  refine qs (y_assign RF) ?_
  refine sq_nil ?_
  refine sx_then ?_
  refine sc_seq ?_
  refine sc_region ?_
  refine sq_call_new (first := []) (caps := []) (Z := Option Addr × Nat) (fun z => .agg (bxRow smpB z.1 z.2).toArray) (fun lo w' z => RowsA kdRow 3 lo w' z.1 smpB.kinds) RF Try.call28 EvL.nil (fun w1 _ => (sample28 w1).mono (fun e w' ⟨a, c, he, hb, hr⟩ => ⟨(a, c), he, hb, hr⟩)) rfl (fun ls1 ws1 zs1 hs1 => ?_)
  refine sq_bs Try.underlying27 ei3 (EvI.cons RF (EvI.cons RF EvI.nil)) (by first | (simp [Value.cells]; done) | (simp [Value.cells]; rfl) | (simp [Value.cells]; and_intros <;> rfl)) rfl rfl rfl (fun b17 => ?_)
  refine qy (yc Try.call29 E0 (fun w1 _ => fine29 w1)) ?_
  refine qy (yc Try.call14 E3 (fun w1 hw1 => reads14x w1 smpB _ _ (hs1.at hw1 MM) _ _ [0, 0] (lit_rowsA (row := iRow) (l := [0, 0]) (fun _ => rfl) hw1 MM rfl (by decide)) fineT nm_r1)) ?_
  refine qs (y_move RF) ?_
  refine qs (y_extract RF RF) ?_
  refine qs (y_extract RF RF) ?_
  refine sq_alloc Try.zeroValue24 rfl (fun b1 => ?_)
  refine sq_store_all Try.sizeOf24 RF RF rfl RM rfl rfl ?_
  refine qs (y_assign RF) ?_
  refine sq_nil ?_
  refine sx_then ?_
  refine sc_seq ?_
  refine sc_region ?_
  refine sq_call_new (first := []) (caps := []) (Z := Option Addr × Nat) (fun z => .agg (bxRow smpB z.1 z.2).toArray) (fun lo w' z => RowsA kdRow 3 lo w' z.1 smpB.kinds) RF Try.call28 EvL.nil (fun w1 _ => (sample28 w1).mono (fun e w' ⟨a, c, he, hb, hr⟩ => ⟨(a, c), he, hb, hr⟩)) rfl (fun ls2 ws2 zs2 hs2 => ?_)
  refine sq_bs Try.underlying27 ei3 (EvI.cons RF (EvI.cons RF EvI.nil)) (by first | (simp [Value.cells]; done) | (simp [Value.cells]; rfl) | (simp [Value.cells]; and_intros <;> rfl)) rfl rfl rfl (fun b24 => ?_)
  refine qy (yc Try.call30 E0 (fun w1 _ => camera30 w1)) ?_
  refine qy (yc Try.call14 E3 (fun w1 hw1 => reads14x w1 smpB _ _ (hs2.at hw1 MM) _ _ [-1, 0] (lit_rowsA (row := iRow) (l := [-1, 0]) (fun _ => rfl) hw1 MM rfl (by decide)) cameraT nm_r2)) ?_
  refine qs (y_move RF) ?_
  refine qs (y_extract RF RF) ?_
  refine qs (y_extract RF RF) ?_
  refine sq_alloc Try.zeroValue24 rfl (fun b3 => ?_)
  refine sq_store_all Try.sizeOf24 RF RF rfl RM rfl rfl ?_
  refine qs (y_assign RF) ?_
  refine sq_nil ?_
  refine sx_then ?_
  refine sc_seq ?_
  refine sc_region ?_
  refine sq_call_new (first := []) (caps := []) (Z := Option Addr × Nat) (fun z => .agg (bxRow smpB z.1 z.2).toArray) (fun lo w' z => RowsA kdRow 3 lo w' z.1 smpB.kinds) RF Try.call28 EvL.nil (fun w1 _ => (sample28 w1).mono (fun e w' ⟨a, c, he, hb, hr⟩ => ⟨(a, c), he, hb, hr⟩)) rfl (fun ls3 ws3 zs3 hs3 => ?_)
  refine qy (yc Try.call30 E0 (fun w1 _ => camera30 w1)) ?_
  refine qs (y_build (cells := (rdRow ⟨cameraT, 98⟩).toArray) bt54 (EvP.cons RF (EvP.cons RF EvP.nil)) (by kernel_rfl)) ?_
  refine qy (yc Try.call29 E0 (fun w1 _ => fine29 w1)) ?_
  refine qs (y_build (cells := (rdRow ⟨fineT, 110600⟩).toArray) bt54 (EvP.cons RF (EvP.cons RF EvP.nil)) (by kernel_rfl)) ?_
  refine sq_bs Try.underlying30 ei54 (EvI.cons RF (EvI.cons RF EvI.nil)) (by first | (simp [Value.cells]; done) | (simp [Value.cells]; rfl) | (simp [Value.cells]; and_intros <;> rfl)) rfl rfl rfl (fun b35 => ?_)
  refine qy (yc Try.call16 E2 (fun w1 hw1 => judge16x w1 smpB _ _ (hs3.at hw1 MM) _ _ [⟨cameraT, 98⟩, ⟨fineT, 110600⟩] (lit_rowsA (row := rdRow) (l := [⟨cameraT, 98⟩, ⟨fineT, 110600⟩]) (fun _ => rfl) hw1 MM rfl (by decide)) nm_j1)) ?_
  refine qs (y_move RF) ?_
  refine qs (y_extract RF RF) ?_
  refine qs (y_extract RF RF) ?_
  refine qs (y_assign RF) ?_
  refine qs (y_assign RF) ?_
  refine sq_nil ?_
  refine sx_then ?_
  refine sc_seq ?_
  refine sc_region ?_
  refine sq_call_new (first := []) (caps := []) (Z := Option Addr × Nat) (fun z => .agg (bxRow smpB z.1 z.2).toArray) (fun lo w' z => RowsA kdRow 3 lo w' z.1 smpB.kinds) RF Try.call28 EvL.nil (fun w1 _ => (sample28 w1).mono (fun e w' ⟨a, c, he, hb, hr⟩ => ⟨(a, c), he, hb, hr⟩)) rfl (fun ls4 ws4 zs4 hs4 => ?_)
  refine qy (yc Try.call30 E0 (fun w1 _ => camera30 w1)) ?_
  refine qs (y_build (cells := (rdRow ⟨cameraT, 98⟩).toArray) bt54 (EvP.cons RF (EvP.cons RF EvP.nil)) (by kernel_rfl)) ?_
  refine qy (yc Try.call29 E0 (fun w1 _ => fine29 w1)) ?_
  refine qs (y_build (cells := (rdRow ⟨fineT, 109500⟩).toArray) bt54 (EvP.cons RF (EvP.cons RF EvP.nil)) (by kernel_rfl)) ?_
  refine sq_bs Try.underlying30 ei54 (EvI.cons RF (EvI.cons RF EvI.nil)) (by first | (simp [Value.cells]; done) | (simp [Value.cells]; rfl) | (simp [Value.cells]; and_intros <;> rfl)) rfl rfl rfl (fun b45 => ?_)
  refine qy (yc Try.call16 E2 (fun w1 hw1 => judge16x w1 smpB _ _ (hs4.at hw1 MM) _ _ [⟨cameraT, 98⟩, ⟨fineT, 109500⟩] (lit_rowsA (row := rdRow) (l := [⟨cameraT, 98⟩, ⟨fineT, 109500⟩]) (fun _ => rfl) hw1 MM rfl (by decide)) nm_j2)) ?_
  refine qs (y_move RF) ?_
  refine qs (y_extract RF RF) ?_
  refine qs (y_extract RF RF) ?_
  refine qs (y_assign RF) ?_
  refine qs (y_assign RF) ?_
  refine sq_nil ?_
  refine sx_then ?_
  refine sc_seq ?_
  refine sc_region ?_
  refine sq_call_new (first := []) (caps := []) (Z := Option Addr × Nat) (fun z => .agg (bxRow smpB z.1 z.2).toArray) (fun lo w' z => RowsA kdRow 3 lo w' z.1 smpB.kinds) RF Try.call28 EvL.nil (fun w1 _ => (sample28 w1).mono (fun e w' ⟨a, c, he, hb, hr⟩ => ⟨(a, c), he, hb, hr⟩)) rfl (fun ls5 ws5 zs5 hs5 => ?_)
  refine qy (yc Try.call30 E0 (fun w1 _ => camera30 w1)) ?_
  refine qs (y_build (cells := (rdRow ⟨cameraT, 100⟩).toArray) bt54 (EvP.cons RF (EvP.cons RF EvP.nil)) (by kernel_rfl)) ?_
  refine sq_bs Try.underlying30 ei54 (EvI.cons RF EvI.nil) (by first | (simp [Value.cells]; done) | (simp [Value.cells]; rfl) | (simp [Value.cells]; and_intros <;> rfl)) rfl rfl rfl (fun b53 => ?_)
  refine sq_call_new (first := []) (caps := []) (Z := Option Addr × Nat) (fun z => .tuple #[.slice z.1 2 z.2, .int .i64 0]) (fun lo w' z => RowsA spRow 2 lo w' z.1 [⟨-1, 1⟩, ⟨-1, 1⟩]) RF Try.call18 (EvL.cons RF (EvL.cons RF EvL.nil)) (fun w1 hw1 => left18q w1 _ _ (hs5.at hw1 MM) _ _ (lit_rowsA (row := rdRow) (l := [⟨cameraT, 100⟩]) (fun _ => rfl) hw1 MM rfl (by decide))) rfl (fun ll wl zl hl => ?_)
  refine qs (y_move RF) ?_
  refine qs (y_extract RF RF) ?_
  refine qs (y_extract RF RF) ?_
  refine qs (y_assign RF) ?_
  refine qs (y_assign RF) ?_
  refine sq_nil ?_
  refine sx_then ?_
  refine sc_seq ?_
  refine sc_region ?_
  refine sq_call_new (first := []) (caps := []) (Z := Option Addr × Nat) (fun z => .agg (bxRow smpB z.1 z.2).toArray) (fun lo w' z => RowsA kdRow 3 lo w' z.1 smpB.kinds) RF Try.call28 EvL.nil (fun w1 _ => (sample28 w1).mono (fun e w' ⟨a, c, he, hb, hr⟩ => ⟨(a, c), he, hb, hr⟩)) rfl (fun ls6 ws6 zs6 hs6 => ?_)
  refine qy (yc Try.call30 E0 (fun w1 _ => camera30 w1)) ?_
  refine sq_bs Try.underlying43 ei29 (EvI.cons RF EvI.nil) (by first | (simp [Value.cells]; done) | (simp [Value.cells]; rfl) | (simp [Value.cells]; and_intros <;> rfl)) rfl rfl rfl (fun b60 => ?_)
  refine sq_call_new (first := []) (caps := []) (Z := Option Addr × Nat) (fun z => .tuple #[.slice z.1 2 z.2, .int .i64 0]) (fun lo w' z => RowsA iRow 1 lo w' z.1 [-1, 0]) RF Try.call21 (EvL.cons RF (EvL.cons RF EvL.nil)) (fun w1 hw1 => slips21q w1 _ _ (hs6.at hw1 MM) _ _ (lit_rowsA (row := teRow) (l := [cameraT]) (fun _ => rfl) hw1 MM rfl (by decide))) rfl (fun lp wp zp hp => ?_)
  refine qs (y_move RF) ?_
  refine qs (y_extract RF RF) ?_
  refine qs (y_extract RF RF) ?_
  refine qs (y_assign RF) ?_
  refine qs (y_assign RF) ?_
  refine sq_nil ?_
  refine sx_then ?_
  refine sc_seq ?_
  refine sc_region ?_
  refine sq_call_new (first := []) (caps := []) (Z := Option Addr × Nat) (fun z => .agg (bxRow smpB z.1 z.2).toArray) (fun lo w' z => RowsA kdRow 3 lo w' z.1 smpB.kinds) RF Try.call28 EvL.nil (fun w1 _ => (sample28 w1).mono (fun e w' ⟨a, c, he, hb, hr⟩ => ⟨(a, c), he, hb, hr⟩)) rfl (fun ls7 ws7 zs7 hs7 => ?_)
  refine qy (yc Try.call29 E0 (fun w1 _ => fine29 w1)) ?_
  refine sq_bs Try.underlying43 ei29 (EvI.cons RF EvI.nil) (by first | (simp [Value.cells]; done) | (simp [Value.cells]; rfl) | (simp [Value.cells]; and_intros <;> rfl)) rfl rfl rfl (fun b67 => ?_)
  refine sq_call_new (first := []) (caps := []) (Z := Option Addr × Nat) (fun z => .tuple #[.slice z.1 0 z.2, .int .i64 4]) (fun lo w' z => True) RF Try.call21 (EvL.cons RF (EvL.cons RF EvL.nil)) (fun w1 hw1 => slips21r w1 _ _ (hs7.at hw1 MM) _ _ (lit_rowsA (row := teRow) (l := [fineT]) (fun _ => rfl) hw1 MM rfl (by decide))) rfl (fun lq wq zq _ => ?_)
  refine qs (y_move RF) ?_
  refine qs (y_extract RF RF) ?_
  refine qs (y_extract RF RF) ?_
  refine qs (y_assign RF) ?_
  refine qs (y_assign RF) ?_
  refine sq_nil ?_
  refine sx_then ?_
  refine sc_seq ?_
  refine sc_drawX ([.blk b1 (.cells (spRow ⟨110450, 110740⟩).toArray 24 (0, 0)), .blk b3 (.cells (spRow ⟨97, 99⟩).toArray 24 (0, 0)), .reg 0 w]) (by kernel_rfl) ?_
  refine xj_s 0 RF (by kernel_rfl) SR (y_move RF) rfl ?_
  refine xj_one 1 RF (by kernel_rfl) ?_
  refine sq_gt RF RF (y_call (first := []) (caps := []) RF Try.call13 EvL.nil (fun w1 _ => alive13 w1)) rfl ?_
  refine sq_nil ?_
  refine sx_xp SR ?_
  refine xj_s 2 RF (by kernel_rfl) SR (y_pick_t RF RF) rfl ?_
  refine xj_s 3 RF (by kernel_rfl) SR (y_move RF) rfl ?_
  refine xj_known (tt := 74) (b' := true) RF (by first | rfl | decide) ?_
  refine xj_gt 4 RF RF RF (by kernel_rfl) SR LD24 rfl ?_
  refine xj_one 5 RF (by kernel_rfl) ?_
  refine sq_gt RF RF (y_call (first := []) (caps := []) RF Try.call31 (EvL.cons RF (EvL.cons RF EvL.nil)) (fun w1 _ => span31 w1 _ _)) rfl ?_
  refine sq_nil ?_
  refine sx_xp SR ?_
  refine xj_gt 6 RF RF RF (by kernel_rfl) SR (y_eqls (by kernel_rfl) RF RF (eql24 _ _ _ _)) rfl ?_
  refine xj_s 7 RF (by kernel_rfl) SR (y_pick_t RF RF) rfl ?_
  refine xj_s 8 RF (by kernel_rfl) SR (y_move RF) rfl ?_
  refine xj_known (tt := 79) (b' := true) RF (by first | rfl | decide) ?_
  refine xj_gt 9 RF RF RF (by kernel_rfl) SR (y_move RF) rfl ?_
  refine xj_gt 10 RF RF RF (by kernel_rfl) SR (y_eql RF RF) rfl ?_
  refine xj_s 11 RF (by kernel_rfl) SR (y_pick_t RF RF) rfl ?_
  refine xj_s 12 RF (by kernel_rfl) SR (y_move RF) rfl ?_
  refine xj_known (tt := 83) (b' := true) RF (by first | rfl | decide) ?_
  refine xj_gt 13 RF RF RF (by kernel_rfl) SR LD24 rfl ?_
  refine xj_one 14 RF (by kernel_rfl) ?_
  refine sq_gt RF RF (y_call (first := []) (caps := []) RF Try.call31 (EvL.cons RF (EvL.cons RF EvL.nil)) (fun w1 _ => span31 w1 _ _)) rfl ?_
  refine sq_nil ?_
  refine sx_xp SR ?_
  refine xj_gt 15 RF RF RF (by kernel_rfl) SR (y_eqls (by kernel_rfl) RF RF (eql24 _ _ _ _)) rfl ?_
  refine xj_s 16 RF (by kernel_rfl) SR (y_pick_t RF RF) rfl ?_
  refine xj_s 17 RF (by kernel_rfl) SR (y_move RF) rfl ?_
  refine xj_known (tt := 88) (b' := true) RF (by first | rfl | decide) ?_
  refine xj_gt 18 RF RF RF (by kernel_rfl) SR (y_move RF) rfl ?_
  refine xj_gt 19 RF RF RF (by kernel_rfl) SR (y_eql RF RF) rfl ?_
  refine xj_s 20 RF (by kernel_rfl) SR (y_pick_t RF RF) rfl ?_
  refine xj_s 21 RF (by kernel_rfl) SR (y_move RF) rfl ?_
  refine xj_known (tt := 92) (b' := true) RF (by first | rfl | decide) ?_
  refine xj_gt 22 RF RF RF (by kernel_rfl) SR (y_move RF) rfl ?_
  refine xj_gt 23 RF RF RF (by kernel_rfl) SR (y_eql RF RF) rfl ?_
  refine xj_s 24 RF (by kernel_rfl) SR (y_pick_t RF RF) rfl ?_
  refine xj_s 25 RF (by kernel_rfl) SR (y_move RF) rfl ?_
  refine xj_known (tt := 96) (b' := true) RF (by first | rfl | decide) ?_
  refine xj_gt 26 RF RF RF (by kernel_rfl) SR (y_move RF) rfl ?_
  refine xj_gt 27 RF RF RF (by kernel_rfl) SR (y_eql RF RF) rfl ?_
  refine xj_s 28 RF (by kernel_rfl) SR (y_pick_t RF RF) rfl ?_
  refine xj_s 29 RF (by kernel_rfl) SR (y_move RF) rfl ?_
  refine xj_known (tt := 100) (b' := true) RF (by first | rfl | decide) ?_
  refine xj_gt 30 RF RF RF (by kernel_rfl) SR (y_move RF) rfl ?_
  refine xj_gt 31 RF RF RF (by kernel_rfl) SR (y_eql RF RF) rfl ?_
  refine xj_s 32 RF (by kernel_rfl) SR (y_pick_t RF RF) rfl ?_
  refine xj_s 33 RF (by kernel_rfl) SR (y_move RF) rfl ?_
  refine xj_known (tt := 104) (b' := true) RF (by first | rfl | decide) ?_
  refine xj_gt 34 RF RF RF (by kernel_rfl) SR (y_move RF) rfl ?_
  refine xj_gt 35 RF RF RF (by kernel_rfl) SR (y_eql RF RF) rfl ?_
  refine xj_s 36 RF (by kernel_rfl) SR (y_pick_t RF RF) rfl ?_
  refine xj_s 37 RF (by kernel_rfl) SR (y_move RF) rfl ?_
  refine xj_known (tt := 108) (b' := true) RF (by first | rfl | decide) ?_
  refine xj_gt 38 RF RF RF (by kernel_rfl) SR (y_move RF) rfl ?_
  refine xj_one 39 RF (by kernel_rfl) ?_
  refine sq_gt RF RF (y_call (first := []) (caps := []) RF Try.call31 (EvL.cons RF (EvL.cons RF EvL.nil)) (fun w1 _ => span31 w1 _ _)) rfl ?_
  refine sq_nil ?_
  refine sx_xp SR ?_
  refine xj_one 40 RF (by kernel_rfl) ?_
  refine sq_gt RF RF (y_call (first := []) (caps := []) RF Try.call31 (EvL.cons RF (EvL.cons RF EvL.nil)) (fun w1 _ => span31 w1 _ _)) rfl ?_
  refine sq_nil ?_
  refine sx_xp SR ?_
  refine xj_one 41 RF (by kernel_rfl) ?_
  refine sq_guard RF RF ?_
  refine sq_bs Try.underlying38 ei24 (EvI.cons RF (EvI.cons RF EvI.nil)) (by first | (simp [Value.cells]; done) | (simp [Value.cells]; rfl) | (simp [Value.cells]; and_intros <;> rfl)) rfl rfl rfl (fun b112 => ?_)
  refine sq_nil ?_
  refine sx_xp SR ?_
  refine xj_one 42 RF (by kernel_rfl) ?_
  refine sq_gt RF RF (y_call (first := []) (caps := []) RF Try.call20 (EvL.cons RF (EvL.cons RF EvL.nil)) (fun w1 hw1 => spans20 w1 zl.1 (some ⟨b112, 0, none⟩) zl.2 2 [⟨-1, 1⟩, ⟨-1, 1⟩] [⟨-1, 1⟩, ⟨-1, 1⟩] (hl.at hw1 MM) (lit_rowsA (row := spRow) (l := [⟨-1, 1⟩, ⟨-1, 1⟩]) (fun _ => rfl) hw1 MM rfl (by decide)))) rfl ?_
  refine sq_nil ?_
  refine sx_xp SR ?_
  refine xj_s 43 RF (by kernel_rfl) SR (y_pick_t RF RF) rfl ?_
  refine xj_s 44 RF (by kernel_rfl) SR (y_move RF) rfl ?_
  refine xj_known (tt := 115) (b' := true) RF (by first | rfl | decide) ?_
  refine xj_gt 45 RF RF RF (by kernel_rfl) SR (y_move RF) rfl ?_
  refine xj_gt 46 RF RF RF (by kernel_rfl) SR (y_eql RF RF) rfl ?_
  refine xj_s 47 RF (by kernel_rfl) SR (y_pick_t RF RF) rfl ?_
  refine xj_s 48 RF (by kernel_rfl) SR (y_move RF) rfl ?_
  refine xj_known (tt := 119) (b' := true) RF (by first | rfl | decide) ?_
  refine xj_gt 49 RF RF RF (by kernel_rfl) SR (y_move RF) rfl ?_
  refine xj_one 50 RF (by kernel_rfl) ?_
  refine sq_guard RF RF ?_
  refine sq_bs Try.underlying27 ei3 (EvI.cons RF (EvI.cons RF EvI.nil)) (by first | (simp [Value.cells]; done) | (simp [Value.cells]; rfl) | (simp [Value.cells]; and_intros <;> rfl)) rfl rfl rfl (fun b121 => ?_)
  refine sq_nil ?_
  refine sx_xp SR ?_
  refine xj_one 51 RF (by kernel_rfl) ?_
  refine sq_gt RF RF (y_call (first := []) (caps := []) RF Try.call27 (EvL.cons RF (EvL.cons RF EvL.nil)) (fun w1 hw1 => ints27 w1 zp.1 (some ⟨b121, 0, none⟩) zp.2 2 [-1, 0] [-1, 0] (hp.at hw1 MM) (lit_rowsA (row := iRow) (l := [-1, 0]) (fun _ => rfl) hw1 MM rfl (by decide)))) rfl ?_
  refine sq_nil ?_
  refine sx_xp SR ?_
  refine xj_s 52 RF (by kernel_rfl) SR (y_pick_t RF RF) rfl ?_
  refine xj_s 53 RF (by kernel_rfl) SR (y_move RF) rfl ?_
  refine xj_known (tt := 124) (b' := true) RF (by first | rfl | decide) ?_
  refine xj_gt 54 RF RF RF (by kernel_rfl) SR (y_move RF) rfl ?_
  refine xj_gt 55 RF RF RF (by kernel_rfl) SR (y_eql RF RF) rfl ?_
  refine xj_s 56 RF (by kernel_rfl) SR (y_pick_t RF RF) rfl ?_
  refine xj_s 57 RF (by kernel_rfl) SR (y_move RF) rfl ?_
  refine xj_known (tt := 128) (b' := true) RF (by first | rfl | decide) ?_
  refine xj_gt 58 RF RF RF (by kernel_rfl) SR (y_move RF) rfl ?_
  refine xj_gt 59 RF RF RF (by kernel_rfl) SR (y_eql RF RF) rfl ?_
  refine xj_s 60 RF (by kernel_rfl) SR (y_pick_t RF RF) rfl ?_
  refine xj_s 61 RF (by kernel_rfl) SR (y_assign RF) rfl ?_
  refine xj_done (by kernel_rfl) ?_
  refine sx_then ?_
  refine sc_ret ?_
  refine sx_ret1 (.inl rfl) rfl Try.results5 RF ?_
  intro w' hw'
  exact ⟨rfl, hw'.below MM⟩
end Go.Proofs.Ytofjipmheckmjaa
