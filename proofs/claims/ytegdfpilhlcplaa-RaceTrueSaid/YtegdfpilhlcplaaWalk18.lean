/- The walk of alive: the document's example. -/
import Derived.Test.YtegdfpilhlcplaaWalk17
namespace Go.Proofs.Ytegdfpilhlcplaa
open Go Go.Eng Go.RowKit Go.Proofs
set_option maxRecDepth 100000
def d64 : Wd := ⟨1, 64, ⟨50, 50⟩⟩
def d31 : Wd := ⟨0, 31, ⟨90, 90⟩⟩
theorem smpI1 : InI smpR.p := by unfold InI smpR; decide
theorem smpI2 : InI smpR.lim := by unfold InI smpR; decide
theorem smpI3 : InI smpR.rate := by unfold InI smpR; decide

theorem worked15s (w : World) (a : Option Addr) (f : Nat → Option Addr) (cf : Nat → Nat) (hT : TmsA 0 w a smpR.teams f cf) : Calls Try.prog 15 #[.agg (rcVal smpR a 3).toArray, .int .i64 1, .int .i64 25] w fun e w' => e = .returned (.tuple #[.int .i64 20, .int .i64 0]) ∧ Below w.heap.size w w' :=
  (worked15 w _ smpR 1 25 (hT.rc smpI1 smpI2 smpI3)).mono fun e w' ⟨he, hb⟩ => ⟨by rw [he, if_neg (by decide +kernel), if_pos (by decide +kernel)]; exact congrArg (fun n : Nat => Ending.returned (.tuple #[.int .i64 (n : Int), .int .i64 0])) smp_w, hb⟩
theorem count17s (w : World) (a : Option Addr) (f : Nat → Option Addr) (cf : Nat → Nat) (hT : TmsA 0 w a smpR.teams f cf) (al : Option Addr) (cl : Nat) (hl : WdsA 0 w al wrdL) : Calls Try.prog 17 #[.agg (rcVal smpR a 3).toArray, .slice al 4 cl, .int .i64 0, .int .i64 25] w fun e w' => e = .returned (.tuple #[.agg #[.int .i64 45, .int .i64 70], .int .i64 0]) ∧ Below w.heap.size w w' :=
  (count17 w smpR a 3 f cf al cl wrdL 0 25 hT hl smpI1 smpI2 smpI3).mono fun e w' ⟨he, hb⟩ => ⟨by rw [he]; unfold countAns spanAns; rw [if_pos (by decide +kernel)]; exact congrArg (fun x : Sp => Ending.returned (.tuple #[.agg (spRow x).toArray, .int .i64 0])) smp_c, hb⟩
theorem points19s (w : World) (a : Option Addr) (f : Nat → Option Addr) (cf : Nat → Nat) (hT : TmsA 0 w a smpR.teams f cf) (al : Option Addr) (cl : Nat) (hl : WdsA 0 w al wrdL) : Calls Try.prog 19 #[.agg (rcVal smpR a 3).toArray, .slice al 4 cl, .int .i64 0, .int .i64 40] w fun e w' => e = .returned (.tuple #[.agg #[.int .i64 70, .int .i64 106], .int .i64 0]) ∧ Below w.heap.size w w' :=
  (points19 w smpR a 3 f cf al cl wrdL 0 40 hT hl smpI1 smpI2 smpI3).mono fun e w' ⟨he, hb⟩ => ⟨by rw [he]; unfold pointsAns spanAns; rw [if_pos (by decide +kernel)]; exact congrArg (fun x : Sp => Ending.returned (.tuple #[.agg (spRow x).toArray, .int .i64 0])) smp_p, hb⟩
theorem smp_r : ranksL smpR wrdL 30 = [⟨1, 2⟩, ⟨1, 3⟩, ⟨1, 3⟩] := by decide +kernel
theorem smp_re : openE smpR wrdL (minB 30) = 0 := by decide +kernel
theorem ranks21s (w : World) (a : Option Addr) (f : Nat → Option Addr) (cf : Nat → Nat) (hT : TmsA 0 w a smpR.teams f cf) (al : Option Addr) (cl : Nat) (hl : WdsA 0 w al wrdL) : Calls Try.prog 21 #[.agg (rcVal smpR a 3).toArray, .slice al 4 cl, .int .i64 30] w fun e w' => ∃ z : Option Addr × Nat, e = .returned (.tuple #[.slice z.1 3 z.2, .int .i64 0]) ∧ Below w.heap.size w w' ∧ SpsA w.heap.size w' z.1 [⟨1, 2⟩, ⟨1, 3⟩, ⟨1, 3⟩] :=
  (ranks21 w smpR a 3 f cf al cl wrdL 30 hT hl smpI1 smpI2 smpI3).mono fun e w' ⟨z, he, hb, ho⟩ => by
    rw [smp_r] at ho
    obtain ⟨a', c', rfl, hS⟩ := own_sps ho (by decide)
    exact ⟨(a', c'), by rw [he, smp_re]; rfl, hb, hS⟩
theorem winners23s (w : World) (a : Option Addr) (f : Nat → Option Addr) (cf : Nat → Nat) (hT : TmsA 0 w a smpR.teams f cf) (al : Option Addr) (cl : Nat) (hl : WdsA 0 w al (wrdL ++ [d64])) : Calls Try.prog 23 #[.agg (rcVal smpR a 3).toArray, .slice al 5 cl] w fun e w' => e = .returned (.tuple #[.int .i64 (winS smpR (wrdL ++ [d64]) : Nat), .int .i64 5, .int .i64 0]) ∧ Below w.heap.size w w' :=
  (winners23 w smpR a 3 f cf al cl (wrdL ++ [d64]) hT hl smpI1 smpI2 smpI3).mono fun e w' ⟨he, hb⟩ => ⟨by rw [he]; unfold winAns; rw [if_pos (by decide +kernel), show winC smpR (wrdL ++ [d64]) = 5 by decide +kernel]; rfl, hb⟩
theorem clash25s (w : World) (a : Option Addr) (f : Nat → Option Addr) (cf : Nat → Nat) (hT : TmsA 0 w a smpR.teams f cf) (al : Option Addr) (cl : Nat) (hcl : 5 ≤ cl) (hl : WdsA 0 w al (wrdL ++ [d31])) : Calls Try.prog 25 #[.agg (rcVal smpR a 3).toArray, .slice al 5 cl] w fun e w' => e = .returned (.tuple #[.int .i64 4, .int .i64 0]) ∧ Below w.heap.size w w' :=
  (clash25 w smpR a 3 f cf al cl (wrdL ++ [d31]) hcl hT hl smpI1 smpI2 smpI3).mono fun e w' ⟨he, hb⟩ => ⟨by rw [he, show clashN smpR (wrdL ++ [d31]) = (4, 0) by decide +kernel], hb⟩
theorem alive14 (w : World) : Calls Try.prog 14 #[] w fun e w' => e = .returned (.bool true) ∧ Below w.heap.size w w' := by
  refine calls_of_SC (args := []) Try.func14 rfl Try.ntmps14 rfl ?_
  simp only [argL]
  refine sc_seq ?_
  refine sc_region ?_
  refine sq_y (OpY.s (y_assign (by exact rfl))) rfl ?_
  refine sq_nil ?_
  refine sx_then ?_
  refine sc_seq ?_
  refine sc_region ?_
  refine sq_call_new (first := []) (caps := []) (Z := Option Addr × (Nat → Option Addr) × (Nat → Nat)) (fun z => .agg (rcVal smpR z.1 3).toArray) (fun lo w' z => TmsA lo w' z.1 smpR.teams z.2.1 z.2.2) (by exact rfl) Try.call28 EvL.nil (fun w1 _ => sample28 w1) rfl (fun ls1 ws1 zs1 hs1 => ?_)
  refine sq_y (y_call (first := []) (caps := []) (by exact rfl) Try.call15 (EvL.cons (by exact rfl) (EvL.cons (by exact rfl) (EvL.cons (by exact rfl) EvL.nil))) (fun w1 hw1 => worked15s w1 _ _ _ (hs1.at hw1 (by repeat (first | exact .head _ | refine .tail _ ?_))))) rfl ?_
  refine sq_y (OpY.s (y_move (by exact rfl))) rfl ?_
  refine sq_y (OpY.s (y_extract (by exact rfl) (by exact rfl))) rfl ?_
  refine sq_y (OpY.s (y_extract (by exact rfl) (by exact rfl))) rfl ?_
  refine sq_y (OpY.s (y_assign (by exact rfl))) rfl ?_
  refine sq_y (OpY.s (y_assign (by exact rfl))) rfl ?_
  refine sq_nil ?_
  refine sx_then ?_
  refine sc_seq ?_
  refine sc_region ?_
  refine sq_call_new (first := []) (caps := []) (Z := Option Addr × (Nat → Option Addr) × (Nat → Nat)) (fun z => .agg (rcVal smpR z.1 3).toArray) (fun lo w' z => TmsA lo w' z.1 smpR.teams z.2.1 z.2.2) (by exact rfl) Try.call28 EvL.nil (fun w1 _ => sample28 w1) rfl (fun ls2 ws2 zs2 hs2 => ?_)
  refine sq_call_new (first := []) (caps := []) (Z := Option Addr) (fun z => .slice z 4 4) (fun lo w' z => WdsA lo w' z wrdL) (by exact rfl) Try.call29 (EvL.cons (by exact rfl) EvL.nil) (fun w1 _ => words29a w1) rfl (fun lw2 ww2 zw2 hw2 => ?_)
  refine sq_y (y_call (first := []) (caps := []) (by exact rfl) Try.call17 (EvL.cons (by exact rfl) (EvL.cons (by exact rfl) (EvL.cons (by exact rfl) (EvL.cons (by exact rfl) EvL.nil)))) (fun w1 hw1 => count17s w1 _ _ _ (hs2.at hw1 (by repeat (first | exact .head _ | refine .tail _ ?_))) _ _ (hw2.at hw1 (by repeat (first | exact .head _ | refine .tail _ ?_))))) rfl ?_
  refine sq_y (OpY.s (y_move (by exact rfl))) rfl ?_
  refine sq_y (OpY.s (y_extract (by exact rfl) (by exact rfl))) rfl ?_
  refine sq_y (OpY.s (y_extract (by exact rfl) (by exact rfl))) rfl ?_
  refine sq_alloc Try.zeroValue32 rfl (fun b3 => ?_)
  refine sq_store_all Try.sizeOf32 (by exact rfl) (by exact rfl) rfl (by repeat (first | exact Rem.here | apply Rem.there)) rfl rfl ?_
  refine sq_y (OpY.s (y_assign (by exact rfl))) rfl ?_
  refine sq_nil ?_
  refine sx_then ?_
  refine sc_seq ?_
  refine sc_region ?_
  refine sq_call_new (first := []) (caps := []) (Z := Option Addr × (Nat → Option Addr) × (Nat → Nat)) (fun z => .agg (rcVal smpR z.1 3).toArray) (fun lo w' z => TmsA lo w' z.1 smpR.teams z.2.1 z.2.2) (by exact rfl) Try.call28 EvL.nil (fun w1 _ => sample28 w1) rfl (fun ls3 ws3 zs3 hs3 => ?_)
  refine sq_call_new (first := []) (caps := []) (Z := Option Addr) (fun z => .slice z 4 4) (fun lo w' z => WdsA lo w' z wrdL) (by exact rfl) Try.call29 (EvL.cons (by exact rfl) EvL.nil) (fun w1 _ => words29a w1) rfl (fun lw3 ww3 zw3 hw3 => ?_)
  refine sq_y (y_call (first := []) (caps := []) (by exact rfl) Try.call19 (EvL.cons (by exact rfl) (EvL.cons (by exact rfl) (EvL.cons (by exact rfl) (EvL.cons (by exact rfl) EvL.nil)))) (fun w1 hw1 => points19s w1 _ _ _ (hs3.at hw1 (by repeat (first | exact .head _ | refine .tail _ ?_))) _ _ (hw3.at hw1 (by repeat (first | exact .head _ | refine .tail _ ?_))))) rfl ?_
  refine sq_y (OpY.s (y_move (by exact rfl))) rfl ?_
  refine sq_y (OpY.s (y_extract (by exact rfl) (by exact rfl))) rfl ?_
  refine sq_y (OpY.s (y_extract (by exact rfl) (by exact rfl))) rfl ?_
  refine sq_alloc Try.zeroValue32 rfl (fun b5 => ?_)
  refine sq_store_all Try.sizeOf32 (by exact rfl) (by exact rfl) rfl (by repeat (first | exact Rem.here | apply Rem.there)) rfl rfl ?_
  refine sq_y (OpY.s (y_assign (by exact rfl))) rfl ?_
  refine sq_nil ?_
  refine sx_then ?_
  refine sc_seq ?_
  refine sc_region ?_
  refine sq_call_new (first := []) (caps := []) (Z := Option Addr × (Nat → Option Addr) × (Nat → Nat)) (fun z => .agg (rcVal smpR z.1 3).toArray) (fun lo w' z => TmsA lo w' z.1 smpR.teams z.2.1 z.2.2) (by exact rfl) Try.call28 EvL.nil (fun w1 _ => sample28 w1) rfl (fun ls4 ws4 zs4 hs4 => ?_)
  refine sq_call_new (first := []) (caps := []) (Z := Option Addr) (fun z => .slice z 4 4) (fun lo w' z => WdsA lo w' z wrdL) (by exact rfl) Try.call29 (EvL.cons (by exact rfl) EvL.nil) (fun w1 _ => words29a w1) rfl (fun lw4 ww4 zw4 hw4 => ?_)
  refine sq_call_new (first := []) (caps := []) (Z := Option Addr × Nat) (fun z => .tuple #[.slice z.1 3 z.2, .int .i64 0]) (fun lo w' z => SpsA lo w' z.1 [⟨1, 2⟩, ⟨1, 3⟩, ⟨1, 3⟩]) (by exact rfl) Try.call21 (EvL.cons (by exact rfl) (EvL.cons (by exact rfl) (EvL.cons (by exact rfl) EvL.nil))) (fun w1 hw1 => ranks21s w1 _ _ _ (hs4.at hw1 (by repeat (first | exact .head _ | refine .tail _ ?_))) _ _ (hw4.at hw1 (by repeat (first | exact .head _ | refine .tail _ ?_)))) rfl (fun lr wr zr hr => ?_)
  refine sq_y (OpY.s (y_move (by exact rfl))) rfl ?_
  refine sq_y (OpY.s (y_extract (by exact rfl) (by exact rfl))) rfl ?_
  refine sq_y (OpY.s (y_extract (by exact rfl) (by exact rfl))) rfl ?_
  refine sq_y (OpY.s (y_assign (by exact rfl))) rfl ?_
  refine sq_y (OpY.s (y_assign (by exact rfl))) rfl ?_
  refine sq_nil ?_
  refine sx_then ?_
  refine sc_seq ?_
  refine sc_region ?_
  refine sq_call_new (first := []) (caps := []) (Z := Option Addr × (Nat → Option Addr) × (Nat → Nat)) (fun z => .agg (rcVal smpR z.1 3).toArray) (fun lo w' z => TmsA lo w' z.1 smpR.teams z.2.1 z.2.2) (by exact rfl) Try.call28 EvL.nil (fun w1 _ => sample28 w1) rfl (fun ls5 ws5 zs5 hs5 => ?_)
  refine sq_y (y_call (first := []) (caps := []) (by exact rfl) Try.call30 (EvL.cons (by exact rfl) (EvL.cons (by exact rfl) EvL.nil)) (fun w1 _ => span30 w1 _ _)) rfl ?_
  refine sq_y (OpY.s (y_build bt57 (EvP.cons (by exact rfl) (EvP.cons (by exact rfl) (EvP.cons (by exact rfl) EvP.nil))) (by exact rfl))) rfl ?_
  refine sq_bs Try.underlying25 ei57 (EvI.cons (by exact rfl) EvI.nil) (by first | (simp [Value.cells]; done) | (simp [Value.cells]; rfl)) rfl rfl rfl (fun b41 => ?_)
  refine sq_call_new (first := []) (caps := []) (Z := Option Addr × Nat) (fun z => .slice z.1 5 z.2) (fun lo w' z => 5 ≤ z.2 ∧ WdsA lo w' z.1 (wrdL ++ [d64])) (by exact rfl) Try.call29 (EvL.cons (by exact rfl) EvL.nil) (fun w1 hw1 => (words29b w1 ⟨b41, 0, none⟩ 1 d64 (CA.blk (vs := wdRow d64) hw1 (by repeat (first | exact .head _ | refine .tail _ ?_)))).mono (fun e w' ⟨z, he, h5, hb, hz⟩ => ⟨z, he, hb, h5, hz⟩)) rfl (fun lw5 ww5 zw5 hw5 => ?_)
  refine sq_y (y_call (first := []) (caps := []) (by exact rfl) Try.call23 (EvL.cons (by exact rfl) (EvL.cons (by exact rfl) EvL.nil)) (fun w1 hw1 => winners23s w1 _ _ _ (hs5.at hw1 (by repeat (first | exact .head _ | refine .tail _ ?_))) _ _ (hw5.2.at hw1 (by repeat (first | exact .head _ | refine .tail _ ?_))))) rfl ?_
  refine sq_y (OpY.s (y_move (by exact rfl))) rfl ?_
  refine sq_y (OpY.s (y_extract (by exact rfl) (by exact rfl))) rfl ?_
  refine sq_y (OpY.s (y_extract (by exact rfl) (by exact rfl))) rfl ?_
  refine sq_y (OpY.s (y_extract (by exact rfl) (by exact rfl))) rfl ?_
  refine sq_y (OpY.s (y_assign (by exact rfl))) rfl ?_
  refine sq_y (OpY.s (y_assign (by exact rfl))) rfl ?_
  refine sq_y (OpY.s (y_assign (by exact rfl))) rfl ?_
  refine sq_nil ?_
  refine sx_then ?_
  refine sc_seq ?_
  refine sc_region ?_
  refine sq_call_new (first := []) (caps := []) (Z := Option Addr × (Nat → Option Addr) × (Nat → Nat)) (fun z => .agg (rcVal smpR z.1 3).toArray) (fun lo w' z => TmsA lo w' z.1 smpR.teams z.2.1 z.2.2) (by exact rfl) Try.call28 EvL.nil (fun w1 _ => sample28 w1) rfl (fun ls6 ws6 zs6 hs6 => ?_)
  refine sq_y (y_call (first := []) (caps := []) (by exact rfl) Try.call30 (EvL.cons (by exact rfl) (EvL.cons (by exact rfl) EvL.nil)) (fun w1 _ => span30 w1 _ _)) rfl ?_
  refine sq_y (OpY.s (y_build bt57 (EvP.cons (by exact rfl) (EvP.cons (by exact rfl) (EvP.cons (by exact rfl) EvP.nil))) (by exact rfl))) rfl ?_
  refine sq_bs Try.underlying25 ei57 (EvI.cons (by exact rfl) EvI.nil) (by first | (simp [Value.cells]; done) | (simp [Value.cells]; rfl)) rfl rfl rfl (fun b51 => ?_)
  refine sq_call_new (first := []) (caps := []) (Z := Option Addr × Nat) (fun z => .slice z.1 5 z.2) (fun lo w' z => 5 ≤ z.2 ∧ WdsA lo w' z.1 (wrdL ++ [d31])) (by exact rfl) Try.call29 (EvL.cons (by exact rfl) EvL.nil) (fun w1 hw1 => (words29b w1 ⟨b51, 0, none⟩ 1 d31 (CA.blk (vs := wdRow d31) hw1 (by repeat (first | exact .head _ | refine .tail _ ?_)))).mono (fun e w' ⟨z, he, h5, hb, hz⟩ => ⟨z, he, hb, h5, hz⟩)) rfl (fun lw6 ww6 zw6 hw6 => ?_)
  refine sq_y (y_call (first := []) (caps := []) (by exact rfl) Try.call25 (EvL.cons (by exact rfl) (EvL.cons (by exact rfl) EvL.nil)) (fun w1 hw1 => clash25s w1 _ _ _ (hs6.at hw1 (by repeat (first | exact .head _ | refine .tail _ ?_))) _ _ hw6.1 (hw6.2.at hw1 (by repeat (first | exact .head _ | refine .tail _ ?_))))) rfl ?_
  refine sq_y (OpY.s (y_move (by exact rfl))) rfl ?_
  refine sq_y (OpY.s (y_extract (by exact rfl) (by exact rfl))) rfl ?_
  refine sq_y (OpY.s (y_extract (by exact rfl) (by exact rfl))) rfl ?_
  refine sq_y (OpY.s (y_assign (by exact rfl))) rfl ?_
  refine sq_y (OpY.s (y_assign (by exact rfl))) rfl ?_
  refine sq_nil ?_
  refine sx_then ?_
  refine sc_seq ?_
  refine sc_drawX ([.blk b3 (.cells [Value.int .i64 45, .int .i64 70].toArray 32 (0, 0)), .blk b5 (.cells [Value.int .i64 70, .int .i64 106].toArray 32 (0, 0)), .reg 0 w]) (by kernel_rfl) ?_
  refine xj_s 0 (by exact rfl) (by kernel_rfl) (by repeat (first | exact Sel.nil | refine Sel.cons (by repeat (first | exact Rem.here | apply Rem.there)) ?_)) (y_move (by exact rfl)) rfl ?_
  refine xj_s 1 (by exact rfl) (by kernel_rfl) (by repeat (first | exact Sel.nil | refine Sel.cons (by repeat (first | exact Rem.here | apply Rem.there)) ?_)) (y_eql (by exact rfl) (by exact rfl)) rfl ?_
  refine xj_s 2 (by exact rfl) (by kernel_rfl) (by repeat (first | exact Sel.nil | refine Sel.cons (by repeat (first | exact Rem.here | apply Rem.there)) ?_)) (y_move (by exact rfl)) rfl ?_
  refine xj_known (tt := 58) (b' := true) (by exact rfl) (by first | rfl | decide) ?_
  refine xj_gt 3 (by exact rfl) (by exact rfl) (by exact rfl) (by kernel_rfl) (by repeat (first | exact Sel.nil | refine Sel.cons (by repeat (first | exact Rem.here | apply Rem.there)) ?_)) (y_move (by exact rfl)) rfl ?_
  refine xj_gt 4 (by exact rfl) (by exact rfl) (by exact rfl) (by kernel_rfl) (by repeat (first | exact Sel.nil | refine Sel.cons (by repeat (first | exact Rem.here | apply Rem.there)) ?_)) (y_eql (by exact rfl) (by exact rfl)) rfl ?_
  refine xj_s 5 (by exact rfl) (by kernel_rfl) (by repeat (first | exact Sel.nil | refine Sel.cons (by repeat (first | exact Rem.here | apply Rem.there)) ?_)) (y_pick_t (by exact rfl) (by exact rfl)) rfl ?_
  refine xj_s 6 (by exact rfl) (by kernel_rfl) (by repeat (first | exact Sel.nil | refine Sel.cons (by repeat (first | exact Rem.here | apply Rem.there)) ?_)) (y_move (by exact rfl)) rfl ?_
  refine xj_known (tt := 62) (b' := true) (by exact rfl) (by first | rfl | decide) ?_
  refine xj_gt 7 (by exact rfl) (by exact rfl) (by exact rfl) (by kernel_rfl) (by repeat (first | exact Sel.nil | refine Sel.cons (by repeat (first | exact Rem.here | apply Rem.there)) ?_)) (by first | exact y_load_all Try.underlying32 rfl Try.sizeOf32 (by exact rfl) (by repeat (first | exact .head _ | refine .tail _ ?_)) (by exact rfl) | exact y_load_2 Try.underlying32 rfl Try.sizeOf32 (by exact rfl) (by repeat (first | exact .head _ | refine .tail _ ?_)) (by exact rfl) (by exact rfl) | exact y_load_ca Try.underlying32 rfl Try.sizeOf32 (by exact rfl) (by repeat (first | exact .head _ | refine .tail _ ?_)) (by assumption) (by exact rfl)) rfl ?_
  refine xj_one 8 (by exact rfl) (by kernel_rfl) ?_
  refine sq_gt (by exact rfl) (by exact rfl) (y_call (first := []) (caps := []) (by exact rfl) Try.call30 (EvL.cons (by exact rfl) (EvL.cons (by exact rfl) EvL.nil)) (fun w1 _ => span30 w1 _ _)) rfl ?_
  refine sq_nil ?_
  refine sx_xp (by repeat (first | exact Sel.nil | refine Sel.cons (by repeat (first | exact Rem.here | apply Rem.there)) ?_)) ?_
  refine xj_gt 9 (by exact rfl) (by exact rfl) (by exact rfl) (by kernel_rfl) (by repeat (first | exact Sel.nil | refine Sel.cons (by repeat (first | exact Rem.here | apply Rem.there)) ?_)) (y_eqls (by kernel_rfl) (by exact rfl) (by exact rfl) (eql32 _ _ _ _)) rfl ?_
  refine xj_s 10 (by exact rfl) (by kernel_rfl) (by repeat (first | exact Sel.nil | refine Sel.cons (by repeat (first | exact Rem.here | apply Rem.there)) ?_)) (y_pick_t (by exact rfl) (by exact rfl)) rfl ?_
  refine xj_s 11 (by exact rfl) (by kernel_rfl) (by repeat (first | exact Sel.nil | refine Sel.cons (by repeat (first | exact Rem.here | apply Rem.there)) ?_)) (y_move (by exact rfl)) rfl ?_
  refine xj_known (tt := 67) (b' := true) (by exact rfl) (by first | rfl | decide) ?_
  refine xj_gt 12 (by exact rfl) (by exact rfl) (by exact rfl) (by kernel_rfl) (by repeat (first | exact Sel.nil | refine Sel.cons (by repeat (first | exact Rem.here | apply Rem.there)) ?_)) (y_move (by exact rfl)) rfl ?_
  refine xj_gt 13 (by exact rfl) (by exact rfl) (by exact rfl) (by kernel_rfl) (by repeat (first | exact Sel.nil | refine Sel.cons (by repeat (first | exact Rem.here | apply Rem.there)) ?_)) (y_eql (by exact rfl) (by exact rfl)) rfl ?_
  refine xj_s 14 (by exact rfl) (by kernel_rfl) (by repeat (first | exact Sel.nil | refine Sel.cons (by repeat (first | exact Rem.here | apply Rem.there)) ?_)) (y_pick_t (by exact rfl) (by exact rfl)) rfl ?_
  refine xj_s 15 (by exact rfl) (by kernel_rfl) (by repeat (first | exact Sel.nil | refine Sel.cons (by repeat (first | exact Rem.here | apply Rem.there)) ?_)) (y_move (by exact rfl)) rfl ?_
  refine xj_known (tt := 71) (b' := true) (by exact rfl) (by first | rfl | decide) ?_
  refine xj_gt 16 (by exact rfl) (by exact rfl) (by exact rfl) (by kernel_rfl) (by repeat (first | exact Sel.nil | refine Sel.cons (by repeat (first | exact Rem.here | apply Rem.there)) ?_)) (by first | exact y_load_all Try.underlying32 rfl Try.sizeOf32 (by exact rfl) (by repeat (first | exact .head _ | refine .tail _ ?_)) (by exact rfl) | exact y_load_2 Try.underlying32 rfl Try.sizeOf32 (by exact rfl) (by repeat (first | exact .head _ | refine .tail _ ?_)) (by exact rfl) (by exact rfl) | exact y_load_ca Try.underlying32 rfl Try.sizeOf32 (by exact rfl) (by repeat (first | exact .head _ | refine .tail _ ?_)) (by assumption) (by exact rfl)) rfl ?_
  refine xj_one 17 (by exact rfl) (by kernel_rfl) ?_
  refine sq_gt (by exact rfl) (by exact rfl) (y_call (first := []) (caps := []) (by exact rfl) Try.call30 (EvL.cons (by exact rfl) (EvL.cons (by exact rfl) EvL.nil)) (fun w1 _ => span30 w1 _ _)) rfl ?_
  refine sq_nil ?_
  refine sx_xp (by repeat (first | exact Sel.nil | refine Sel.cons (by repeat (first | exact Rem.here | apply Rem.there)) ?_)) ?_
  refine xj_gt 18 (by exact rfl) (by exact rfl) (by exact rfl) (by kernel_rfl) (by repeat (first | exact Sel.nil | refine Sel.cons (by repeat (first | exact Rem.here | apply Rem.there)) ?_)) (y_eqls (by kernel_rfl) (by exact rfl) (by exact rfl) (eql32 _ _ _ _)) rfl ?_
  refine xj_s 19 (by exact rfl) (by kernel_rfl) (by repeat (first | exact Sel.nil | refine Sel.cons (by repeat (first | exact Rem.here | apply Rem.there)) ?_)) (y_pick_t (by exact rfl) (by exact rfl)) rfl ?_
  refine xj_s 20 (by exact rfl) (by kernel_rfl) (by repeat (first | exact Sel.nil | refine Sel.cons (by repeat (first | exact Rem.here | apply Rem.there)) ?_)) (y_move (by exact rfl)) rfl ?_
  refine xj_known (tt := 76) (b' := true) (by exact rfl) (by first | rfl | decide) ?_
  refine xj_gt 21 (by exact rfl) (by exact rfl) (by exact rfl) (by kernel_rfl) (by repeat (first | exact Sel.nil | refine Sel.cons (by repeat (first | exact Rem.here | apply Rem.there)) ?_)) (y_move (by exact rfl)) rfl ?_
  refine xj_gt 22 (by exact rfl) (by exact rfl) (by exact rfl) (by kernel_rfl) (by repeat (first | exact Sel.nil | refine Sel.cons (by repeat (first | exact Rem.here | apply Rem.there)) ?_)) (y_eql (by exact rfl) (by exact rfl)) rfl ?_
  refine xj_s 23 (by exact rfl) (by kernel_rfl) (by repeat (first | exact Sel.nil | refine Sel.cons (by repeat (first | exact Rem.here | apply Rem.there)) ?_)) (y_pick_t (by exact rfl) (by exact rfl)) rfl ?_
  refine xj_s 24 (by exact rfl) (by kernel_rfl) (by repeat (first | exact Sel.nil | refine Sel.cons (by repeat (first | exact Rem.here | apply Rem.there)) ?_)) (y_move (by exact rfl)) rfl ?_
  refine xj_known (tt := 80) (b' := true) (by exact rfl) (by first | rfl | decide) ?_
  refine xj_gt 25 (by exact rfl) (by exact rfl) (by exact rfl) (by kernel_rfl) (by repeat (first | exact Sel.nil | refine Sel.cons (by repeat (first | exact Rem.here | apply Rem.there)) ?_)) (y_move (by exact rfl)) rfl ?_
  refine xj_one 26 (by exact rfl) (by kernel_rfl) ?_
  refine sq_gt (by exact rfl) (by exact rfl) (y_call (first := []) (caps := []) (by exact rfl) Try.call30 (EvL.cons (by exact rfl) (EvL.cons (by exact rfl) EvL.nil)) (fun w1 _ => span30 w1 _ _)) rfl ?_
  refine sq_nil ?_
  refine sx_xp (by repeat (first | exact Sel.nil | refine Sel.cons (by repeat (first | exact Rem.here | apply Rem.there)) ?_)) ?_
  refine xj_one 27 (by exact rfl) (by kernel_rfl) ?_
  refine sq_gt (by exact rfl) (by exact rfl) (y_call (first := []) (caps := []) (by exact rfl) Try.call30 (EvL.cons (by exact rfl) (EvL.cons (by exact rfl) EvL.nil)) (fun w1 _ => span30 w1 _ _)) rfl ?_
  refine sq_nil ?_
  refine sx_xp (by repeat (first | exact Sel.nil | refine Sel.cons (by repeat (first | exact Rem.here | apply Rem.there)) ?_)) ?_
  refine xj_one 28 (by exact rfl) (by kernel_rfl) ?_
  refine sq_gt (by exact rfl) (by exact rfl) (y_call (first := []) (caps := []) (by exact rfl) Try.call30 (EvL.cons (by exact rfl) (EvL.cons (by exact rfl) EvL.nil)) (fun w1 _ => span30 w1 _ _)) rfl ?_
  refine sq_nil ?_
  refine sx_xp (by repeat (first | exact Sel.nil | refine Sel.cons (by repeat (first | exact Rem.here | apply Rem.there)) ?_)) ?_
  refine xj_one 29 (by exact rfl) (by kernel_rfl) ?_
  refine sq_guard (by exact rfl) (by exact rfl) ?_
  refine sq_bs Try.underlying36 ei32 (EvI.cons (by exact rfl) (EvI.cons (by exact rfl) (EvI.cons (by exact rfl) EvI.nil))) (by first | (simp [Value.cells]; done) | (simp [Value.cells]; rfl)) rfl rfl rfl (fun b85 => ?_)
  refine sq_nil ?_
  refine sx_xp (by repeat (first | exact Sel.nil | refine Sel.cons (by repeat (first | exact Rem.here | apply Rem.there)) ?_)) ?_
  refine xj_one 30 (by exact rfl) (by kernel_rfl) ?_
  refine sq_gt (by exact rfl) (by exact rfl) (y_call (first := []) (caps := []) (by exact rfl) Try.call27 (EvL.cons (by exact rfl) (EvL.cons (by exact rfl) EvL.nil)) (fun w1 hw1 => spans27 w1 zr.1 (some ⟨b85, 0, none⟩) zr.2 3 [⟨1, 2⟩, ⟨1, 3⟩, ⟨1, 3⟩] [⟨1, 2⟩, ⟨1, 3⟩, ⟨1, 3⟩] (hr.at hw1 (by repeat (first | exact .head _ | refine .tail _ ?_))) ⟨ca_rows spRow_len (CA.blk (vs := [(⟨1, 2⟩ : Sp), ⟨1, 3⟩, ⟨1, 3⟩].flatMap spRow) hw1 (by repeat (first | exact .head _ | refine .tail _ ?_))), by decide⟩)) rfl ?_
  refine sq_nil ?_
  refine sx_xp (by repeat (first | exact Sel.nil | refine Sel.cons (by repeat (first | exact Rem.here | apply Rem.there)) ?_)) ?_
  refine xj_s 31 (by exact rfl) (by kernel_rfl) (by repeat (first | exact Sel.nil | refine Sel.cons (by repeat (first | exact Rem.here | apply Rem.there)) ?_)) (y_pick_t (by exact rfl) (by exact rfl)) rfl ?_
  refine xj_s 32 (by exact rfl) (by kernel_rfl) (by repeat (first | exact Sel.nil | refine Sel.cons (by repeat (first | exact Rem.here | apply Rem.there)) ?_)) (y_move (by exact rfl)) rfl ?_
  refine xj_known (tt := 88) (b' := true) (by exact rfl) (by first | rfl | decide) ?_
  refine xj_gt 33 (by exact rfl) (by exact rfl) (by exact rfl) (by kernel_rfl) (by repeat (first | exact Sel.nil | refine Sel.cons (by repeat (first | exact Rem.here | apply Rem.there)) ?_)) (y_move (by exact rfl)) rfl ?_
  refine xj_gt 34 (by exact rfl) (by exact rfl) (by exact rfl) (by kernel_rfl) (by repeat (first | exact Sel.nil | refine Sel.cons (by repeat (first | exact Rem.here | apply Rem.there)) ?_)) (y_eql (by exact rfl) (by exact rfl)) rfl ?_
  refine xj_s 35 (by exact rfl) (by kernel_rfl) (by repeat (first | exact Sel.nil | refine Sel.cons (by repeat (first | exact Rem.here | apply Rem.there)) ?_)) (y_pick_t (by exact rfl) (by exact rfl)) rfl ?_
  refine xj_s 36 (by exact rfl) (by kernel_rfl) (by repeat (first | exact Sel.nil | refine Sel.cons (by repeat (first | exact Rem.here | apply Rem.there)) ?_)) (y_move (by exact rfl)) rfl ?_
  refine xj_known (tt := 92) (b' := true) (by exact rfl) (by first | rfl | decide) ?_
  refine xj_gt 37 (by exact rfl) (by exact rfl) (by exact rfl) (by kernel_rfl) (by repeat (first | exact Sel.nil | refine Sel.cons (by repeat (first | exact Rem.here | apply Rem.there)) ?_)) (y_move (by exact rfl)) rfl ?_
  refine xj_gt 38 (by exact rfl) (by exact rfl) (by exact rfl) (by kernel_rfl) (by repeat (first | exact Sel.nil | refine Sel.cons (by repeat (first | exact Rem.here | apply Rem.there)) ?_)) (y_eql (by exact rfl) (by exact rfl)) rfl ?_
  refine xj_s 39 (by exact rfl) (by kernel_rfl) (by repeat (first | exact Sel.nil | refine Sel.cons (by repeat (first | exact Rem.here | apply Rem.there)) ?_)) (y_pick_t (by exact rfl) (by exact rfl)) rfl ?_
  refine xj_s 40 (by exact rfl) (by kernel_rfl) (by repeat (first | exact Sel.nil | refine Sel.cons (by repeat (first | exact Rem.here | apply Rem.there)) ?_)) (y_move (by exact rfl)) rfl ?_
  refine xj_known (tt := 96) (b' := true) (by exact rfl) (by first | rfl | decide) ?_
  refine xj_gt 41 (by exact rfl) (by exact rfl) (by exact rfl) (by kernel_rfl) (by repeat (first | exact Sel.nil | refine Sel.cons (by repeat (first | exact Rem.here | apply Rem.there)) ?_)) (y_move (by exact rfl)) rfl ?_
  refine xj_gt 42 (by exact rfl) (by exact rfl) (by exact rfl) (by kernel_rfl) (by repeat (first | exact Sel.nil | refine Sel.cons (by repeat (first | exact Rem.here | apply Rem.there)) ?_)) (y_eql (by exact rfl) (by exact rfl)) rfl ?_
  refine xj_s 43 (by exact rfl) (by kernel_rfl) (by repeat (first | exact Sel.nil | refine Sel.cons (by repeat (first | exact Rem.here | apply Rem.there)) ?_)) (y_pick_t (by exact rfl) (by exact rfl)) rfl ?_
  refine xj_s 44 (by exact rfl) (by kernel_rfl) (by repeat (first | exact Sel.nil | refine Sel.cons (by repeat (first | exact Rem.here | apply Rem.there)) ?_)) (y_move (by exact rfl)) rfl ?_
  refine xj_known (tt := 100) (b' := true) (by exact rfl) (by first | rfl | decide) ?_
  refine xj_gt 45 (by exact rfl) (by exact rfl) (by exact rfl) (by kernel_rfl) (by repeat (first | exact Sel.nil | refine Sel.cons (by repeat (first | exact Rem.here | apply Rem.there)) ?_)) (y_move (by exact rfl)) rfl ?_
  refine xj_gt 46 (by exact rfl) (by exact rfl) (by exact rfl) (by kernel_rfl) (by repeat (first | exact Sel.nil | refine Sel.cons (by repeat (first | exact Rem.here | apply Rem.there)) ?_)) (y_eql (by exact rfl) (by exact rfl)) rfl ?_
  refine xj_s 47 (by exact rfl) (by kernel_rfl) (by repeat (first | exact Sel.nil | refine Sel.cons (by repeat (first | exact Rem.here | apply Rem.there)) ?_)) (y_pick_t (by exact rfl) (by exact rfl)) rfl ?_
  refine xj_s 48 (by exact rfl) (by kernel_rfl) (by repeat (first | exact Sel.nil | refine Sel.cons (by repeat (first | exact Rem.here | apply Rem.there)) ?_)) (y_move (by exact rfl)) rfl ?_
  refine xj_known (tt := 104) (b' := true) (by exact rfl) (by first | rfl | decide) ?_
  refine xj_gt 49 (by exact rfl) (by exact rfl) (by exact rfl) (by kernel_rfl) (by repeat (first | exact Sel.nil | refine Sel.cons (by repeat (first | exact Rem.here | apply Rem.there)) ?_)) (y_move (by exact rfl)) rfl ?_
  refine xj_gt 50 (by exact rfl) (by exact rfl) (by exact rfl) (by kernel_rfl) (by repeat (first | exact Sel.nil | refine Sel.cons (by repeat (first | exact Rem.here | apply Rem.there)) ?_)) (y_eql (by exact rfl) (by exact rfl)) rfl ?_
  refine xj_s 51 (by exact rfl) (by kernel_rfl) (by repeat (first | exact Sel.nil | refine Sel.cons (by repeat (first | exact Rem.here | apply Rem.there)) ?_)) (y_pick_t (by exact rfl) (by exact rfl)) rfl ?_
  refine xj_s 52 (by exact rfl) (by kernel_rfl) (by repeat (first | exact Sel.nil | refine Sel.cons (by repeat (first | exact Rem.here | apply Rem.there)) ?_)) (y_assign (by exact rfl)) rfl ?_
  refine xj_done (by kernel_rfl) ?_
  refine sx_then ?_
  refine sc_ret ?_
  refine sx_ret1 (.inl rfl) rfl Try.results14 (by exact rfl) ?_
  intro w' hw'
  exact ⟨rfl, hw'.below (by repeat (first | exact .head _ | refine .tail _ ?_))⟩
end Go.Proofs.Ytegdfpilhlcplaa
