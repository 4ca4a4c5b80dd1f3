/- The walk of RaceNames. -/
import Derived.Test.YtegdfpilhlcplaaWalk18
namespace Go.Proofs.Ytegdfpilhlcplaa
open Go Go.Eng Go.RowKit Go.Proofs
set_option maxRecDepth 100000

theorem worked15n (w : World) (a : Option Addr) (f : Nat → Option Addr) (cf : Nat → Nat) (hT : TmsA 0 w a smpR.teams f cf) : Calls Try.prog 15 #[.agg (rcVal smpR a 3).toArray, .int .i64 1, .int .i64 100] w fun e w' => e = .returned (.tuple #[.int .i64 60, .int .i64 0]) ∧ Below w.heap.size w w' :=
  (worked15 w _ smpR 1 100 (hT.rc smpI1 smpI2 smpI3)).mono fun e w' ⟨he, hb⟩ => ⟨by rw [he, if_neg (by decide +kernel), if_pos (by decide +kernel)]; exact congrArg (fun n : Nat => Ending.returned (.tuple #[.int .i64 (n : Int), .int .i64 0])) (show wrk smpR 1 100 = 60 by decide +kernel), hb⟩
theorem nma (w : World) (a : Option Addr) (f : Nat → Option Addr) (cf : Nat → Nat) (hT : TmsA 0 w a smpR.teams f cf) (al : Option Addr) (cl : Nat) (hl : WdsA 0 w al wrdL) : Calls Try.prog 17 #[.agg (rcVal smpR a 3).toArray, .slice al 4 cl, .int .i64 0, .int .i64 40] w fun e w' => e = .returned (.tuple #[.agg #[.int .i64 70, .int .i64 100], .int .i64 0]) ∧ Below w.heap.size w w' :=
  (count17 w smpR a 3 f cf al cl wrdL 0 40 hT hl smpI1 smpI2 smpI3).mono fun e w' ⟨he, hb⟩ => ⟨by rw [he]; unfold countAns spanAns; rw [if_pos (by decide +kernel)]; exact congrArg (fun x : Sp => Ending.returned (.tuple #[.agg (spRow x).toArray, .int .i64 0])) (show cntP smpR wrdL 0 (wrk smpR 0 40) = ⟨70, 100⟩ by decide +kernel), hb⟩
theorem nmb (w : World) (a : Option Addr) (f : Nat → Option Addr) (cf : Nat → Nat) (hT : TmsA 0 w a smpR.teams f cf) (al : Option Addr) (cl : Nat) (hl : WdsA 0 w al wrdL) : Calls Try.prog 17 #[.agg (rcVal smpR a 3).toArray, .slice al 4 cl, .int .i64 1, .int .i64 30] w fun e w' => e = .returned (.tuple #[.agg #[.int .i64 50, .int .i64 75], .int .i64 0]) ∧ Below w.heap.size w w' :=
  (count17 w smpR a 3 f cf al cl wrdL 1 30 hT hl smpI1 smpI2 smpI3).mono fun e w' ⟨he, hb⟩ => ⟨by rw [he]; unfold countAns spanAns; rw [if_pos (by decide +kernel)]; exact congrArg (fun x : Sp => Ending.returned (.tuple #[.agg (spRow x).toArray, .int .i64 0])) (show cntP smpR wrdL 1 (wrk smpR 1 30) = ⟨50, 75⟩ by decide +kernel), hb⟩
theorem nmx (w : World) (a : Option Addr) (f : Nat → Option Addr) (cf : Nat → Nat) (hT : TmsA 0 w a smpR.teams f cf) (al : Option Addr) (cl : Nat) (hl : WdsA 0 w al wrdL) : Calls Try.prog 19 #[.agg (rcVal smpR a 3).toArray, .slice al 4 cl, .int .i64 0, .int .i64 30] w fun e w' => e = .returned (.tuple #[.agg #[.int .i64 70, .int .i64 80], .int .i64 0]) ∧ Below w.heap.size w w' :=
  (points19 w smpR a 3 f cf al cl wrdL 0 30 hT hl smpI1 smpI2 smpI3).mono fun e w' ⟨he, hb⟩ => ⟨by rw [he]; unfold pointsAns spanAns; rw [if_pos (by decide +kernel)]; exact congrArg (fun x : Sp => Ending.returned (.tuple #[.agg (spRow x).toArray, .int .i64 0])) (show ptsP smpR wrdL 0 (wrk smpR 0 30) = ⟨70, 80⟩ by decide +kernel), hb⟩
theorem nmy (w : World) (a : Option Addr) (f : Nat → Option Addr) (cf : Nat → Nat) (hT : TmsA 0 w a smpR.teams f cf) (al : Option Addr) (cl : Nat) (hl : WdsA 0 w al wrdL) : Calls Try.prog 19 #[.agg (rcVal smpR a 3).toArray, .slice al 4 cl, .int .i64 1, .int .i64 30] w fun e w' => e = .returned (.tuple #[.agg #[.int .i64 47, .int .i64 72], .int .i64 0]) ∧ Below w.heap.size w w' :=
  (points19 w smpR a 3 f cf al cl wrdL 1 30 hT hl smpI1 smpI2 smpI3).mono fun e w' ⟨he, hb⟩ => ⟨by rw [he]; unfold pointsAns spanAns; rw [if_pos (by decide +kernel)]; exact congrArg (fun x : Sp => Ending.returned (.tuple #[.agg (spRow x).toArray, .int .i64 0])) (show ptsP smpR wrdL 1 (wrk smpR 1 30) = ⟨47, 72⟩ by decide +kernel), hb⟩
theorem nmz (w : World) (a : Option Addr) (f : Nat → Option Addr) (cf : Nat → Nat) (hT : TmsA 0 w a smpR.teams f cf) (al : Option Addr) (cl : Nat) (hl : WdsA 0 w al wrdL) : Calls Try.prog 19 #[.agg (rcVal smpR a 3).toArray, .slice al 4 cl, .int .i64 2, .int .i64 30] w fun e w' => e = .returned (.tuple #[.agg #[.int .i64 60, .int .i64 70], .int .i64 0]) ∧ Below w.heap.size w w' :=
  (points19 w smpR a 3 f cf al cl wrdL 2 30 hT hl smpI1 smpI2 smpI3).mono fun e w' ⟨he, hb⟩ => ⟨by rw [he]; unfold pointsAns spanAns; rw [if_pos (by decide +kernel)]; exact congrArg (fun x : Sp => Ending.returned (.tuple #[.agg (spRow x).toArray, .int .i64 0])) (show ptsP smpR wrdL 2 (wrk smpR 2 30) = ⟨60, 70⟩ by decide +kernel), hb⟩
theorem winners23n (w : World) (a : Option Addr) (f : Nat → Option Addr) (cf : Nat → Nat) (hT : TmsA 0 w a smpR.teams f cf) (al : Option Addr) (cl : Nat) (hl : WdsA 0 w al wrdL) : Calls Try.prog 23 #[.agg (rcVal smpR a 3).toArray, .slice al 4 cl] w fun e w' => e = .returned (.tuple #[.int .i64 0, .int .i64 7, .int .i64 0]) ∧ Below w.heap.size w w' :=
  (winners23 w smpR a 3 f cf al cl wrdL hT hl smpI1 smpI2 smpI3).mono fun e w' ⟨he, hb⟩ => ⟨by rw [he]; unfold winAns; rw [if_pos (by decide +kernel), show winC smpR wrdL = 7 by decide +kernel, show winS smpR wrdL = 0 by decide +kernel]; rfl, hb⟩
theorem clash25n (w : World) (a : Option Addr) (f : Nat → Option Addr) (cf : Nat → Nat) (hT : TmsA 0 w a smpR.teams f cf) (al : Option Addr) (cl : Nat) (hcl : 4 ≤ cl) (hl : WdsA 0 w al wrdL) : Calls Try.prog 25 #[.agg (rcVal smpR a 3).toArray, .slice al 4 cl] w fun e w' => e = .returned (.tuple #[.int .i64 0, .int .i64 4]) ∧ Below w.heap.size w w' :=
  (clash25 w smpR a 3 f cf al cl wrdL hcl hT hl smpI1 smpI2 smpI3).mono fun e w' ⟨he, hb⟩ => ⟨by rw [he, show clashN smpR wrdL = (0, 4) by decide +kernel], hb⟩
theorem names5 (w : World) : Calls Try.prog 5 #[] w fun e w' => e = .returned (.bool true) ∧ Below w.heap.size w w' := by
  refine calls_of_SC (args := []) Try.func5 rfl Try.ntmps5 rfl ?_
  simp only [argL]
  refine sc_seq ?_
  refine sc_region ?_
  refine sq_y (OpY.s (y_assign (by exact rfl))) rfl ?_
  refine sq_nil ?_
  refine sx_then ?_
  refine sc_seq ?_
  refine sc_region ?_
  refine sq_call_new (first := []) (caps := []) (Z := Option Addr × (Nat → Option Addr) × (Nat → Nat)) (fun z => .agg (rcVal smpR z.1 3).toArray) (fun lo w' z => TmsA lo w' z.1 smpR.teams z.2.1 z.2.2) (by exact rfl) Try.call28 EvL.nil (fun w1 _ => sample28 w1) rfl (fun ls1 ws1 zs1 hs1 => ?_)
  refine sq_y (y_call (first := []) (caps := []) (by exact rfl) Try.call15 (EvL.cons (by exact rfl) (EvL.cons (by exact rfl) (EvL.cons (by exact rfl) EvL.nil))) (fun w1 hw1 => worked15n w1 _ _ _ (hs1.at hw1 (by repeat (first | exact .head _ | refine .tail _ ?_))))) rfl ?_
  refine sq_y (OpY.s (y_move (by exact rfl))) rfl ?_
  refine sq_y (OpY.s (y_extract (by exact rfl) (by exact rfl))) rfl ?_
  refine sq_y (OpY.s (y_extract (by exact rfl) (by exact rfl))) rfl ?_
  refine sq_y (OpY.s (y_assign (by exact rfl))) rfl ?_
  refine sq_y (OpY.s (y_assign (by exact rfl))) rfl ?_
  refine sq_nil ?_
  refine sx_then ?_
  refine sc_seq ?_
  refine sc_region ?_
  refine sq_call_new (first := []) (caps := []) (Z := Option Addr × (Nat → Option Addr) × (Nat → Nat)) (fun z => .agg (rcVal smpR z.1 3).toArray) (fun lo w' z => TmsA lo w' z.1 smpR.teams z.2.1 z.2.2) (by exact rfl) Try.call28 EvL.nil (fun w1 _ => sample28 w1) rfl (fun ls2 ws2 zs2 hs2 => ?_)
  refine sq_call_new (first := []) (caps := []) (Z := Option Addr) (fun z => .slice z 4 4) (fun lo w' z => WdsA lo w' z wrdL) (by exact rfl) Try.call29 (EvL.cons (by exact rfl) EvL.nil) (fun w1 _ => words29a w1) rfl (fun lw2 ww2 zw2 hw2 => ?_)
  refine sq_y (y_call (first := []) (caps := []) (by exact rfl) Try.call17 (EvL.cons (by exact rfl) (EvL.cons (by exact rfl) (EvL.cons (by exact rfl) (EvL.cons (by exact rfl) EvL.nil)))) (fun w1 hw1 => nma w1 _ _ _ (hs2.at hw1 (by repeat (first | exact .head _ | refine .tail _ ?_))) _ _ (hw2.at hw1 (by repeat (first | exact .head _ | refine .tail _ ?_))))) rfl ?_
  refine sq_y (OpY.s (y_move (by exact rfl))) rfl ?_
  refine sq_y (OpY.s (y_extract (by exact rfl) (by exact rfl))) rfl ?_
  refine sq_y (OpY.s (y_extract (by exact rfl) (by exact rfl))) rfl ?_
  refine sq_alloc Try.zeroValue32 rfl (fun b3 => ?_)
  refine sq_store_all Try.sizeOf32 (by exact rfl) (by exact rfl) rfl (by repeat (first | exact Rem.here | apply Rem.there)) rfl rfl ?_
  refine sq_y (OpY.s (y_assign (by exact rfl))) rfl ?_
  refine sq_nil ?_
  refine sx_then ?_
  refine sc_seq ?_
  refine sc_region ?_
  refine sq_call_new (first := []) (caps := []) (Z := Option Addr × (Nat → Option Addr) × (Nat → Nat)) (fun z => .agg (rcVal smpR z.1 3).toArray) (fun lo w' z => TmsA lo w' z.1 smpR.teams z.2.1 z.2.2) (by exact rfl) Try.call28 EvL.nil (fun w1 _ => sample28 w1) rfl (fun ls3 ws3 zs3 hs3 => ?_)
  refine sq_call_new (first := []) (caps := []) (Z := Option Addr) (fun z => .slice z 4 4) (fun lo w' z => WdsA lo w' z wrdL) (by exact rfl) Try.call29 (EvL.cons (by exact rfl) EvL.nil) (fun w1 _ => words29a w1) rfl (fun lw3 ww3 zw3 hw3 => ?_)
  refine sq_y (y_call (first := []) (caps := []) (by exact rfl) Try.call17 (EvL.cons (by exact rfl) (EvL.cons (by exact rfl) (EvL.cons (by exact rfl) (EvL.cons (by exact rfl) EvL.nil)))) (fun w1 hw1 => nmb w1 _ _ _ (hs3.at hw1 (by repeat (first | exact .head _ | refine .tail _ ?_))) _ _ (hw3.at hw1 (by repeat (first | exact .head _ | refine .tail _ ?_))))) rfl ?_
  refine sq_y (OpY.s (y_move (by exact rfl))) rfl ?_
  refine sq_y (OpY.s (y_extract (by exact rfl) (by exact rfl))) rfl ?_
  refine sq_y (OpY.s (y_extract (by exact rfl) (by exact rfl))) rfl ?_
  refine sq_alloc Try.zeroValue32 rfl (fun b5 => ?_)
  refine sq_store_all Try.sizeOf32 (by exact rfl) (by exact rfl) rfl (by repeat (first | exact Rem.here | apply Rem.there)) rfl rfl ?_
  refine sq_y (OpY.s (y_assign (by exact rfl))) rfl ?_
  refine sq_nil ?_
  refine sx_then ?_
  refine sc_seq ?_
  refine sc_region ?_
  refine sq_call_new (first := []) (caps := []) (Z := Option Addr × (Nat → Option Addr) × (Nat → Nat)) (fun z => .agg (rcVal smpR z.1 3).toArray) (fun lo w' z => TmsA lo w' z.1 smpR.teams z.2.1 z.2.2) (by exact rfl) Try.call28 EvL.nil (fun w1 _ => sample28 w1) rfl (fun ls4 ws4 zs4 hs4 => ?_)
  refine sq_call_new (first := []) (caps := []) (Z := Option Addr) (fun z => .slice z 4 4) (fun lo w' z => WdsA lo w' z wrdL) (by exact rfl) Try.call29 (EvL.cons (by exact rfl) EvL.nil) (fun w1 _ => words29a w1) rfl (fun lw4 ww4 zw4 hw4 => ?_)
  refine sq_y (y_call (first := []) (caps := []) (by exact rfl) Try.call19 (EvL.cons (by exact rfl) (EvL.cons (by exact rfl) (EvL.cons (by exact rfl) (EvL.cons (by exact rfl) EvL.nil)))) (fun w1 hw1 => nmx w1 _ _ _ (hs4.at hw1 (by repeat (first | exact .head _ | refine .tail _ ?_))) _ _ (hw4.at hw1 (by repeat (first | exact .head _ | refine .tail _ ?_))))) rfl ?_
  refine sq_y (OpY.s (y_move (by exact rfl))) rfl ?_
  refine sq_y (OpY.s (y_extract (by exact rfl) (by exact rfl))) rfl ?_
  refine sq_y (OpY.s (y_extract (by exact rfl) (by exact rfl))) rfl ?_
  refine sq_alloc Try.zeroValue32 rfl (fun b7 => ?_)
  refine sq_store_all Try.sizeOf32 (by exact rfl) (by exact rfl) rfl (by repeat (first | exact Rem.here | apply Rem.there)) rfl rfl ?_
  refine sq_y (OpY.s (y_assign (by exact rfl))) rfl ?_
  refine sq_nil ?_
  refine sx_then ?_
  refine sc_seq ?_
  refine sc_region ?_
  refine sq_call_new (first := []) (caps := []) (Z := Option Addr × (Nat → Option Addr) × (Nat → Nat)) (fun z => .agg (rcVal smpR z.1 3).toArray) (fun lo w' z => TmsA lo w' z.1 smpR.teams z.2.1 z.2.2) (by exact rfl) Try.call28 EvL.nil (fun w1 _ => sample28 w1) rfl (fun ls5 ws5 zs5 hs5 => ?_)
  refine sq_call_new (first := []) (caps := []) (Z := Option Addr) (fun z => .slice z 4 4) (fun lo w' z => WdsA lo w' z wrdL) (by exact rfl) Try.call29 (EvL.cons (by exact rfl) EvL.nil) (fun w1 _ => words29a w1) rfl (fun lw5 ww5 zw5 hw5 => ?_)
  refine sq_y (y_call (first := []) (caps := []) (by exact rfl) Try.call19 (EvL.cons (by exact rfl) (EvL.cons (by exact rfl) (EvL.cons (by exact rfl) (EvL.cons (by exact rfl) EvL.nil)))) (fun w1 hw1 => nmy w1 _ _ _ (hs5.at hw1 (by repeat (first | exact .head _ | refine .tail _ ?_))) _ _ (hw5.at hw1 (by repeat (first | exact .head _ | refine .tail _ ?_))))) rfl ?_
  refine sq_y (OpY.s (y_move (by exact rfl))) rfl ?_
  refine sq_y (OpY.s (y_extract (by exact rfl) (by exact rfl))) rfl ?_
  refine sq_y (OpY.s (y_extract (by exact rfl) (by exact rfl))) rfl ?_
  refine sq_alloc Try.zeroValue32 rfl (fun b9 => ?_)
  refine sq_store_all Try.sizeOf32 (by exact rfl) (by exact rfl) rfl (by repeat (first | exact Rem.here | apply Rem.there)) rfl rfl ?_
  refine sq_y (OpY.s (y_assign (by exact rfl))) rfl ?_
  refine sq_nil ?_
  refine sx_then ?_
  refine sc_seq ?_
  refine sc_region ?_
  refine sq_call_new (first := []) (caps := []) (Z := Option Addr × (Nat → Option Addr) × (Nat → Nat)) (fun z => .agg (rcVal smpR z.1 3).toArray) (fun lo w' z => TmsA lo w' z.1 smpR.teams z.2.1 z.2.2) (by exact rfl) Try.call28 EvL.nil (fun w1 _ => sample28 w1) rfl (fun ls6 ws6 zs6 hs6 => ?_)
  refine sq_call_new (first := []) (caps := []) (Z := Option Addr) (fun z => .slice z 4 4) (fun lo w' z => WdsA lo w' z wrdL) (by exact rfl) Try.call29 (EvL.cons (by exact rfl) EvL.nil) (fun w1 _ => words29a w1) rfl (fun lw6 ww6 zw6 hw6 => ?_)
  refine sq_y (y_call (first := []) (caps := []) (by exact rfl) Try.call19 (EvL.cons (by exact rfl) (EvL.cons (by exact rfl) (EvL.cons (by exact rfl) (EvL.cons (by exact rfl) EvL.nil)))) (fun w1 hw1 => nmz w1 _ _ _ (hs6.at hw1 (by repeat (first | exact .head _ | refine .tail _ ?_))) _ _ (hw6.at hw1 (by repeat (first | exact .head _ | refine .tail _ ?_))))) rfl ?_
  refine sq_y (OpY.s (y_move (by exact rfl))) rfl ?_
  refine sq_y (OpY.s (y_extract (by exact rfl) (by exact rfl))) rfl ?_
  refine sq_y (OpY.s (y_extract (by exact rfl) (by exact rfl))) rfl ?_
  refine sq_alloc Try.zeroValue32 rfl (fun b11 => ?_)
  refine sq_store_all Try.sizeOf32 (by exact rfl) (by exact rfl) rfl (by repeat (first | exact Rem.here | apply Rem.there)) rfl rfl ?_
  refine sq_y (OpY.s (y_assign (by exact rfl))) rfl ?_
  refine sq_nil ?_
  refine sx_then ?_
  refine sc_seq ?_
  refine sc_region ?_
  refine sq_call_new (first := []) (caps := []) (Z := Option Addr × (Nat → Option Addr) × (Nat → Nat)) (fun z => .agg (rcVal smpR z.1 3).toArray) (fun lo w' z => TmsA lo w' z.1 smpR.teams z.2.1 z.2.2) (by exact rfl) Try.call28 EvL.nil (fun w1 _ => sample28 w1) rfl (fun ls7 ws7 zs7 hs7 => ?_)
  refine sq_call_new (first := []) (caps := []) (Z := Option Addr) (fun z => .slice z 4 4) (fun lo w' z => WdsA lo w' z wrdL) (by exact rfl) Try.call29 (EvL.cons (by exact rfl) EvL.nil) (fun w1 _ => words29a w1) rfl (fun lw7 ww7 zw7 hw7 => ?_)
  refine sq_y (y_call (first := []) (caps := []) (by exact rfl) Try.call23 (EvL.cons (by exact rfl) (EvL.cons (by exact rfl) EvL.nil)) (fun w1 hw1 => winners23n w1 _ _ _ (hs7.at hw1 (by repeat (first | exact .head _ | refine .tail _ ?_))) _ _ (hw7.at hw1 (by repeat (first | exact .head _ | refine .tail _ ?_))))) rfl ?_
  refine sq_y (OpY.s (y_move (by exact rfl))) rfl ?_
  refine sq_y (OpY.s (y_extract (by exact rfl) (by exact rfl))) rfl ?_
  refine sq_y (OpY.s (y_extract (by exact rfl) (by exact rfl))) rfl ?_
  refine sq_y (OpY.s (y_extract (by exact rfl) (by exact rfl))) rfl ?_
  refine sq_y (OpY.s (y_assign (by exact rfl))) rfl ?_
  refine sq_y (OpY.s (y_assign (by exact rfl))) rfl ?_
  refine sq_y (OpY.s (y_assign (by exact rfl))) rfl ?_
  refine sq_nil ?_
  refine sx_then ?_
  refine sc_seq ?_
  refine sc_region ?_
  refine sq_call_new (first := []) (caps := []) (Z := Option Addr × (Nat → Option Addr) × (Nat → Nat)) (fun z => .agg (rcVal smpR z.1 3).toArray) (fun lo w' z => TmsA lo w' z.1 smpR.teams z.2.1 z.2.2) (by exact rfl) Try.call28 EvL.nil (fun w1 _ => sample28 w1) rfl (fun ls8 ws8 zs8 hs8 => ?_)
  refine sq_call_new (first := []) (caps := []) (Z := Option Addr) (fun z => .slice z 4 4) (fun lo w' z => WdsA lo w' z wrdL) (by exact rfl) Try.call29 (EvL.cons (by exact rfl) EvL.nil) (fun w1 _ => words29a w1) rfl (fun lw8 ww8 zw8 hw8 => ?_)
  refine sq_y (y_call (first := []) (caps := []) (by exact rfl) Try.call25 (EvL.cons (by exact rfl) (EvL.cons (by exact rfl) EvL.nil)) (fun w1 hw1 => clash25n w1 _ _ _ (hs8.at hw1 (by repeat (first | exact .head _ | refine .tail _ ?_))) _ _ (Nat.le_refl _) (hw8.at hw1 (by repeat (first | exact .head _ | refine .tail _ ?_))))) rfl ?_
  refine sq_y (OpY.s (y_move (by exact rfl))) rfl ?_
  refine sq_y (OpY.s (y_extract (by exact rfl) (by exact rfl))) rfl ?_
  refine sq_y (OpY.s (y_extract (by exact rfl) (by exact rfl))) rfl ?_
  refine sq_y (OpY.s (y_assign (by exact rfl))) rfl ?_
  refine sq_y (OpY.s (y_assign (by exact rfl))) rfl ?_
  refine sq_nil ?_
  refine sx_then ?_
  refine sc_seq ?_
  refine sc_draw rfl (by kernel_rfl) (by kernel_rfl) ?_
  refine qq_y (OpY.s (y_move (by exact rfl))) rfl ?_
  refine qq_gt (by exact rfl) (by exact rfl) (y_call (first := []) (caps := []) (by exact rfl) Try.call14 EvL.nil (fun w1 _ => alive14 w1)) rfl ?_
  refine qq_y (OpY.s (y_pick_t (by exact rfl) (by exact rfl))) rfl ?_
  refine qq_y (OpY.s (y_move (by exact rfl))) rfl ?_
  refine qq_known (tt := 69) (b' := true) (by exact rfl) (by first | rfl | decide) ?_
  refine qq_gt (by exact rfl) (by exact rfl) (OpY.s (y_move (by exact rfl))) rfl ?_
  refine qq_gt (by exact rfl) (by exact rfl) (OpY.s (y_eql (by exact rfl) (by exact rfl))) rfl ?_
  refine qq_y (OpY.s (y_pick_t (by exact rfl) (by exact rfl))) rfl ?_
  refine qq_y (OpY.s (y_move (by exact rfl))) rfl ?_
  refine qq_known (tt := 73) (b' := true) (by exact rfl) (by first | rfl | decide) ?_
  refine qq_gt (by exact rfl) (by exact rfl) (OpY.s (y_move (by exact rfl))) rfl ?_
  refine qq_gt (by exact rfl) (by exact rfl) (OpY.s (y_eql (by exact rfl) (by exact rfl))) rfl ?_
  refine qq_y (OpY.s (y_pick_t (by exact rfl) (by exact rfl))) rfl ?_
  refine qq_y (OpY.s (y_move (by exact rfl))) rfl ?_
  refine qq_known (tt := 77) (b' := true) (by exact rfl) (by first | rfl | decide) ?_
  refine qq_gt (by exact rfl) (by exact rfl) (OpY.s (by first | exact y_load_all Try.underlying32 rfl Try.sizeOf32 (by exact rfl) (by repeat (first | exact .head _ | refine .tail _ ?_)) (by exact rfl) | exact y_load_2 Try.underlying32 rfl Try.sizeOf32 (by exact rfl) (by repeat (first | exact .head _ | refine .tail _ ?_)) (by exact rfl) (by exact rfl) | exact y_load_ca Try.underlying32 rfl Try.sizeOf32 (by exact rfl) (by repeat (first | exact .head _ | refine .tail _ ?_)) (by assumption) (by exact rfl))) rfl ?_
  refine qq_gt (by exact rfl) (by exact rfl) (y_call (first := []) (caps := []) (by exact rfl) Try.call30 (EvL.cons (by exact rfl) (EvL.cons (by exact rfl) EvL.nil)) (fun w1 _ => span30 w1 _ _)) rfl ?_
  refine qq_gt (by exact rfl) (by exact rfl) (OpY.s (y_eqls (by kernel_rfl) (by exact rfl) (by exact rfl) (eql32 _ _ _ _))) rfl ?_
  refine qq_y (OpY.s (y_pick_t (by exact rfl) (by exact rfl))) rfl ?_
  refine qq_y (OpY.s (y_move (by exact rfl))) rfl ?_
  refine qq_known (tt := 82) (b' := true) (by exact rfl) (by first | rfl | decide) ?_
  refine qq_gt (by exact rfl) (by exact rfl) (OpY.s (y_move (by exact rfl))) rfl ?_
  refine qq_gt (by exact rfl) (by exact rfl) (OpY.s (y_eql (by exact rfl) (by exact rfl))) rfl ?_
  refine qq_y (OpY.s (y_pick_t (by exact rfl) (by exact rfl))) rfl ?_
  refine qq_y (OpY.s (y_move (by exact rfl))) rfl ?_
  refine qq_known (tt := 86) (b' := true) (by exact rfl) (by first | rfl | decide) ?_
  refine qq_gt (by exact rfl) (by exact rfl) (OpY.s (by first | exact y_load_all Try.underlying32 rfl Try.sizeOf32 (by exact rfl) (by repeat (first | exact .head _ | refine .tail _ ?_)) (by exact rfl) | exact y_load_2 Try.underlying32 rfl Try.sizeOf32 (by exact rfl) (by repeat (first | exact .head _ | refine .tail _ ?_)) (by exact rfl) (by exact rfl) | exact y_load_ca Try.underlying32 rfl Try.sizeOf32 (by exact rfl) (by repeat (first | exact .head _ | refine .tail _ ?_)) (by assumption) (by exact rfl))) rfl ?_
  refine qq_gt (by exact rfl) (by exact rfl) (y_call (first := []) (caps := []) (by exact rfl) Try.call30 (EvL.cons (by exact rfl) (EvL.cons (by exact rfl) EvL.nil)) (fun w1 _ => span30 w1 _ _)) rfl ?_
  refine qq_gt (by exact rfl) (by exact rfl) (OpY.s (y_eqls (by kernel_rfl) (by exact rfl) (by exact rfl) (eql32 _ _ _ _))) rfl ?_
  refine qq_y (OpY.s (y_pick_t (by exact rfl) (by exact rfl))) rfl ?_
  refine qq_y (OpY.s (y_move (by exact rfl))) rfl ?_
  refine qq_known (tt := 91) (b' := true) (by exact rfl) (by first | rfl | decide) ?_
  refine qq_gt (by exact rfl) (by exact rfl) (OpY.s (y_move (by exact rfl))) rfl ?_
  refine qq_gt (by exact rfl) (by exact rfl) (OpY.s (y_eql (by exact rfl) (by exact rfl))) rfl ?_
  refine qq_y (OpY.s (y_pick_t (by exact rfl) (by exact rfl))) rfl ?_
  refine qq_y (OpY.s (y_move (by exact rfl))) rfl ?_
  refine qq_known (tt := 95) (b' := true) (by exact rfl) (by first | rfl | decide) ?_
  refine qq_gt (by exact rfl) (by exact rfl) (OpY.s (by first | exact y_load_all Try.underlying32 rfl Try.sizeOf32 (by exact rfl) (by repeat (first | exact .head _ | refine .tail _ ?_)) (by exact rfl) | exact y_load_2 Try.underlying32 rfl Try.sizeOf32 (by exact rfl) (by repeat (first | exact .head _ | refine .tail _ ?_)) (by exact rfl) (by exact rfl) | exact y_load_ca Try.underlying32 rfl Try.sizeOf32 (by exact rfl) (by repeat (first | exact .head _ | refine .tail _ ?_)) (by assumption) (by exact rfl))) rfl ?_
  refine qq_gt (by exact rfl) (by exact rfl) (y_call (first := []) (caps := []) (by exact rfl) Try.call30 (EvL.cons (by exact rfl) (EvL.cons (by exact rfl) EvL.nil)) (fun w1 _ => span30 w1 _ _)) rfl ?_
  refine qq_gt (by exact rfl) (by exact rfl) (OpY.s (y_eqls (by kernel_rfl) (by exact rfl) (by exact rfl) (eql32 _ _ _ _))) rfl ?_
  refine qq_y (OpY.s (y_pick_t (by exact rfl) (by exact rfl))) rfl ?_
  refine qq_y (OpY.s (y_move (by exact rfl))) rfl ?_
  refine qq_known (tt := 100) (b' := true) (by exact rfl) (by first | rfl | decide) ?_
  refine qq_gt (by exact rfl) (by exact rfl) (OpY.s (y_move (by exact rfl))) rfl ?_
  refine qq_gt (by exact rfl) (by exact rfl) (OpY.s (y_eql (by exact rfl) (by exact rfl))) rfl ?_
  refine qq_y (OpY.s (y_pick_t (by exact rfl) (by exact rfl))) rfl ?_
  refine qq_y (OpY.s (y_move (by exact rfl))) rfl ?_
  refine qq_known (tt := 104) (b' := true) (by exact rfl) (by first | rfl | decide) ?_
  refine qq_gt (by exact rfl) (by exact rfl) (OpY.s (by first | exact y_load_all Try.underlying32 rfl Try.sizeOf32 (by exact rfl) (by repeat (first | exact .head _ | refine .tail _ ?_)) (by exact rfl) | exact y_load_2 Try.underlying32 rfl Try.sizeOf32 (by exact rfl) (by repeat (first | exact .head _ | refine .tail _ ?_)) (by exact rfl) (by exact rfl) | exact y_load_ca Try.underlying32 rfl Try.sizeOf32 (by exact rfl) (by repeat (first | exact .head _ | refine .tail _ ?_)) (by assumption) (by exact rfl))) rfl ?_
  refine qq_gt (by exact rfl) (by exact rfl) (y_call (first := []) (caps := []) (by exact rfl) Try.call30 (EvL.cons (by exact rfl) (EvL.cons (by exact rfl) EvL.nil)) (fun w1 _ => span30 w1 _ _)) rfl ?_
  refine qq_gt (by exact rfl) (by exact rfl) (OpY.s (y_eqls (by kernel_rfl) (by exact rfl) (by exact rfl) (eql32 _ _ _ _))) rfl ?_
  refine qq_y (OpY.s (y_pick_t (by exact rfl) (by exact rfl))) rfl ?_
  refine qq_y (OpY.s (y_move (by exact rfl))) rfl ?_
  refine qq_known (tt := 109) (b' := true) (by exact rfl) (by first | rfl | decide) ?_
  refine qq_gt (by exact rfl) (by exact rfl) (OpY.s (y_move (by exact rfl))) rfl ?_
  refine qq_gt (by exact rfl) (by exact rfl) (OpY.s (y_eql (by exact rfl) (by exact rfl))) rfl ?_
  refine qq_y (OpY.s (y_pick_t (by exact rfl) (by exact rfl))) rfl ?_
  refine qq_y (OpY.s (y_move (by exact rfl))) rfl ?_
  refine qq_known (tt := 113) (b' := true) (by exact rfl) (by first | rfl | decide) ?_
  refine qq_gt (by exact rfl) (by exact rfl) (OpY.s (by first | exact y_load_all Try.underlying32 rfl Try.sizeOf32 (by exact rfl) (by repeat (first | exact .head _ | refine .tail _ ?_)) (by exact rfl) | exact y_load_2 Try.underlying32 rfl Try.sizeOf32 (by exact rfl) (by repeat (first | exact .head _ | refine .tail _ ?_)) (by exact rfl) (by exact rfl) | exact y_load_ca Try.underlying32 rfl Try.sizeOf32 (by exact rfl) (by repeat (first | exact .head _ | refine .tail _ ?_)) (by assumption) (by exact rfl))) rfl ?_
  refine qq_gt (by exact rfl) (by exact rfl) (y_call (first := []) (caps := []) (by exact rfl) Try.call30 (EvL.cons (by exact rfl) (EvL.cons (by exact rfl) EvL.nil)) (fun w1 _ => span30 w1 _ _)) rfl ?_
  refine qq_gt (by exact rfl) (by exact rfl) (OpY.s (y_eqls (by kernel_rfl) (by exact rfl) (by exact rfl) (eql32 _ _ _ _))) rfl ?_
  refine qq_y (OpY.s (y_pick_t (by exact rfl) (by exact rfl))) rfl ?_
  refine qq_y (OpY.s (y_move (by exact rfl))) rfl ?_
  refine qq_known (tt := 118) (b' := true) (by exact rfl) (by first | rfl | decide) ?_
  refine qq_gt (by exact rfl) (by exact rfl) (OpY.s (y_move (by exact rfl))) rfl ?_
  refine qq_gt (by exact rfl) (by exact rfl) (OpY.s (y_eql (by exact rfl) (by exact rfl))) rfl ?_
  refine qq_y (OpY.s (y_pick_t (by exact rfl) (by exact rfl))) rfl ?_
  refine qq_y (OpY.s (y_move (by exact rfl))) rfl ?_
  refine qq_known (tt := 122) (b' := true) (by exact rfl) (by first | rfl | decide) ?_
  refine qq_gt (by exact rfl) (by exact rfl) (OpY.s (y_move (by exact rfl))) rfl ?_
  refine qq_gt (by exact rfl) (by exact rfl) (OpY.s (y_eql (by exact rfl) (by exact rfl))) rfl ?_
  refine qq_y (OpY.s (y_pick_t (by exact rfl) (by exact rfl))) rfl ?_
  refine qq_y (OpY.s (y_move (by exact rfl))) rfl ?_
  refine qq_known (tt := 126) (b' := true) (by exact rfl) (by first | rfl | decide) ?_
  refine qq_gt (by exact rfl) (by exact rfl) (OpY.s (y_move (by exact rfl))) rfl ?_
  refine qq_gt (by exact rfl) (by exact rfl) (OpY.s (y_eql (by exact rfl) (by exact rfl))) rfl ?_
  refine qq_y (OpY.s (y_pick_t (by exact rfl) (by exact rfl))) rfl ?_
  refine qq_y (OpY.s (y_move (by exact rfl))) rfl ?_
  refine qq_known (tt := 130) (b' := true) (by exact rfl) (by first | rfl | decide) ?_
  refine qq_gt (by exact rfl) (by exact rfl) (OpY.s (y_move (by exact rfl))) rfl ?_
  refine qq_gt (by exact rfl) (by exact rfl) (OpY.s (y_eql (by exact rfl) (by exact rfl))) rfl ?_
  refine qq_y (OpY.s (y_pick_t (by exact rfl) (by exact rfl))) rfl ?_
  refine qq_y (OpY.s (y_move (by exact rfl))) rfl ?_
  refine qq_known (tt := 134) (b' := true) (by exact rfl) (by first | rfl | decide) ?_
  refine qq_gt (by exact rfl) (by exact rfl) (OpY.s (y_move (by exact rfl))) rfl ?_
  refine qq_gt (by exact rfl) (by exact rfl) (OpY.s (y_eql (by exact rfl) (by exact rfl))) rfl ?_
  refine qq_y (OpY.s (y_pick_t (by exact rfl) (by exact rfl))) rfl ?_
  refine qq_y (OpY.s (y_assign (by exact rfl))) rfl ?_
  refine qq_nil ?_
  refine sx_then ?_
  refine sc_ret ?_
  refine sx_ret1 (.inl rfl) rfl Try.results5 (by exact rfl) ?_
  intro w' hw'
  exact ⟨rfl, hw'.below (by repeat (first | exact .head _ | refine .tail _ ?_))⟩
end Go.Proofs.Ytegdfpilhlcplaa
