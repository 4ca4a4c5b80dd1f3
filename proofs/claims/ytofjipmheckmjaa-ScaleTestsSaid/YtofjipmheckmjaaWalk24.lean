/- The walk of the law ScaleTests. -/
import Derived.Test.YtofjipmheckmjaaWalk19
import Derived.Test.YtofjipmheckmjaaWalk22
namespace Go.Proofs.Ytofjipmheckmjaa
open Go Go.Eng Go.RowKit Go.Proofs
set_option maxRecDepth 100000

theorem tests4 (w : World) (b : Bx) (a : Option Addr) (c : Nat) (hB : RowsA kdRow 3 0 w a b.kinds) (al : Option Addr) (cl : Nat) (ls : List Rd) (hl : RowsA rdRow 8 0 w al ls) (at_ : Option Addr) (ct : Nat) (ts : List Te) (ht : RowsA teRow 7 0 w at_ ts) : Calls Try.prog 4 #[.agg (bxRow b a c).toArray, .slice al ls.length cl, .slice at_ ts.length ct] w fun e w' => e = .returned (.bool true) ∧ Below w.heap.size w w' := by
  refine calls_of_SC (args := [.agg (bxRow b a c).toArray, .slice al ls.length cl, .slice at_ ts.length ct]) Try.func4 rfl Try.ntmps4 rfl ?_
  simp only [argL, Nat.reduceAdd, Nat.zero_add]
  refine sc_seq ?_
  refine sc_region ?_
  refine sq_box RF rfl (fun b3 => ?_)
  refine qs (y_assign RF) ?_
  refine sq_nil ?_
  refine sx_then ?_
  refine sc_seq ?_
  refine sc_seq ?_
  refine sc_region ?_
  refine qs LD26 ?_
  refine qs (y_move RF) ?_
  refine qs (y_move RF) ?_
  refine qy (yc Try.call12 E4 (fun w1 hw1 => great12 w1 b a c (hB.at hw1 MM) 3 al cl ls.length at_ ct ts.length)) ?_
  refine qs (y_move RF) ?_
  refine spb 25 (fun hg1_4 => ?_) (fun hg1_4 => ?_)
  ·
    refine qf ?_
    refine qf ?_
    refine qf ?_
    refine qf ?_
    refine sq_gu RF RF rfl ?_
    refine sq_gu RF RF rfl ?_
    refine sq_gu RF RF rfl ?_
    refine qf ?_
    refine qs (y_pick_t RF RF) ?_
    refine sq_nil ?_
    refine sx_then ?_
    refine sc_t RF ?_
    refine sc_seq ?_
    refine sc_region ?_
    refine qy (yc Try.call13 E0 (fun w1 _ => alive13 w1)) ?_
    refine qs (y_assign RF) ?_
    refine sq_nil ?_
    refine sx_then ?_
    refine sc_ret ?_
    refine sx_then_ret ?_
    refine sx_ret1 (.inl rfl) rfl Try.results4 RF ?_
    intro w' hw'
    exact ⟨rfl, hw'.below MM⟩
  ·
    refine qg (y_move RF) ?_
    refine qg (y_len Try.underlying43 RF) ?_
    refine qg (y_gtr RF RF) ?_
    refine qg (y_move RF) ?_
    refine sp 29 (fun hg1_8 => ?_) (fun hg1_8 => ?_)
    ·
      refine qg (y_move RF) ?_
      refine qg (y_len Try.underlying43 RF) ?_
      refine qg (y_leq RF RF) ?_
      refine qg (y_pick_t RF RF) ?_
      refine qs (y_pick_f RF RF) ?_
      refine sq_nil ?_
      refine sx_then ?_
      refine scp (fun hc0 => ?_) (fun hc0 => ?_)
      ·
        refine sc_seq ?_
        refine sc_region ?_
        refine qy (yc Try.call13 E0 (fun w1 _ => alive13 w1)) ?_
        refine qs (y_assign RF) ?_
        refine sq_nil ?_
        refine sx_then ?_
        refine sc_ret ?_
        refine sx_then_ret ?_
        refine sx_ret1 (.inl rfl) rfl Try.results4 RF ?_
        intro w' hw'
        exact ⟨rfl, hw'.below MM⟩
      ·
        refine sc_skip ?_
        refine sx_then ?_
        refine sc_seq ?_
        refine sc_region ?_
        refine qs LD26 ?_
        refine qs (y_move RF) ?_
        refine sq_call_new (first := []) (caps := []) (Z := Option Addr × Nat) (fun z => .tuple #[.slice z.1 (slipR b ts).1.length z.2, .int .i64 (slipR b ts).2]) (fun lo w' z => RowsA iRow 1 lo w' z.1 (slipR b ts).1) RF Try.call21 (EvL.cons RF (EvL.cons RF EvL.nil)) (fun w1 hw1 => slips21 w1 b a c (hB.at hw1 MM) at_ ct ts (ht.at hw1 MM)) rfl (fun lo1 wr1 zl1 hl1 => ?_)
        refine qs (y_move RF) ?_
        refine qs (y_extract RF RF) ?_
        refine qs (y_extract RF RF) ?_
        refine qs (y_assign RF) ?_
        refine qs (y_assign RF) ?_
        refine sq_nil ?_
        refine sx_then ?_
        refine sc_seq ?_
        refine sc_region ?_
        refine qs LD26 ?_
        refine qs (y_move RF) ?_
        refine sq_call_new (first := []) (caps := []) (Z := Option Addr × Nat) (fun z => .tuple #[.slice z.1 (slipR b ts).1.length z.2, .int .i64 (slipR b ts).2]) (fun lo w' z => RowsA iRow 1 lo w' z.1 (slipR b ts).1) RF Try.call22 (EvL.cons RF (EvL.cons RF EvL.nil)) (fun w1 hw1 => slips22 w1 b a c (hB.at hw1 MM) at_ ct ts (ht.at hw1 MM)) rfl (fun lo2 wr2 zl2 hl2 => ?_)
        refine qs (y_move RF) ?_
        refine qs (y_extract RF RF) ?_
        refine qs (y_extract RF RF) ?_
        refine qs (y_assign RF) ?_
        refine qs (y_assign RF) ?_
        refine sq_nil ?_
        refine sx_then ?_
        refine sc_seq ?_
        refine sc_region ?_
        refine qs LD26 ?_
        refine qs (y_move RF) ?_
        refine qy (yc Try.call23 E2 (fun w1 hw1 => enough23 w1 b a c (hB.at hw1 MM) at_ ct ts (ht.at hw1 MM))) ?_
        refine qs (y_move RF) ?_
        refine qs (y_extract RF RF) ?_
        refine qs (y_extract RF RF) ?_
        refine qs (y_extract RF RF) ?_
        refine qs (y_assign RF) ?_
        refine qs (y_assign RF) ?_
        refine qs (y_assign RF) ?_
        refine sq_nil ?_
        refine sx_then ?_
        refine sc_seq ?_
        refine sc_region ?_
        refine qs LD26 ?_
        refine qs (y_move RF) ?_
        refine qy (yc Try.call24 E2 (fun w1 hw1 => enough24 w1 b a c (hB.at hw1 MM) at_ ct ts (ht.at hw1 MM))) ?_
        refine qs (y_move RF) ?_
        refine qs (y_extract RF RF) ?_
        refine qs (y_extract RF RF) ?_
        refine qs (y_extract RF RF) ?_
        refine qs (y_assign RF) ?_
        refine qs (y_assign RF) ?_
        refine qs (y_assign RF) ?_
        refine sq_nil ?_
        refine sx_then ?_
        refine sc_seq ?_
        refine sc_region ?_
        refine qs LD26 ?_
        refine qs (y_move RF) ?_
        refine qs (y_move RF) ?_
        refine qy (yc Try.call25 E3 (fun w1 hw1 => next25 w1 b a c (hB.at hw1 MM) al cl ls (hl.at hw1 MM) at_ ct ts (ht.at hw1 MM))) ?_
        refine qs (y_move RF) ?_
        refine qs (y_extract RF RF) ?_
        refine qs (y_extract RF RF) ?_
        refine qs (y_assign RF) ?_
        refine qs (y_assign RF) ?_
        refine sq_nil ?_
        refine sx_then ?_
        refine sc_seq ?_
        refine sc_region ?_
        refine qs LD26 ?_
        refine qs (y_move RF) ?_
        refine qs (y_move RF) ?_
        refine qy (yc Try.call26 E3 (fun w1 hw1 => next26 w1 b a c (hB.at hw1 MM) al cl ls (hl.at hw1 MM) at_ ct ts (ht.at hw1 MM))) ?_
        refine qs (y_move RF) ?_
        refine qs (y_extract RF RF) ?_
        refine qs (y_extract RF RF) ?_
        refine qs (y_assign RF) ?_
        refine qs (y_assign RF) ?_
        refine sq_nil ?_
        refine sx_then ?_
        refine sc_seq ?_
        refine sc_region ?_
        refine qs (y_move RF) ?_
        refine qs (y_move RF) ?_
        refine qy (yc Try.call27 E2 (fun w1 hw1 => ints27 w1 zl1.1 zl2.1 zl1.2 zl2.2 _ _ (hl1.at hw1 MM) (hl2.at hw1 MM))) ?_
        refine qs (y_move RF) ?_
        refine sq_known (tt := 79) (b' := true) RF (by simp) ?_
        refine qg (y_move RF) ?_
        refine qg (y_move RF) ?_
        refine qg (y_eql RF RF) ?_
        refine qs (y_pick_t RF RF) ?_
        refine qs (y_move RF) ?_
        refine sq_known (tt := 84) (b' := true) RF (by simp) ?_
        refine qg (y_move RF) ?_
        refine qg (y_move RF) ?_
        refine qg (y_eql RF RF) ?_
        refine qs (y_pick_t RF RF) ?_
        refine qs (y_move RF) ?_
        refine sq_known (tt := 89) (b' := true) RF (by simp) ?_
        refine qg (y_move RF) ?_
        refine qg (y_move RF) ?_
        refine qg (y_eql RF RF) ?_
        refine qs (y_pick_t RF RF) ?_
        refine qs (y_move RF) ?_
        refine sq_known (tt := 94) (b' := true) RF (by simp) ?_
        refine qg (y_move RF) ?_
        refine qg (y_move RF) ?_
        refine qg (y_eql RF RF) ?_
        refine qs (y_pick_t RF RF) ?_
        refine qs (y_move RF) ?_
        refine sq_known (tt := 99) (b' := true) RF (by simp) ?_
        refine qg (y_move RF) ?_
        refine qg (y_move RF) ?_
        refine qg (y_eql RF RF) ?_
        refine qs (y_pick_t RF RF) ?_
        refine qs (y_move RF) ?_
        refine sq_known (tt := 104) (b' := true) RF (by simp) ?_
        refine qg (y_move RF) ?_
        refine qg (y_move RF) ?_
        refine qg (y_eql RF RF) ?_
        refine qs (y_pick_t RF RF) ?_
        refine qs (y_move RF) ?_
        refine sq_known (tt := 109) (b' := true) RF (by simp) ?_
        refine sq_gt RF RF (y_call (first := []) (caps := []) RF Try.call13 EvL.nil (fun w1 _ => alive13 w1)) rfl ?_
        refine qs (y_pick_t RF RF) ?_
        refine qs (y_assign RF) ?_
        refine sq_nil ?_
        refine sx_then ?_
        refine sc_ret ?_
        refine sx_ret1 (.inl rfl) rfl Try.results4 RF ?_
        intro w' hw'
        exact ⟨rfl, hw'.below MM⟩
    ·
      refine qf ?_
      refine qf ?_
      refine qf ?_
      refine qg (y_pick_f RF RF) ?_
      refine qs (y_pick_f RF RF) ?_
      refine sq_nil ?_
      refine sx_then ?_
      refine sc_f RF ?_
      refine sc_skip ?_
      refine sx_then ?_
      refine sc_seq ?_
      refine sc_region ?_
      refine qs LD26 ?_
      refine qs (y_move RF) ?_
      refine sq_call_new (first := []) (caps := []) (Z := Option Addr × Nat) (fun z => .tuple #[.slice z.1 (slipR b ts).1.length z.2, .int .i64 (slipR b ts).2]) (fun lo w' z => RowsA iRow 1 lo w' z.1 (slipR b ts).1) RF Try.call21 (EvL.cons RF (EvL.cons RF EvL.nil)) (fun w1 hw1 => slips21 w1 b a c (hB.at hw1 MM) at_ ct ts (ht.at hw1 MM)) rfl (fun lo1 wr1 zl1 hl1 => ?_)
      refine qs (y_move RF) ?_
      refine qs (y_extract RF RF) ?_
      refine qs (y_extract RF RF) ?_
      refine qs (y_assign RF) ?_
      refine qs (y_assign RF) ?_
      refine sq_nil ?_
      refine sx_then ?_
      refine sc_seq ?_
      refine sc_region ?_
      refine qs LD26 ?_
      refine qs (y_move RF) ?_
      refine sq_call_new (first := []) (caps := []) (Z := Option Addr × Nat) (fun z => .tuple #[.slice z.1 (slipR b ts).1.length z.2, .int .i64 (slipR b ts).2]) (fun lo w' z => RowsA iRow 1 lo w' z.1 (slipR b ts).1) RF Try.call22 (EvL.cons RF (EvL.cons RF EvL.nil)) (fun w1 hw1 => slips22 w1 b a c (hB.at hw1 MM) at_ ct ts (ht.at hw1 MM)) rfl (fun lo2 wr2 zl2 hl2 => ?_)
      refine qs (y_move RF) ?_
      refine qs (y_extract RF RF) ?_
      refine qs (y_extract RF RF) ?_
      refine qs (y_assign RF) ?_
      refine qs (y_assign RF) ?_
      refine sq_nil ?_
      refine sx_then ?_
      refine sc_seq ?_
      refine sc_region ?_
      refine qs LD26 ?_
      refine qs (y_move RF) ?_
      refine qy (yc Try.call23 E2 (fun w1 hw1 => enough23 w1 b a c (hB.at hw1 MM) at_ ct ts (ht.at hw1 MM))) ?_
      refine qs (y_move RF) ?_
      refine qs (y_extract RF RF) ?_
      refine qs (y_extract RF RF) ?_
      refine qs (y_extract RF RF) ?_
      refine qs (y_assign RF) ?_
      refine qs (y_assign RF) ?_
      refine qs (y_assign RF) ?_
      refine sq_nil ?_
      refine sx_then ?_
      refine sc_seq ?_
      refine sc_region ?_
      refine qs LD26 ?_
      refine qs (y_move RF) ?_
      refine qy (yc Try.call24 E2 (fun w1 hw1 => enough24 w1 b a c (hB.at hw1 MM) at_ ct ts (ht.at hw1 MM))) ?_
      refine qs (y_move RF) ?_
      refine qs (y_extract RF RF) ?_
      refine qs (y_extract RF RF) ?_
      refine qs (y_extract RF RF) ?_
      refine qs (y_assign RF) ?_
      refine qs (y_assign RF) ?_
      refine qs (y_assign RF) ?_
      refine sq_nil ?_
      refine sx_then ?_
      refine sc_seq ?_
      refine sc_region ?_
      refine qs LD26 ?_
      refine qs (y_move RF) ?_
      refine qs (y_move RF) ?_
      refine qy (yc Try.call25 E3 (fun w1 hw1 => next25 w1 b a c (hB.at hw1 MM) al cl ls (hl.at hw1 MM) at_ ct ts (ht.at hw1 MM))) ?_
      refine qs (y_move RF) ?_
      refine qs (y_extract RF RF) ?_
      refine qs (y_extract RF RF) ?_
      refine qs (y_assign RF) ?_
      refine qs (y_assign RF) ?_
      refine sq_nil ?_
      refine sx_then ?_
      refine sc_seq ?_
      refine sc_region ?_
      refine qs LD26 ?_
      refine qs (y_move RF) ?_
      refine qs (y_move RF) ?_
      refine qy (yc Try.call26 E3 (fun w1 hw1 => next26 w1 b a c (hB.at hw1 MM) al cl ls (hl.at hw1 MM) at_ ct ts (ht.at hw1 MM))) ?_
      refine qs (y_move RF) ?_
      refine qs (y_extract RF RF) ?_
      refine qs (y_extract RF RF) ?_
      refine qs (y_assign RF) ?_
      refine qs (y_assign RF) ?_
      refine sq_nil ?_
      refine sx_then ?_
      refine sc_seq ?_
      refine sc_region ?_
      refine qs (y_move RF) ?_
      refine qs (y_move RF) ?_
      refine qy (yc Try.call27 E2 (fun w1 hw1 => ints27 w1 zl1.1 zl2.1 zl1.2 zl2.2 _ _ (hl1.at hw1 MM) (hl2.at hw1 MM))) ?_
      refine qs (y_move RF) ?_
      refine sq_known (tt := 79) (b' := true) RF (by simp) ?_
      refine qg (y_move RF) ?_
      refine qg (y_move RF) ?_
      refine qg (y_eql RF RF) ?_
      refine qs (y_pick_t RF RF) ?_
      refine qs (y_move RF) ?_
      refine sq_known (tt := 84) (b' := true) RF (by simp) ?_
      refine qg (y_move RF) ?_
      refine qg (y_move RF) ?_
      refine qg (y_eql RF RF) ?_
      refine qs (y_pick_t RF RF) ?_
      refine qs (y_move RF) ?_
      refine sq_known (tt := 89) (b' := true) RF (by simp) ?_
      refine qg (y_move RF) ?_
      refine qg (y_move RF) ?_
      refine qg (y_eql RF RF) ?_
      refine qs (y_pick_t RF RF) ?_
      refine qs (y_move RF) ?_
      refine sq_known (tt := 94) (b' := true) RF (by simp) ?_
      refine qg (y_move RF) ?_
      refine qg (y_move RF) ?_
      refine qg (y_eql RF RF) ?_
      refine qs (y_pick_t RF RF) ?_
      refine qs (y_move RF) ?_
      refine sq_known (tt := 99) (b' := true) RF (by simp) ?_
      refine qg (y_move RF) ?_
      refine qg (y_move RF) ?_
      refine qg (y_eql RF RF) ?_
      refine qs (y_pick_t RF RF) ?_
      refine qs (y_move RF) ?_
      refine sq_known (tt := 104) (b' := true) RF (by simp) ?_
      refine qg (y_move RF) ?_
      refine qg (y_move RF) ?_
      refine qg (y_eql RF RF) ?_
      refine qs (y_pick_t RF RF) ?_
      refine qs (y_move RF) ?_
      refine sq_known (tt := 109) (b' := true) RF (by simp) ?_
      refine sq_gt RF RF (y_call (first := []) (caps := []) RF Try.call13 EvL.nil (fun w1 _ => alive13 w1)) rfl ?_
      refine qs (y_pick_t RF RF) ?_
      refine qs (y_assign RF) ?_
      refine sq_nil ?_
      refine sx_then ?_
      refine sc_ret ?_
      refine sx_ret1 (.inl rfl) rfl Try.results4 RF ?_
      intro w' hw'
      exact ⟨rfl, hw'.below MM⟩
end Go.Proofs.Ytofjipmheckmjaa
