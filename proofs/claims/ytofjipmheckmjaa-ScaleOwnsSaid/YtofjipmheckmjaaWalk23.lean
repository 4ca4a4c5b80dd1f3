/- The walk of the law ScaleReads. -/
import Derived.Test.YtofjipmheckmjaaWalk19
import Derived.Test.YtofjipmheckmjaaWalk22
namespace Go.Proofs.Ytofjipmheckmjaa
open Go Go.Eng Go.RowKit Go.Proofs
set_option maxRecDepth 100000
theorem readAns_ex (b : Bx) (has : List Int) (t : Te) : ∃ (s : Sp) (e : Int), readAns b has t = .tuple #[.agg (spRow s).toArray, .int .i64 e] := by
  unfold readAns
  split
  · split
    · exact ⟨_, _, rfl⟩
    · exact ⟨_, _, rfl⟩
  · exact ⟨_, _, rfl⟩
theorem judgeAns_ex (b : Bx) (ls : List Rd) : ∃ n e : Int, judgeAns b ls = .tuple #[.int .i64 n, .int .i64 e] := by
  unfold judgeAns
  split <;> exact ⟨_, _, rfl⟩

theorem reads14x (w : World) (b : Bx) (a : Option Addr) (c : Nat) (hB : RowsA kdRow 3 0 w a b.kinds) (ah : Option Addr) (ch : Nat) (has : List Int) (hh : RowsA iRow 1 0 w ah has) (t : Te) {s : Sp} {e : Int} (hs : readAns b has t = .tuple #[.agg (spRow s).toArray, .int .i64 e]) : Calls Try.prog 14 #[.agg (bxRow b a c).toArray, .slice ah has.length ch, .agg (teRow t).toArray] w fun e' w' => e' = .returned (.tuple #[.agg (spRow s).toArray, .int .i64 e]) ∧ Below w.heap.size w w' := by
  rw [← hs]; exact reads14 w b a c hB ah ch has hh t
theorem reads15x (w : World) (b : Bx) (a : Option Addr) (c : Nat) (hB : RowsA kdRow 3 0 w a b.kinds) (ah : Option Addr) (ch : Nat) (has : List Int) (hh : RowsA iRow 1 0 w ah has) (t : Te) {s : Sp} {e : Int} (hs : readAns b has t = .tuple #[.agg (spRow s).toArray, .int .i64 e]) : Calls Try.prog 15 #[.agg (bxRow b a c).toArray, .slice ah has.length ch, .agg (teRow t).toArray] w fun e' w' => e' = .returned (.tuple #[.agg (spRow s).toArray, .int .i64 e]) ∧ Below w.heap.size w w' := by
  rw [← hs]; exact reads15 w b a c hB ah ch has hh t
theorem judge16x (w : World) (b : Bx) (a : Option Addr) (c : Nat) (hB : RowsA kdRow 3 0 w a b.kinds) (al : Option Addr) (cl : Nat) (ls : List Rd) (hl : RowsA rdRow 8 0 w al ls) {n e : Int} (hj : judgeAns b ls = .tuple #[.int .i64 n, .int .i64 e]) : Calls Try.prog 16 #[.agg (bxRow b a c).toArray, .slice al ls.length cl] w fun e' w' => e' = .returned (.tuple #[.int .i64 n, .int .i64 e]) ∧ Below w.heap.size w w' := by
  rw [← hj]; exact judge16 w b a c hB al cl ls hl
theorem reads3 (w : World) (b : Bx) (a : Option Addr) (c : Nat) (hB : RowsA kdRow 3 0 w a b.kinds) (ah : Option Addr) (ch : Nat) (has : List Int) (hh : RowsA iRow 1 0 w ah has) (t : Te) (al : Option Addr) (cl : Nat) (ls : List Rd) (hl : RowsA rdRow 8 0 w al ls) : Calls Try.prog 3 #[.agg (bxRow b a c).toArray, .slice ah has.length ch, .agg (teRow t).toArray, .slice al ls.length cl] w fun e w' => e = .returned (.bool true) ∧ Below w.heap.size w w' := by
  obtain ⟨s, er, hs⟩ := readAns_ex b has t
  obtain ⟨n, ej, hj⟩ := judgeAns_ex b ls
  refine calls_of_SC (args := [.agg (bxRow b a c).toArray, .slice ah has.length ch, .agg (teRow t).toArray, .slice al ls.length cl]) Try.func3 rfl Try.ntmps3 rfl ?_
  simp only [argL, Nat.reduceAdd, Nat.zero_add]
  refine sc_seq ?_
  refine sc_region ?_
  refine sq_box RF rfl (fun b4 => ?_)
  refine sq_box RF rfl (fun b6 => ?_)
  refine qs (y_assign RF) ?_
  refine sq_nil ?_
  refine sx_then ?_
  refine sc_seq ?_
  refine sc_seq ?_
  refine sc_region ?_
  refine qs LD26 ?_
  refine qs (y_move RF) ?_
  refine qy (yc Try.call12 E4 (fun w1 hw1 => great12 w1 b a c (hB.at hw1 MM) 3 al cl ls.length none 0 0)) ?_
  refine qs (y_move RF) ?_
  refine spb 24 (fun hg1_3 => ?_) (fun hg1_3 => ?_)
  ·
    refine qf ?_
    refine qf ?_
    refine qf ?_
    refine qs (y_pick_t RF RF) ?_
    refine sq_nil ?_
    refine sx_then ?_
    refine sc_t RF ?_
    refine sc_seq ?_
    refine sc_region ?_
    refine qy (yc Try.call13 E0 (fun w1 _ => alive13 w1)) ?_
    refine qs (y_assign RF) ?_
    refine sq_nil ?_
    refine sx_then ?_
    refine sc_ret ?_
    refine sx_then_ret ?_
    refine sx_ret1 (.inl rfl) rfl Try.results3 RF ?_
    intro w' hw'
    exact ⟨rfl, hw'.below MM⟩
  ·
    refine qg (y_move RF) ?_
    refine qg (y_len Try.underlying27 RF) ?_
    refine qg (y_gtr RF RF) ?_
    refine qs (y_pick_f RF RF) ?_
    refine sq_nil ?_
    refine sx_then ?_
    refine scp (fun hc0 => ?_) (fun hc0 => ?_)
    ·
      refine sc_seq ?_
      refine sc_region ?_
      refine qy (yc Try.call13 E0 (fun w1 _ => alive13 w1)) ?_
      refine qs (y_assign RF) ?_
      refine sq_nil ?_
      refine sx_then ?_
      refine sc_ret ?_
      refine sx_then_ret ?_
      refine sx_ret1 (.inl rfl) rfl Try.results3 RF ?_
      intro w' hw'
      exact ⟨rfl, hw'.below MM⟩
    ·
      refine sc_skip ?_
      refine sx_then ?_
      refine sc_seq ?_
      refine sc_region ?_
      refine qs LD26 ?_
      refine qs (y_move RF) ?_
      refine qs LD29 ?_
      refine qy (yc Try.call14 E3 (fun w1 hw1 => reads14x w1 b a c (hB.at hw1 MM) ah ch has (hh.at hw1 MM) t hs)) ?_
      refine qs (y_move RF) ?_
      refine qs (y_extract RF RF) ?_
      refine qs (y_extract RF RF) ?_
      refine sq_alloc Try.zeroValue24 rfl (fun b9 => ?_)
      refine sq_store_all Try.sizeOf24 RF RF rfl RM rfl rfl ?_
      refine qs (y_assign RF) ?_
      refine sq_nil ?_
      refine sx_then ?_
      refine sc_seq ?_
      refine sc_region ?_
      refine qs LD26 ?_
      refine qs (y_move RF) ?_
      refine qs LD29 ?_
      refine qy (yc Try.call15 E3 (fun w1 hw1 => reads15x w1 b a c (hB.at hw1 MM) ah ch has (hh.at hw1 MM) t hs)) ?_
      refine qs (y_move RF) ?_
      refine qs (y_extract RF RF) ?_
      refine qs (y_extract RF RF) ?_
      refine sq_alloc Try.zeroValue24 rfl (fun b11 => ?_)
      refine sq_store_all Try.sizeOf24 RF RF rfl RM rfl rfl ?_
      refine qs (y_assign RF) ?_
      refine sq_nil ?_
      refine sx_then ?_
      refine sc_seq ?_
      refine sc_region ?_
      refine qs LD26 ?_
      refine qs (y_move RF) ?_
      refine qy (yc Try.call16 E2 (fun w1 hw1 => judge16x w1 b a c (hB.at hw1 MM) al cl ls (hl.at hw1 MM) hj)) ?_
      refine qs (y_move RF) ?_
      refine qs (y_extract RF RF) ?_
      refine qs (y_extract RF RF) ?_
      refine qs (y_assign RF) ?_
      refine qs (y_assign RF) ?_
      refine sq_nil ?_
      refine sx_then ?_
      refine sc_seq ?_
      refine sc_region ?_
      refine qs LD26 ?_
      refine qs (y_move RF) ?_
      refine qy (yc Try.call17 E2 (fun w1 hw1 => judge17x w1 b a c (hB.at hw1 MM) al cl ls (hl.at hw1 MM) hj)) ?_
      refine qs (y_move RF) ?_
      refine qs (y_extract RF RF) ?_
      refine qs (y_extract RF RF) ?_
      refine qs (y_assign RF) ?_
      refine qs (y_assign RF) ?_
      refine sq_nil ?_
      refine sx_then ?_
      refine sc_seq ?_
      refine sc_region ?_
      refine qs LD26 ?_
      refine qs (y_move RF) ?_
      refine sq_call_new (first := []) (caps := []) (Z := Option Addr × Nat) (fun z => .tuple #[.slice z.1 (leftR b ls).length z.2, .int .i64 (openE b ls [])]) (fun lo w' z => RowsA spRow 2 lo w' z.1 (leftR b ls)) RF Try.call18 (EvL.cons RF (EvL.cons RF EvL.nil)) (fun w1 hw1 => left18s w1 b a c (hB.at hw1 MM) al cl ls (hl.at hw1 MM)) rfl (fun lo1 wr1 zl1 hl1 => ?_)
      refine qs (y_move RF) ?_
      refine qs (y_extract RF RF) ?_
      refine qs (y_extract RF RF) ?_
      refine qs (y_assign RF) ?_
      refine qs (y_assign RF) ?_
      refine sq_nil ?_
      refine sx_then ?_
      refine sc_seq ?_
      refine sc_region ?_
      refine qs LD26 ?_
      refine qs (y_move RF) ?_
      refine sq_call_new (first := []) (caps := []) (Z := Option Addr × Nat) (fun z => .tuple #[.slice z.1 (leftR b ls).length z.2, .int .i64 (openE b ls [])]) (fun lo w' z => RowsA spRow 2 lo w' z.1 (leftR b ls)) RF Try.call19 (EvL.cons RF (EvL.cons RF EvL.nil)) (fun w1 hw1 => left19s w1 b a c (hB.at hw1 MM) al cl ls (hl.at hw1 MM)) rfl (fun lo2 wr2 zl2 hl2 => ?_)
      refine qs (y_move RF) ?_
      refine qs (y_extract RF RF) ?_
      refine qs (y_extract RF RF) ?_
      refine qs (y_assign RF) ?_
      refine qs (y_assign RF) ?_
      refine sq_nil ?_
      refine sx_then ?_
      refine sc_seq ?_
      refine sc_region ?_
      refine qs LD24 ?_
      refine qs LD24 ?_
      refine qs (y_eqls (by kernel_rfl) RF RF (eql24 _ _ _ _)) ?_
      refine qs (y_move RF) ?_
      refine sq_known (tt := 71) (b' := true) RF (by simp) ?_
      refine qg (y_move RF) ?_
      refine qg (y_move RF) ?_
      refine qg (y_eql RF RF) ?_
      refine qs (y_pick_t RF RF) ?_
      refine qs (y_move RF) ?_
      refine sq_known (tt := 76) (b' := true) RF (by simp) ?_
      refine qg (y_move RF) ?_
      refine qg (y_move RF) ?_
      refine qg (y_eql RF RF) ?_
      refine qs (y_pick_t RF RF) ?_
      refine qs (y_move RF) ?_
      refine sq_known (tt := 81) (b' := true) RF (by simp) ?_
      refine qg (y_move RF) ?_
      refine qg (y_move RF) ?_
      refine qg (y_eql RF RF) ?_
      refine qs (y_pick_t RF RF) ?_
      refine qs (y_move RF) ?_
      refine sq_known (tt := 86) (b' := true) RF (by simp) ?_
      refine qg (y_move RF) ?_
      refine qg (y_move RF) ?_
      refine sq_gt RF RF (y_call (first := []) (caps := []) RF Try.call20 (EvL.cons RF (EvL.cons RF EvL.nil)) (fun w1 hw1 => spans20 w1 zl1.1 zl2.1 zl1.2 zl2.2 _ _ (hl1.at hw1 MM) (hl2.at hw1 MM))) rfl ?_
      refine qs (y_pick_t RF RF) ?_
      refine qs (y_move RF) ?_
      refine sq_known (tt := 91) (b' := true) RF (by simp) ?_
      refine qg (y_move RF) ?_
      refine qg (y_move RF) ?_
      refine qg (y_eql RF RF) ?_
      refine qs (y_pick_t RF RF) ?_
      refine qs (y_move RF) ?_
      refine sq_known (tt := 96) (b' := true) RF (by simp) ?_
      refine sq_gt RF RF (y_call (first := []) (caps := []) RF Try.call13 EvL.nil (fun w1 _ => alive13 w1)) rfl ?_
      refine qs (y_pick_t RF RF) ?_
      refine qs (y_assign RF) ?_
      refine sq_nil ?_
      refine sx_then ?_
      refine sc_ret ?_
      refine sx_ret1 (.inl rfl) rfl Try.results3 RF ?_
      intro w' hw'
      exact ⟨rfl, hw'.below MM⟩
end Go.Proofs.Ytofjipmheckmjaa
