/- The walk of the law RingGives. -/
import Derived.Test.YtpijahglojichaaDoorWalk16
namespace Go.Proofs.YtpijahglojichaaDoor
open Go Go.Eng Go.RowKit Go.Proofs
set_option maxRecDepth 100000

theorem gives3 (w : World) (z : MA) (m : Mt) (hz : MtA 0 w z m) (hT : TabAt w) (a : Option Addr) (c : Nat) (o : List Int) (ho : RowsA iRow 1 0 w a o) (ap : Option Addr) (cp : Nat) (p : List Int) (hp : RowsA iRow 1 0 w ap p) : Calls Tryd.prog 3 #[.agg (mV z m).toArray, .slice a o.length c, .slice ap p.length cp] w fun e w' => e = .returned (.bool true) ∧ Below w.heap.size w w' := by
  refine calls_of_SC (args := [.agg (mV z m).toArray, .slice a o.length c, .slice ap p.length cp]) Tryd.func3 rfl Tryd.ntmps3 rfl ?_
  simp only [argL, Nat.reduceAdd, Nat.zero_add]
  refine sc_seq ?_
  refine sc_region ?_
  refine sq_box RF rfl (fun b3 => ?_)
  refine qs (y_assign RF) ?_
  refine sq_nil ?_
  refine sx_then ?_
  refine sc_seq ?_
  refine sc_seq ?_
  refine sc_region ?_
  refine qs LD24 ?_
  refine qy (yc Tryd.call14 E1 (fun w1 hw1 => far14 w1 z m (hz.at hw1 MM))) ?_
  refine qs (y_move RF) ?_
  refine sp 25 (fun hg1_2 => ?_) (fun hg1_2 => ?_)
  ·
    refine qf ?_
    refine qf ?_
    refine qf ?_
    refine qs (y_pick_t RF RF) ?_
    refine qs (y_move RF) ?_
    refine qf ?_
    refine qf ?_
    refine qf ?_
    refine qs (y_pick_t RF RF) ?_
    refine sq_nil ?_
    refine sx_then ?_
    refine sc_t RF ?_
    refine sc_seq ?_
    refine sc_region ?_
    refine qy (yc Tryd.call15 E0 (fun w1 hw1 => awake15 w1 (CA.at hT hw1 MM))) ?_
    refine qs (y_assign RF) ?_
    refine sq_nil ?_
    refine sx_then ?_
    refine sc_ret ?_
    refine sx_then_ret ?_
    refine sx_ret1 (.inl rfl) rfl Tryd.results3 RF ?_
    intro w' hw'
    exact ⟨rfl, hw'.below MM⟩
  ·
    refine qg (y_move RF) ?_
    refine qg (y_len Tryd.underlying25 RF) ?_
    refine qg (y_gtr RF RF) ?_
    refine qs (y_pick_f RF RF) ?_
    refine qs (y_move RF) ?_
    refine sp 30 (fun hg1_7 => ?_) (fun hg1_7 => ?_)
    ·
      refine qf ?_
      refine qf ?_
      refine qf ?_
      refine qs (y_pick_t RF RF) ?_
      refine sq_nil ?_
      refine sx_then ?_
      refine sc_t RF ?_
      refine sc_seq ?_
      refine sc_region ?_
      refine qy (yc Tryd.call15 E0 (fun w1 hw1 => awake15 w1 (CA.at hT hw1 MM))) ?_
      refine qs (y_assign RF) ?_
      refine sq_nil ?_
      refine sx_then ?_
      refine sc_ret ?_
      refine sx_then_ret ?_
      refine sx_ret1 (.inl rfl) rfl Tryd.results3 RF ?_
      intro w' hw'
      exact ⟨rfl, hw'.below MM⟩
    ·
      refine qg (y_move RF) ?_
      refine qg (y_len Tryd.underlying25 RF) ?_
      refine qg (y_gtr RF RF) ?_
      refine qs (y_pick_f RF RF) ?_
      refine sq_nil ?_
      refine sx_then ?_
      refine scp (fun hc0 => ?_) (fun hc0 => ?_)
      ·
        refine sc_seq ?_
        refine sc_region ?_
        refine qy (yc Tryd.call15 E0 (fun w1 hw1 => awake15 w1 (CA.at hT hw1 MM))) ?_
        refine qs (y_assign RF) ?_
        refine sq_nil ?_
        refine sx_then ?_
        refine sc_ret ?_
        refine sx_then_ret ?_
        refine sx_ret1 (.inl rfl) rfl Tryd.results3 RF ?_
        intro w' hw'
        exact ⟨rfl, hw'.below MM⟩
      ·
        refine sc_skip ?_
        refine sx_then ?_
        refine sc_seq ?_
        have ho12 : o.length ≤ 12 := by omega
        refine sc_region ?_
        refine qs LD24 ?_
        refine qs (y_move RF) ?_
        refine qy (yc Tryd.call16 E2 (fun w1 hw1 => Gives16 w1 z m (hz.at hw1 MM) a c o (ho.at hw1 MM) (by omega))) ?_
        refine qs (y_move RF) ?_
        refine qs (y_extract RF RF) ?_
        refine qs (y_extract RF RF) ?_
        refine qs (y_extract RF RF) ?_
        refine qs (y_assign RF) ?_
        refine qs (y_assign RF) ?_
        refine qs (y_assign RF) ?_
        refine sq_nil ?_
        refine sx_then ?_
        refine sc_seq ?_
        refine sc_region ?_
        refine qs LD24 ?_
        refine qs (y_move RF) ?_
        refine qy (yc Tryd.call17 E2 (fun w1 hw1 => Gives17 w1 z m (hz.at hw1 MM) a c o (ho.at hw1 MM) (by omega))) ?_
        refine qs (y_move RF) ?_
        refine qs (y_extract RF RF) ?_
        refine qs (y_extract RF RF) ?_
        refine qs (y_extract RF RF) ?_
        refine qs (y_assign RF) ?_
        refine qs (y_assign RF) ?_
        refine qs (y_assign RF) ?_
        refine sq_nil ?_
        refine sx_then ?_
        refine sc_seq ?_
        refine sc_region ?_
        refine qs (y_move RF) ?_
        refine sq_call_new (first := []) (caps := []) (Z := (Option Addr × Nat) × (Nat → Option Addr) × (Nat → Nat)) (fun q => .tuple #[.slice q.1.1 (ringsR o).1.length q.1.2, .int .i64 (ringsR o).2]) (fun lo w' q => LsA lo w' q.1.1 q.2.1 q.2.2 (ringsR o).1) RF Tryd.call18 (EvL.cons RF EvL.nil) (fun w1 hw1 => Rings18 w1 a c o (ho.at hw1 MM) (by omega)) rfl (fun lo5 wr5 q5 hq5 => ?_)
        refine qs (y_move RF) ?_
        refine qs (y_extract RF RF) ?_
        refine qs (y_extract RF RF) ?_
        refine qs (y_assign RF) ?_
        refine qs (y_assign RF) ?_
        refine sq_nil ?_
        refine sx_then ?_
        refine sc_seq ?_
        refine sc_region ?_
        refine qs (y_move RF) ?_
        refine sq_call_new (first := []) (caps := []) (Z := (Option Addr × Nat) × (Nat → Option Addr) × (Nat → Nat)) (fun q => .tuple #[.slice q.1.1 (ringsR o).1.length q.1.2, .int .i64 (ringsR o).2]) (fun lo w' q => LsA lo w' q.1.1 q.2.1 q.2.2 (ringsR o).1) RF Tryd.call19 (EvL.cons RF EvL.nil) (fun w1 hw1 => Rings19 w1 a c o (ho.at hw1 MM)) rfl (fun lo6 wr6 q6 hq6 => ?_)
        refine qs (y_move RF) ?_
        refine qs (y_extract RF RF) ?_
        refine qs (y_extract RF RF) ?_
        refine qs (y_assign RF) ?_
        refine qs (y_assign RF) ?_
        refine sq_nil ?_
        refine sx_then ?_
        refine sc_seq ?_
        refine sc_region ?_
        refine qs LD24 ?_
        refine qs (y_move RF) ?_
        refine qs (y_move RF) ?_
        refine qy (yc Tryd.call20 E3 (fun w1 hw1 => Envies20 w1 z m (hz.at hw1 MM) a c o (ho.at hw1 MM) (by omega) ap cp p (hp.at hw1 MM))) ?_
        refine qs (y_move RF) ?_
        refine qs (y_extract RF RF) ?_
        refine qs (y_extract RF RF) ?_
        refine qs (y_extract RF RF) ?_
        refine qs (y_assign RF) ?_
        refine qs (y_assign RF) ?_
        refine qs (y_assign RF) ?_
        refine sq_nil ?_
        refine sx_then ?_
        refine sc_seq ?_
        refine sc_region ?_
        refine qs LD24 ?_
        refine qs (y_move RF) ?_
        refine qs (y_move RF) ?_
        refine qy (yc Tryd.call21 E3 (fun w1 hw1 => Envies21 w1 z m (hz.at hw1 MM) a c o (ho.at hw1 MM) (by omega) ap cp p (hp.at hw1 MM))) ?_
        refine qs (y_move RF) ?_
        refine qs (y_extract RF RF) ?_
        refine qs (y_extract RF RF) ?_
        refine qs (y_extract RF RF) ?_
        refine qs (y_assign RF) ?_
        refine qs (y_assign RF) ?_
        refine qs (y_assign RF) ?_
        refine sq_nil ?_
        refine sx_then ?_
        refine sc_seq ?_
        refine sc_region ?_
        refine qs (y_move RF) ?_
        refine qs (y_move RF) ?_
        refine qs (y_eql RF RF) ?_
        refine qs (y_move RF) ?_
        refine sq_known (tt := 79) (b' := true) RF (by simp) ?_
        refine qg (y_move RF) ?_
        refine qg (y_move RF) ?_
        refine qg (y_eql RF RF) ?_
        refine qs (y_pick_t RF RF) ?_
        refine qs (y_move RF) ?_
        refine sq_known (tt := 84) (b' := true) RF (by simp) ?_
        refine qg (y_move RF) ?_
        refine qg (y_move RF) ?_
        refine qg (y_eql RF RF) ?_
        refine qs (y_pick_t RF RF) ?_
        refine qs (y_move RF) ?_
        refine sq_known (tt := 89) (b' := true) RF (by simp) ?_
        refine qg (y_move RF) ?_
        refine qg (y_move RF) ?_
        refine sq_gt RF RF (y_call (first := []) (caps := []) RF Tryd.call22 (EvL.cons RF (EvL.cons RF EvL.nil)) (fun w1 hw1 => lists22 w1 q5.1.1 q6.1.1 q5.1.2 q6.1.2 q5.2.1 q6.2.1 q5.2.2 q6.2.2 _ _ (hq5.at hw1 MM) (hq6.at hw1 MM))) rfl ?_
        refine qs (y_pick_t RF RF) ?_
        refine qs (y_move RF) ?_
        refine sq_known (tt := 94) (b' := true) RF (by simp) ?_
        refine qg (y_move RF) ?_
        refine qg (y_move RF) ?_
        refine qg (y_eql RF RF) ?_
        refine qs (y_pick_t RF RF) ?_
        refine qs (y_move RF) ?_
        refine sq_known (tt := 99) (b' := true) RF (by simp) ?_
        refine qg (y_move RF) ?_
        refine qg (y_move RF) ?_
        refine qg (y_eql RF RF) ?_
        refine qs (y_pick_t RF RF) ?_
        refine qs (y_move RF) ?_
        refine sq_known (tt := 104) (b' := true) RF (by simp) ?_
        refine qg (y_move RF) ?_
        refine qg (y_move RF) ?_
        refine qg (y_eql RF RF) ?_
        refine qs (y_pick_t RF RF) ?_
        refine qs (y_move RF) ?_
        refine sq_known (tt := 109) (b' := true) RF (by simp) ?_
        refine qg (y_move RF) ?_
        refine qg (y_move RF) ?_
        refine qg (y_eql RF RF) ?_
        refine qs (y_pick_t RF RF) ?_
        refine qs (y_move RF) ?_
        refine sq_known (tt := 114) (b' := true) RF (by simp) ?_
        refine sq_gt RF RF (y_call (first := []) (caps := []) RF Tryd.call15 EvL.nil (fun w1 hw1 => awake15 w1 (CA.at hT hw1 MM))) rfl ?_
        refine qs (y_pick_t RF RF) ?_
        refine qs (y_assign RF) ?_
        refine sq_nil ?_
        refine sx_then ?_
        refine sc_ret ?_
        refine sx_ret1 (.inl rfl) rfl Tryd.results3 RF ?_
        intro w' hw'
        exact ⟨rfl, hw'.below MM⟩
end Go.Proofs.YtpijahglojichaaDoor
