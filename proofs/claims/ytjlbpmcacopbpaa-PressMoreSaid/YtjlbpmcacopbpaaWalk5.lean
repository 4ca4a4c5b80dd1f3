/- The walks of the two machines. -/
import Derived.Test.YtjlbpmcacopbpaaWalk2
import Derived.Test.YtjlbpmcacopbpaaLawJ
namespace Go.Proofs.Ytjlbpmcacopbpaa
open Go Go.Eng Go.RowKit Go.Proofs
set_option maxRecDepth 100000
def smT (t : Tm) : Prop := (0 ≤ t.1 ∧ t.1 ≤ 1000) ∧ 0 ≤ t.2 ∧ t.2 ≤ 1000
def bigW (w : Tm) : Prop := (0 ≤ w.1 ∧ w.1 ≤ 1000000) ∧ 0 ≤ w.2 ∧ w.2 ≤ 1000000
def bigX (w : Tm) : Prop := (0 ≤ w.1 ∧ w.1 ≤ 2000000) ∧ 0 ≤ w.2 ∧ w.2 ≤ 2000000
/-- both machines, after so many of them have taken a job -/
def wkS (w t : Tm) : Nat → Tm
  | 0 => w
  | 1 => (w.1 + t.1, w.2)
  | _ => stepW w t

theorem print76 (w0 w2 : World) (rest : List Res) (bw : Nat) (w t : Tm) (hw : bigX w) (ht : smT t) (hp : Hp w0 (.blk bw (.cells [Value.int .i64 (w.1), .int .i64 (w.2)].toArray 98 (0, 0)) :: rest) w2) : Calls Try.prog 76 #[.pointer (some ⟨bw, 0, none⟩), .agg (tmRow t).toArray] w2 fun e w' => e = .returned (.tuple #[]) ∧ Hp w0 (.blk bw (.cells [Value.int .i64 (w.1 + t.1), .int .i64 (w.2)].toArray 98 (0, 0)) :: rest) w' := by
  have hw' := hw
  have ht' := ht
  first | unfold bigW at hw | unfold bigX at hw
  unfold smT at ht
  refine calls_of_SCr (hw := hp) (args := [.pointer (some ⟨bw, 0, none⟩), .agg (tmRow t).toArray]) Try.func76 rfl Try.ntmps76 rfl ?_
  simp only [argL, Nat.zero_add]
  refine sc_seq ?_
  refine sc_region ?_
  refine sq_box RF rfl (fun b3 => ?_)
  refine sq_nil ?_
  refine sx_then ?_
  refine sc_drawR (by kernel_rfl) ?_
  refine xj_s 0 RF (by kernel_rfl) SR (y_move RF) rfl ?_
  refine xj_s 1 RF (by kernel_rfl) SR (y_nilCheck RF) rfl ?_
  refine xj_s 2 RF (by kernel_rfl) SR (y_ia_arr Try.underlying98 Try.sizeOf3 RF (show _ = some (Value.int .i64 ((0 : Nat) : Int)) from rfl) (by omega)) rfl ?_
  refine xj_s 3 RF (by kernel_rfl) SR LD3 rfl ?_
  refine xj_s 4 RF (by kernel_rfl) SR FA92_3 rfl ?_
  refine xj_s 5 RF (by kernel_rfl) SR LD3 rfl ?_
  refine xj_s 6 RF (by kernel_rfl) SR (y_add RF RF (by omega)) rfl ?_
  refine xj_s 7 RF (by kernel_rfl) SR (y_nilCheck RF) rfl ?_
  refine xj_s 8 RF (by kernel_rfl) SR (y_ia_arr Try.underlying98 Try.sizeOf3 RF (show _ = some (Value.int .i64 ((0 : Nat) : Int)) from rfl) (by omega)) rfl ?_
  refine xj_one 9 RF (by kernel_rfl) ?_
  refine sq_store Try.sizeOf3 RF RF (by first | rfl | assumption) RM (by first | exact Nat.le_of_ble_eq_true rfl | simp | omega) ?_
  refine sq_nil ?_
  refine sx_xpl (by kernel_rfl) ?_
  refine xj_done (by kernel_rfl) ?_
  refine sx_ret0 (.inr rfl) rfl Try.results76 ?_
  intro w' hw'
  exact ⟨rfl, hw'.sel SR⟩
theorem lay77 (w0 w2 : World) (rest : List Res) (bw : Nat) (w t : Tm) (hw : bigX w) (ht : smT t) (hp : Hp w0 (.blk bw (.cells [Value.int .i64 (w.1), .int .i64 (w.2)].toArray 98 (0, 0)) :: rest) w2) : Calls Try.prog 77 #[.pointer (some ⟨bw, 0, none⟩), .agg (tmRow t).toArray] w2 fun e w' => e = .returned (.tuple #[]) ∧ Hp w0 (.blk bw (.cells [Value.int .i64 (w.1), .int .i64 (max w.1 w.2 + t.2)].toArray 98 (0, 0)) :: rest) w' := by
  have hw' := hw
  have ht' := ht
  first | unfold bigW at hw | unfold bigX at hw
  unfold smT at ht
  refine calls_of_SCr (hw := hp) (args := [.pointer (some ⟨bw, 0, none⟩), .agg (tmRow t).toArray]) Try.func77 rfl Try.ntmps77 rfl ?_
  simp only [argL, Nat.zero_add]
  refine sc_seq ?_
  refine sc_region ?_
  refine sq_box RF rfl (fun b3 => ?_)
  refine sq_nil ?_
  refine sx_then ?_
  refine sc_drawR (by kernel_rfl) ?_
  refine xj_s 0 RF (by kernel_rfl) SR (y_move RF) rfl ?_
  refine xj_s 1 RF (by kernel_rfl) SR (y_move RF) rfl ?_
  refine xj_s 2 RF (by kernel_rfl) SR (y_nilCheck RF) rfl ?_
  refine xj_s 3 RF (by kernel_rfl) SR (y_ia_arr Try.underlying98 Try.sizeOf3 RF (show _ = some (Value.int .i64 ((0 : Nat) : Int)) from rfl) (by omega)) rfl ?_
  refine xj_s 4 RF (by kernel_rfl) SR LD3 rfl ?_
  refine xj_s 5 RF (by kernel_rfl) SR (y_move RF) rfl ?_
  refine xj_s 6 RF (by kernel_rfl) SR (y_nilCheck RF) rfl ?_
  refine xj_s 7 RF (by kernel_rfl) SR (y_ia_arr Try.underlying98 Try.sizeOf3 RF (show _ = some (Value.int .i64 ((1 : Nat) : Int)) from rfl) (by omega)) rfl ?_
  refine xj_s 8 RF (by kernel_rfl) SR LD3 rfl ?_
  refine xj_s 11 RF (by kernel_rfl) SR FA92_3 rfl ?_
  refine xj_s 12 RF (by kernel_rfl) SR LD3 rfl ?_
  refine xj_s 14 RF (by kernel_rfl) SR (y_nilCheck RF) rfl ?_
  refine xj_one 9 RF (by kernel_rfl) ?_
  refine sq_bs Try.underlying35 ei3 (EvI.cons RF EvI.nil) (by first | (simp [Value.cells]; done) | (simp [Value.cells]; rfl) | (simp [Value.cells]; and_intros <;> rfl)) rfl rfl rfl (fun b13 => ?_)
  refine sq_nil ?_
  refine sx_xp SR ?_
  refine xj_one 10 RF (by kernel_rfl) ?_
  refine qy (yc Try.call62 E2 (fun w1 hw1 => greatest62 w1 w.1 _ _ [w.2] (lit_i hw1 MM))) ?_
  refine sq_nil ?_
  refine sx_xp SR ?_
  rw [gtV_one]
  refine xj_s 13 RF (by kernel_rfl) SR (y_add RF RF (by omega)) rfl ?_
  refine xj_s 15 RF (by kernel_rfl) SR (y_ia_arr Try.underlying98 Try.sizeOf3 RF (show _ = some (Value.int .i64 ((1 : Nat) : Int)) from rfl) (by omega)) rfl ?_
  refine xj_one 16 RF (by kernel_rfl) ?_
  refine sq_store Try.sizeOf3 RF RF (by first | rfl | assumption) RM (by first | exact Nat.le_of_ble_eq_true rfl | simp | omega) ?_
  refine sq_nil ?_
  refine sx_xpl (by kernel_rfl) ?_
  refine xj_done (by kernel_rfl) ?_
  refine sx_ret0 (.inr rfl) rfl Try.results77 ?_
  intro w' hw'
  exact ⟨rfl, hw'.sel SR⟩
theorem take65 (w0 w2 : World) (rest : List Res) (bw : Nat) (w t : Tm) (hw : bigW w) (ht : smT t) (hp : Hp w0 (.blk bw (.cells [Value.int .i64 (w.1), .int .i64 (w.2)].toArray 98 (0, 0)) :: rest) w2) : Calls Try.prog 65 #[.pointer (some ⟨bw, 0, none⟩), .agg (tmRow t).toArray] w2 fun e w' => e = .returned (.int .i64 (stepW w t).2) ∧ Hp w0 (.blk bw (.cells [Value.int .i64 ((stepW w t).1), .int .i64 ((stepW w t).2)].toArray 98 (0, 0)) :: rest) w' := by
  have hw' := hw
  have ht' := ht
  first | unfold bigW at hw | unfold bigX at hw
  unfold smT at ht
  refine calls_of_SCr (hw := hp) (args := [.pointer (some ⟨bw, 0, none⟩), .agg (tmRow t).toArray]) Try.func65 rfl Try.ntmps65 rfl ?_
  simp only [argL, Nat.zero_add]
  have hbw0 : bigX (wkS w t 0) := ⟨⟨hw.1.1, by show w.1 ≤ 2000000; omega⟩, hw.2.1, by show w.2 ≤ 2000000; omega⟩
  have hbw1 : bigX (wkS w t 1) := ⟨⟨by show 0 ≤ w.1 + t.1; omega, by show w.1 + t.1 ≤ 2000000; omega⟩, hw.2.1, by show w.2 ≤ 2000000; omega⟩
  refine sc_seq ?_
  refine sc_region ?_
  refine sq_box RF rfl (fun b3 => ?_)
  refine qs (y_assign RF) ?_
  refine sq_nil ?_
  refine sx_then ?_
  refine sc_seq ?_
  refine sc_seq ?_
  refine sc_region ?_
  refine qs (y_move RF) ?_
  refine qs (y_makeFunc (EvL.cons RF EvL.nil) EvL.nil) ?_
  refine qs (y_move RF) ?_
  refine qs (y_makeFunc (EvL.cons RF EvL.nil) EvL.nil) ?_
  refine qs (y_build_arr (cells := #[.func (.func 76) #[.pointer (some ⟨bw, 0, none⟩)] #[], .func (.func 77) #[.pointer (some ⟨bw, 0, none⟩)] #[]]) Try.underlying114 Try.zeroValue114 Try.sizeOf113 (EvP.cons RF (EvP.cons RF EvP.nil)) (by kernel_rfl)) ?_
  refine qs (y_move RF) ?_
  refine sq_nil ?_
  refine sx_then ?_
  refine sc_block ?_
  refine sc_loop (σ := Nat)
    (fun s => [(0, .pointer (some ⟨bw, 0, none⟩)), (3, .pointer (some ⟨b3, 0, none⟩)), (11, .agg #[.func (.func 76) #[.pointer (some ⟨bw, 0, none⟩)] #[], .func (.func 77) #[.pointer (some ⟨bw, 0, none⟩)] #[]]), (12, .int .i64 s)])
    (fun s => .blk b3 (.cells (tmRow t).toArray 92 (0, 0)) :: .blk bw (.cells [Value.int .i64 ((wkS w t s).1), .int .i64 ((wkS w t s).2)].toArray 98 (0, 0)) :: rest)
    (fun s => s ≤ 2)
    (fun s => 2 - s)
    (0) ?_ SU SR ?_
  · exact Nat.zero_le _
  rintro s hs
  rcases (show s = 0 ∨ s = 1 ∨ s = 2 by omega) with rfl | rfl | rfl
  ·
    refine sc_seq ?_
    refine sc_region ?_
    refine qs (y_lss RF RF) ?_
    refine sq_nil ?_
    refine sx_then ?_
    refine sc_seq ?_
    refine sc_t (lk_bool rfl (by decide)) ?_
    refine sc_skip ?_
    refine sx_then ?_
    refine sc_seq ?_
    refine sc_block ?_
    refine sc_seq ?_
    refine sc_region ?_
    refine qs (y_index Try.underlying114 Try.sizeOf113 Try.underlying113 rfl RF RF (by omega) RF) ?_
    refine qs (y_assign RF) ?_
    refine sq_nil ?_
    refine sx_then ?_
    refine sc_region ?_
    refine qs (y_move RF) ?_
    refine qs LD92 ?_
    refine sq_call_fr (first := [.pointer (some ⟨bw, 0, none⟩)]) (caps := []) (vs := [.agg (tmRow t).toArray]) (rs1 := [.blk bw (.cells [Value.int .i64 ((wkS w t 0).1), .int .i64 ((wkS w t 0).2)].toArray 98 (0, 0))]) (Z := Unit) (fun _ => .tuple #[]) (fun _ => [.blk bw (.cells [Value.int .i64 ((wkS w t 1).1), .int .i64 ((wkS w t 1).2)].toArray 98 (0, 0))]) (fun _ => True) RF Try.call76 E1 (by repeat (first | exact Rems.nil | apply Rems.cons (by repeat (first | exact Rem.here | apply Rem.there)))) (fun w1 hw1 => (print76 w0 w1 _ bw (wkS w t 0) t hbw0 ht' hw1).mono (fun e w' h => ⟨(), trivial, h.1, h.2⟩)) rfl (fun _ _ => ?_)
    refine sq_nil ?_
    refine sx_blk ?_
    refine sx_then ?_
    refine sc_region ?_
    refine qs (y_add RF RF (by omega)) ?_
    refine qs (y_move RF) ?_
    refine sq_nil ?_
    refine sx_round (1) ?_ ?_ SU SR
    · omega
    · omega
  ·
    refine sc_seq ?_
    refine sc_region ?_
    refine qs (y_lss RF RF) ?_
    refine sq_nil ?_
    refine sx_then ?_
    refine sc_seq ?_
    refine sc_t (lk_bool rfl (by decide)) ?_
    refine sc_skip ?_
    refine sx_then ?_
    refine sc_seq ?_
    refine sc_block ?_
    refine sc_seq ?_
    refine sc_region ?_
    refine qs (y_index Try.underlying114 Try.sizeOf113 Try.underlying113 rfl RF RF (by omega) RF) ?_
    refine qs (y_assign RF) ?_
    refine sq_nil ?_
    refine sx_then ?_
    refine sc_region ?_
    refine qs (y_move RF) ?_
    refine qs LD92 ?_
    refine sq_call_fr (first := [.pointer (some ⟨bw, 0, none⟩)]) (caps := []) (vs := [.agg (tmRow t).toArray]) (rs1 := [.blk bw (.cells [Value.int .i64 ((wkS w t 1).1), .int .i64 ((wkS w t 1).2)].toArray 98 (0, 0))]) (Z := Unit) (fun _ => .tuple #[]) (fun _ => [.blk bw (.cells [Value.int .i64 ((wkS w t 2).1), .int .i64 ((wkS w t 2).2)].toArray 98 (0, 0))]) (fun _ => True) RF Try.call77 E1 (by repeat (first | exact Rems.nil | apply Rems.cons (by repeat (first | exact Rem.here | apply Rem.there)))) (fun w1 hw1 => (lay77 w0 w1 _ bw (wkS w t 1) t hbw1 ht' hw1).mono (fun e w' h => ⟨(), trivial, h.1, h.2⟩)) rfl (fun _ _ => ?_)
    refine sq_nil ?_
    refine sx_blk ?_
    refine sx_then ?_
    refine sc_region ?_
    refine qs (y_add RF RF (by omega)) ?_
    refine qs (y_move RF) ?_
    refine sq_nil ?_
    refine sx_round (2) ?_ ?_ SU SR
    · omega
    · omega
  ·
    refine sc_seq ?_
    refine sc_region ?_
    refine qs (y_lss RF RF) ?_
    refine sq_nil ?_
    refine sx_then ?_
    refine sc_seq ?_
    refine sc_f (lk_bool rfl (by decide)) ?_
    refine sc_exit ?_
    refine sx_then_exit ?_
    refine sx_round_exit ?_
    refine sx_blk_hit ?_
    refine sx_then ?_
    refine sc_seq ?_
    refine sc_region ?_
    refine qs (y_move RF) ?_
    refine qs (y_nilCheck RF) ?_
    refine qs (y_ia_arr Try.underlying98 Try.sizeOf3 RF (show _ = some (Value.int .i64 ((1 : Nat) : Int)) from rfl) (by omega)) ?_
    refine qs LD3 ?_
    refine qs (y_assign RF) ?_
    refine sq_nil ?_
    refine sx_then ?_
    refine sc_ret ?_
    refine sx_ret1 (.inl rfl) rfl Try.results65 RF ?_
    intro w' hw'
    exact ⟨rfl, hw'.sel SR⟩
end Go.Proofs.Ytjlbpmcacopbpaa
