/- The walks of Best, and of Clone. -/
import Derived.Test.YtpijahglojichaaDoorWalk7
namespace Go.Eng
open Go Go.RowKit
section
variable {X : Ctx} {Q : Post} {L : List (Nat × Value)} {rs : List Res}
theorem sc_set0 {c : Code} (h : ∀ w, SC X c Q L (.set (fun _ => False) w :: rs)) : SC X c Q L rs := fun a w ha hw => h w a w ha hw.empty
end
theorem RowsS.new {α : Type} {row : α → List Value} {sz : Nat} {w0 w wr : World} {rs : List Res} {D : Nat → Prop} {a : Option Addr} {l : List α} (h : RowsS row sz D wr a l) (hne : ∀ x, row x ≠ []) (hw : Hp w0 rs w) (hm : Res.set D wr ∈ rs) (hr : Res.reg 0 w0 ∈ rs) : RowsA row sz w0.heap.size w a l := by
  refine ⟨fun i x hi => ⟨(h.el i x hi).1, ?_, ((h.el i x hi).2.at hw hm).2⟩, h.len⟩
  have hap := pairwise_mem apart_sym hw.apart hm hr (by simp)
  obtain ⟨v, hv⟩ : ∃ v, (row x)[0]? = some v := by
    cases hx : row x with
    | nil => exact absurd hx (hne x)
    | cons v l => exact ⟨v, rfl⟩
  have hD := ((h.el i x hi).2 0 v hv).1
  rcases Nat.lt_or_ge (elt a i sz).block w0.heap.size with hlt | hge
  · exact absurd ⟨Nat.zero_le _, hlt⟩ (hap _ hD)
  · exact hge
end Go.Eng
namespace Go.Proofs.YtpijahglojichaaDoor
open Go Go.Eng Go.RowKit Go.Proofs
set_option maxRecDepth 100000
theorem bestAll (w0 : World) (z : MA) (m : Mt) (hz : MtA 0 w0 z m) (hm : MkF m) (hT : TabAt w0) (bm c1 c3 c4 c5 : Nat) : ∀ r p, p + r = m.length → BestAt w0 z m bm c1 c3 c4 c5 p
  | 0, p, h => best80 w0 z m hz hm hT bm c1 c3 c4 c5 p (by omega) (fun hp => absurd hp (by omega))
  | r + 1, p, h => best80 w0 z m hz hm hT bm c1 c3 c4 c5 p (by omega) (fun _ => bestAll w0 z m hz hm hT bm c1 c3 c4 c5 r (p + 1) (by omega))
theorem memL_full : ∀ n, n ≤ 7 → memL (pw2 n - 1) = List.range n ∧ pw2 n - 1 < 128 := by decide +kernel
/-- all persons -/
def bestM (m : Mt) : Td := bestT m 0 (pw2 m.length - 1)
theorem rowsA_keep {α : Type} {row : α → List Value} {sz lo lo' : Nat} {w0 w wr : World} {rs : List Res} {a : Option Addr} {l : List α} (h : RowsA row sz lo wr a l) (hw : Hp w0 rs w) (hm : Res.reg lo wr ∈ rs) (hl : lo' ≤ lo) : RowsA row sz lo' w a l := ⟨fun i x hi => ⟨(h.el i x hi).1, ((h.el i x hi).2.keep hw hm).low hl⟩, h.len⟩
theorem iRow_ne (x : Int) : iRow x ≠ [] := by unfold iRow; simp

theorem clone53 (w : World) (a : Option Addr) (c : Nat) (l : List Int) (hl : RowsA iRow 1 0 w a l) (hb : l.length ≤ 100000) : Calls Tryd.prog 53 #[.slice a l.length c] w fun e w' => ∃ y : Option Addr × Nat, e = .returned (.slice y.1 l.length y.2) ∧ Below w.heap.size w w' ∧ RowsA iRow 1 w.heap.size w' y.1 l := by
  refine calls_of_SC (args := [.slice a l.length c]) Tryd.func53 rfl Tryd.ntmps53 rfl ?_
  simp only [argL]
  refine sc_seq ?_
  refine sc_region ?_
  refine qs (y_assign RF) ?_
  refine sq_nil ?_
  refine sx_then ?_
  refine sc_seq ?_
  refine sc_seq ?_
  refine sc_region ?_
  refine qs (y_move RF) ?_
  refine qs (y_eqlnilA Tryd.underlying25 RF RF) ?_
  refine sq_nil ?_
  refine sx_then ?_
  refine scp (fun hc0 => ?_) (fun hc0 => ?_)
  ·
    have han : a = none := by cases a with | none => rfl | some ad => cases hc0
    have hl0 : l = [] := List.eq_nil_of_length_eq_zero (hl.noa han)
    subst hl0
    refine sc_seq ?_
    refine sc_region ?_
    refine qs (y_assign RF) ?_
    refine sq_nil ?_
    refine sx_then ?_
    refine sc_ret ?_
    refine sx_then_ret ?_
    refine sx_ret1 (.inl rfl) rfl Tryd.results53 RF ?_
    intro w' hw'
    exact ⟨(none, 0), rfl, hw'.below MM, RowsA.nil _ _⟩
  ·
    refine sc_skip ?_
    refine sx_then ?_
    refine sc_seq ?_
    refine sc_region ?_
    refine sq_bs Tryd.underlying25 ei3 (EvI.nil) (by simp) rfl rfl rfl (fun b5 => ?_)
    refine sq_blk_own0 (sz := 1) (c := 0) RM rfl (Nat.zero_le _) ?_
    refine qs (y_move RF) ?_
    refine sq_append_rows (news := l.flatMap iRow) Tryd.underlying25 ei3 Tryd.sizeOf3 rfl (by decide) RF RM RF hl.noa (by rw [iflat_len, Nat.mul_one]) (fun ad had w1 hw1 => RowsA.cells (row := iRow) iRow_len (by decide) (by rw [← had]; exact hl.at hw1 MM)) (iflat_one _) (by omega) rfl (fun v7 ho7 => ?_)
    rw [Nat.zero_add l.length, List.nil_append]
    refine qs (y_assign RF) ?_
    refine sq_nil ?_
    refine sx_then ?_
    refine sc_ret ?_
    refine sx_ret1 (.inl rfl) rfl Tryd.results53 RF ?_
    intro w' hw'
    have ho := own_new_mem hw' (v := v7) (xs := l.flatMap iRow) MM MM
    obtain ⟨a2, c2, rfl, _, hr⟩ := own_rowsA (row := iRow) iRow_len ho rfl (by omega)
    exact ⟨(a2, c2), rfl, hw'.below MM, hr⟩
theorem best52 (w : World) (z : MA) (m : Mt) (hz : MtA 0 w z m) (hm : MkF m) (hT : TabAt w) : Calls Tryd.prog 52 #[.agg (mV z m).toArray] w fun e w' => ∃ y : Option Addr × Nat, e = .returned (.agg (tdV y (bestM m)).toArray) ∧ Below w.heap.size w w' ∧ RowsA iRow 1 w.heap.size w' y.1 (bestM m).gets := by
  have hn7 := hm.n7
  have hfl := memL_full m.length hn7
  have hlen := hz.len
  have hpw := pw2_le (show m.length ≤ 20 by omega)
  have hpp := pw2_pos m.length
  refine calls_of_SC (args := [.agg (mV z m).toArray]) Tryd.func52 rfl Tryd.ntmps52 rfl ?_
  simp only [argL]
  refine sc_seq ?_
  refine sc_region ?_
  refine sq_box RF rfl (fun b1 => ?_)
  refine sq_alloc Tryd.zeroValue85 rfl (fun b2 => ?_)
  refine sq_nil ?_
  refine sx_then ?_
  refine sc_seq ?_
  refine sc_region ?_
  refine qs FA75_24 ?_
  refine qs FA24_22 ?_
  refine qs LD22 ?_
  refine qs (y_len Tryd.underlying22 RF) ?_
  refine sq_alloc Tryd.zeroValue3 rfl (fun b3 => ?_)
  refine sq_store Tryd.sizeOf3 RF RF (by first | rfl | assumption) RM (by first | exact Nat.le_of_ble_eq_true rfl | simp | omega) ?_
  refine sq_nil ?_
  refine sx_then ?_
  refine sc_seq ?_
  refine sc_region ?_
  refine sq_makeMapK pk rfl (fun b10 => ?_)
  refine sq_alloc Tryd.zeroValue127 rfl (fun b4 => ?_)
  refine sq_store Tryd.sizeOf127 RF RF (by first | rfl | assumption) RM (by first | exact Nat.le_of_ble_eq_true rfl | simp | omega) ?_
  refine sq_nil ?_
  refine sx_then ?_
  refine sc_seq ?_
  refine sc_region ?_
  refine sq_alloc Tryd.zeroValue128 rfl (fun b5 => ?_)
  refine sq_nil ?_
  refine sx_then ?_
  refine sc_seq ?_
  refine sc_region ?_
  refine qs (y_makeFunc EvL.nil (EvL.cons RF (EvL.cons RF (EvL.cons RF (EvL.cons RF EvL.nil))))) ?_
  refine sq_store Tryd.sizeOf128 RF RF (by first | rfl | assumption) RM (by first | exact Nat.le_of_ble_eq_true rfl | simp | omega) ?_
  refine sq_nil ?_
  refine sx_then ?_
  refine sc_seq ?_
  refine sc_set0 (fun wS => ?_)
  refine sc_drawX ([.blk b3 (.cells [Value.int .i64 (m.length : Int)].toArray 3 (0, 0)), .blk b5 (.cells [.func (.func 80) #[] #[.pointer (some ⟨b3, 0, none⟩), .pointer (some ⟨b4, 0, none⟩), .pointer (some ⟨b1, 0, none⟩), .pointer (some ⟨b5, 0, none⟩)]].toArray 128 (0, 0))]) (by kernel_rfl) ?_
  refine xj_s 0 RF (by kernel_rfl) SR LD128 rfl ?_
  refine xj_s 1 RF (by kernel_rfl) SR LD3 rfl ?_
  refine xj_s 2 RF (by kernel_rfl) SR (y_shl RF RF (by omega) (by rw [pw2_shl]; omega)) rfl ?_
  rw [pw2_shl]
  refine xj_s 3 RF (by kernel_rfl) SR (y_sub RF RF (by omega)) rfl ?_
  rw [show ((pw2 m.length : Nat) : Int) - 1 = ((pw2 m.length - 1 : Nat) : Int) by omega]
  refine xj_s 4 RF (by kernel_rfl) SR (y_build (cells := (stV 0 (pw2 m.length - 1)).toArray) bt130 (EvP.cons RF (EvP.cons RF EvP.nil)) (by kernel_rfl)) rfl ?_
  refine xj_one 5 RF (by kernel_rfl) ?_
  refine sq_call_fr (first := []) (caps := [.pointer (some ⟨b3, 0, none⟩), .pointer (some ⟨b4, 0, none⟩), .pointer (some ⟨b1, 0, none⟩), .pointer (some ⟨b5, 0, none⟩)]) (vs := [.agg (stV 0 (pw2 m.length - 1)).toArray]) (rs1 := .blk b10 (kvM pk ([] : Mem)) :: .set (fun _ => False) wS :: .blk b1 (.cells (mV z m).toArray 75 (0, 0)) :: .blk b3 (.cells [Value.int .i64 (m.length : Int)].toArray 3 (0, 0)) :: .blk b4 (.cells [Value.map (some b10)].toArray 127 (0, 0)) :: .blk b5 (.cells [.func (.func 80) #[] #[.pointer (some ⟨b3, 0, none⟩), .pointer (some ⟨b4, 0, none⟩), .pointer (some ⟨b1, 0, none⟩), .pointer (some ⟨b5, 0, none⟩)]].toArray 128 (0, 0)) ::  .reg 0 w :: []) (Z := Lft) (fun q => .agg (tdV q.y (bestM m)).toArray) (fun q => .blk b10 (kvM pk q.l) :: .set q.D q.w :: .blk b1 (.cells (mV z m).toArray 75 (0, 0)) :: .blk b3 (.cells [Value.int .i64 (m.length : Int)].toArray 3 (0, 0)) :: .blk b4 (.cells [Value.map (some b10)].toArray 127 (0, 0)) :: .blk b5 (.cells [.func (.func 80) #[] #[.pointer (some ⟨b3, 0, none⟩), .pointer (some ⟨b4, 0, none⟩), .pointer (some ⟨b1, 0, none⟩), .pointer (some ⟨b5, 0, none⟩)]].toArray 128 (0, 0)) ::  .reg 0 w :: []) (fun q => LftOk m 0 (pw2 m.length - 1) [] (fun _ => False) wS q) RF Tryd.call80 E1 (by repeat (first | exact Rems.nil | apply Rems.cons (by repeat (first | exact Rem.here | apply Rem.there)))) (fun w1 hw1 => (bestAll w z m hz hm hT b10 b1 b3 b4 b5 m.length 0 (by omega) (pw2 m.length - 1) [] (fun _ => False) wS _ w1 hfl.2 (fun i hi => by rw [hfl.1] at hi; exact List.mem_range.1 hi) ⟨List.nodup_nil, fun _ _ h => by cases h⟩ hw1).mono (fun e w' h => h)) rfl (fun q hq => ?_)
  refine sq_nil ?_
  refine sx_xp SR ?_
  refine xj_one 6 RF (by kernel_rfl) ?_
  refine sq_store_all Tryd.sizeOf85 RF RF rfl RM rfl rfl ?_
  refine sq_nil ?_
  refine sx_xpl (by kernel_rfl) ?_
  refine xj_done (by kernel_rfl) ?_
  refine sx_then ?_
  refine sc_ret ?_
  refine sx_retc (.inl rfl) rfl Tryd.results52 Tryd.underlying85 rfl Tryd.sizeOf85 RF MM rfl ?_
  intro w' hw'
  exact ⟨q.y, rfl, hw'.below MM, hq.rows.new iRow_ne hw' MM MM⟩
/-- Best's answer -/
def bestA (m : Mt) : List Int × Int × Int := if mkB m = false then ([], 0, 1) else ((bestM m).gets, (bestM m).worth, 0)
theorem bestA_ok {m : Mt} (h : mkB m = true) : bestA m = ((bestM m).gets, (bestM m).worth, 0) := by unfold bestA; rw [if_neg (by simp [h])]
theorem bestA_no {m : Mt} (h : mkB m = false) : bestA m = ([], 0, 1) := if_pos h
theorem Best23 (w : World) (z : MA) (m : Mt) (hz : MtA 0 w z m) (hT : TabAt w) : Calls Tryd.prog 23 #[.agg (mV z m).toArray] w fun e w' => ∃ y : Option Addr × Nat, e = .returned (.tuple #[.slice y.1 (bestA m).1.length y.2, .int .i64 (bestA m).2.1, .int .i64 (bestA m).2.2]) ∧ Below w.heap.size w w' ∧ RowsA iRow 1 w.heap.size w' y.1 (bestA m).1 := by
  refine calls_of_SC (args := [.agg (mV z m).toArray]) Tryd.func23 rfl Tryd.ntmps23 rfl ?_
  simp only [argL]
  refine sc_seq ?_
  refine sc_region ?_
  refine sq_box RF rfl (fun b1 => ?_)
  refine qs (y_assign RF) ?_
  refine qs (y_assign RF) ?_
  refine qs (y_assign RF) ?_
  refine sq_nil ?_
  refine sx_then ?_
  refine sc_seq ?_
  refine sc_seq ?_
  refine sc_region ?_
  refine qs LD24 ?_
  refine qy (yc Tryd.call41 E1 (fun w1 hw1 => market41 w1 z m (hz.at hw1 MM))) ?_
  refine qs (y_not RF) ?_
  refine sq_nil ?_
  refine sx_then ?_
  refine scp (fun hc0 => ?_) (fun hc0 => ?_)
  ·
    refine sc_seq ?_
    refine sc_region ?_
    refine qs (y_assign RF) ?_
    refine qs (y_assign RF) ?_
    refine qs (y_assign RF) ?_
    refine sq_nil ?_
    refine sx_then ?_
    refine sc_ret ?_
    refine sx_then_ret ?_
    refine sx_ret3 (.inl rfl) rfl Tryd.results23 RF RF RF ?_
    intro w' hw'
    have hb : mkB m = false := by simpa using hc0
    rw [bestA_no hb]
    exact ⟨(none, 0), rfl, hw'.below MM, RowsA.nil _ _⟩
  ·
    refine sc_skip ?_
    refine sx_then ?_
    refine sc_seq ?_
    have hb : mkB m = true := by simpa using hc0
    have hm := mkF hb
    refine sc_region ?_
    refine qs LD24 ?_
    refine qs (y_build bt75 (EvP.cons RF EvP.nil) RF) ?_
    refine sq_call_new (first := []) (caps := []) (Z := Option Addr × Nat) (fun y => .agg (tdV y (bestM m)).toArray) (fun lo w' y => RowsA iRow 1 lo w' y.1 (bestM m).gets) RF Tryd.call52 (EvL.cons RF EvL.nil) (fun w1 hw1 => best52 w1 z m (hz.at hw1 MM) hm (CA.at hT hw1 MM)) rfl (fun lo wr y hy => ?_)
    refine sq_alloc Tryd.zeroValue85 rfl (fun b5 => ?_)
    refine sq_store_all Tryd.sizeOf85 RF RF rfl RM rfl rfl ?_
    refine sq_nil ?_
    refine sx_then ?_
    refine sc_seq ?_
    refine sc_drawR (by kernel_rfl) ?_
    refine xj_s 0 RF (by kernel_rfl) SR FA85_25 rfl ?_
    refine xj_s 1 RF (by kernel_rfl) SR LD25 rfl ?_
    refine xj_s 3 RF (by kernel_rfl) SR FA85_3 rfl ?_
    refine xj_s 4 RF (by kernel_rfl) SR LD3 rfl ?_
    refine xj_one 2 RF (by kernel_rfl) ?_
    refine sq_call_new (first := []) (caps := []) (Z := Option Addr × Nat) (fun q => .slice q.1 (bestM m).gets.length q.2) (fun lo w' q => w.heap.size ≤ lo ∧ RowsA iRow 1 lo w' q.1 (bestM m).gets) RF Tryd.call53 (EvL.cons RF EvL.nil) (fun w1 hw1 => (clone53 w1 y.1 y.2 _ (hy.at hw1 MM) (by have := (bestT_bd hm 0 (pw2 m.length - 1)).len; have := hm.n7; unfold bestM; omega)).mono (fun e w' ⟨q, h1, h2, h3⟩ => ⟨q, h1, h2, hw1.size, h3⟩)) rfl (fun lo2 wr2 y2 hy2 => ?_)
    refine sq_nil ?_
    refine sx_xp SR ?_
    refine xj_s 5 RF (by kernel_rfl) SR (y_assign RF) rfl ?_
    refine xj_s 6 RF (by kernel_rfl) SR (y_assign RF) rfl ?_
    refine xj_s 7 RF (by kernel_rfl) SR (y_assign RF) rfl ?_
    refine xj_done (by kernel_rfl) ?_
    refine sx_then ?_
    refine sc_ret ?_
    refine sx_ret3 (.inl rfl) rfl Tryd.results23 RF RF RF ?_
    intro w' hw'
    rw [bestA_ok hb]
    exact ⟨y2, rfl, hw'.below MM, rowsA_keep hy2.2 hw' MM hy2.1⟩
end Go.Proofs.YtpijahglojichaaDoor
