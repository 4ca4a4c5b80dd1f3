/- The walks of what a tab and a hole differ by. -/
import Derived.Test.YtfceajkofpafpaaFW1
namespace Go.Proofs.Ytfceajkofpafpaa
open Go Go.Eng Go.RowKit Go.Proofs
open Go.Proofs.Ytfceajkofpafpaa.Sc (iRow spRow sp0 Sp spB plusV getD_of get_of_lt any_range_get all_not_any all_getD)
set_option maxRecDepth 100000
def cpRow (p : Pl) (t h : Eg) : List Value := [.int .i64 p.len, .int .i64 p.slack, .int .i64 p.loose, .int .i64 p.damp.lo, .int .i64 p.damp.hi, .int .i64 t.kind, .int .i64 t.at_.lo, .int .i64 t.at_.hi, .int .i64 t.wd.lo, .int .i64 t.wd.hi, .int .i64 t.dp.lo, .int .i64 t.dp.hi, .int .i64 h.kind, .int .i64 h.at_.lo, .int .i64 h.at_.hi, .int .i64 h.wd.lo, .int .i64 h.wd.hi, .int .i64 h.dp.lo, .int .i64 h.dp.hi]
/-- a side that is a tab or a hole -/
structure Vg (e : Eg) : Prop where
  a : 0 ≤ e.at_.lo ∧ e.at_.lo ≤ e.at_.hi ∧ e.at_.hi ≤ 10000
  w : 1 ≤ e.wd.lo ∧ e.wd.lo ≤ e.wd.hi ∧ e.wd.hi ≤ 3000
  d : 1 ≤ e.dp.lo ∧ e.dp.lo ≤ e.dp.hi ∧ e.dp.hi ≤ 3000
theorem vg_of {e : Eg} (h : egB e = true) (hk : e.kind ≠ 0) : Vg e := by
  unfold egB spB at h
  rw [decide_eq_false hk, Bool.false_or] at h
  simp only [Bool.and_eq_true, decide_eq_true_eq] at h
  exact ⟨h.2.1.1, h.2.1.2, h.2.2⟩
structure Vp (p : Pl) : Prop where
  l : 1 ≤ p.len ∧ p.len ≤ 10000
  s : 0 ≤ p.slack ∧ p.slack ≤ 500
  o : 0 ≤ p.loose ∧ p.loose ≤ 500
  d : 0 ≤ p.damp.lo ∧ p.damp.lo ≤ p.damp.hi ∧ p.damp.hi ≤ 100
theorem vp_of {p : Pl} (h : plB p = true) : Vp p := by
  unfold plB spB at h
  simp only [Bool.and_eq_true, decide_eq_true_eq] at h
  exact ⟨h.1.1.1, h.1.1.2, h.1.2, h.2⟩
def lowD (i : Nat) (p : Pl) : Int := if i = 0 then -p.slack else 0
def highD (i : Nat) (p : Pl) : Int := if i = 0 then p.slack else p.loose
def byD (i : Nat) (p : Pl) (t h : Eg) : Sp := if i = 0 then offD p t h else if i = 1 then wideD t h else deepD t h
def difV (i : Nat) (p : Pl) (t h : Eg) : Value := .iface (255 + i) (.agg (cpRow p t h).toArray)
theorem bt255 : BT Try.prog 255 [(0, 5), (5, 7), (12, 7)] (.agg #[.int .i64 0, .int .i64 0, .int .i64 0, .int .i64 0, .int .i64 0, .int .i64 0, .int .i64 0, .int .i64 0, .int .i64 0, .int .i64 0, .int .i64 0, .int .i64 0, .int .i64 0, .int .i64 0, .int .i64 0, .int .i64 0, .int .i64 0, .int .i64 0, .int .i64 0]) := BT.of Try.underlying255 (by kernel_rfl) (by kernel_rfl)
theorem bt256 : BT Try.prog 256 [(0, 5), (5, 7), (12, 7)] (.agg #[.int .i64 0, .int .i64 0, .int .i64 0, .int .i64 0, .int .i64 0, .int .i64 0, .int .i64 0, .int .i64 0, .int .i64 0, .int .i64 0, .int .i64 0, .int .i64 0, .int .i64 0, .int .i64 0, .int .i64 0, .int .i64 0, .int .i64 0, .int .i64 0, .int .i64 0]) := BT.of Try.underlying256 (by kernel_rfl) (by kernel_rfl)
theorem bt257 : BT Try.prog 257 [(0, 5), (5, 7), (12, 7)] (.agg #[.int .i64 0, .int .i64 0, .int .i64 0, .int .i64 0, .int .i64 0, .int .i64 0, .int .i64 0, .int .i64 0, .int .i64 0, .int .i64 0, .int .i64 0, .int .i64 0, .int .i64 0, .int .i64 0, .int .i64 0, .int .i64 0, .int .i64 0, .int .i64 0, .int .i64 0]) := BT.of Try.underlying257 (by kernel_rfl) (by kernel_rfl)
theorem plus161 (w : World) (s o : Sp) (hs : -100000 ≤ s.lo ∧ s.lo ≤ 100000) (hs2 : -100000 ≤ s.hi ∧ s.hi ≤ 100000) (ho : -100000 ≤ o.lo ∧ o.lo ≤ 100000) (ho2 : -100000 ≤ o.hi ∧ o.hi ≤ 100000) : Calls Try.prog 161 #[.agg (spRow s).toArray, .agg (spRow o).toArray] w fun e w' => e = .returned (.agg (spRow ⟨s.lo + o.lo, s.hi + o.hi⟩).toArray) ∧ Below w.heap.size w w' := by
  unfold spRow
  refine calls_of_SC (args := [.agg #[.int .i64 s.lo, .int .i64 s.hi], .agg #[.int .i64 o.lo, .int .i64 o.hi]]) Try.func161 rfl Try.ntmps161 rfl ?_
  simp only [argL, Nat.zero_add]
  refine sc_seq ?_
  refine sc_region ?_
  refine sq_box RF rfl (fun b2 => ?_)
  refine sq_box RF rfl (fun b3 => ?_)
  refine sq_alloc Try.zeroValue229 rfl (fun b4 => ?_)
  refine sq_nil ?_
  refine sx_then ?_
  refine sc_seq ?_
  refine sc_region ?_
  refine qs FA229_3 ?_
  refine qs LD3 ?_
  refine qs FA229_3 ?_
  refine qs LD3 ?_
  refine qs (y_add RF RF (by omega)) ?_
  refine qs FA229_3 ?_
  refine qs LD3 ?_
  refine qs FA229_3 ?_
  refine qs LD3 ?_
  refine qs (y_add RF RF (by omega)) ?_
  refine qs (y_build bt229 (EvP.cons RF (EvP.cons RF EvP.nil)) RF) ?_
  refine sq_store_all Try.sizeOf229 RF RF rfl RM rfl rfl ?_
  refine sq_nil ?_
  refine sx_then ?_
  refine sc_ret ?_
  refine sx_retc (.inl rfl) rfl Try.results161 Try.underlying229 rfl Try.sizeOf229 RF MM rfl ?_
  intro w' hw'
  exact ⟨rfl, hw'.below MM⟩
theorem less164 (w : World) (s o : Sp) (hs : -100000 ≤ s.lo ∧ s.lo ≤ 100000) (hs2 : -100000 ≤ s.hi ∧ s.hi ≤ 100000) (ho : -100000 ≤ o.lo ∧ o.lo ≤ 100000) (ho2 : -100000 ≤ o.hi ∧ o.hi ≤ 100000) : Calls Try.prog 164 #[.agg (spRow s).toArray, .agg (spRow o).toArray] w fun e w' => e = .returned (.agg (spRow ⟨s.lo - o.hi, s.hi - o.lo⟩).toArray) ∧ Below w.heap.size w w' := by
  unfold spRow
  refine calls_of_SC (args := [.agg #[.int .i64 s.lo, .int .i64 s.hi], .agg #[.int .i64 o.lo, .int .i64 o.hi]]) Try.func164 rfl Try.ntmps164 rfl ?_
  simp only [argL, Nat.zero_add]
  refine sc_seq ?_
  refine sc_region ?_
  refine sq_box RF rfl (fun b2 => ?_)
  refine sq_box RF rfl (fun b3 => ?_)
  refine sq_alloc Try.zeroValue229 rfl (fun b4 => ?_)
  refine sq_nil ?_
  refine sx_then ?_
  refine sc_seq ?_
  refine sc_region ?_
  refine qs FA229_3 ?_
  refine qs LD3 ?_
  refine qs FA229_3 ?_
  refine qs LD3 ?_
  refine qs (y_sub RF RF (by omega)) ?_
  refine qs FA229_3 ?_
  refine qs LD3 ?_
  refine qs FA229_3 ?_
  refine qs LD3 ?_
  refine qs (y_sub RF RF (by omega)) ?_
  refine qs (y_build bt229 (EvP.cons RF (EvP.cons RF EvP.nil)) RF) ?_
  refine sq_store_all Try.sizeOf229 RF RF rfl RM rfl rfl ?_
  refine sq_nil ?_
  refine sx_then ?_
  refine sc_ret ?_
  refine sx_retc (.inl rfl) rfl Try.results164 Try.underlying229 rfl Try.sizeOf229 RF MM rfl ?_
  intro w' hw'
  exact ⟨rfl, hw'.below MM⟩
theorem bounds159 (w : World) (p : Pl) (t h : Eg) (hp : Vp p) : Calls Try.prog 159 #[.agg (cpRow p t h).toArray] w fun e w' => e = .returned (.tuple #[.int .i64 (lowD 0 p), .int .i64 (highD 0 p)]) ∧ Below w.heap.size w w' := by
  have hsl := hp.s
  unfold cpRow
  refine calls_of_SC (args := [.agg #[.int .i64 p.len, .int .i64 p.slack, .int .i64 p.loose, .int .i64 p.damp.lo, .int .i64 p.damp.hi, .int .i64 t.kind, .int .i64 t.at_.lo, .int .i64 t.at_.hi, .int .i64 t.wd.lo, .int .i64 t.wd.hi, .int .i64 t.dp.lo, .int .i64 t.dp.hi, .int .i64 h.kind, .int .i64 h.at_.lo, .int .i64 h.at_.hi, .int .i64 h.wd.lo, .int .i64 h.wd.hi, .int .i64 h.dp.lo, .int .i64 h.dp.hi]]) Try.func159 rfl Try.ntmps159 rfl ?_
  simp only [argL]
  refine sc_seq ?_
  refine sc_region ?_
  refine sq_box RF rfl (fun b1 => ?_)
  refine qs (y_assign RF) ?_
  refine qs (y_assign RF) ?_
  refine sq_nil ?_
  refine sx_then ?_
  refine sc_seq ?_
  refine sc_draw rfl (by kernel_rfl) (by kernel_rfl) ?_
  refine qq_y (OpY.s FA255_59) rfl ?_
  refine qq_y (OpY.s FA59_3) rfl ?_
  refine qq_y (OpY.s LD3) rfl ?_
  refine qq_y (OpY.s (y_neg RF (by omega))) rfl ?_
  refine qq_y (OpY.s FA255_59) rfl ?_
  refine qq_y (OpY.s FA59_3) rfl ?_
  refine qq_y (OpY.s LD3) rfl ?_
  refine qq_y (OpY.s (y_assign RF)) rfl ?_
  refine qq_y (OpY.s (y_assign RF)) rfl ?_
  refine qq_nil ?_
  refine sx_then ?_
  refine sc_ret ?_
  refine sx_ret2 (.inl rfl) rfl Try.results159 RF RF ?_
  intro w' hw'
  exact ⟨rfl, hw'.below MM⟩
theorem bounds162 (w : World) (p : Pl) (t h : Eg) (hp : Vp p) : Calls Try.prog 162 #[.agg (cpRow p t h).toArray] w fun e w' => e = .returned (.tuple #[.int .i64 (lowD 1 p), .int .i64 (highD 1 p)]) ∧ Below w.heap.size w w' := by
  have hsl := hp.s
  unfold cpRow
  refine calls_of_SC (args := [.agg #[.int .i64 p.len, .int .i64 p.slack, .int .i64 p.loose, .int .i64 p.damp.lo, .int .i64 p.damp.hi, .int .i64 t.kind, .int .i64 t.at_.lo, .int .i64 t.at_.hi, .int .i64 t.wd.lo, .int .i64 t.wd.hi, .int .i64 t.dp.lo, .int .i64 t.dp.hi, .int .i64 h.kind, .int .i64 h.at_.lo, .int .i64 h.at_.hi, .int .i64 h.wd.lo, .int .i64 h.wd.hi, .int .i64 h.dp.lo, .int .i64 h.dp.hi]]) Try.func162 rfl Try.ntmps162 rfl ?_
  simp only [argL]
  refine sc_seq ?_
  refine sc_region ?_
  refine sq_box RF rfl (fun b1 => ?_)
  refine qs (y_assign RF) ?_
  refine qs (y_assign RF) ?_
  refine sq_nil ?_
  refine sx_then ?_
  refine sc_seq ?_
  refine sc_draw rfl (by kernel_rfl) (by kernel_rfl) ?_
  refine qq_y (OpY.s FA256_59) rfl ?_
  refine qq_y (OpY.s FA59_3) rfl ?_
  refine qq_y (OpY.s LD3) rfl ?_
  refine qq_y (OpY.s (y_assign RF)) rfl ?_
  refine qq_y (OpY.s (y_assign RF)) rfl ?_
  refine qq_nil ?_
  refine sx_then ?_
  refine sc_ret ?_
  refine sx_ret2 (.inl rfl) rfl Try.results162 RF RF ?_
  intro w' hw'
  exact ⟨rfl, hw'.below MM⟩
theorem bounds165 (w : World) (p : Pl) (t h : Eg) (hp : Vp p) : Calls Try.prog 165 #[.agg (cpRow p t h).toArray] w fun e w' => e = .returned (.tuple #[.int .i64 (lowD 2 p), .int .i64 (highD 2 p)]) ∧ Below w.heap.size w w' := by
  have hsl := hp.s
  unfold cpRow
  refine calls_of_SC (args := [.agg #[.int .i64 p.len, .int .i64 p.slack, .int .i64 p.loose, .int .i64 p.damp.lo, .int .i64 p.damp.hi, .int .i64 t.kind, .int .i64 t.at_.lo, .int .i64 t.at_.hi, .int .i64 t.wd.lo, .int .i64 t.wd.hi, .int .i64 t.dp.lo, .int .i64 t.dp.hi, .int .i64 h.kind, .int .i64 h.at_.lo, .int .i64 h.at_.hi, .int .i64 h.wd.lo, .int .i64 h.wd.hi, .int .i64 h.dp.lo, .int .i64 h.dp.hi]]) Try.func165 rfl Try.ntmps165 rfl ?_
  simp only [argL]
  refine sc_seq ?_
  refine sc_region ?_
  refine sq_box RF rfl (fun b1 => ?_)
  refine qs (y_assign RF) ?_
  refine qs (y_assign RF) ?_
  refine sq_nil ?_
  refine sx_then ?_
  refine sc_seq ?_
  refine sc_draw rfl (by kernel_rfl) (by kernel_rfl) ?_
  refine qq_y (OpY.s FA257_59) rfl ?_
  refine qq_y (OpY.s FA59_3) rfl ?_
  refine qq_y (OpY.s LD3) rfl ?_
  refine qq_y (OpY.s (y_assign RF)) rfl ?_
  refine qq_y (OpY.s (y_assign RF)) rfl ?_
  refine qq_nil ?_
  refine sx_then ?_
  refine sc_ret ?_
  refine sx_ret2 (.inl rfl) rfl Try.results165 RF RF ?_
  intro w' hw'
  exact ⟨rfl, hw'.below MM⟩
theorem by160 (w : World) (p : Pl) (t h : Eg) (hp : Vp p) (ht : Vg t) (hh : Vg h) : Calls Try.prog 160 #[.agg (cpRow p t h).toArray] w fun e w' => e = .returned (.agg (spRow (byD 0 p t h)).toArray) ∧ Below w.heap.size w w' := by
  have a1 := ht.a
  have a2 := hh.a
  have hl := hp.l
  unfold cpRow
  refine calls_of_SC (args := [.agg #[.int .i64 p.len, .int .i64 p.slack, .int .i64 p.loose, .int .i64 p.damp.lo, .int .i64 p.damp.hi, .int .i64 t.kind, .int .i64 t.at_.lo, .int .i64 t.at_.hi, .int .i64 t.wd.lo, .int .i64 t.wd.hi, .int .i64 t.dp.lo, .int .i64 t.dp.hi, .int .i64 h.kind, .int .i64 h.at_.lo, .int .i64 h.at_.hi, .int .i64 h.wd.lo, .int .i64 h.wd.hi, .int .i64 h.dp.lo, .int .i64 h.dp.hi]]) Try.func160 rfl Try.ntmps160 rfl ?_
  simp only [argL]
  refine sc_seq ?_
  refine sc_region ?_
  refine sq_box RF rfl (fun b1 => ?_)
  refine sq_alloc Try.zeroValue229 rfl (fun b2 => ?_)
  refine sq_nil ?_
  refine sx_then ?_
  refine sc_seq ?_
  refine sc_drawR (by kernel_rfl) ?_
  refine xj_s 0 RF (by kernel_rfl) SR FA255_81 rfl ?_
  refine xj_s 1 RF (by kernel_rfl) SR FA81_38 rfl ?_
  refine xj_s 2 RF (by kernel_rfl) SR LD38 rfl ?_
  refine xj_s 3 RF (by kernel_rfl) SR FA255_81 rfl ?_
  refine xj_s 4 RF (by kernel_rfl) SR FA81_38 rfl ?_
  refine xj_s 5 RF (by kernel_rfl) SR LD38 rfl ?_
  refine xj_s 7 RF (by kernel_rfl) SR FA255_59 rfl ?_
  refine xj_s 8 RF (by kernel_rfl) SR FA59_3 rfl ?_
  refine xj_s 9 RF (by kernel_rfl) SR LD3 rfl ?_
  refine xj_s 10 RF (by kernel_rfl) SR (y_neg RF (by omega)) rfl ?_
  refine xj_s 11 RF (by kernel_rfl) SR FA255_59 rfl ?_
  refine xj_s 12 RF (by kernel_rfl) SR FA59_3 rfl ?_
  refine xj_s 13 RF (by kernel_rfl) SR LD3 rfl ?_
  refine xj_s 14 RF (by kernel_rfl) SR (y_neg RF (by omega)) rfl ?_
  refine xj_s 15 RF (by kernel_rfl) SR (y_build bt229 (EvP.cons RF (EvP.cons RF EvP.nil)) RF) rfl ?_
  refine xj_one 6 RF (by kernel_rfl) ?_
  refine qy (yc Try.call161 E2 (fun w1 _ => plus161 w1 t.at_ h.at_ (by omega) (by omega) (by omega) (by omega))) ?_
  refine sq_nil ?_
  refine sx_xp SR ?_
  refine xj_one 16 RF (by kernel_rfl) ?_
  refine qy (yc Try.call161 E2 (fun w1 _ => plus161 w1 ⟨t.at_.lo + h.at_.lo, t.at_.hi + h.at_.hi⟩ ⟨-p.len, -p.len⟩ (by dsimp only; omega) (by dsimp only; omega) (by dsimp only; omega) (by dsimp only; omega))) ?_
  refine sq_nil ?_
  refine sx_xp SR ?_
  refine xj_one 17 RF (by kernel_rfl) ?_
  refine sq_store_all Try.sizeOf229 RF RF rfl RM rfl rfl ?_
  refine sq_nil ?_
  refine sx_xpl (by kernel_rfl) ?_
  refine xj_done (by kernel_rfl) ?_
  refine sx_then ?_
  refine sc_ret ?_
  refine sx_retc (.inl rfl) rfl Try.results160 Try.underlying229 rfl Try.sizeOf229 RF MM rfl ?_
  intro w' hw'
  exact ⟨rfl, hw'.below MM⟩
theorem by163 (w : World) (p : Pl) (t h : Eg) (ht : Vg t) (hh : Vg h) : Calls Try.prog 163 #[.agg (cpRow p t h).toArray] w fun e w' => e = .returned (.agg (spRow (byD 1 p t h)).toArray) ∧ Below w.heap.size w w' := by
  have a1 := ht.w
  have a2 := hh.w
  unfold cpRow
  refine calls_of_SC (args := [.agg #[.int .i64 p.len, .int .i64 p.slack, .int .i64 p.loose, .int .i64 p.damp.lo, .int .i64 p.damp.hi, .int .i64 t.kind, .int .i64 t.at_.lo, .int .i64 t.at_.hi, .int .i64 t.wd.lo, .int .i64 t.wd.hi, .int .i64 t.dp.lo, .int .i64 t.dp.hi, .int .i64 h.kind, .int .i64 h.at_.lo, .int .i64 h.at_.hi, .int .i64 h.wd.lo, .int .i64 h.wd.hi, .int .i64 h.dp.lo, .int .i64 h.dp.hi]]) Try.func163 rfl Try.ntmps163 rfl ?_
  simp only [argL]
  refine sc_seq ?_
  refine sc_region ?_
  refine sq_box RF rfl (fun b1 => ?_)
  refine sq_alloc Try.zeroValue229 rfl (fun b2 => ?_)
  refine sq_nil ?_
  refine sx_then ?_
  refine sc_seq ?_
  refine sc_region ?_
  refine qs FA256_81 ?_
  refine qs FA81_38 ?_
  refine qs LD38 ?_
  refine qs FA256_81 ?_
  refine qs FA81_38 ?_
  refine qs LD38 ?_
  refine qy (yc Try.call164 E2 (fun w1 _ => less164 w1 h.wd t.wd (by omega) (by omega) (by omega) (by omega))) ?_
  refine sq_store_all Try.sizeOf229 RF RF rfl RM rfl rfl ?_
  refine sq_nil ?_
  refine sx_then ?_
  refine sc_ret ?_
  refine sx_retc (.inl rfl) rfl Try.results163 Try.underlying229 rfl Try.sizeOf229 RF MM rfl ?_
  intro w' hw'
  exact ⟨rfl, hw'.below MM⟩
theorem by166 (w : World) (p : Pl) (t h : Eg) (ht : Vg t) (hh : Vg h) : Calls Try.prog 166 #[.agg (cpRow p t h).toArray] w fun e w' => e = .returned (.agg (spRow (byD 2 p t h)).toArray) ∧ Below w.heap.size w w' := by
  have a1 := ht.d
  have a2 := hh.d
  unfold cpRow
  refine calls_of_SC (args := [.agg #[.int .i64 p.len, .int .i64 p.slack, .int .i64 p.loose, .int .i64 p.damp.lo, .int .i64 p.damp.hi, .int .i64 t.kind, .int .i64 t.at_.lo, .int .i64 t.at_.hi, .int .i64 t.wd.lo, .int .i64 t.wd.hi, .int .i64 t.dp.lo, .int .i64 t.dp.hi, .int .i64 h.kind, .int .i64 h.at_.lo, .int .i64 h.at_.hi, .int .i64 h.wd.lo, .int .i64 h.wd.hi, .int .i64 h.dp.lo, .int .i64 h.dp.hi]]) Try.func166 rfl Try.ntmps166 rfl ?_
  simp only [argL]
  refine sc_seq ?_
  refine sc_region ?_
  refine sq_box RF rfl (fun b1 => ?_)
  refine sq_alloc Try.zeroValue229 rfl (fun b2 => ?_)
  refine sq_nil ?_
  refine sx_then ?_
  refine sc_seq ?_
  refine sc_region ?_
  refine qs FA257_81 ?_
  refine qs FA81_38 ?_
  refine qs LD38 ?_
  refine qs FA257_81 ?_
  refine qs FA81_38 ?_
  refine qs LD38 ?_
  refine qy (yc Try.call164 E2 (fun w1 _ => less164 w1 h.dp t.dp (by omega) (by omega) (by omega) (by omega))) ?_
  refine sq_store_all Try.sizeOf229 RF RF rfl RM rfl rfl ?_
  refine sq_nil ?_
  refine sx_then ?_
  refine sc_ret ?_
  refine sx_retc (.inl rfl) rfl Try.results166 Try.underlying229 rfl Try.sizeOf229 RF MM rfl ?_
  intro w' hw'
  exact ⟨rfl, hw'.below MM⟩
end Go.Proofs.Ytfceajkofpafpaa
