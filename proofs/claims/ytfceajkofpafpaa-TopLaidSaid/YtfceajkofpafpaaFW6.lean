/- The walks of the program's words about sides. -/
import Derived.Test.YtfceajkofpafpaaFW5
namespace Go.Proofs.Ytfceajkofpafpaa
open Go Go.Eng Go.RowKit Go.Proofs
open Go.Proofs.Ytfceajkofpafpaa.Sc (iRow spRow sp0 Sp spB plusV getD_of get_of_lt any_range_get all_not_any all_getD)
set_option maxRecDepth 100000
def nwC (a b : Eg) : Eg × Eg := if a.kind = 2 then (b, a) else (a, b)
def nwB (a b : Eg) : Bool := decide ((nwC a b).1.kind = 1) && decide ((nwC a b).2.kind = 2)
theorem nw_yes {a b : Eg} {p : Pl} (ha : egB a = true) (hb : egB b = true) (e : nwB a b = true) : Vg (nwC a b).1 ∧ Vg (nwC a b).2 ∧ fitV p a b = verdV p (nwC a b).1 (nwC a b).2 := by
  unfold nwB at e
  rw [Bool.and_eq_true, decide_eq_true_eq, decide_eq_true_eq] at e
  unfold fitV
  unfold nwC at e ⊢
  by_cases h2 : a.kind = 2
  · rw [if_pos h2] at e ⊢
    exact ⟨vg_of hb (by omega), vg_of ha (by omega), by rw [if_neg (by omega), if_pos ⟨e.1, e.2⟩]⟩
  · rw [if_neg h2] at e ⊢
    exact ⟨vg_of ha (by omega), vg_of hb (by omega), by rw [if_pos ⟨e.1, e.2⟩]⟩
theorem nw_no {a b : Eg} {p : Pl} (e : nwB a b = false) : fitV p a b = 0 := by
  have hn : ¬ ((nwC a b).1.kind = 1 ∧ (nwC a b).2.kind = 2) := fun h => by
    unfold nwB at e
    rw [decide_eq_true h.1, decide_eq_true h.2] at e; cases e
  unfold fitV
  unfold nwC at hn
  by_cases h2 : a.kind = 2
  · rw [if_pos h2] at hn
    rw [if_neg (by omega), if_neg hn]
  · rw [if_neg h2] at hn
    rw [if_neg hn, if_neg (by omega)]
theorem fit_flat {p : Pl} {s o : Eg} (h : s.kind = 0) : fitV p s o = 0 := by
  unfold fitV
  rw [if_neg (by omega), if_neg (by omega)]
theorem eg_flat {s : Eg} (h : s.kind = 0) : egB s = true := by unfold egB; rw [decide_eq_true h]; rfl
theorem newCouple127 (w : World) (p : Pl) (a b : Eg) : Calls Try.prog 127 #[.agg (plRow p).toArray, .agg (egRow a).toArray, .agg (egRow b).toArray] w fun e w' => e = .returned (.tuple #[.agg (cpRow p (nwC a b).1 (nwC a b).2).toArray, .bool (nwB a b)]) ∧ Below w.heap.size w w' := by
  unfold plRow egRow
  refine calls_of_SC (args := [.agg #[.int .i64 p.len, .int .i64 p.slack, .int .i64 p.loose, .int .i64 p.damp.lo, .int .i64 p.damp.hi], .agg #[.int .i64 a.kind, .int .i64 a.at_.lo, .int .i64 a.at_.hi, .int .i64 a.wd.lo, .int .i64 a.wd.hi, .int .i64 a.dp.lo, .int .i64 a.dp.hi], .agg #[.int .i64 b.kind, .int .i64 b.at_.lo, .int .i64 b.at_.hi, .int .i64 b.wd.lo, .int .i64 b.wd.hi, .int .i64 b.dp.lo, .int .i64 b.dp.hi]]) Try.func127 rfl Try.ntmps127 rfl ?_
  simp only [argL, Nat.reduceAdd, Nat.zero_add]
  refine sc_seq ?_
  refine sc_region ?_
  refine sq_box RF rfl (fun b3 => ?_)
  refine sq_box RF rfl (fun b4 => ?_)
  refine sq_box RF rfl (fun b5 => ?_)
  refine sq_alloc Try.zeroValue232 rfl (fun b6 => ?_)
  refine qs (y_assign RF) ?_
  refine sq_nil ?_
  refine sx_then ?_
  refine sc_seq ?_
  refine sc_region ?_
  refine qs LD81 ?_
  refine qs LD81 ?_
  refine qs (y_build_arr (cells := #[.int .i64 a.kind, .int .i64 a.at_.lo, .int .i64 a.at_.hi, .int .i64 a.wd.lo, .int .i64 a.wd.hi, .int .i64 a.dp.lo, .int .i64 a.dp.hi, .int .i64 b.kind, .int .i64 b.at_.lo, .int .i64 b.at_.hi, .int .i64 b.wd.lo, .int .i64 b.wd.hi, .int .i64 b.dp.lo, .int .i64 b.dp.hi]) Try.underlying242 Try.zeroValue242 Try.sizeOf81 (EvP.cons RF (EvP.cons RF EvP.nil)) (by kernel_rfl)) ?_
  refine sq_alloc Try.zeroValue242 rfl (fun b8 => ?_)
  refine sq_store_all (vs := [.int .i64 a.kind, .int .i64 a.at_.lo, .int .i64 a.at_.hi, .int .i64 a.wd.lo, .int .i64 a.wd.hi, .int .i64 a.dp.lo, .int .i64 a.dp.hi, .int .i64 b.kind, .int .i64 b.at_.lo, .int .i64 b.at_.hi, .int .i64 b.wd.lo, .int .i64 b.wd.hi, .int .i64 b.dp.lo, .int .i64 b.dp.hi]) Try.sizeOf242 RF RF rfl RM rfl rfl ?_
  refine sq_nil ?_
  refine sx_then ?_
  refine sc_seq ?_
  refine sc_seq ?_
  refine sc_region ?_
  refine qs FA81_3 ?_
  refine qs LD3 ?_
  refine qs (y_eql RF RF) ?_
  refine sq_nil ?_
  refine sx_then ?_
  refine scp (fun hc0 => ?_) (fun hc0 => ?_)
  ·
    refine sc_region ?_
    refine qs (y_ia_arr (i := 1) Try.underlying242 Try.sizeOf81 RF RF (by decide)) ?_
    refine qs LD81 ?_
    refine qs (y_ia_arr (i := 0) Try.underlying242 Try.sizeOf81 RF RF (by decide)) ?_
    refine qs LD81 ?_
    refine qs (y_ia_arr (i := 0) Try.underlying242 Try.sizeOf81 RF RF (by decide)) ?_
    refine sq_store_part (vs := [.int .i64 b.kind, .int .i64 b.at_.lo, .int .i64 b.at_.hi, .int .i64 b.wd.lo, .int .i64 b.wd.hi, .int .i64 b.dp.lo, .int .i64 b.dp.hi]) Try.sizeOf81 RF RF rfl RM rfl (Nat.le_of_ble_eq_true rfl) rfl ?_
    refine qs (y_ia_arr (i := 1) Try.underlying242 Try.sizeOf81 RF RF (by decide)) ?_
    refine sq_store_part (vs := [.int .i64 a.kind, .int .i64 a.at_.lo, .int .i64 a.at_.hi, .int .i64 a.wd.lo, .int .i64 a.wd.hi, .int .i64 a.dp.lo, .int .i64 a.dp.hi]) Try.sizeOf81 RF RF rfl RM rfl (Nat.le_of_ble_eq_true rfl) rfl ?_
    refine sq_nil ?_
    refine sx_then ?_
    refine sc_seq ?_
    refine sc_drawX ([.blk b3 (.cells #[.int .i64 p.len, .int .i64 p.slack, .int .i64 p.loose, .int .i64 p.damp.lo, .int .i64 p.damp.hi] 59 (0, 0)), .blk b8 (.cells #[.int .i64 b.kind, .int .i64 b.at_.lo, .int .i64 b.at_.hi, .int .i64 b.wd.lo, .int .i64 b.wd.hi, .int .i64 b.dp.lo, .int .i64 b.dp.hi, .int .i64 a.kind, .int .i64 a.at_.lo, .int .i64 a.at_.hi, .int .i64 a.wd.lo, .int .i64 a.wd.hi, .int .i64 a.dp.lo, .int .i64 a.dp.hi] 242 (0, 0)), .reg 0 w]) (by kernel_rfl) ?_
    refine xj_s 0 RF (by kernel_rfl) SR LD59 rfl ?_
    refine xj_s 1 RF (by kernel_rfl) SR (y_ia_arr (i := 0) Try.underlying242 Try.sizeOf81 RF RF (by decide)) rfl ?_
    refine xj_s 2 RF (by kernel_rfl) SR LD81 rfl ?_
    refine xj_s 3 RF (by kernel_rfl) SR (y_ia_arr (i := 1) Try.underlying242 Try.sizeOf81 RF RF (by decide)) rfl ?_
    refine xj_s 4 RF (by kernel_rfl) SR LD81 rfl ?_
    refine xj_s 5 RF (by kernel_rfl) SR (y_build (cells := (cpRow p b a).toArray) bt232 (EvP.cons RF (EvP.cons RF (EvP.cons RF EvP.nil))) (by kernel_rfl)) rfl ?_
    refine xj_s 6 RF (by kernel_rfl) SR (y_ia_arr (i := 0) Try.underlying242 Try.sizeOf81 RF RF (by decide)) rfl ?_
    refine xj_s 7 RF (by kernel_rfl) SR FA81_3 rfl ?_
    refine xj_s 8 RF (by kernel_rfl) SR LD3 rfl ?_
    refine xj_s 9 RF (by kernel_rfl) SR (y_eql RF RF) rfl ?_
    refine xj_s 10 RF (by kernel_rfl) SR (y_move RF) rfl ?_
    first | refine xj_splitd (tt := 31) RF (fun hg4_10 => ?_) (fun hg4_10 => ?_) | refine xj_splitn (tt := 31) RF (fun hg4_10 => ?_) (fun hg4_10 => ?_) | refine xj_split (tt := 31) RF (fun hg4_10 => ?_) (fun hg4_10 => ?_)
    ·
      refine xj_gt 11 RF RF RF (by kernel_rfl) SR (y_ia_arr (i := 1) Try.underlying242 Try.sizeOf81 RF RF (by decide)) rfl ?_
      refine xj_gt 12 RF RF RF (by kernel_rfl) SR FA81_3 rfl ?_
      refine xj_gt 13 RF RF RF (by kernel_rfl) SR LD3 rfl ?_
      refine xj_gt 14 RF RF RF (by kernel_rfl) SR (y_eql RF RF) rfl ?_
      refine xj_s 15 RF (by kernel_rfl) SR (y_pick_t RF RF) rfl ?_
      refine xj_one 16 RF (by kernel_rfl) ?_
      refine sq_store_all (vs := cpRow p b a) Try.sizeOf232 RF RF rfl RM rfl rfl ?_
      refine sq_nil ?_
      refine sx_xp SR ?_
      refine xj_s 17 RF (by kernel_rfl) SR (y_assign RF) rfl ?_
      refine xj_done (by kernel_rfl) ?_
      refine sx_then ?_
      refine sc_ret ?_
      refine sx_retct (.inl rfl) rfl Try.results127 Try.underlying232 rfl Try.sizeOf232 RF MM rfl RF ?_
      intro w' hw'
      refine ⟨?_, hw'.below MM⟩
      unfold nwB
      first
        | (rw [show nwC a b = (b, a) from if_pos hc0]; simp [*]; done)
        | (rw [show nwC a b = (a, b) from if_neg hc0]; simp [*]; done)
    ·
      refine xj_gf 11 RF RF RF rfl (by kernel_rfl) SR rfl ?_
      refine xj_gf 12 RF RF RF rfl (by kernel_rfl) SR rfl ?_
      refine xj_gf 13 RF RF RF rfl (by kernel_rfl) SR rfl ?_
      refine xj_gf 14 RF RF RF rfl (by kernel_rfl) SR rfl ?_
      refine xj_s 15 RF (by kernel_rfl) SR (y_pick_f RF RF) rfl ?_
      refine xj_one 16 RF (by kernel_rfl) ?_
      refine sq_store_all (vs := cpRow p b a) Try.sizeOf232 RF RF rfl RM rfl rfl ?_
      refine sq_nil ?_
      refine sx_xp SR ?_
      refine xj_s 17 RF (by kernel_rfl) SR (y_assign RF) rfl ?_
      refine xj_done (by kernel_rfl) ?_
      refine sx_then ?_
      refine sc_ret ?_
      refine sx_retct (.inl rfl) rfl Try.results127 Try.underlying232 rfl Try.sizeOf232 RF MM rfl RF ?_
      intro w' hw'
      refine ⟨?_, hw'.below MM⟩
      unfold nwB
      first
        | (rw [show nwC a b = (b, a) from if_pos hc0]; simp [*]; done)
        | (rw [show nwC a b = (a, b) from if_neg hc0]; simp [*]; done)
  ·
    refine sc_skip ?_
    refine sx_then ?_
    refine sc_seq ?_
    refine sc_drawX ([.blk b3 (.cells #[.int .i64 p.len, .int .i64 p.slack, .int .i64 p.loose, .int .i64 p.damp.lo, .int .i64 p.damp.hi] 59 (0, 0)), .blk b8 (.cells #[.int .i64 a.kind, .int .i64 a.at_.lo, .int .i64 a.at_.hi, .int .i64 a.wd.lo, .int .i64 a.wd.hi, .int .i64 a.dp.lo, .int .i64 a.dp.hi, .int .i64 b.kind, .int .i64 b.at_.lo, .int .i64 b.at_.hi, .int .i64 b.wd.lo, .int .i64 b.wd.hi, .int .i64 b.dp.lo, .int .i64 b.dp.hi] 242 (0, 0)), .reg 0 w]) (by kernel_rfl) ?_
    refine xj_s 0 RF (by kernel_rfl) SR LD59 rfl ?_
    refine xj_s 1 RF (by kernel_rfl) SR (y_ia_arr (i := 0) Try.underlying242 Try.sizeOf81 RF RF (by decide)) rfl ?_
    refine xj_s 2 RF (by kernel_rfl) SR LD81 rfl ?_
    refine xj_s 3 RF (by kernel_rfl) SR (y_ia_arr (i := 1) Try.underlying242 Try.sizeOf81 RF RF (by decide)) rfl ?_
    refine xj_s 4 RF (by kernel_rfl) SR LD81 rfl ?_
    refine xj_s 5 RF (by kernel_rfl) SR (y_build (cells := (cpRow p a b).toArray) bt232 (EvP.cons RF (EvP.cons RF (EvP.cons RF EvP.nil))) (by kernel_rfl)) rfl ?_
    refine xj_s 6 RF (by kernel_rfl) SR (y_ia_arr (i := 0) Try.underlying242 Try.sizeOf81 RF RF (by decide)) rfl ?_
    refine xj_s 7 RF (by kernel_rfl) SR FA81_3 rfl ?_
    refine xj_s 8 RF (by kernel_rfl) SR LD3 rfl ?_
    refine xj_s 9 RF (by kernel_rfl) SR (y_eql RF RF) rfl ?_
    refine xj_s 10 RF (by kernel_rfl) SR (y_move RF) rfl ?_
    first | refine xj_splitd (tt := 31) RF (fun hg4_10 => ?_) (fun hg4_10 => ?_) | refine xj_splitn (tt := 31) RF (fun hg4_10 => ?_) (fun hg4_10 => ?_) | refine xj_split (tt := 31) RF (fun hg4_10 => ?_) (fun hg4_10 => ?_)
    ·
      refine xj_gt 11 RF RF RF (by kernel_rfl) SR (y_ia_arr (i := 1) Try.underlying242 Try.sizeOf81 RF RF (by decide)) rfl ?_
      refine xj_gt 12 RF RF RF (by kernel_rfl) SR FA81_3 rfl ?_
      refine xj_gt 13 RF RF RF (by kernel_rfl) SR LD3 rfl ?_
      refine xj_gt 14 RF RF RF (by kernel_rfl) SR (y_eql RF RF) rfl ?_
      refine xj_s 15 RF (by kernel_rfl) SR (y_pick_t RF RF) rfl ?_
      refine xj_one 16 RF (by kernel_rfl) ?_
      refine sq_store_all (vs := cpRow p a b) Try.sizeOf232 RF RF rfl RM rfl rfl ?_
      refine sq_nil ?_
      refine sx_xp SR ?_
      refine xj_s 17 RF (by kernel_rfl) SR (y_assign RF) rfl ?_
      refine xj_done (by kernel_rfl) ?_
      refine sx_then ?_
      refine sc_ret ?_
      refine sx_retct (.inl rfl) rfl Try.results127 Try.underlying232 rfl Try.sizeOf232 RF MM rfl RF ?_
      intro w' hw'
      refine ⟨?_, hw'.below MM⟩
      unfold nwB
      first
        | (rw [show nwC a b = (b, a) from if_pos hc0]; simp [*]; done)
        | (rw [show nwC a b = (a, b) from if_neg hc0]; simp [*]; done)
    ·
      refine xj_gf 11 RF RF RF rfl (by kernel_rfl) SR rfl ?_
      refine xj_gf 12 RF RF RF rfl (by kernel_rfl) SR rfl ?_
      refine xj_gf 13 RF RF RF rfl (by kernel_rfl) SR rfl ?_
      refine xj_gf 14 RF RF RF rfl (by kernel_rfl) SR rfl ?_
      refine xj_s 15 RF (by kernel_rfl) SR (y_pick_f RF RF) rfl ?_
      refine xj_one 16 RF (by kernel_rfl) ?_
      refine sq_store_all (vs := cpRow p a b) Try.sizeOf232 RF RF rfl RM rfl rfl ?_
      refine sq_nil ?_
      refine sx_xp SR ?_
      refine xj_s 17 RF (by kernel_rfl) SR (y_assign RF) rfl ?_
      refine xj_done (by kernel_rfl) ?_
      refine sx_then ?_
      refine sc_ret ?_
      refine sx_retct (.inl rfl) rfl Try.results127 Try.underlying232 rfl Try.sizeOf232 RF MM rfl RF ?_
      intro w' hw'
      refine ⟨?_, hw'.below MM⟩
      unfold nwB
      first
        | (rw [show nwC a b = (b, a) from if_pos hc0]; simp [*]; done)
        | (rw [show nwC a b = (a, b) from if_neg hc0]; simp [*]; done)
theorem fits120 (w : World) (p : Pl) (a b : Eg) (hp : plB p = true) (ha : egB a = true) (hb : egB b = true) : Calls Try.prog 120 #[.agg (plRow p).toArray, .agg (egRow a).toArray, .agg (egRow b).toArray] w fun e w' => e = .returned (.int .i64 (fitV p a b)) ∧ Below w.heap.size w w' := by
  refine calls_of_SC (args := [.agg (plRow p).toArray, .agg (egRow a).toArray, .agg (egRow b).toArray]) Try.func120 rfl Try.ntmps120 rfl ?_
  simp only [argL, Nat.reduceAdd, Nat.zero_add]
  refine sc_seq ?_
  refine sc_region ?_
  refine sq_box RF rfl (fun b3 => ?_)
  refine sq_box RF rfl (fun b4 => ?_)
  refine sq_box RF rfl (fun b5 => ?_)
  refine qs (y_assign RF) ?_
  refine sq_nil ?_
  refine sx_then ?_
  refine sc_seq ?_
  refine sc_seq ?_
  refine sc_region ?_
  refine qs LD59 ?_
  refine qs LD81 ?_
  refine qs LD81 ?_
  refine qy (yc Try.call127 E3 (fun w1 _ => newCouple127 w1 p a b)) ?_
  refine qs (y_move RF) ?_
  refine qs (y_extract RF RF) ?_
  refine qs (y_extract RF RF) ?_
  refine sq_alloc Try.zeroValue232 rfl (fun b7 => ?_)
  refine sq_store_all (vs := cpRow p (nwC a b).1 (nwC a b).2) Try.sizeOf232 RF RF rfl RM rfl rfl ?_
  refine qs (y_assign RF) ?_
  refine sq_nil ?_
  refine sx_then ?_
  refine sc_seq ?_
  refine sc_region ?_
  refine qs (y_move RF) ?_
  refine sq_nil ?_
  refine sx_then ?_
  refine scp (fun hc0 => ?_) (fun hc0 => ?_)
  ·
    have hV := nw_yes (p := p) ha hb hc0
    refine sc_seq ?_
    refine sc_region ?_
    refine qs LD232 ?_
    refine qy (yc Try.call128 E1 (fun w1 _ => verdict128 w1 p (nwC a b).1 (nwC a b).2 (vp_of hp) hV.1 hV.2.1)) ?_
    refine qs (y_assign RF) ?_
    refine sq_nil ?_
    refine sx_then ?_
    refine sc_ret ?_
    refine sx_then_ret ?_
    refine sx_ret1 (.inl rfl) rfl Try.results120 RF ?_
    intro w' hw'
    exact ⟨by rw [hV.2.2], hw'.below MM⟩
  ·
    have hV := nw_no (p := p) hc0
    refine sc_skip ?_
    refine sx_then ?_
    refine sc_seq ?_
    refine sc_region ?_
    refine qs (y_assign RF) ?_
    refine sq_nil ?_
    refine sx_then ?_
    refine sc_ret ?_
    refine sx_ret1 (.inl rfl) rfl Try.results120 RF ?_
    intro w' hw'
    exact ⟨by rw [hV], hw'.below MM⟩
theorem bad126 (w : World) (s : Eg) : Calls Try.prog 126 #[.agg (egRow s).toArray] w fun e w' => e = .returned (.bool (!egB s)) ∧ Below w.heap.size w w' := by
  refine calls_of_SC (args := [.agg (egRow s).toArray]) Try.func126 rfl Try.ntmps126 rfl ?_
  simp only [argL]
  refine sc_seq ?_
  refine sc_region ?_
  refine sq_box RF rfl (fun b1 => ?_)
  refine qs (y_assign RF) ?_
  refine sq_nil ?_
  refine sx_then ?_
  refine sc_seq ?_
  refine sc_region ?_
  refine qs LD81 ?_
  refine qy (yc Try.call117 E1 (fun w1 _ => isSide117 w1 s)) ?_
  refine qs (y_not RF) ?_
  refine qs (y_assign RF) ?_
  refine sq_nil ?_
  refine sx_then ?_
  refine sc_ret ?_
  refine sx_ret1 (.inl rfl) rfl Try.results126 RF ?_
  intro w' hw'
  exact ⟨rfl, hw'.below MM⟩
theorem indexEg (g : FuncId) (caps : List Value) (p : Nat → Bool) (w : World) (a : Option Addr) (n c : Nat) (row : Nat → List Value) (hn : n ≤ 9223372036854775807) (hel : ∀ i, i < n → a.isSome = true ∧ (row i).length = 7 ∧ CA 0 w (elt a i 7) (row i))
    (hcg : ∀ args w, (callFunc g args).run Try.prog w = .ok (.enter g args) w) (hp : ∀ i, i < n → ∀ w1, Below w.heap.size w w1 → Calls Try.prog g (.agg (row i).toArray :: caps).toArray w1 fun e w' => e = .returned (.bool (p i)) ∧ Below w1.heap.size w1 w') :
    Calls Try.prog 133 #[.slice a n c, .func (.func g) #[] caps.toArray] w fun e w' => (∃ z : Int, e = .returned (.int .i64 z) ∧ (0 ≤ z ↔ (List.range n).any p = true)) ∧ Below w.heap.size w w' := by
  refine calls_of_SC (args := [.slice a n c, .func (.func g) #[] caps.toArray]) Try.func133 rfl Try.ntmps133 rfl ?_
  simp only [argL, Nat.zero_add]
  refine sc_seq ?_
  refine sc_region ?_
  refine qs (y_assign RF) ?_
  refine sq_nil ?_
  refine sx_then ?_
  refine sc_seq ?_
  refine sc_seq ?_
  refine sc_region ?_
  refine qs (y_move RF) ?_
  refine qs (y_len Try.underlying214 RF) ?_
  refine qs (y_move RF) ?_
  refine sq_nil ?_
  refine sx_then ?_
  refine sc_block ?_
  refine sc_loop (σ := Nat)
    (fun s => [(0, .slice a n c), (1, .func (.func g) #[] caps.toArray), (7, .int .i64 n), (8, .int .i64 s)])
    (fun s => [.reg 0 w])
    (fun s => s ≤ n ∧ ∀ j, j < s → p j = false)
    (fun s => n - s)
    (0) ?_ SU SE ?_
  · exact ⟨Nat.zero_le _, fun j hj => absurd hj (Nat.not_lt_zero j)⟩
  rintro k ⟨hk, hno⟩
  refine sc_seq ?_
  refine sc_region ?_
  refine qs (y_lss RF RF) ?_
  refine sq_nil ?_
  refine sx_then ?_
  refine sc_seq ?_
  refine scp (fun hc0 => ?_) (fun hc0 => ?_)
  ·
    have hk' : k < n := by omega
    have hsome := (hel k hk').1
    have hrow := (hel k hk').2.1
    have hca := (hel k hk').2.2
    refine sc_skip ?_
    refine sx_then ?_
    refine sc_seq ?_
    refine sc_block ?_
    refine sc_seq ?_
    refine sc_region ?_
    refine qs (y_move RF) ?_
    refine qs (y_assign RF) ?_
    refine sq_nil ?_
    refine sx_then ?_
    refine sc_seq ?_
    refine sc_region ?_
    refine qs (y_move RF) ?_
    refine qs (y_move RF) ?_
    refine qs (y_move RF) ?_
    refine qs IA214 ?_
    refine qs (by first | exact y_load_ca Try.underlying81 rfl Try.sizeOf81 RF MM hca hrow | exact LD81) ?_
    refine qy (y_call (first := []) (caps := caps) (by exact rfl) hcg (EvL.cons RF EvL.nil) (fun w1 hw1 => hp k hk' w1 (hw1.below MM))) ?_
    refine sq_nil ?_
    refine sx_then ?_
    refine scp (fun hc1 => ?_) (fun hc1 => ?_)
    ·
      have hpk : p k = true := hc1
      refine sc_seq ?_
      refine sc_region ?_
      refine qs (y_move RF) ?_
      refine qs (y_assign RF) ?_
      refine sq_nil ?_
      refine sx_then ?_
      refine sc_ret ?_
      refine sx_blk_ret ?_
      refine sx_then_ret ?_
      refine sx_round_ret ?_
      refine sx_blk_ret ?_
      refine sx_then_ret ?_
      refine sx_ret1 (.inl rfl) rfl Try.results133 RF ?_
      intro w' hw'
      exact ⟨⟨_, rfl, fun _ => List.any_eq_true.2 ⟨k, List.mem_range.2 hk', hpk⟩, fun _ => by omega⟩, hw'.below MM⟩
    ·
      refine sc_skip ?_
      refine sx_blk ?_
      refine sx_then ?_
      refine sc_region ?_
      refine qs (y_add RF RF (by omega)) ?_
      refine qs (y_move RF) ?_
      refine sq_nil ?_
      refine sx_round (k + 1) ?_ ?_ SU SE
      · refine ⟨by omega, fun j hj => ?_⟩
        rcases Nat.lt_succ_iff_lt_or_eq.1 hj with h | rfl
        · exact hno j h
        · simpa using hc1
      · omega
  ·
    refine sc_exit ?_
    refine sx_then_exit ?_
    refine sx_round_exit ?_
    refine sx_blk_hit ?_
    refine sx_then ?_
    refine sc_seq ?_
    refine sc_region ?_
    refine qs (y_assign RF) ?_
    refine sq_nil ?_
    refine sx_then ?_
    refine sc_ret ?_
    refine sx_ret1 (.inl rfl) rfl Try.results133 RF ?_
    intro w' hw'
    refine ⟨⟨_, rfl, ?_⟩, hw'.below MM⟩
    have hkn : k = n := by omega
    subst hkn
    constructor
    · intro h; omega
    · intro h
      obtain ⟨j, hj, hpj⟩ := List.any_eq_true.1 h
      rw [hno j (List.mem_range.1 hj)] at hpj; cases hpj
theorem containsEg (g : FuncId) (caps : List Value) (p : Nat → Bool) (w : World) (a : Option Addr) (n c : Nat) (row : Nat → List Value) (hn : n ≤ 9223372036854775807) (hel : ∀ i, i < n → a.isSome = true ∧ (row i).length = 7 ∧ CA 0 w (elt a i 7) (row i))
    (hcg : ∀ args w, (callFunc g args).run Try.prog w = .ok (.enter g args) w) (hp : ∀ i, i < n → ∀ w1, Below w.heap.size w w1 → Calls Try.prog g (.agg (row i).toArray :: caps).toArray w1 fun e w' => e = .returned (.bool (p i)) ∧ Below w1.heap.size w1 w') :
    Calls Try.prog 125 #[.slice a n c, .func (.func g) #[] caps.toArray] w fun e w' => e = .returned (.bool ((List.range n).any p)) ∧ Below w.heap.size w w' := by
  refine calls_of_SC (args := [.slice a n c, .func (.func g) #[] caps.toArray]) Try.func125 rfl Try.ntmps125 rfl ?_
  simp only [argL, Nat.zero_add]
  refine sc_seq ?_
  refine sc_region ?_
  refine qs (y_assign RF) ?_
  refine sq_nil ?_
  refine sx_then ?_
  refine sc_seq ?_
  refine sc_region ?_
  refine qs (y_move RF) ?_
  refine qs (y_move RF) ?_
  refine sq_call (first := []) (caps := []) (vs := [.slice a n c, .func (.func g) #[] caps.toArray]) (Z := Int) (fun z => .int .i64 z) (fun _ => [.reg 0 w]) (fun z => 0 ≤ z ↔ (List.range n).any p = true) RF Try.call133 (EvL.cons RF (EvL.cons RF EvL.nil)) (fun w1 hw1 => (indexEg g caps p w1 a n c row hn (fun i hi => ⟨(hel i hi).1, (hel i hi).2.1, CA.at (hel i hi).2.2 hw1 MM⟩) hcg (fun i hi w2 hb => hp i hi w2 ((hw1.below MM).trans (hb.mono (hw1.below MM).size)))).mono (fun e w2 ⟨⟨z, he, hz⟩, hb⟩ => ⟨z, hz, he, hw1.ext hb⟩)) rfl (fun z hz => ?_)
  refine qs (y_geq RF RF) ?_
  refine qs (y_assign RF) ?_
  refine sq_nil ?_
  refine sx_then ?_
  refine sc_ret ?_
  refine sx_ret1 (.inl rfl) rfl Try.results125 RF ?_
  intro w' hw'
  refine ⟨?_, hw'.below MM⟩
  congr 2
  rw [Bool.eq_iff_iff]; simpa using hz
theorem bad125 (w : World) (a : Option Addr) (c : Nat) (l : List Eg) (hl : RowsA egRow 7 0 w a l) : Calls Try.prog 125 #[.slice a l.length c, .func (.func 126) #[] #[]] w fun e w' => e = .returned (.bool (!l.all egB)) ∧ Below w.heap.size w w' := by
  refine (containsEg 126 [] (fun i => !egB (l.getD i eg0)) w a l.length c (fun i => egRow (l.getD i eg0)) hl.len (fun i hi => ⟨(hl.get eg0 hi).1, rfl, (hl.get eg0 hi).2⟩) Try.call126 (fun i _ w1 _ => bad126 w1 _)).mono ?_
  rintro e w' ⟨h1, h2⟩
  refine ⟨?_, h2⟩
  rw [h1, any_range_get l eg0 (fun k => !egB k), all_not_any]
theorem areSides118 (w : World) (a : Option Addr) (c : Nat) (l : List Eg) (hl : RowsA egRow 7 0 w a l) : Calls Try.prog 118 #[.slice a l.length c] w fun e w' => e = .returned (.bool (l.all egB)) ∧ Below w.heap.size w w' := by
  refine calls_of_SC (args := [.slice a l.length c]) Try.func118 rfl Try.ntmps118 rfl ?_
  simp only [argL]
  refine sc_seq ?_
  refine sc_region ?_
  refine qs (y_assign RF) ?_
  refine sq_nil ?_
  refine sx_then ?_
  refine sc_seq ?_
  refine sc_region ?_
  refine qs (y_move RF) ?_
  refine qy (yc Try.call125 E2 (fun w1 hw1 => bad125 w1 a c l (hl.at hw1 MM))) ?_
  refine qs (y_not RF) ?_
  refine qs (y_assign RF) ?_
  refine sq_nil ?_
  refine sx_then ?_
  refine sc_ret ?_
  refine sx_ret1 (.inl rfl) rfl Try.results118 RF ?_
  intro w' hw'
  exact ⟨by rw [Bool.not_not], hw'.below MM⟩
theorem Fit107 (w : World) (p : Pl) (a b : Eg) (hp : plB p = true) (ha : egB a = true) (hb : egB b = true) : Calls Try.prog 107 #[.agg (plRow p).toArray, .agg (egRow a).toArray, .agg (egRow b).toArray] w fun e w' => e = .returned (.tuple #[.int .i64 (fitV p a b), .int .i64 0]) ∧ Below w.heap.size w w' := by
  refine calls_of_SC (args := [.agg (plRow p).toArray, .agg (egRow a).toArray, .agg (egRow b).toArray]) Try.func107 rfl Try.ntmps107 rfl ?_
  simp only [argL, Nat.reduceAdd, Nat.zero_add]
  refine sc_seq ?_
  refine sc_region ?_
  refine sq_box RF rfl (fun b3 => ?_)
  refine sq_box RF rfl (fun b4 => ?_)
  refine sq_box RF rfl (fun b5 => ?_)
  refine qs (y_assign RF) ?_
  refine qs (y_assign RF) ?_
  refine sq_nil ?_
  refine sx_then ?_
  refine sc_seq ?_
  refine sc_seq ?_
  refine sc_region ?_
  refine qs LD59 ?_
  refine qy (yc Try.call116 E1 (fun w1 _ => isPlay116 w1 p)) ?_
  refine qs (y_not RF) ?_
  refine qs (y_move RF) ?_
  refine sq_known (tt := 11) (b' := false) RF (by rw [hp]; rfl) ?_
  refine qg LD81 ?_
  refine qg LD81 ?_
  refine sq_guard RF RF ?_
  refine sq_bs Try.underlying214 ei81 (EvI.cons RF (EvI.cons RF EvI.nil)) (by first | (simp [Value.cells]; done) | (simp [Value.cells]; rfl) | (simp [Value.cells]; and_intros <;> rfl)) rfl rfl rfl (fun b14 => ?_)
  refine sq_gt RF RF (y_call (first := []) (caps := []) RF Try.call118 (EvL.cons RF EvL.nil) (fun w1 hw1 => areSides118 w1 (some ⟨b14, 0, none⟩) 2 [a, b] (lit_rowsA (row := egRow) egRow_len hw1 MM rfl (by simp)))) rfl ?_
  refine qg (y_not RF) ?_
  refine qs (y_pick_f RF RF) ?_
  refine sq_nil ?_
  refine sx_then ?_
  refine sc_f (lk_bool rfl (by simp [ha, hb])) ?_
  refine sc_skip ?_
  refine sx_then ?_
  refine sc_seq ?_
  refine sc_region ?_
  refine qs LD59 ?_
  refine qs LD81 ?_
  refine qs LD81 ?_
  refine qy (yc Try.call120 E3 (fun w1 _ => fits120 w1 p a b hp ha hb)) ?_
  refine qs (y_assign RF) ?_
  refine qs (y_assign RF) ?_
  refine sq_nil ?_
  refine sx_then ?_
  refine sc_ret ?_
  refine sx_ret2 (.inl rfl) rfl Try.results107 RF RF ?_
  intro w' hw'
  exact ⟨rfl, hw'.below MM⟩
theorem pick119 (w : World) (p : Pl) (s : Eg) (n : Int) (a : Option Addr) (c : Nat) (l : List Eg) (hl : RowsA egRow 7 0 w a l) (hp : plB p = true) (hs : s.kind = 0) (hn : 1 ≤ n) (hall : ∀ e, e ∈ l → egB e = true) : Calls Try.prog 119 #[.agg (plRow p).toArray, .agg (egRow s).toArray, .int .i64 n, .slice a l.length c] w fun e w' => e = .returned (.slice none 0 0) ∧ Below w.heap.size w w' := by
  have hlen := hl.len
  refine calls_of_SC (args := [.agg (plRow p).toArray, .agg (egRow s).toArray, .int .i64 n, .slice a l.length c]) Try.func119 rfl Try.ntmps119 rfl ?_
  simp only [argL, Nat.reduceAdd, Nat.zero_add]
  refine sc_seq ?_
  refine sc_region ?_
  refine sq_box RF rfl (fun b4 => ?_)
  refine sq_box RF rfl (fun b5 => ?_)
  refine qs (y_assign RF) ?_
  refine sq_nil ?_
  refine sx_then ?_
  refine sc_seq ?_
  refine sc_seq ?_
  refine sc_region ?_
  refine qs (y_move RF) ?_
  refine qs (y_len Try.underlying214 RF) ?_
  refine qs (y_move RF) ?_
  refine sq_nil ?_
  refine sx_then ?_
  refine sc_block ?_
  refine sc_loop (σ := Nat)
    (fun s_ => [(2, .int .i64 n), (4, .pointer (some ⟨b4, 0, none⟩)), (5, .pointer (some ⟨b5, 0, none⟩)), (8, .slice none 0 0), (11, .slice a l.length c), (12, .int .i64 l.length), (13, .int .i64 s_)])
    (fun s_ => [.blk b4 (.cells (plRow p).toArray 59 (0, 0)), .blk b5 (.cells (egRow s).toArray 81 (0, 0)), .reg 0 w])
    (fun s_ => s_ ≤ l.length)
    (fun s_ => l.length - s_)
    (0) ?_ SU SR ?_
  · exact Nat.zero_le _
  rintro k hk
  refine sc_seq ?_
  refine sc_region ?_
  refine qs (y_lss RF RF) ?_
  refine sq_nil ?_
  refine sx_then ?_
  refine sc_seq ?_
  refine scp (fun hc0 => ?_) (fun hc0 => ?_)
  ·
    have hk' : k < l.length := by omega
    have hsk := (hl.get eg0 hk').1
    have hck := (hl.get eg0 hk').2
    refine sc_skip ?_
    refine sx_then ?_
    refine sc_seq ?_
    refine sc_block ?_
    refine sc_seq ?_
    refine sc_region ?_
    refine qs (y_move RF) ?_
    refine qs IA214 ?_
    refine qs (by first | exact y_load_ca Try.underlying81 rfl Try.sizeOf81 RF MM hck rfl | exact LD81) ?_
    refine sq_alloc Try.zeroValue81 rfl (fun b10 => ?_)
    refine qs (y_assign RF) ?_
    refine sq_store_all (vs := egRow (l.getD k eg0)) Try.sizeOf81 RF RF rfl RM rfl rfl ?_
    refine sq_nil ?_
    refine sx_then ?_
    refine sc_seq ?_
    refine sc_region ?_
    refine qs LD59 ?_
    refine qs LD81 ?_
    refine qs LD81 ?_
    refine qy (yc Try.call120 E3 (fun w1 _ => fits120 w1 p s (l.getD k eg0) hp (eg_flat hs) (hall _ (List.mem_of_getElem? (get_of_lt eg0 hk'))))) ?_
    refine qs (y_move RF) ?_
    refine qs (y_geq RF RF) ?_
    refine sq_nil ?_
    refine sx_then ?_
    refine sc_f (lk_bool rfl (decide_eq_false (by rw [fit_flat hs]; omega))) ?_
    refine sc_skip ?_
    refine sx_blk ?_
    refine sx_then ?_
    refine sc_region ?_
    refine qs (y_add RF RF (by omega)) ?_
    refine qs (y_move RF) ?_
    refine sq_nil ?_
    refine sx_round (k + 1) ?_ ?_ SU SR
    · omega
    · omega
  ·
    refine sc_exit ?_
    refine sx_then_exit ?_
    refine sx_round_exit ?_
    refine sx_blk_hit ?_
    refine sx_then ?_
    refine sc_seq ?_
    refine sc_region ?_
    refine qs (y_move RF) ?_
    refine qs (y_assign RF) ?_
    refine sq_nil ?_
    refine sx_then ?_
    refine sc_ret ?_
    refine sx_ret1 (.inl rfl) rfl Try.results119 RF ?_
    intro w' hw'
    exact ⟨rfl, hw'.below MM⟩
theorem Matches106 (w : World) (p : Pl) (s : Eg) (a : Option Addr) (c : Nat) (l : List Eg) (hl : RowsA egRow 7 0 w a l) (hp : plB p = true) (hs : s.kind = 0) (hall : ∀ e, e ∈ l → egB e = true) (h40 : l.length ≤ 40) : Calls Try.prog 106 #[.agg (plRow p).toArray, .agg (egRow s).toArray, .slice a l.length c] w fun e w' => e = .returned (.tuple #[.slice none 0 0, .slice none 0 0, .int .i64 0]) ∧ Below w.heap.size w w' := by
  have hes := eg_flat hs
  have hal : l.all egB = true := List.all_eq_true.2 hall
  refine calls_of_SC (args := [.agg (plRow p).toArray, .agg (egRow s).toArray, .slice a l.length c]) Try.func106 rfl Try.ntmps106 rfl ?_
  simp only [argL, Nat.reduceAdd, Nat.zero_add]
  refine sc_seq ?_
  refine sc_region ?_
  refine sq_box RF rfl (fun b3 => ?_)
  refine sq_box RF rfl (fun b4 => ?_)
  refine qs (y_assign RF) ?_
  refine qs (y_assign RF) ?_
  refine qs (y_assign RF) ?_
  refine sq_nil ?_
  refine sx_then ?_
  refine sc_seq ?_
  refine sc_block ?_
  refine sc_seq ?_
  refine sc_region ?_
  refine qs LD59 ?_
  refine qy (yc Try.call116 E1 (fun w1 _ => isPlay116 w1 p)) ?_
  refine qs (y_not RF) ?_
  refine qs (y_move RF) ?_
  refine sq_known (tt := 13) (b' := false) RF (by rw [hp]; rfl) ?_
  refine qg LD81 ?_
  refine sq_gt RF RF (y_call (first := []) (caps := []) RF Try.call117 (EvL.cons RF EvL.nil) (fun w1 _ => isSide117 w1 s)) rfl ?_
  refine qg (y_not RF) ?_
  refine qs (y_pick_f RF RF) ?_
  refine qs (y_move RF) ?_
  refine sq_known (tt := 18) (b' := false) RF (by rw [hes]; rfl) ?_
  refine qg (y_move RF) ?_
  refine sq_gt RF RF (y_call (first := []) (caps := []) RF Try.call118 (EvL.cons RF EvL.nil) (fun w1 hw1 => areSides118 w1 a c l (hl.at hw1 MM))) rfl ?_
  refine qg (y_not RF) ?_
  refine qs (y_pick_f RF RF) ?_
  refine qs (y_assign RF) ?_
  refine sq_nil ?_
  refine sx_then ?_
  refine sc_f (lk_bool rfl (by rw [hal]; rfl)) ?_
  refine sc_seq ?_
  refine sc_region ?_
  refine qs (y_move RF) ?_
  refine qs (y_len Try.underlying214 RF) ?_
  refine qs (y_gtr RF RF) ?_
  refine qs (y_assign RF) ?_
  refine sq_nil ?_
  refine sx_then ?_
  refine sc_f (lk_bool rfl (decide_eq_false (by omega))) ?_
  refine sc_skip ?_
  refine sx_blk ?_
  refine sx_then ?_
  refine sc_seq ?_
  refine sc_drawR (by kernel_rfl) ?_
  refine xj_s 0 RF (by kernel_rfl) SR LD59 rfl ?_
  refine xj_s 1 RF (by kernel_rfl) SR LD81 rfl ?_
  refine xj_s 2 RF (by kernel_rfl) SR (y_move RF) rfl ?_
  refine xj_s 4 RF (by kernel_rfl) SR LD59 rfl ?_
  refine xj_s 5 RF (by kernel_rfl) SR LD81 rfl ?_
  refine xj_s 6 RF (by kernel_rfl) SR (y_move RF) rfl ?_
  refine xj_one 3 RF (by kernel_rfl) ?_
  refine qy (yc Try.call119 E4 (fun w1 hw1 => pick119 w1 p s 2 a c l (hl.at hw1 MM) hp hs (by decide) hall)) ?_
  refine sq_nil ?_
  refine sx_xp SR ?_
  refine xj_one 7 RF (by kernel_rfl) ?_
  refine qy (yc Try.call119 E4 (fun w1 hw1 => pick119 w1 p s 1 a c l (hl.at hw1 MM) hp hs (by decide) hall)) ?_
  refine sq_nil ?_
  refine sx_xp SR ?_
  refine xj_s 8 RF (by kernel_rfl) SR (y_assign RF) rfl ?_
  refine xj_s 9 RF (by kernel_rfl) SR (y_assign RF) rfl ?_
  refine xj_s 10 RF (by kernel_rfl) SR (y_assign RF) rfl ?_
  refine xj_done (by kernel_rfl) ?_
  refine sx_then ?_
  refine sc_ret ?_
  refine sx_ret3 (.inl rfl) rfl Try.results106 RF RF RF ?_
  intro w' hw'
  exact ⟨rfl, hw'.below MM⟩
end Go.Proofs.Ytfceajkofpafpaa
