/- The walks of what is allowed always, and of what may be. -/
import Derived.Test.YtfceajkofpafpaaFW2
namespace Go.Proofs.Ytfceajkofpafpaa
open Go Go.Eng Go.RowKit Go.Proofs
open Go.Proofs.Ytfceajkofpafpaa.Sc (iRow spRow sp0 Sp spB plusV getD_of get_of_lt any_range_get all_not_any all_getD)
set_option maxRecDepth 100000
theorem mul_bd3 {a b : Int} (ha : -30000 ≤ a ∧ a ≤ 30000) (hb : 0 ≤ b ∧ b ≤ 2000) : -60000000 ≤ a * b ∧ a * b ≤ 60000000 := by
  have h1 : a * b ≤ 30000 * b := Int.mul_le_mul_of_nonneg_right ha.2 hb.1
  have h2 : -30000 * b ≤ a * b := Int.mul_le_mul_of_nonneg_right ha.1 hb.1
  omega
theorem by_bd {i : Nat} {p : Pl} {t h : Eg} (hp : Vp p) (ht : Vg t) (hh : Vg h) : (-30000 ≤ (byD i p t h).lo ∧ (byD i p t h).lo ≤ 30000) ∧ (-30000 ≤ (byD i p t h).hi ∧ (byD i p t h).hi ≤ 30000) ∧ (byD i p t h).lo ≤ (byD i p t h).hi := by
  have a1 := ht.a
  have a2 := hh.a
  have b1 := ht.w
  have b2 := hh.w
  have c1 := ht.d
  have c2 := hh.d
  have hl := hp.l
  unfold byD offD wideD deepD
  split
  · dsimp only; omega
  · split <;> (dsimp only; omega)
theorem lim_bd {i : Nat} {p : Pl} (hp : Vp p) : (-1000 ≤ lowD i p ∧ lowD i p ≤ 0) ∧ (0 ≤ highD i p ∧ highD i p ≤ 1000) := by
  have h1 := hp.s
  have h2 := hp.o
  unfold lowD highD
  split <;> omega
theorem y_bounds {X : Ctx} {L : List (Nat × Value)} {rs : List Res} {ty : TypeId} {g : Operand} {ats : Array TypeId} {i : Nat} {p : Pl} {t h : Eg} (hP : X.P = Try.prog) (hi : i < 3) (hp : Vp p) (hg : ev L g = some (difV i p t h)) : OpY X L rs (.call { callee := .invoke g "jigworks/fit.bounds", args := #[], argTypes := ats }) ty (.tuple #[.int .i64 (lowD i p), .int .i64 (highD i p)]) := by
  cases X; dsimp only at hP; subst hP
  rcases (by omega : i = 0 ∨ i = 1 ∨ i = 2) with rfl | rfl | rfl
  · exact y_invoke (f := 159) (rv' := .agg (cpRow p t h).toArray) hg (fun w => by kernel_rfl) Try.call159 EvL.nil fun w1 _ => bounds159 w1 p t h hp
  · exact y_invoke (f := 162) (rv' := .agg (cpRow p t h).toArray) hg (fun w => by kernel_rfl) Try.call162 EvL.nil fun w1 _ => bounds162 w1 p t h hp
  · exact y_invoke (f := 165) (rv' := .agg (cpRow p t h).toArray) hg (fun w => by kernel_rfl) Try.call165 EvL.nil fun w1 _ => bounds165 w1 p t h hp
theorem y_by {X : Ctx} {L : List (Nat × Value)} {rs : List Res} {ty : TypeId} {g : Operand} {ats : Array TypeId} {i : Nat} {p : Pl} {t h : Eg} (hP : X.P = Try.prog) (hi : i < 3) (hp : Vp p) (ht : Vg t) (hh : Vg h) (hg : ev L g = some (difV i p t h)) : OpY X L rs (.call { callee := .invoke g "jigworks/fit.by", args := #[], argTypes := ats }) ty (.agg (spRow (byD i p t h)).toArray) := by
  cases X; dsimp only at hP; subst hP
  rcases (by omega : i = 0 ∨ i = 1 ∨ i = 2) with rfl | rfl | rfl
  · exact y_invoke (f := 160) (rv' := .agg (cpRow p t h).toArray) hg (fun w => by kernel_rfl) Try.call160 EvL.nil fun w1 _ => by160 w1 p t h hp ht hh
  · exact y_invoke (f := 163) (rv' := .agg (cpRow p t h).toArray) hg (fun w => by kernel_rfl) Try.call163 EvL.nil fun w1 _ => by163 w1 p t h ht hh
  · exact y_invoke (f := 166) (rv' := .agg (cpRow p t h).toArray) hg (fun w => by kernel_rfl) Try.call166 EvL.nil fun w1 _ => by166 w1 p t h ht hh
theorem always134 (w : World) (p : Pl) (t h : Eg) (hp : Vp p) (ht : Vg t) (hh : Vg h) (i : Nat) (hi : i < 3) : Calls Try.prog 134 #[.agg (cpRow p t h).toArray, difV i p t h] w fun e w' => e = .returned (.bool (allB (byD i p t h) (lowD i p) (highD i p) p.damp)) ∧ Below w.heap.size w w' := by
  have hd := hp.d
  have hb := by_bd (i := i) hp ht hh
  have hl := lim_bd (i := i) hp
  have m1 := mul_bd3 (a := (byD i p t h).lo) (b := 1000 + p.damp.hi) (by omega) (by omega)
  have m2 := mul_bd3 (a := (byD i p t h).hi) (b := 1000 + p.damp.hi) (by omega) (by omega)
  have m3 := mul_bd3 (a := min (max 0 (byD i p t h).lo) (byD i p t h).hi) (b := 1000 + p.damp.lo) (by omega) (by omega)
  unfold cpRow
  refine calls_of_SC (args := [.agg #[.int .i64 p.len, .int .i64 p.slack, .int .i64 p.loose, .int .i64 p.damp.lo, .int .i64 p.damp.hi, .int .i64 t.kind, .int .i64 t.at_.lo, .int .i64 t.at_.hi, .int .i64 t.wd.lo, .int .i64 t.wd.hi, .int .i64 t.dp.lo, .int .i64 t.dp.hi, .int .i64 h.kind, .int .i64 h.at_.lo, .int .i64 h.at_.hi, .int .i64 h.wd.lo, .int .i64 h.wd.hi, .int .i64 h.dp.lo, .int .i64 h.dp.hi], difV i p t h]) Try.func134 rfl Try.ntmps134 rfl ?_
  simp only [argL, Nat.zero_add]
  refine sc_seq ?_
  refine sc_region ?_
  refine sq_box RF rfl (fun b2 => ?_)
  refine qs (y_assign RF) ?_
  refine sq_nil ?_
  refine sx_then ?_
  refine sc_seq ?_
  refine sc_region ?_
  refine qs (y_move RF) ?_
  refine qy (y_bounds rfl hi hp RF) ?_
  refine qs (y_move RF) ?_
  refine qs (y_extract RF RF) ?_
  refine qs (y_extract RF RF) ?_
  refine qs (y_assign RF) ?_
  refine qs (y_assign RF) ?_
  refine sq_nil ?_
  refine sx_then ?_
  refine sc_seq ?_
  refine sc_drawR (by kernel_rfl) ?_
  refine xj_s 0 RF (by kernel_rfl) SR (y_move RF) rfl ?_
  refine xj_s 2 RF (by kernel_rfl) SR FA232_59 rfl ?_
  refine xj_s 3 RF (by kernel_rfl) SR FA59_38 rfl ?_
  refine xj_s 4 RF (by kernel_rfl) SR FA38_3 rfl ?_
  refine xj_s 5 RF (by kernel_rfl) SR LD3 rfl ?_
  refine xj_s 6 RF (by kernel_rfl) SR (y_add RF RF (by omega)) rfl ?_
  refine xj_all (l := [1, 7]) (by kernel_rfl) (by simp) (Each.cons ⟨_, rfl, ?_⟩ (Each.cons ⟨_, rfl, ?_⟩ Each.nil))
  ·
    refine qy (y_by rfl hi hp ht hh RF) ?_
    refine sq_nil ?_
    refine sx_xp SR ?_
    refine xj_one 7 RF (by kernel_rfl) ?_
    refine sq_alloc Try.zeroValue229 rfl (fun b7 => ?_)
    refine sq_nil ?_
    refine sx_xp SR ?_
    refine xj_one 8 RF (by kernel_rfl) ?_
    refine sq_store_all Try.sizeOf229 RF RF rfl RM rfl rfl ?_
    refine sq_nil ?_
    refine sx_xp SR ?_
    refine xj_s 9 RF (by kernel_rfl) SR (y_assign RF) rfl ?_
    refine xj_done (by kernel_rfl) ?_
    refine sx_then ?_
    refine sc_seq ?_
    refine sc_region ?_
    refine qs FA229_3 ?_
    refine qs LD3 ?_
    refine qs (y_move RF) ?_
    refine qs (y_mul RF RF (by omega)) ?_
    refine qs (y_move RF) ?_
    refine qs (y_mul RF RF (by omega)) ?_
    refine qs (y_geq RF RF) ?_
    refine qs (y_move RF) ?_
    refine sp 28 (fun hg3_7 => ?_) (fun hg3_7 => ?_)
    ·
      refine qg FA229_3 ?_
      refine qg LD3 ?_
      refine qg (y_move RF) ?_
      refine qg (y_mul RF RF (by omega)) ?_
      refine qg (y_move RF) ?_
      refine qg (y_mul RF RF (by omega)) ?_
      refine qg (y_leq RF RF) ?_
      refine qs (y_pick_t RF RF) ?_
      refine qs (y_assign RF) ?_
      refine sq_nil ?_
      refine sx_then ?_
      refine sc_ret ?_
      refine sx_ret1 (.inl rfl) rfl Try.results134 RF ?_
      intro w' hw'
      refine ⟨?_, hw'.below MM⟩
      unfold allB
      simp [*]
    ·
      refine qf ?_
      refine qf ?_
      refine qf ?_
      refine qf ?_
      refine qf ?_
      refine qf ?_
      refine qf ?_
      refine qs (y_pick_f RF RF) ?_
      refine qs (y_assign RF) ?_
      refine sq_nil ?_
      refine sx_then ?_
      refine sc_ret ?_
      refine sx_ret1 (.inl rfl) rfl Try.results134 RF ?_
      intro w' hw'
      refine ⟨?_, hw'.below MM⟩
      unfold allB
      simp [*]
  ·
    refine sq_alloc Try.zeroValue229 rfl (fun b7 => ?_)
    refine sq_nil ?_
    refine sx_xp SR ?_
    refine xj_one 1 RF (by kernel_rfl) ?_
    refine qy (y_by rfl hi hp ht hh RF) ?_
    refine sq_nil ?_
    refine sx_xp SR ?_
    refine xj_one 8 RF (by kernel_rfl) ?_
    refine sq_store_all Try.sizeOf229 RF RF rfl RM rfl rfl ?_
    refine sq_nil ?_
    refine sx_xp SR ?_
    refine xj_s 9 RF (by kernel_rfl) SR (y_assign RF) rfl ?_
    refine xj_done (by kernel_rfl) ?_
    refine sx_then ?_
    refine sc_seq ?_
    refine sc_region ?_
    refine qs FA229_3 ?_
    refine qs LD3 ?_
    refine qs (y_move RF) ?_
    refine qs (y_mul RF RF (by omega)) ?_
    refine qs (y_move RF) ?_
    refine qs (y_mul RF RF (by omega)) ?_
    refine qs (y_geq RF RF) ?_
    refine qs (y_move RF) ?_
    refine sp 28 (fun hg3_7 => ?_) (fun hg3_7 => ?_)
    ·
      refine qg FA229_3 ?_
      refine qg LD3 ?_
      refine qg (y_move RF) ?_
      refine qg (y_mul RF RF (by omega)) ?_
      refine qg (y_move RF) ?_
      refine qg (y_mul RF RF (by omega)) ?_
      refine qg (y_leq RF RF) ?_
      refine qs (y_pick_t RF RF) ?_
      refine qs (y_assign RF) ?_
      refine sq_nil ?_
      refine sx_then ?_
      refine sc_ret ?_
      refine sx_ret1 (.inl rfl) rfl Try.results134 RF ?_
      intro w' hw'
      refine ⟨?_, hw'.below MM⟩
      unfold allB
      simp [*]
    ·
      refine qf ?_
      refine qf ?_
      refine qf ?_
      refine qf ?_
      refine qf ?_
      refine qf ?_
      refine qf ?_
      refine qs (y_pick_f RF RF) ?_
      refine qs (y_assign RF) ?_
      refine sq_nil ?_
      refine sx_then ?_
      refine sc_ret ?_
      refine sx_ret1 (.inl rfl) rfl Try.results134 RF ?_
      intro w' hw'
      refine ⟨?_, hw'.below MM⟩
      unfold allB
      simp [*]
theorem perhaps135 (w : World) (p : Pl) (t h : Eg) (hp : Vp p) (ht : Vg t) (hh : Vg h) (i : Nat) (hi : i < 3) : Calls Try.prog 135 #[.agg (cpRow p t h).toArray, difV i p t h] w fun e w' => e = .returned (.bool (mayB (byD i p t h) (lowD i p) (highD i p) p.damp)) ∧ Below w.heap.size w w' := by
  have hd := hp.d
  have hb := by_bd (i := i) hp ht hh
  have hl := lim_bd (i := i) hp
  have m1 := mul_bd3 (a := (byD i p t h).lo) (b := 1000 + p.damp.hi) (by omega) (by omega)
  have m2 := mul_bd3 (a := (byD i p t h).hi) (b := 1000 + p.damp.hi) (by omega) (by omega)
  have m3 := mul_bd3 (a := min (max 0 (byD i p t h).lo) (byD i p t h).hi) (b := 1000 + p.damp.lo) (by omega) (by omega)
  unfold cpRow
  refine calls_of_SC (args := [.agg #[.int .i64 p.len, .int .i64 p.slack, .int .i64 p.loose, .int .i64 p.damp.lo, .int .i64 p.damp.hi, .int .i64 t.kind, .int .i64 t.at_.lo, .int .i64 t.at_.hi, .int .i64 t.wd.lo, .int .i64 t.wd.hi, .int .i64 t.dp.lo, .int .i64 t.dp.hi, .int .i64 h.kind, .int .i64 h.at_.lo, .int .i64 h.at_.hi, .int .i64 h.wd.lo, .int .i64 h.wd.hi, .int .i64 h.dp.lo, .int .i64 h.dp.hi], difV i p t h]) Try.func135 rfl Try.ntmps135 rfl ?_
  simp only [argL, Nat.zero_add]
  refine sc_seq ?_
  refine sc_region ?_
  refine sq_box RF rfl (fun b2 => ?_)
  refine qs (y_assign RF) ?_
  refine sq_nil ?_
  refine sx_then ?_
  refine sc_seq ?_
  refine sc_region ?_
  refine qs (y_move RF) ?_
  refine qy (y_bounds rfl hi hp RF) ?_
  refine qs (y_move RF) ?_
  refine qs (y_extract RF RF) ?_
  refine qs (y_extract RF RF) ?_
  refine qs (y_assign RF) ?_
  refine qs (y_assign RF) ?_
  refine sq_nil ?_
  refine sx_then ?_
  refine sc_seq ?_
  refine sc_region ?_
  refine qs (y_move RF) ?_
  refine qy (y_by rfl hi hp ht hh RF) ?_
  refine sq_alloc Try.zeroValue229 rfl (fun b7 => ?_)
  refine sq_store_all Try.sizeOf229 RF RF rfl RM rfl rfl ?_
  refine sq_nil ?_
  refine sx_then ?_
  refine sc_seq ?_
  refine sc_region ?_
  refine qs FA229_3 ?_
  refine qs LD3 ?_
  refine qs (y_max RF RF) ?_
  refine qs FA229_3 ?_
  refine qs LD3 ?_
  refine qs (y_min RF RF) ?_
  refine qs FA232_59 ?_
  refine qs FA59_38 ?_
  refine qs FA38_3 ?_
  refine qs LD3 ?_
  refine qs (y_add RF RF (by omega)) ?_
  refine qs (y_mul RF RF (by omega)) ?_
  refine qs (y_assign RF) ?_
  refine sq_nil ?_
  refine sx_then ?_
  refine sc_seq ?_
  refine sc_region ?_
  refine qs (y_move RF) ?_
  refine qs (y_mul RF RF (by omega)) ?_
  refine qs (y_move RF) ?_
  refine qs (y_leq RF RF) ?_
  refine qs (y_move RF) ?_
  refine sp 32 (fun hg4_4 => ?_) (fun hg4_4 => ?_)
  ·
    refine qg (y_move RF) ?_
    refine qg (y_move RF) ?_
    refine qg (y_mul RF RF (by omega)) ?_
    refine qg (y_leq RF RF) ?_
    refine qs (y_pick_t RF RF) ?_
    refine qs (y_assign RF) ?_
    refine sq_nil ?_
    refine sx_then ?_
    refine sc_ret ?_
    refine sx_ret1 (.inl rfl) rfl Try.results135 RF ?_
    intro w' hw'
    refine ⟨?_, hw'.below MM⟩
    unfold mayB bestN
    simp [*]
  ·
    refine qf ?_
    refine qf ?_
    refine qf ?_
    refine qf ?_
    refine qs (y_pick_f RF RF) ?_
    refine qs (y_assign RF) ?_
    refine sq_nil ?_
    refine sx_then ?_
    refine sc_ret ?_
    refine sx_ret1 (.inl rfl) rfl Try.results135 RF ?_
    intro w' hw'
    refine ⟨?_, hw'.below MM⟩
    unfold mayB bestN
    simp [*]
end Go.Proofs.Ytfceajkofpafpaa
