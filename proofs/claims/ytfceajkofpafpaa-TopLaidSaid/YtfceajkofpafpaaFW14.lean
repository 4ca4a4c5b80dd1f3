/- The walks of what a rectangle has: its cells, its pieces, the keys of a map. -/
import Derived.Test.YtfceajkofpafpaaRectDat
import Derived.Test.YtfceajkofpafpaaEng26
namespace Go.Proofs.Ytfceajkofpafpaa
open Go Go.Eng Go.RowKit Go.Proofs
open Go.Proofs.Ytfceajkofpafpaa.Sc (iRow spRow sp0 Sp getD_of get_of_lt any_range_get all_not_any all_getD)
set_option maxRecDepth 100000
def rcRow (R : Rc) : List Value := [.int .i64 R.x0, .int .i64 R.y0, .int .i64 R.x1, .int .i64 R.y1]
theorem kf3 : KF Try.prog 3 iV (fun _ => True) := KF.of_int Try.underlying3
structure UsrC (w0 : World) (l : Nat) (lp : Loop) (R : Rc) where
  Z : Type
  UR : Z → List Res
  Inv : List (Int × Int) → Z → Prop
  loop : ∀ z, Res.blk l (.loop lp) ∈ UR z
  one : lp.params.size = 1
  round : ∀ ds z p, Inv ds z → p ∈ cellsR R → p ∉ ds → ∀ F w, Hp w0 (UR z ++ F) w → RoundIn (FW none) 0 Try.prog l lp.fn ((lp.params.zip #[cK p]).foldl (fun tmps (t, a) => tmps.setIfInBounds t a) lp.tmps) lp.assign lp.body w fun e w' => ∃ z', Inv (ds ++ [p]) z' ∧ e = .returned (.bool true) ∧ Hp w0 (UR z' ++ F) w'
structure UsrK (w0 : World) (l : Nat) (lp : Loop) (m : List (Int × Int)) where
  Z : Type
  UR : Z → List Res
  Inv : Z → Prop
  loop : ∀ z, Res.blk l (.loop lp) ∈ UR z
  one : lp.params.size = 1
  round : ∀ z k v, Inv z → (k, v) ∈ m → ∀ F w, Hp w0 (UR z ++ F) w → RoundIn (FW none) 0 Try.prog l lp.fn ((lp.params.zip #[.int .i64 k]).foldl (fun tmps (t, a) => tmps.setIfInBounds t a) lp.tmps) lp.assign lp.body w fun e w' => ∃ z', Inv z' ∧ e = .returned (.bool true) ∧ Hp w0 (UR z' ++ F) w'
theorem bt143 : BT Try.prog 143 [(0, 2), (2, 2)] (.agg #[.int .i64 0, .int .i64 0, .int .i64 0, .int .i64 0]) := BT.of Try.underlying143 (by kernel_rfl) (by kernel_rfl)
theorem bt196 : BT Try.prog 196 [(0, 1), (1, 1), (2, 1), (3, 1)] (.agg #[.bool false, .int .i64 0, .int .i64 0, .int .i64 0]) := BT.of Try.underlying196 (by kernel_rfl) (by kernel_rfl)
theorem ei135 : EI Try.prog 135 (.nilFunc) 1 8 := by unfold EI; kernel_rfl
theorem ei196 : EI Try.prog 196 (.agg #[.bool false, .int .i64 0, .int .i64 0, .int .i64 0]) 4 32 := by unfold EI; kernel_rfl
theorem row91 (w : World) (x y : Int) : Calls Try.prog 91 #[.agg #[.int .i64 x, .int .i64 y]] w fun e w' => e = .returned (.int .i64 y) ∧ Below w.heap.size w w' := by
  refine calls_of_SC (args := [.agg #[.int .i64 x, .int .i64 y]]) Try.func91 rfl Try.ntmps91 rfl ?_
  simp only [argL]
  refine sc_seq ?_
  refine sc_region ?_
  refine sq_box RF rfl (fun b1 => ?_)
  refine qs (y_assign RF) ?_
  refine sq_nil ?_
  refine sx_then ?_
  refine sc_seq ?_
  refine sc_region ?_
  refine qs FA137_3 ?_
  refine qs LD3 ?_
  refine qs (y_assign RF) ?_
  refine sq_nil ?_
  refine sx_then ?_
  refine sc_ret ?_
  refine sx_ret1 (.inl rfl) rfl Try.results91 RF ?_
  intro w' hw'
  exact ⟨rfl, hw'.below MM⟩
theorem column92 (w : World) (x y : Int) : Calls Try.prog 92 #[.agg #[.int .i64 x, .int .i64 y]] w fun e w' => e = .returned (.int .i64 x) ∧ Below w.heap.size w w' := by
  refine calls_of_SC (args := [.agg #[.int .i64 x, .int .i64 y]]) Try.func92 rfl Try.ntmps92 rfl ?_
  simp only [argL]
  refine sc_seq ?_
  refine sc_region ?_
  refine sq_box RF rfl (fun b1 => ?_)
  refine qs (y_assign RF) ?_
  refine sq_nil ?_
  refine sx_then ?_
  refine sc_seq ?_
  refine sc_region ?_
  refine qs FA137_3 ?_
  refine qs LD3 ?_
  refine qs (y_assign RF) ?_
  refine sq_nil ?_
  refine sx_then ?_
  refine sc_ret ?_
  refine sx_ret1 (.inl rfl) rfl Try.results92 RF ?_
  intro w' hw'
  exact ⟨rfl, hw'.below MM⟩
theorem split93 (w : World) (R : Rc) (up : Bool) (k : Int) : Calls Try.prog 93 #[.agg (rcRow R).toArray, .bool up, .int .i64 k] w fun e w' => e = .returned (.tuple #[.agg (rcRow (splA R up k)).toArray, .agg (rcRow (splB R up k)).toArray]) ∧ Below w.heap.size w w' := by
  refine calls_of_SC (args := [.agg (rcRow R).toArray, .bool up, .int .i64 k]) Try.func93 rfl Try.ntmps93 rfl ?_
  simp only [argL, Nat.reduceAdd, Nat.zero_add]
  refine sc_seq ?_
  refine sc_region ?_
  refine sq_box RF rfl (fun b3 => ?_)
  refine sq_alloc Try.zeroValue143 rfl (fun b6 => ?_)
  refine sq_alloc Try.zeroValue143 rfl (fun b7 => ?_)
  refine sq_nil ?_
  refine sx_then ?_
  refine sc_seq ?_
  refine sc_drawX ([.blk b3 (.cells (rcRow R).toArray 143 (0, 0)), .reg 0 w]) (by kernel_rfl) ?_
  refine xj_s 0 RF (by kernel_rfl) SR LD143 rfl ?_
  refine xj_s 1 RF (by kernel_rfl) SR LD143 rfl ?_
  refine xj_one 2 RF (by kernel_rfl) ?_
  refine sq_store_all (vs := [.int .i64 R.x0, .int .i64 R.y0, .int .i64 R.x1, .int .i64 R.y1]) Try.sizeOf143 RF RF rfl RM rfl rfl ?_
  refine sq_nil ?_
  refine sx_xp SR ?_
  refine xj_one 3 RF (by kernel_rfl) ?_
  refine sq_store_all (vs := [.int .i64 R.x0, .int .i64 R.y0, .int .i64 R.x1, .int .i64 R.y1]) Try.sizeOf143 RF RF rfl RM rfl rfl ?_
  refine sq_nil ?_
  refine sx_xpl (by kernel_rfl) ?_
  refine xj_done (by kernel_rfl) ?_
  refine sx_then ?_
  refine sc_seq ?_
  refine sc_seq ?_
  refine sc_region ?_
  refine qs (y_move RF) ?_
  refine sq_nil ?_
  refine sx_then ?_
  refine scp (fun hc0 => ?_) (fun hc0 => ?_)
  ·
    refine sc_region ?_
    refine qs (y_move RF) ?_
    refine qs (y_move RF) ?_
    refine qs FA143_137 ?_
    refine qs FA137_3 ?_
    refine sq_store_to (cs' := #[.int .i64 R.x0, .int .i64 R.y0, .int .i64 k, .int .i64 R.y1]) Try.sizeOf3 RF RF rfl RM (Nat.le_of_ble_eq_true rfl) rfl ?_
    refine qs FA143_137 ?_
    refine qs FA137_3 ?_
    refine sq_store_to (cs' := #[.int .i64 k, .int .i64 R.y0, .int .i64 R.x1, .int .i64 R.y1]) Try.sizeOf3 RF RF rfl RM (Nat.le_of_ble_eq_true rfl) rfl ?_
    refine sq_nil ?_
    refine sx_then ?_
    refine sc_seq ?_
    refine sc_drawX ([.blk b6 (.cells #[.int .i64 R.x0, .int .i64 R.y0, .int .i64 k, .int .i64 R.y1] 143 (0, 0)), .blk b7 (.cells #[.int .i64 k, .int .i64 R.y0, .int .i64 R.x1, .int .i64 R.y1] 143 (0, 0)), .reg 0 w]) (by kernel_rfl) ?_
    refine xj_s 0 RF (by kernel_rfl) SR LD143 rfl ?_
    refine xj_s 1 RF (by kernel_rfl) SR LD143 rfl ?_
    refine xj_one 2 RF (by kernel_rfl) ?_
    refine sq_store_all (vs := [.int .i64 R.x0, .int .i64 R.y0, .int .i64 k, .int .i64 R.y1]) Try.sizeOf143 RF RF rfl RM rfl rfl ?_
    refine sq_nil ?_
    refine sx_xp SR ?_
    refine xj_one 3 RF (by kernel_rfl) ?_
    refine sq_store_all (vs := [.int .i64 k, .int .i64 R.y0, .int .i64 R.x1, .int .i64 R.y1]) Try.sizeOf143 RF RF rfl RM rfl rfl ?_
    refine sq_nil ?_
    refine sx_xpl (by kernel_rfl) ?_
    refine xj_done (by kernel_rfl) ?_
    refine sx_then ?_
    refine sc_ret ?_
    refine sx_retcc (vs := [.int .i64 R.x0, .int .i64 R.y0, .int .i64 k, .int .i64 R.y1]) (vs2 := [.int .i64 k, .int .i64 R.y0, .int .i64 R.x1, .int .i64 R.y1]) (.inl rfl) rfl Try.results93 Try.underlying143 rfl Try.sizeOf143 Try.underlying143 rfl Try.sizeOf143 RF MM rfl RF MM rfl ?_
    intro w' hw'
    refine ⟨?_, hw'.below MM⟩
    rw [hc0]; rfl
  ·
    refine sc_region ?_
    refine qs (y_move RF) ?_
    refine qs (y_move RF) ?_
    refine qs FA143_137 ?_
    refine qs FA137_3 ?_
    refine sq_store_to (cs' := #[.int .i64 R.x0, .int .i64 R.y0, .int .i64 R.x1, .int .i64 k]) Try.sizeOf3 RF RF rfl RM (Nat.le_of_ble_eq_true rfl) rfl ?_
    refine qs FA143_137 ?_
    refine qs FA137_3 ?_
    refine sq_store_to (cs' := #[.int .i64 R.x0, .int .i64 k, .int .i64 R.x1, .int .i64 R.y1]) Try.sizeOf3 RF RF rfl RM (Nat.le_of_ble_eq_true rfl) rfl ?_
    refine sq_nil ?_
    refine sx_then ?_
    refine sc_seq ?_
    refine sc_drawX ([.blk b6 (.cells #[.int .i64 R.x0, .int .i64 R.y0, .int .i64 R.x1, .int .i64 k] 143 (0, 0)), .blk b7 (.cells #[.int .i64 R.x0, .int .i64 k, .int .i64 R.x1, .int .i64 R.y1] 143 (0, 0)), .reg 0 w]) (by kernel_rfl) ?_
    refine xj_s 0 RF (by kernel_rfl) SR LD143 rfl ?_
    refine xj_s 1 RF (by kernel_rfl) SR LD143 rfl ?_
    refine xj_one 2 RF (by kernel_rfl) ?_
    refine sq_store_all (vs := [.int .i64 R.x0, .int .i64 R.y0, .int .i64 R.x1, .int .i64 k]) Try.sizeOf143 RF RF rfl RM rfl rfl ?_
    refine sq_nil ?_
    refine sx_xp SR ?_
    refine xj_one 3 RF (by kernel_rfl) ?_
    refine sq_store_all (vs := [.int .i64 R.x0, .int .i64 k, .int .i64 R.x1, .int .i64 R.y1]) Try.sizeOf143 RF RF rfl RM rfl rfl ?_
    refine sq_nil ?_
    refine sx_xpl (by kernel_rfl) ?_
    refine xj_done (by kernel_rfl) ?_
    refine sx_then ?_
    refine sc_ret ?_
    refine sx_retcc (vs := [.int .i64 R.x0, .int .i64 R.y0, .int .i64 R.x1, .int .i64 k]) (vs2 := [.int .i64 R.x0, .int .i64 k, .int .i64 R.x1, .int .i64 R.y1]) (.inl rfl) rfl Try.results93 Try.underlying143 rfl Try.sizeOf143 Try.underlying143 rfl Try.sizeOf143 RF MM rfl RF MM rfl ?_
    intro w' hw'
    refine ⟨?_, hw'.below MM⟩
    rw [hc0]; rfl
theorem cells111 (w : World) (R : Rc) : Calls Try.prog 111 #[.agg (rcRow R).toArray] w fun e w' => ∃ p, e = .returned (.func (.func 122) #[] #[.pointer (some p)]) ∧ Below w.heap.size w w' ∧ CA w.heap.size w' p (rcRow R) := by
  refine calls_of_SC (args := [.agg (rcRow R).toArray]) Try.func111 rfl Try.ntmps111 rfl ?_
  simp only [argL]
  refine sc_seq ?_
  refine sc_region ?_
  refine sq_box RF rfl (fun b1 => ?_)
  refine qs (y_assign RF) ?_
  refine sq_nil ?_
  refine sx_then ?_
  refine sc_seq ?_
  refine sc_region ?_
  refine qs (y_makeFunc EvL.nil (EvL.cons RF EvL.nil)) ?_
  refine qs (y_assign RF) ?_
  refine sq_nil ?_
  refine sx_then ?_
  refine sc_ret ?_
  refine sx_ret1 (.inl rfl) rfl Try.results111 RF ?_
  intro w' hw'
  exact ⟨⟨b1, 0, none⟩, rfl, hw'.below MM, ⟨blk_new hw' RM MM, (CA.blk (vs := rcRow R) hw' MM).2⟩⟩
theorem cells122 {w0 wr : World} {lo l : Nat} {lp : Loop} {R : Rc} (hx : 0 ≤ R.x0 ∧ R.x1 ≤ 100) (hy : 0 ≤ R.y0 ∧ R.y1 ≤ 100) (hww : R.x0 ≤ R.x1) (hhh : R.y0 ≤ R.y1) (pb : Addr) (hpb : CA lo wr pb (rcRow R)) (U : UsrC w0 l lp R) (z0 : U.Z) (hinv : U.Inv [] z0) (w : World) (hw : Hp w0 (.reg lo wr :: U.UR z0) w) : Calls Try.prog 122 #[.func (.yield l) #[] #[], .pointer (some pb)] w fun e w' => (∃ v, e = .returned v) ∧ ∃ z, U.Inv (cellsR R) z ∧ Hp w0 (.reg lo wr :: U.UR z) w' := by
  refine calls_of_SCr (args := [.func (.yield l) #[] #[], .pointer (some pb)]) Try.func122 rfl Try.ntmps122 rfl hw ?_
  simp only [argL, Nat.zero_add]
  refine sc_seq ?_
  refine sc_region ?_
  refine qs (y_fa Try.underlying143 RF (by exact Try.sizeOf137) RF rfl) ?_
  refine qs (y_fa Try.underlying137 RF (by exact Try.sizeOf3) RF rfl) ?_
  refine qs LD3 ?_
  refine qs (y_assign RF) ?_
  refine sq_nil ?_
  refine sx_then ?_
  refine sc_block ?_
  refine sc_loop (σ := Nat × U.Z)
    (fun s => [(0, .func (.yield l) #[] #[]), (1, .pointer (some pb)), (3, .int .i64 (R.y0 + (s.1 : Int)))])
    (fun s => .reg lo wr :: U.UR s.2)
    (fun s => s.1 ≤ R.h ∧ U.Inv (cellsJ R s.1) s.2)
    (fun s => R.h - s.1)
    ((0, z0)) ?_ SU SR ?_
  · exact ⟨Nat.zero_le _, hinv⟩
  rintro ⟨j, z⟩ ⟨hj, hz⟩
  dsimp only at hj hz ⊢
  refine sc_seq ?_
  refine sc_seq ?_
  refine sc_region ?_
  refine qs (y_move RF) ?_
  refine qs (y_fa Try.underlying143 RF (by exact Try.sizeOf137) RF rfl) ?_
  refine qs (y_fa Try.underlying137 RF (by exact Try.sizeOf3) RF rfl) ?_
  refine qs LD3 ?_
  refine qs (y_lss RF RF) ?_
  refine sq_nil ?_
  refine sx_then ?_
  refine scp (fun hc0 => ?_) (fun hc0 => ?_)
  ·
    have hj' : j < R.h := by unfold Rc.h; omega
    refine sc_skip ?_
    refine sx_then ?_
    refine sc_seq ?_
    refine sc_block ?_
    refine sc_seq ?_
    refine sc_region ?_
    refine qs (y_fa Try.underlying143 RF (by exact Try.sizeOf137) RF rfl) ?_
    refine qs (y_fa Try.underlying137 RF (by exact Try.sizeOf3) RF rfl) ?_
    refine qs LD3 ?_
    refine qs (y_assign RF) ?_
    refine sq_nil ?_
    refine sx_then ?_
    refine sc_block ?_
    refine sc_loop (σ := Nat × U.Z)
      (fun s => [(0, .func (.yield l) #[] #[]), (1, .pointer (some pb)), (3, .int .i64 (R.y0 + (j : Int))), (4, .int .i64 (R.x0 + (s.1 : Int)))])
      (fun s => .reg lo wr :: U.UR s.2)
      (fun s => s.1 ≤ R.w ∧ U.Inv (cellsJ R j ++ rowC R j s.1) s.2)
      (fun s => R.w - s.1)
      ((0, z)) ?_ SU SR ?_
    · exact ⟨Nat.zero_le _, by rw [show rowC R j 0 = [] from rfl, List.append_nil]; exact hz⟩
    rintro ⟨i, z⟩ ⟨hi, hz⟩
    dsimp only at hi hz ⊢
    refine sc_seq ?_
    refine sc_seq ?_
    refine sc_region ?_
    refine qs (y_move RF) ?_
    refine qs (y_fa Try.underlying143 RF (by exact Try.sizeOf137) RF rfl) ?_
    refine qs (y_fa Try.underlying137 RF (by exact Try.sizeOf3) RF rfl) ?_
    refine qs LD3 ?_
    refine qs (y_lss RF RF) ?_
    refine sq_nil ?_
    refine sx_then ?_
    refine scp (fun hc1 => ?_) (fun hc1 => ?_)
    ·
      have hi' : i < R.w := by unfold Rc.w; omega
      refine sc_skip ?_
      refine sx_then ?_
      refine sc_seq ?_
      refine sc_block ?_
      refine sc_seq ?_
      refine sc_region ?_
      refine qs (y_move RF) ?_
      refine qs (y_move RF) ?_
      refine qs (y_move RF) ?_
      refine qs (y_build bt137 (EvP.cons RF (EvP.cons RF EvP.nil)) RF) ?_
      refine sq_yield (rs' := U.UR z ++ [.reg lo wr]) (Z := U.Z) (fun _ => .bool true) (fun z' => .reg lo wr :: U.UR z') (fun z' => U.Inv ((cellsJ R j ++ rowC R j i) ++ [cellIJ R i j]) z') RF E1 (List.mem_append.2 (.inl (U.loop z))) (Sel.comm [.reg lo wr] (U.UR z)) (by simpa using U.one.symm) (fun w1 hw1 => (U.round _ z (cellIJ R i j) hz (mem_cellsJ.2 ⟨i, j, hi', hj', rfl⟩) cellIJ_new [.reg lo wr] w1 hw1).mono (fun e w' ⟨z', h1, h2, h3⟩ => ⟨z', h1, h2, h3.sel (Sel.comm (U.UR z') [.reg lo wr])⟩)) rfl (fun z' hz' => ?_)
      refine qs (y_not RF) ?_
      refine sq_nil ?_
      refine sx_then ?_
      refine sc_f (lk_bool rfl (rfl)) ?_
      refine sc_skip ?_
      refine sx_blk ?_
      refine sx_then ?_
      refine sc_region ?_
      refine qs (y_move RF) ?_
      refine qs (y_add RF RF (by omega)) ?_
      refine qs (y_assign RF) ?_
      refine sq_nil ?_
      refine sx_round ((i + 1, z')) ?_ ?_ SU SR
      · exact ⟨by dsimp only; omega, by rw [rowC_succ, ← List.append_assoc]; exact hz'⟩
      · dsimp only; omega
    ·
      refine sc_exit ?_
      refine sx_then_exit ?_
      refine sx_round_exit ?_
      refine sx_blk_hit ?_
      refine sx_blk ?_
      refine sx_then ?_
      refine sc_region ?_
      refine qs (y_move RF) ?_
      refine qs (y_add RF RF (by omega)) ?_
      refine qs (y_assign RF) ?_
      refine sq_nil ?_
      refine sx_round ((j + 1, z)) ?_ ?_ SU SR
      · have hiw : i = R.w := by unfold Rc.w at *; omega
        subst hiw
        exact ⟨by dsimp only; omega, by rw [cellsJ_succ]; exact hz⟩
      · dsimp only; omega
  ·
    have hjh : j = R.h := by unfold Rc.h at *; omega
    subst hjh
    refine sc_exit ?_
    refine sx_then_exit ?_
    refine sx_round_exit ?_
    refine sx_blk_hit ?_
    refine sx_ret0 (.inr rfl) rfl Try.results122 ?_
    intro w' hw'
    exact ⟨⟨_, rfl⟩, z, hz, hw'⟩
theorem cells122q {w0 wr w : World} {lo l : Nat} {lp : Loop} {rs : List Res} (_ : Hp w0 rs w) (_ : Res.blk l (.loop lp) ∈ rs) {R : Rc} (hx : 0 ≤ R.x0 ∧ R.x1 ≤ 100) (hy : 0 ≤ R.y0 ∧ R.y1 ≤ 100) (hww : R.x0 ≤ R.x1) (hhh : R.y0 ≤ R.y1) (pb : Addr) (hpb : CA lo wr pb (rcRow R)) (U : UsrC w0 l lp R) (z : U.Z) (hinv : U.Inv [] z) (hw : Hp w0 (.reg lo wr :: U.UR z) w) {Q : Ending → World → Prop}
    (h : ∀ e w', (∃ v, e = .returned v) → ∀ (z : U.Z), U.Inv (cellsR R) z → Hp w0 (.reg lo wr :: U.UR z) w' → Q e w') : Calls Try.prog 122 #[.func (.yield l) #[] #[], .pointer (some pb)] w Q :=
  (cells122 hx hy hww hhh pb hpb U z hinv w hw).mono fun e w' ⟨hv, y, h1, h2⟩ => h e w' hv y h1 h2
theorem count112 {w0 w : World} {T : List Res} {bm : Nat} {l : List (Int × Int)} {k : Int} (hnd : (l.map (·.1)).Nodup) (hnew : mvGet l k = none) (hw : Hp w0 (.blk bm (mvM iV iV l) :: T) w) : Calls Try.prog 112 #[.map (some bm), .int .i64 k] w fun e w' => e = .returned (.tuple #[]) ∧ Hp w0 (.blk bm (mvM iV iV (l ++ [(k, 1)])) :: T) w' := by
  refine calls_of_SCr (args := [.map (some bm), .int .i64 k]) Try.func112 rfl Try.ntmps112 rfl hw ?_
  simp only [argL, Nat.zero_add]
  refine sc_region ?_
  refine qs (y_move RF) ?_
  refine qs (y_move RF) ?_
  refine qs (y_lookupV (l := l) (kf := iV) (vf := iV) (x0 := k) (b0 := 0) kf3 (fun _ _ => trivial) hnd trivial Try.underlying186 Try.zeroValue3 RF (fun _ hw => hw.ok (Res.blk bm (mvM iV iV l)) MM) RF) ?_
  rw [show iV ((mvGet l k).getD 0) = .int .i64 0 from by rw [hnew]; rfl]
  refine qs (y_add RF RF (by omega)) ?_
  refine sq_mapPutV (kf := iV) (vf := iV) (x0 := k) (b1 := 1) kf3 (fun _ _ => trivial) hnd trivial Try.underlying186 RF RM RF RF hnew ?_
  refine sq_nil ?_
  refine sx_ret0 (.inr rfl) rfl Try.results112 ?_
  intro w' hw'
  exact ⟨rfl, hw'⟩
theorem pieces90 (w : World) (c : Ct) (hD : Dist c) (a : Option Addr) (cp b : Nat) (hb : MpA 0 w b c) (R : Rc) (hR : RcIn c R) : Calls Try.prog 90 #[.agg (picV c a cp b).toArray, .agg (rcRow R).toArray] w fun e w' => ∃ q : Nat, e = .returned (.map (some q)) ∧ Below w.heap.size w w' ∧ w.heap.size ≤ q ∧ w'.heap[q]? = some (mvM iV iV (pcL c (cellsR R))) := by
  have hF := hD.ok.ok
  have hx := hR.x
  have hy := hR.y
  have hw2 := hF.w2
  have hh2 := hF.h2
  refine calls_of_SCm (args := [.agg (picV c a cp b).toArray, .agg (rcRow R).toArray]) Try.func90 rfl Try.ntmps90 rfl ?_
  simp only [argL, Nat.zero_add]
  refine sc_seq ?_
  refine sc_region ?_
  refine sq_box RF rfl (fun b2 => ?_)
  refine sq_box RF rfl (fun b3 => ?_)
  refine qs (y_assign RF) ?_
  refine sq_nil ?_
  refine sx_then ?_
  refine sc_seq ?_
  refine sc_region ?_
  refine sq_makeMapV iV iV rfl (fun b7 => ?_)
  refine sq_alloc Try.zeroValue186 rfl (fun b5 => ?_)
  refine sq_store_to (cs' := #[.map (some b7)]) Try.sizeOf186 RF RF rfl RM (Nat.le_of_ble_eq_true rfl) rfl ?_
  refine sq_nil ?_
  refine sx_then ?_
  refine sc_seq ?_
  refine sc_seq ?_
  refine sc_region ?_
  refine qs LD143 ?_
  refine sq_call_new (first := []) (caps := []) (Z := Addr) (fun q => .func (.func 122) #[] #[.pointer (some q)]) (fun lo w' q => CA lo w' q (rcRow R)) RF Try.call111 (EvL.cons RF EvL.nil) (fun w1 _ => cells111 w1 R) rfl (fun lo wr pb hpb => ?_)
  refine sq_nil ?_
  refine sx_then ?_
  refine sc_block ?_
  refine sc_rangeFunc (Z := List (Int × Int)) (ps := [10]) (lb := [.pointer (some pb)]) (fun ds => .reg lo wr :: .reg 0 w :: .blk b5 (.cells #[.map (some b7)] 186 (0, 0)) :: .blk b7 (mvM iV iV (pcL c ds)) :: .blk b2 (.cells (picV c a cp b).toArray 90 (0, 0)) :: []) (fun ds => ds = cellsR R) rfl RF Try.call122 ?_ ?_
  ·
    intro fn tm l D hts htL w1 hw1
    refine cells122q hw1 (.head _) (by omega) (by omega) (by omega) (by omega) pb hpb { Z := List (Int × Int), UR := fun ds => .blk l (.loop (LP fn tm [10] _ _ D)) :: .blk D (.deferred (some [])) :: .blk b5 (.cells #[.map (some b7)] 186 (0, 0)) :: .blk b7 (mvM iV iV (pcL c ds)) :: .blk b2 (.cells (picV c a cp b).toArray 90 (0, 0)) :: .reg 0 w :: [], Inv := fun ds y => y = ds ∧ (∀ q, q ∈ ds → q ∈ cellsR R) ∧ ds.Nodup, loop := fun _ => .head _, one := rfl, round := ?_ } [] ⟨rfl, (fun _ h => by cases h), List.nodup_nil⟩ (hw1.sel SR) ?_
    rotate_left
    · intro e w' hv y h1 h2
      exact ⟨y, h1.1, hv, h2.sel SR⟩
    rintro _ ds p ⟨rfl, hs, hnd⟩ hpR hno F w2 hw2
    have hpin := cells_in hR hpR
    rw [fold1]
    obtain ⟨hs2, hL2⟩ := one_param (p := 10) (u := .agg #[.int .i64 p.1, .int .i64 p.2]) hts htL (Nat.le_of_ble_eq_true rfl)
    refine round_of_SC (N := 18) hs2 hL2 hw2 ?_
    dsimp only [List.cons_append, List.nil_append]
    refine sc_region ?_
    refine sq_alloc Try.zeroValue137 rfl (fun b6 => ?_)
    refine sq_store_all (vs := [.int .i64 p.1, .int .i64 p.2]) Try.sizeOf137 RF RF rfl RM rfl rfl ?_
    refine sq_nil ?_
    refine sx_begin rfl RM rfl ?_
    refine sc_block ?_
    refine sc_drawX ([.blk b5 (.cells #[.map (some b7)] 186 (0, 0)), .blk b2 (.cells (picV c a cp b).toArray 90 (0, 0)), .blk b6 (.cells #[.int .i64 p.1, .int .i64 p.2] 137 (0, 0)), .reg 0 w]) (by kernel_rfl) ?_
    refine xj_s 0 RF (by kernel_rfl) SR LD186 rfl ?_
    refine xj_s 1 RF (by kernel_rfl) SR FA90_88 rfl ?_
    refine xj_s 2 RF (by kernel_rfl) SR LD88 rfl ?_
    refine xj_s 3 RF (by kernel_rfl) SR LD137 rfl ?_
    refine xj_s 4 RF (by kernel_rfl) SR (y_lookupV (l := cellsL c) (kf := cK) (vf := iV) (x0 := p) (b0 := 0) kv137.toKF (cellsN_ok hF (Nat.le_refl _)) (cellsN_nd hF (Nat.le_refl _)) (okC_in hF hpin) Try.underlying88 Try.zeroValue3 RF (fun _ hw => hb.hp MM hw) RF) rfl ?_
    rw [show iV ((mvGet (cellsL c) p).getD 0) = .int .i64 (atC c p) from by rw [(cellsL_get hF p).2 hpin]; rfl]
    refine xj_one 5 RF (by kernel_rfl) ?_
    refine sq_call (first := []) (caps := []) (Z := Unit) (fun _ => .tuple #[]) (fun _ => .blk b7 (mvM iV iV (pcL c (ds ++ [p]))) :: .blk b6 (.cells #[.int .i64 p.1, .int .i64 p.2] 137 (0, 0)) :: .blk l (.loop { LP fn tm [10] _ _ D with state := .busy }) :: .blk D (.deferred (some [])) :: .blk b5 (.cells #[.map (some b7)] 186 (0, 0)) :: .blk b2 (.cells (picV c a cp b).toArray 90 (0, 0)) :: .reg 0 w :: F) (fun _ => True) RF Try.call112 (EvL.cons RF (EvL.cons RF EvL.nil)) (fun w1 hw1 => (count112 (T := .blk b6 (.cells #[.int .i64 p.1, .int .i64 p.2] 137 (0, 0)) :: .blk l (.loop { LP fn tm [10] _ _ D with state := .busy }) :: .blk D (.deferred (some [])) :: .blk b5 (.cells #[.map (some b7)] 186 (0, 0)) :: .blk b2 (.cells (picV c a cp b).toArray 90 (0, 0)) :: .reg 0 w :: F) (pcL_nd hD (fun q hq => cells_in hR (hs q hq)) hnd) (pcL_no hD (fun q hq => cells_in hR (hs q hq)) hpin hno) (hw1.sel SR)).mono (fun e w' h => ⟨(), trivial, h.1, by rw [pcL_snoc]; exact h.2⟩)) rfl (fun _ _ => ?_)
    refine sq_nil ?_
    refine sx_xp SR ?_
    refine xj_done (by kernel_rfl) ?_
    refine sx_blk ?_
    refine sx_endround RM ?_
    intro w' hw'
    exact ⟨ds ++ [p], ⟨rfl, fun q hq => (List.mem_append.1 hq).elim (hs q) (fun h => by rw [List.mem_singleton.1 h]; exact hpR), List.nodup_append.2 ⟨hnd, by simp, fun x hx y hy e => hno (by rw [List.mem_singleton.1 hy] at e; rw [← e]; exact hx)⟩⟩, rfl, hw'.sel SR⟩
  ·
    rintro D ds hds
    subst hds
    refine sx_blk ?_
    refine sx_then ?_
    refine sc_seq ?_
    refine sc_region ?_
    refine qs LD186 ?_
    refine qs (y_assign RF) ?_
    refine sq_nil ?_
    refine sx_then ?_
    refine sc_ret ?_
    refine sx_retM (.inl rfl) rfl RM (.map (some b7)) (fun a1 w1 ha1 _ => by
      have h9 : a1.tmps[4]? = some (.map (some b7)) := ha1.get _ _ rfl
      simp [results, Try.results90, h9]) ?_
    intro w' hw'
    exact ⟨b7, rfl, hw'.below MM, blk_new hw' RM MM, hw'.ok (Res.blk b7 (mvM iV iV (pcL c (cellsR R)))) MM⟩
theorem keys94 (w : World) (q : Nat) : Calls Try.prog 94 #[.map (some q)] w fun e w' => ∃ p, e = .returned (.func (.func 113) #[] #[.pointer (some p)]) ∧ Below w.heap.size w w' ∧ CA w.heap.size w' p [.map (some q)] := by
  refine calls_of_SC (args := [.map (some q)]) Try.func94 rfl Try.ntmps94 rfl ?_
  simp only [argL]
  refine sc_seq ?_
  refine sc_region ?_
  refine sq_box RF rfl (fun b1 => ?_)
  refine qs (y_assign RF) ?_
  refine sq_nil ?_
  refine sx_then ?_
  refine sc_seq ?_
  refine sc_region ?_
  refine qs (y_makeFunc EvL.nil (EvL.cons RF EvL.nil)) ?_
  refine qs (y_assign RF) ?_
  refine sq_nil ?_
  refine sx_then ?_
  refine sc_ret ?_
  refine sx_ret1 (.inl rfl) rfl Try.results94 RF ?_
  intro w' hw'
  exact ⟨⟨b1, 0, none⟩, rfl, hw'.below MM, ⟨blk_new hw' RM MM, (CA.blk (vs := [.map (some q)]) hw' MM).2⟩⟩
theorem keys113 {w0 wr wr' : World} {lo lo' l b : Nat} {lp : Loop} {m : List (Int × Int)} (hm : lo ≤ b ∧ wr.heap[b]? = some (mvM iV iV m)) (pb : Addr) (hpb : CA lo' wr' pb [.map (some b)]) (U : UsrK w0 l lp m) (z0 : U.Z) (hinv : U.Inv z0) (w : World) (hw : Hp w0 (.reg lo wr :: .reg lo' wr' :: U.UR z0) w) : Calls Try.prog 113 #[.func (.yield l) #[] #[], .pointer (some pb)] w fun e w' => (∃ v, e = .returned v) ∧ ∃ z, U.Inv z ∧ Hp w0 (.reg lo wr :: .reg lo' wr' :: U.UR z) w' := by
  refine calls_of_SCr (args := [.func (.yield l) #[] #[], .pointer (some pb)]) Try.func113 rfl Try.ntmps113 rfl hw ?_
  simp only [argL, Nat.zero_add]
  refine sc_seq ?_
  refine sc_region ?_
  refine qs (by first | exact y_load_ca0 Try.underlying186 rfl RF MM hpb rfl | exact LD186) ?_
  refine sq_range (kf := iV) (vf := iV) (l := m) (b := b) Try.underlying186 RF (fun _ hw => heap_reg hw MM hm.1 hm.2) rfl (fun r => ?_)
  refine sq_nil ?_
  refine sx_then ?_
  refine sc_block ?_
  refine sc_loop (σ := List Nat × U.Z)
    (fun s => [(0, .func (.yield l) #[] #[]), (5, .pointer (some ⟨r, 0, none⟩))])
    (fun s => .blk r (iterObj b m.length s.1) :: .reg lo wr :: .reg lo' wr' :: U.UR s.2)
    (fun s => s.1.Nodup ∧ (∀ i, i ∈ s.1 → i < m.length) ∧ U.Inv s.2)
    (fun s => m.length - s.1.length)
    (([], z0)) ?_ SU SR ?_
  · exact ⟨List.nodup_nil, (fun _ h => by cases h), hinv⟩
  rintro ⟨ss, z⟩ ⟨hm1, hm2, hz⟩
  dsimp only at hm1 hm2 hz ⊢
  refine sc_seq ?_
  refine sc_region ?_
  refine sq_next (kf := iV) (vf := iV) (l := m) (b := b) (ss := ss) RF RM (fun _ hw => heap_reg hw MM hm.1 hm.2) rfl (fun o ho => ?_)
  refine qs (y_nextOk (kf := iV) (vf := iV) (l := m) (o := o) RF) ?_
  refine sq_nil ?_
  refine sx_then ?_
  refine sc_seq ?_
  refine scp (fun hc0 => ?_) (fun hc0 => ?_)
  ·
    obtain ⟨i, rfl⟩ := Option.isSome_iff_exists.1 hc0
    obtain ⟨hi', hno⟩ := ho
    dsimp only [Option.toList]
    obtain ⟨⟨k, v⟩, hxi⟩ : ∃ p, m[i]? = some p := ⟨_, List.getElem?_eq_getElem hi'⟩
    refine sc_skip ?_
    refine sx_then ?_
    refine sc_block ?_
    refine sc_seq ?_
    refine sc_region ?_
    refine qs (y_entry (kf := iV) (vf := iV) (l := m) (b := b) (i := i) (ss := ss) (x0 := k) (b1 := v) RF (fun _ hw => hw.ok (Res.blk r (iterObj b m.length (ss ++ [i]))) MM) (fun _ hw => heap_reg hw MM hm.1 hm.2) hxi) ?_
    rw [show iV k = .int .i64 k from rfl]
    refine qs (y_extract RF RF) ?_
    refine qs (y_assign RF) ?_
    refine sq_nil ?_
    refine sx_then ?_
    refine sc_seq ?_
    refine sc_region ?_
    refine qs (y_move RF) ?_
    refine qs (y_move RF) ?_
    refine sq_yield (rs' := U.UR z ++ [.blk r (iterObj b m.length (ss ++ [i])), .reg lo wr, .reg lo' wr']) (Z := U.Z) (fun _ => .bool true) (fun z' => [.blk r (iterObj b m.length (ss ++ [i])), .reg lo wr, .reg lo' wr'] ++ U.UR z') (fun z' => U.Inv z') RF E1 (List.mem_append.2 (.inl (U.loop z))) (Sel.comm [.blk r (iterObj b m.length (ss ++ [i])), .reg lo wr, .reg lo' wr'] (U.UR z)) (by simpa using U.one.symm) (fun w1 hw1 => (U.round z k v hz (List.mem_of_getElem? hxi) [.blk r (iterObj b m.length (ss ++ [i])), .reg lo wr, .reg lo' wr'] w1 hw1).mono (fun e w' ⟨z', h1, h2, h3⟩ => ⟨z', h1, h2, h3.sel (Sel.comm (U.UR z') [.blk r (iterObj b m.length (ss ++ [i])), .reg lo wr, .reg lo' wr'])⟩)) rfl (fun z' hz' => ?_)
    dsimp only [List.cons_append, List.nil_append]
    refine qs (y_not RF) ?_
    refine sq_nil ?_
    refine sx_then ?_
    refine sc_f (lk_bool rfl (rfl)) ?_
    refine sc_skip ?_
    refine sx_blk ?_
    refine sx_round ((ss ++ [i], z')) ?_ ?_ SU SR
    · refine ⟨seen_snoc hm1 hno, fun j hj => ?_, hz'⟩
      rcases List.mem_append.1 hj with hj | hj
      · exact hm2 j hj
      · simp at hj; omega
    · have := seen_lt hm1 hm2 hi' hno; simp; omega
  ·
    refine sc_exit ?_
    refine sx_then_exit ?_
    refine sx_round_exit ?_
    refine sx_blk_hit ?_
    refine sx_ret0 (.inr rfl) rfl Try.results113 ?_
    intro w' hw'
    exact ⟨⟨_, rfl⟩, z, hz, hw'.sel SR⟩
theorem keys113q {w0 wr wr' w : World} {lo lo' l b : Nat} {lp : Loop} {rs : List Res} (_ : Hp w0 rs w) (_ : Res.blk l (.loop lp) ∈ rs) {m : List (Int × Int)} (hm : lo ≤ b ∧ wr.heap[b]? = some (mvM iV iV m)) (pb : Addr) (hpb : CA lo' wr' pb [.map (some b)]) (U : UsrK w0 l lp m) (z : U.Z) (hinv : U.Inv z) (hw : Hp w0 (.reg lo wr :: .reg lo' wr' :: U.UR z) w) {Q : Ending → World → Prop}
    (h : ∀ e w', (∃ v, e = .returned v) → ∀ (z : U.Z), U.Inv z → Hp w0 (.reg lo wr :: .reg lo' wr' :: U.UR z) w' → Q e w') : Calls Try.prog 113 #[.func (.yield l) #[] #[], .pointer (some pb)] w Q :=
  (keys113 hm pb hpb U z hinv w hw).mono fun e w' ⟨hv, y, h1, h2⟩ => h e w' hv y h1 h2
end Go.Proofs.Ytfceajkofpafpaa
