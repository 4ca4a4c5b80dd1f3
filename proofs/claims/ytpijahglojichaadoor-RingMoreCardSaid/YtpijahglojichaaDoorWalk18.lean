/- The walk of the law RingMore. -/
import Derived.Test.YtpijahglojichaaDoorWalk16
import Derived.Test.YtpijahglojichaaDoorLawM
namespace Go.Proofs.YtpijahglojichaaDoor
open Go Go.Eng Go.RowKit Go.Proofs
set_option maxRecDepth 100000
/-- the rows' headers, as they lie -/
def mCells (z : MA) (m : Mt) : List Value := (List.range m.length).map fun i => Value.slice (z.f i) (m.getD i []).length (z.cf i)
theorem mCells_len (z : MA) (m : Mt) : (mCells z m).length = m.length := by simp [mCells]
theorem mCells_get (z : MA) (m : Mt) {i : Nat} (h : i < m.length) : (mCells z m)[i]? = some (Value.slice (z.f i) (m.getD i []).length (z.cf i)) := by
  unfold mCells; rw [List.getElem?_map, List.getElem?_range h]; rfl
theorem mCells_one (z : MA) (m : Mt) : ∀ u ∈ mCells z m, u.oneCell' = true := fun u hu => by
  obtain ⟨i, _, rfl⟩ := List.mem_map.1 hu; rfl
theorem wflat (l : List Value) : l.flatMap wRow = l := by
  induction l with
  | nil => rfl
  | cons a l ih => rw [List.flatMap_cons, ih]; rfl
theorem MtA.outer {lo : Nat} {w : World} {z : MA} {m : Mt} (h : MtA lo w z m) : RowsA wRow 1 lo w z.a (mCells z m) := ⟨fun i x hi => by
  have hl : i < m.length := by rw [← mCells_len z m]; exact (List.getElem?_eq_some_iff.1 hi).1
  rw [mCells_get z m hl] at hi
  have := h.row hl
  rw [← Option.some.inj hi]
  exact ⟨this.1, this.2.1⟩, by rw [mCells_len]; exact h.len⟩
theorem MtA.noa {lo : Nat} {w : World} {z : MA} {m : Mt} (h : MtA lo w z m) : z.a = none → m.length = 0 := fun e => by
  rcases Nat.eq_zero_or_pos m.length with h0 | h0
  · exact h0
  · have := (h.row h0).1; rw [e] at this; cases this
theorem MtA.cells {w : World} {z : MA} {m : Mt} (h : MtA 0 w z m) {ad : Addr} (ha : z.a = some ad) : ∀ j u, (mCells z m)[j]? = some u → w.cell? (ad.add j) = some u := fun j u hj => by
  have h1 := h.outer
  rw [ha] at h1
  exact RowsA.cells (row := wRow) (fun _ => rfl) (by decide) h1 j u (by rw [wflat]; exact hj)
def setA (z : MA) (a : Option Addr) (c x : Nat) (ax : Option Addr) (cx : Nat) : MA := ⟨a, c, fun i => if i = x then ax else z.f i, fun i => if i = x then cx else z.cf i⟩
/-- a market of which one row is laid anew -/
theorem set_at {w0 w : World} {rs : List Res} (hw : Hp w0 rs w) {z : MA} {m : Mt} (hz : MtA 0 w z m) {a ax : Option Addr} {c cx x n : Nat} {row : List Int} {e1 e2 : TypeId} (hn : row.length = n) (h1 : Res.own (.slice a m.length c) e1 1 m.length ((mCells z m).set x (.slice ax n cx)) ∈ rs) (h2 : Res.own (.slice ax n cx) e2 1 n (row.flatMap iRow) ∈ rs) (hx : x < m.length) (h64 : n ≤ 9223372036854775807) : MtA 0 w (setA z a c x ax cx) (m.set x row) := by
  have hr2 : RowsA iRow 1 0 w ax row := own_at hw hn h2 h64
  obtain ⟨a', c', hv, _, hr1⟩ := own_rowsA (row := wRow) (l := (mCells z m).set x (.slice ax n cx)) (fun _ => rfl) (by rw [wflat]; exact hw.ok _ h1) (by rw [List.length_set, mCells_len]) hz.len
  injection hv with e; subst e
  refine ⟨fun i r hi => ?_, by rw [List.length_set]; exact hz.len⟩
  have hil : i < m.length := by have := (List.getElem?_eq_some_iff.1 hi).1; rwa [List.length_set] at this
  show a.isSome = true ∧ CA 0 w (elt a i 1) [.slice (if i = x then ax else z.f i) r.length (if i = x then cx else z.cf i)] ∧ RowsA iRow 1 0 w (if i = x then ax else z.f i) r
  rw [List.getElem?_set] at hi
  by_cases h : x = i
  · subst h
    rw [if_pos rfl, if_pos hx] at hi
    rw [if_pos rfl, if_pos rfl, ← Option.some.inj hi]
    have := hr1.el x _ (by rw [List.getElem?_set, if_pos rfl, if_pos (by rw [mCells_len]; exact hx)])
    rw [hn]
    exact ⟨this.1, this.2, hr2⟩
  · rw [if_neg h] at hi
    rw [if_neg (fun e => h e.symm), if_neg (fun e => h e.symm)]
    have := hr1.el i _ (by rw [List.getElem?_set, if_neg h]; exact mCells_get z m hil)
    have he := hz.el i r hi
    rw [getD_of hi] at this
    exact ⟨this.1, this.2, he.2.2⟩

theorem set_getD {l : List Int} {i : Nat} {v : Int} (h : i < l.length) : (l.set i v)[i]? = some v := by rw [List.getElem?_set, if_pos rfl, if_pos h]
theorem best23r (w : World) (z : MA) (m : Mt) (x y : Nat) (v : Int) (a ax : Option Addr) (c cx : Nat) (hz : MtA 0 w (setA z a c x ax cx) (raiseM m x y v)) (hT : TabAt w) : Calls Tryd.prog 23 #[.agg #[.slice a m.length c]] w fun e w' => ∃ q : Option Addr × Nat, e = .returned (.tuple #[.slice q.1 (bestA (raiseM m x y v)).1.length q.2, .int .i64 (bestA (raiseM m x y v)).2.1, .int .i64 (bestA (raiseM m x y v)).2.2]) ∧ Below w.heap.size w w' ∧ RowsA iRow 1 w.heap.size w' q.1 (bestA (raiseM m x y v)).1 := by
  have h := Best23 w _ _ hz hT
  unfold mV at h
  rw [raise_len] at h
  exact h
theorem more9 (w : World) (z : MA) (m : Mt) (hz : MtA 0 w z m) (hT : TabAt w) (who whose by_ : Nat) (hwho : who ≤ 255) (hwhose : whose ≤ 255) (hby : by_ ≤ 65535) : Calls Tryd.prog 9 #[.agg (mV z m).toArray, .int .u8 who, .int .u8 whose, .int .u16 by_] w fun e w' => e = .returned (.bool true) ∧ Below w.heap.size w w' := by
  refine calls_of_SC (args := [.agg (mV z m).toArray, .int .u8 who, .int .u8 whose, .int .u16 by_]) Tryd.func9 rfl Tryd.ntmps9 rfl ?_
  simp only [argL, Nat.reduceAdd, Nat.zero_add]
  refine sc_seq ?_
  refine sc_region ?_
  refine sq_box RF rfl (fun b4 => ?_)
  refine qs (y_assign RF) ?_
  refine sq_nil ?_
  refine sx_then ?_
  refine sc_seq ?_
  refine sc_seq ?_
  refine sc_region ?_
  refine qs LD24 ?_
  refine qy (yc Tryd.call14 E1 (fun w1 hw1 => far14 w1 z m (hz.at hw1 MM))) ?_
  refine sq_nil ?_
  refine sx_then ?_
  refine scp (fun hc0 => ?_) (fun hc0 => ?_)
  ·
    refine sc_seq ?_
    refine sc_region ?_
    refine qy (yc Tryd.call15 E0 (fun w1 hw1 => awake15 w1 (CA.at hT hw1 MM))) ?_
    refine qs (y_assign RF) ?_
    refine sq_nil ?_
    refine sx_then ?_
    refine sc_ret ?_
    refine sx_then_ret ?_
    refine sx_ret1 (.inl rfl) rfl Tryd.results9 RF ?_
    intro w' hw'
    exact ⟨rfl, hw'.below MM⟩
  ·
    refine sc_skip ?_
    refine sx_then ?_
    refine sc_seq ?_
    refine sc_region ?_
    refine qs LD24 ?_
    refine sq_call_new (first := []) (caps := []) (Z := Option Addr × Nat) (fun q => .tuple #[.slice q.1 (bestA m).1.length q.2, .int .i64 (bestA m).2.1, .int .i64 (bestA m).2.2]) (fun lo w' q => RowsA iRow 1 lo w' q.1 (bestA m).1) RF Tryd.call23 (EvL.cons RF EvL.nil) (fun w1 hw1 => Best23 w1 z m (hz.at hw1 MM) (CA.at hT hw1 MM)) rfl (fun lo3 wr3 y3 hy3 => ?_)
    refine qs (y_move RF) ?_
    refine qs (y_extract RF RF) ?_
    refine qs (y_extract RF RF) ?_
    refine qs (y_extract RF RF) ?_
    refine qs (y_assign RF) ?_
    refine qs (y_assign RF) ?_
    refine qs (y_assign RF) ?_
    refine sq_nil ?_
    refine sx_then ?_
    refine sc_seq ?_
    refine sc_seq ?_
    have hlen := hz.len
    have hE : (bestA m).2.2 ≠ 0 → (bestA m).2.1 = 0 ∧ (bestA m).2.2 = 1 := fun h => by
      cases hb : mkB m with
      | true => rw [bestA_ok hb] at h; exact absurd rfl h
      | false => rw [bestA_no hb]; exact ⟨rfl, rfl⟩
    have hmk : (bestA m).2.2 = 0 → mkB m = true ∧ (bestA m).2.1 = (bestM m).worth := fun h => by
      cases hb : mkB m with
      | true => rw [bestA_ok hb]; exact ⟨rfl, rfl⟩
      | false => rw [bestA_no hb] at h; cases h
    have hZ : m.length = 0 → (bestA m).2.1 = 0 := fun h => by
      obtain rfl := List.eq_nil_of_length_eq_zero h
      rfl
    refine sc_region ?_
    refine qs (y_move RF) ?_
    refine qs (y_neq RF RF) ?_
    refine qs (y_move RF) ?_
    refine sp 30 (fun hg4_2 => ?_) (fun hg4_2 => ?_)
    ·
      refine qf ?_
      refine qf ?_
      refine qf ?_
      refine qf ?_
      refine qs (y_pick_t RF RF) ?_
      refine sq_nil ?_
      refine sx_then ?_
      refine sc_t RF ?_
      refine sc_seq ?_
      refine sc_region ?_
      refine qs (y_move RF) ?_
      refine qs (y_eql RF RF) ?_
      refine qs (y_move RF) ?_
      refine sq_known (tt := 38) (b' := true) RF (decide_eq_true (by first | exact (hE (by assumption)).1 | exact hZ (by omega))) ?_
      refine qg (y_move RF) ?_
      refine qg (y_eql RF RF) ?_
      refine qg (y_move RF) ?_
      refine sp 41 (fun hg5_5 => ?_) (fun hg5_5 => ?_)
      ·
        refine qf ?_
        refine qf ?_
        refine qg (y_pick_t RF RF) ?_
        refine qs (y_pick_t RF RF) ?_
        refine qs (y_move RF) ?_
        refine sq_gt RF RF (y_call (first := []) (caps := []) RF Tryd.call15 EvL.nil (fun w1 hw1 => awake15 w1 (CA.at hT hw1 MM))) rfl ?_
        refine qs (y_pick_t RF RF) ?_
        refine qs (y_assign RF) ?_
        refine sq_nil ?_
        refine sx_then ?_
        refine sc_ret ?_
        refine sx_then_ret ?_
        refine sx_ret1 (.inl rfl) rfl Tryd.results9 RF ?_
        intro w' hw'
        exact ⟨rfl, hw'.below MM⟩
      ·
        refine qg (y_move RF) ?_
        refine qg (y_eql RF RF) ?_
        refine qg (y_pick_f RF RF) ?_
        refine qs (y_pick_t RF RF) ?_
        refine qs (y_move RF) ?_
        refine sq_known (tt := 46) (b' := true) RF (by first | rfl | exact decide_eq_true (hE (by assumption)).2) ?_
        refine sq_gt RF RF (y_call (first := []) (caps := []) RF Tryd.call15 EvL.nil (fun w1 hw1 => awake15 w1 (CA.at hT hw1 MM))) rfl ?_
        refine qs (y_pick_t RF RF) ?_
        refine qs (y_assign RF) ?_
        refine sq_nil ?_
        refine sx_then ?_
        refine sc_ret ?_
        refine sx_then_ret ?_
        refine sx_ret1 (.inl rfl) rfl Tryd.results9 RF ?_
        intro w' hw'
        exact ⟨rfl, hw'.below MM⟩
    ·
      refine qg FA24_22 ?_
      refine qg LD22 ?_
      refine qg (y_len Tryd.underlying22 RF) ?_
      refine qg (y_eql RF RF) ?_
      refine qs (y_pick_f RF RF) ?_
      refine sq_nil ?_
      refine sx_then ?_
      refine scp (fun hc1 => ?_) (fun hc1 => ?_)
      ·
        refine sc_seq ?_
        refine sc_region ?_
        refine qs (y_move RF) ?_
        refine qs (y_eql RF RF) ?_
        refine qs (y_move RF) ?_
        refine sq_known (tt := 38) (b' := true) RF (decide_eq_true (by first | exact (hE (by assumption)).1 | exact hZ (by omega))) ?_
        refine qg (y_move RF) ?_
        refine qg (y_eql RF RF) ?_
        refine qg (y_move RF) ?_
        refine sp 41 (fun hg5_5 => ?_) (fun hg5_5 => ?_)
        ·
          refine qf ?_
          refine qf ?_
          refine qg (y_pick_t RF RF) ?_
          refine qs (y_pick_t RF RF) ?_
          refine qs (y_move RF) ?_
          refine sq_gt RF RF (y_call (first := []) (caps := []) RF Tryd.call15 EvL.nil (fun w1 hw1 => awake15 w1 (CA.at hT hw1 MM))) rfl ?_
          refine qs (y_pick_t RF RF) ?_
          refine qs (y_assign RF) ?_
          refine sq_nil ?_
          refine sx_then ?_
          refine sc_ret ?_
          refine sx_then_ret ?_
          refine sx_ret1 (.inl rfl) rfl Tryd.results9 RF ?_
          intro w' hw'
          exact ⟨rfl, hw'.below MM⟩
        ·
          refine qg (y_move RF) ?_
          refine qg (y_eql RF RF) ?_
          refine qg (y_pick_f RF RF) ?_
          refine qs (y_pick_t RF RF) ?_
          refine qs (y_move RF) ?_
          refine sq_known (tt := 46) (b' := true) RF (by first | rfl | exact decide_eq_true (hE (by assumption)).2) ?_
          refine sq_gt RF RF (y_call (first := []) (caps := []) RF Tryd.call15 EvL.nil (fun w1 hw1 => awake15 w1 (CA.at hT hw1 MM))) rfl ?_
          refine qs (y_pick_t RF RF) ?_
          refine qs (y_assign RF) ?_
          refine sq_nil ?_
          refine sx_then ?_
          refine sc_ret ?_
          refine sx_then_ret ?_
          refine sx_ret1 (.inl rfl) rfl Tryd.results9 RF ?_
          intro w' hw'
          exact ⟨rfl, hw'.below MM⟩
      ·
        refine sc_skip ?_
        refine sx_then ?_
        refine sc_seq ?_
        have hb0 : (bestA m).2.2 = 0 := by omega
        have hmk2 := hmk hb0
        have hm := mkF hmk2.1
        have hn7 := hm.n7
        have hw0 : 0 ≤ (bestA m).2.1 := by
          have B : BestF m (bestM m) := bestX_F hm
          rw [hmk2.2, B.worth]
          exact (worthN_bd hm _ _).1
        refine sc_region ?_
        refine qs FA24_22 ?_
        refine qs LD22 ?_
        refine qs (y_len Tryd.underlying22 RF) ?_
        refine qs (y_assign RF) ?_
        refine sq_nil ?_
        refine sx_then ?_
        refine sc_seq ?_
        refine sc_draw rfl (by kernel_rfl) (by kernel_rfl) ?_
        refine qq_y (OpY.s (y_move RF)) rfl ?_
        refine qq_y (OpY.s (y_conv Tryd.underlying5 Tryd.underlying3 RF (wrap64_in (by omega) (by omega)))) rfl ?_
        refine qq_y (OpY.s (y_move RF)) rfl ?_
        refine qq_y (OpY.s (y_rem RF RF (by omega) (by omega))) rfl ?_
        obtain ⟨x, hxd⟩ : ∃ x : Nat, (who : Int) % (m.length : Int) = (x : Int) ∧ x < m.length := ⟨who % m.length, (Int.natCast_emod _ _).symm, Nat.mod_lt _ (by omega)⟩
        rw [hxd.1]
        have hx := hxd.2
        refine qq_y (OpY.s (y_move RF)) rfl ?_
        refine qq_y (OpY.s (y_conv Tryd.underlying5 Tryd.underlying3 RF (wrap64_in (by omega) (by omega)))) rfl ?_
        refine qq_y (OpY.s (y_move RF)) rfl ?_
        refine qq_y (OpY.s (y_rem RF RF (by omega) (by omega))) rfl ?_
        obtain ⟨y, hyd⟩ : ∃ y : Nat, (whose : Int) % (m.length : Int) = (y : Int) ∧ y < m.length := ⟨whose % m.length, (Int.natCast_emod _ _).symm, Nat.mod_lt _ (by omega)⟩
        rw [hyd.1]
        have hy := hyd.2
        refine qq_y (OpY.s (y_assign RF)) rfl ?_
        refine qq_y (OpY.s (y_assign RF)) rfl ?_
        refine qq_nil ?_
        refine sx_then ?_
        refine sc_seq ?_
        refine sc_seq ?_
        refine sc_region ?_
        refine qs LD24 ?_
        refine qy (yc Tryd.call30 E1 (fun w1 hw1 => market30 w1 z m (hz.at hw1 MM))) ?_
        refine qs (y_not RF) ?_
        refine qs (y_move RF) ?_
        refine sq_known (tt := 63) (b' := false) RF (by rw [hmk2.1]; rfl) ?_
        refine qg (y_move RF) ?_
        refine qg (y_lss RF RF) ?_
        refine qs (y_pick_f RF RF) ?_
        refine qs (y_move RF) ?_
        refine sq_known (tt := 67) (b' := false) RF (decide_eq_false (by omega)) ?_
        refine qg (y_move RF) ?_
        refine qg (y_move RF) ?_
        refine qg (y_eql RF RF) ?_
        refine qs (y_pick_f RF RF) ?_
        refine sq_nil ?_
        refine sx_then ?_
        refine scp (fun hc2 => ?_) (fun hc2 => ?_)
        ·
          refine sc_seq ?_
          refine sc_region ?_
          refine qs LD24 ?_
          refine qy (yc Tryd.call30 E1 (fun w1 hw1 => market30 w1 z m (hz.at hw1 MM))) ?_
          refine qs (y_move RF) ?_
          refine sq_known (tt := 74) (b' := true) RF (hmk2.1) ?_
          refine qg (y_move RF) ?_
          refine qg (y_geq RF RF) ?_
          refine qs (y_pick_t RF RF) ?_
          refine qs (y_move RF) ?_
          refine sq_known (tt := 78) (b' := true) RF (decide_eq_true hw0) ?_
          refine sq_gt RF RF (y_call (first := []) (caps := []) RF Tryd.call15 EvL.nil (fun w1 hw1 => awake15 w1 (CA.at hT hw1 MM))) rfl ?_
          refine qs (y_pick_t RF RF) ?_
          refine qs (y_assign RF) ?_
          refine sq_nil ?_
          refine sx_then ?_
          refine sc_ret ?_
          refine sx_then_ret ?_
          refine sx_ret1 (.inl rfl) rfl Tryd.results9 RF ?_
          intro w' hw'
          exact ⟨rfl, hw'.below MM⟩
        ·
          refine sc_skip ?_
          refine sx_then ?_
          refine sc_seq ?_
          have hxy : x ≠ y := by omega
          have hrowx := hm.row x hx
          obtain ⟨hs1, hca, hrx⟩ := hz.row hx
          obtain ⟨_, _, hs2, hcb⟩ := hz.cell hx (show y < (m.getD x []).length by omega)
          have hbd := hm.bd x y
          have hyr : y < (m.getD x []).length := by omega
          refine sc_region ?_
          refine sq_bs Tryd.underlying22 ei25 (EvI.nil) (by simp) rfl rfl rfl (fun b81 => ?_)
          refine sq_blk_own0 (sz := 1) (c := 0) RM rfl (Nat.zero_le _) ?_
          refine qs FA24_22 ?_
          refine qs LD22 ?_
          refine sq_append_rows (news := mCells z m) Tryd.underlying22 ei25 Tryd.sizeOf25 rfl (by decide) RF RM RF hz.noa (by rw [mCells_len, Nat.mul_one]) (fun ad had w1 hw1 => (hz.at hw1 MM).cells had) (mCells_one z m) (by omega) rfl (fun v84 ho84 => ?_)
          rw [Nat.zero_add m.length, List.nil_append]
          refine sq_own_dest (v := v84) (e := 25) (sz := 1) (m := m.length) (xs := mCells z m) MM (fun a84 c84 hv84 hmc84 hn84 => ?_)
          subst hv84
          refine qs (y_build bt24 (EvP.cons RF EvP.nil) RF) ?_
          refine sq_alloc Tryd.zeroValue24 rfl (fun b15 => ?_)
          refine sq_store_all Tryd.sizeOf24 RF RF rfl RM rfl rfl ?_
          refine sq_nil ?_
          refine sx_then ?_
          refine sc_seq ?_
          refine sc_drawX ([.blk b15 (.cells #[.slice a84 m.length c84] 24 (0, 0)), .blk b4 (.cells (mV z m).toArray 24 (0, 0)), .own (.slice a84 m.length c84) 25 1 m.length (mCells z m), .reg 0 w]) (by kernel_rfl) ?_
          refine xj_s 0 RF (by kernel_rfl) SR FA24_22 rfl ?_
          refine xj_s 1 RF (by kernel_rfl) SR LD22 rfl ?_
          refine xj_s 2 RF (by kernel_rfl) SR (y_move RF) rfl ?_
          refine xj_s 4 RF (by kernel_rfl) SR FA24_22 rfl ?_
          refine xj_s 5 RF (by kernel_rfl) SR LD22 rfl ?_
          refine xj_s 6 RF (by kernel_rfl) SR (y_move RF) rfl ?_
          refine xj_s 7 RF (by kernel_rfl) SR IA22 rfl ?_
          refine xj_s 8 RF (by kernel_rfl) SR LD25 rfl ?_
          refine xj_one 3 RF (by kernel_rfl) ?_
          refine sq_bs Tryd.underlying25 ei3 (EvI.nil) (by simp) rfl rfl rfl (fun b89 => ?_)
          refine sq_blk_own0 (sz := 1) (c := 0) RM rfl (Nat.zero_le _) ?_
          refine sq_nil ?_
          refine sx_xp SR ?_
          refine xj_one 9 RF (by kernel_rfl) ?_
          refine sq_append_rows (news := (m.getD x []).flatMap iRow) Tryd.underlying25 ei3 Tryd.sizeOf3 rfl (by decide) RF RM RF hrx.noa (by rw [iflat_len, Nat.mul_one]) (fun ad had w1 hw1 => RowsA.cells (row := iRow) iRow_len (by decide) (by rw [← had]; exact hrx.at hw1 MM)) (iflat_one _) (by omega) rfl (fun v95 ho95 => ?_)
          rw [Nat.zero_add (m.getD x []).length, List.nil_append]
          refine sq_own_dest (v := v95) (e := 3) (sz := 1) (m := (m.getD x []).length) (xs := (m.getD x []).flatMap iRow) MM (fun a95 c95 hv95 hmc95 hn95 => ?_)
          subst hv95
          refine sq_nil ?_
          refine sx_xp SR ?_
          refine xj_s 10 RF (by kernel_rfl) SR (y_ia_own (v := .slice a84 m.length c84) (i := x) Tryd.underlying22 Tryd.sizeOf25 RF MM RF hx) rfl ?_
          refine xj_one 11 RF (by kernel_rfl) ?_
          refine sq_store_own (v := .slice a84 m.length c84) (i := x) (j := 0) (sz := 1) Tryd.sizeOf25 RF RF rfl RM hx (by decide) ?_
          rw [Nat.mul_one, Nat.add_zero]
          refine sq_nil ?_
          refine sx_xpl (by kernel_rfl) ?_
          refine xj_done (by kernel_rfl) ?_
          refine sx_then ?_
          refine sc_seq ?_
          refine sc_drawX ([.blk b15 (.cells #[.slice a84 m.length c84] 24 (0, 0)), .blk b4 (.cells (mV z m).toArray 24 (0, 0)), .own (.slice a84 m.length c84) 25 1 m.length ((mCells z m).set x (.slice a95 (m.getD x []).length c95)), .own (.slice a95 (m.getD x []).length c95) 3 1 (m.getD x []).length ((m.getD x []).flatMap iRow), .reg 0 w]) (by kernel_rfl) ?_
          refine xj_s 0 RF (by kernel_rfl) SR FA24_22 rfl ?_
          refine xj_s 1 RF (by kernel_rfl) SR LD22 rfl ?_
          refine xj_s 2 RF (by kernel_rfl) SR (y_move RF) rfl ?_
          refine xj_s 3 RF (by kernel_rfl) SR (y_ia_own (v := .slice a84 m.length c84) (i := x) Tryd.underlying22 Tryd.sizeOf25 RF MM RF hx) rfl ?_
          refine xj_s 4 RF (by kernel_rfl) SR (by first | exact y_load_own0 (v := .slice a84 m.length c84) (i := x) Tryd.underlying25 rfl RF MM hx (by rw [Nat.mul_one, List.getElem?_set, if_pos rfl, if_pos (by rw [mCells_len]; exact hx)]) | exact LD25) rfl ?_
          refine xj_s 5 RF (by kernel_rfl) SR (y_move RF) rfl ?_
          refine xj_s 6 RF (by kernel_rfl) SR FA24_22 rfl ?_
          refine xj_s 7 RF (by kernel_rfl) SR LD22 rfl ?_
          refine xj_s 8 RF (by kernel_rfl) SR (y_move RF) rfl ?_
          refine xj_s 9 RF (by kernel_rfl) SR IA22 rfl ?_
          refine xj_s 10 RF (by kernel_rfl) SR LD25 rfl ?_
          refine xj_s 11 RF (by kernel_rfl) SR (y_move RF) rfl ?_
          refine xj_s 12 RF (by kernel_rfl) SR IA25 rfl ?_
          refine xj_s 13 RF (by kernel_rfl) SR LD3 rfl ?_
          refine xj_s 14 RF (by kernel_rfl) SR (y_move RF) rfl ?_
          refine xj_s 15 RF (by kernel_rfl) SR (y_conv Tryd.underlying48 Tryd.underlying3 RF (wrap64_in (by omega) (by omega))) rfl ?_
          refine xj_s 16 RF (by kernel_rfl) SR (y_add RF RF (by omega)) rfl ?_
          refine xj_s 17 RF (by kernel_rfl) SR (y_min RF RF) rfl ?_
          refine xj_s 18 RF (by kernel_rfl) SR (y_ia_own (v := .slice a95 (m.getD x []).length c95) (i := y) Tryd.underlying25 Tryd.sizeOf3 RF MM RF hyr) rfl ?_
          refine xj_one 19 RF (by kernel_rfl) ?_
          refine sq_store_own (v := .slice a95 (m.getD x []).length c95) (i := y) (j := 0) (sz := 1) Tryd.sizeOf3 RF RF rfl RM hyr (by decide) ?_
          rw [iset]
          refine sq_nil ?_
          refine sx_xpl (by kernel_rfl) ?_
          refine xj_done (by kernel_rfl) ?_
          refine sx_then ?_
          refine sc_seq ?_
          refine sc_region ?_
          refine qs LD24 ?_
          refine sq_call_new (first := []) (caps := []) (Z := Option Addr × Nat) (fun q => .tuple #[.slice q.1 (bestA (raiseM m x y (min 1000 (wv m x y + (by_ : Int))))).1.length q.2, .int .i64 (bestA (raiseM m x y (min 1000 (wv m x y + (by_ : Int))))).2.1, .int .i64 (bestA (raiseM m x y (min 1000 (wv m x y + (by_ : Int))))).2.2]) (fun lo w' q => RowsA iRow 1 lo w' q.1 (bestA (raiseM m x y (min 1000 (wv m x y + (by_ : Int))))).1) RF Tryd.call23 (EvL.cons RF EvL.nil) (fun w1 hw1 => best23r w1 z m x y (min 1000 (wv m x y + (by_ : Int))) a84 a95 c84 c95 (set_at hw1 (z := z) (m := m) (hz.at hw1 MM) (by rw [List.length_set]) MM MM hx (by omega)) (CA.at hT hw1 MM)) rfl (fun lo13 wr13 y13 hy13 => ?_)
          refine qs (y_move RF) ?_
          refine qs (y_extract RF RF) ?_
          refine qs (y_extract RF RF) ?_
          refine qs (y_extract RF RF) ?_
          refine qs (y_assign RF) ?_
          refine qs (y_assign RF) ?_
          refine qs (y_assign RF) ?_
          refine sq_nil ?_
          refine sx_then ?_
          refine sc_seq ?_
          refine sc_seq ?_
          obtain ⟨hmr, hle, hgr⟩ := more_law hmk2.1 hx hy hxy (v := (min 1000 (wv m x y + (by_ : Int)))) (by omega) (by omega)
          rw [bestA_ok hmr]
          have hq1 := bestT_bd hm 0 (pw2 m.length - 1)
          have hq2 := bestT_bd (mkF hmr) 0 (pw2 (raiseM m x y (min 1000 (wv m x y + (by_ : Int)))).length - 1)
          rw [raise_len] at hq2
          have hq3 : -1 ≤ (bestM m).worth ∧ (bestM m).worth ≤ 10000 := ⟨hq1.lo, by have := hq1.hi; show (bestT m 0 (pw2 m.length - 1)).worth ≤ _; omega⟩
          have hq4 : -1 ≤ (bestM (raiseM m x y (min 1000 (wv m x y + (by_ : Int))))).worth ∧ (bestM (raiseM m x y (min 1000 (wv m x y + (by_ : Int))))).worth ≤ 10000 := by
            unfold bestM
            rw [raise_len]
            exact ⟨hq2.lo, by have := hq2.hi; omega⟩
          refine sc_region ?_
          refine qs (y_move RF) ?_
          refine qs (y_neq RF RF) ?_
          refine qs (y_move RF) ?_
          refine sq_known (tt := 124) (b' := false) RF (rfl) ?_
          refine qg (y_move RF) ?_
          refine qg (y_move RF) ?_
          refine qg (y_lss RF RF) ?_
          refine qs (y_pick_f RF RF) ?_
          refine sq_nil ?_
          refine sx_then ?_
          refine scp (fun hc3 => ?_) (fun hc3 => ?_)
          ·
            dsimp only at hc3
            omega
          ·
            refine sc_skip ?_
            refine sx_then ?_
            refine sc_seq ?_
            refine sc_drawX ([.blk b15 (.cells #[.slice a84 m.length c84] 24 (0, 0)), .blk b4 (.cells (mV z m).toArray 24 (0, 0)), .own (.slice a84 m.length c84) 25 1 m.length ((mCells z m).set x (.slice a95 (m.getD x []).length c95)), .own (.slice a95 (m.getD x []).length c95) 3 1 (m.getD x []).length (((m.getD x []).set y (min 1000 (wv m x y + (by_ : Int)))).flatMap iRow), .reg 0 w]) (by kernel_rfl) ?_
            refine xj_s 0 RF (by kernel_rfl) SR FA24_22 rfl ?_
            refine xj_s 1 RF (by kernel_rfl) SR LD22 rfl ?_
            refine xj_s 2 RF (by kernel_rfl) SR (y_move RF) rfl ?_
            refine xj_s 3 RF (by kernel_rfl) SR IA22 rfl ?_
            refine xj_s 4 RF (by kernel_rfl) SR LD25 rfl ?_
            refine xj_s 5 RF (by kernel_rfl) SR (y_move RF) rfl ?_
            refine xj_s 6 RF (by kernel_rfl) SR IA25 rfl ?_
            refine xj_s 7 RF (by kernel_rfl) SR LD3 rfl ?_
            refine xj_s 8 RF (by kernel_rfl) SR (y_eql RF RF) rfl ?_
            refine xj_s 9 RF (by kernel_rfl) SR (y_move RF) rfl ?_
            first | refine xj_splitd (tt := 138) RF (fun hg16_9 => ?_) (fun hg16_9 => ?_) | refine xj_splitn (tt := 138) RF (fun hg16_9 => ?_) (fun hg16_9 => ?_) | refine xj_split (tt := 138) RF (fun hg16_9 => ?_) (fun hg16_9 => ?_)
            ·
              refine xj_gf 10 RF RF RF rfl (by kernel_rfl) SR rfl ?_
              refine xj_gf 11 RF RF RF rfl (by kernel_rfl) SR rfl ?_
              refine xj_gf 12 RF RF RF rfl (by kernel_rfl) SR rfl ?_
              refine xj_gf 13 RF RF RF rfl (by kernel_rfl) SR rfl ?_
              refine xj_gf 14 RF RF RF rfl (by kernel_rfl) SR rfl ?_
              refine xj_gf 15 RF RF RF rfl (by kernel_rfl) SR rfl ?_
              refine xj_gf 16 RF RF RF rfl (by kernel_rfl) SR rfl ?_
              refine xj_gf 17 RF RF RF rfl (by kernel_rfl) SR rfl ?_
              refine xj_gf 18 RF RF RF rfl (by kernel_rfl) SR rfl ?_
              refine xj_gf 19 RF RF RF rfl (by kernel_rfl) SR rfl ?_
              refine xj_gf 20 RF RF RF rfl (by kernel_rfl) SR rfl ?_
              refine xj_gf 21 RF RF RF rfl (by kernel_rfl) SR rfl ?_
              refine xj_gf 22 RF RF RF rfl (by kernel_rfl) SR rfl ?_
              refine xj_gf 23 RF RF RF rfl (by kernel_rfl) SR rfl ?_
              refine xj_gf 24 RF RF RF rfl (by kernel_rfl) SR rfl ?_
              refine xj_gf 25 RF RF RF rfl (by kernel_rfl) SR rfl ?_
              refine xj_gf 26 RF RF RF rfl (by kernel_rfl) SR rfl ?_
              refine xj_gf 27 RF RF RF rfl (by kernel_rfl) SR rfl ?_
              refine xj_gf 28 RF RF RF rfl (by kernel_rfl) SR rfl ?_
              refine xj_gf 29 RF RF RF rfl (by kernel_rfl) SR rfl ?_
              refine xj_gf 30 RF RF RF rfl (by kernel_rfl) SR rfl ?_
              refine xj_s 31 RF (by kernel_rfl) SR (y_pick_t RF RF) rfl ?_
              refine xj_s 32 RF (by kernel_rfl) SR (y_move RF) rfl ?_
              refine xj_one 33 RF (by kernel_rfl) ?_
              refine sq_gt RF RF (y_call (first := []) (caps := []) RF Tryd.call15 EvL.nil (fun w1 hw1 => awake15 w1 (CA.at hT hw1 MM))) rfl ?_
              refine sq_nil ?_
              refine sx_xp SR ?_
              refine xj_s 34 RF (by kernel_rfl) SR (y_pick_t RF RF) rfl ?_
              refine xj_s 35 RF (by kernel_rfl) SR (y_assign RF) rfl ?_
              refine xj_done (by kernel_rfl) ?_
              refine sx_then ?_
              refine sc_ret ?_
              refine sx_ret1 (.inl rfl) rfl Tryd.results9 RF ?_
              intro w' hw'
              exact ⟨rfl, hw'.below MM⟩
            ·
              refine xj_gt 10 RF RF RF (by kernel_rfl) SR (y_move RF) rfl ?_
              refine xj_gt 11 RF RF RF (by kernel_rfl) SR (y_move RF) rfl ?_
              refine xj_gt 12 RF RF RF (by kernel_rfl) SR (y_sub RF RF (by dsimp only; omega)) rfl ?_
              refine xj_gt 13 RF RF RF (by kernel_rfl) SR FA24_22 rfl ?_
              refine xj_gt 14 RF RF RF (by kernel_rfl) SR LD22 rfl ?_
              refine xj_gt 15 RF RF RF (by kernel_rfl) SR (y_move RF) rfl ?_
              refine xj_gt 16 RF RF RF (by kernel_rfl) SR (y_ia_own (v := .slice a84 m.length c84) (i := x) Tryd.underlying22 Tryd.sizeOf25 RF MM RF hx) rfl ?_
              refine xj_gt 17 RF RF RF (by kernel_rfl) SR (by first | exact y_load_own0 (v := .slice a84 m.length c84) (i := x) Tryd.underlying25 rfl RF MM hx (by rw [Nat.mul_one, List.getElem?_set, if_pos rfl, if_pos (by rw [mCells_len]; exact hx)]) | exact LD25) rfl ?_
              refine xj_gt 18 RF RF RF (by kernel_rfl) SR (y_move RF) rfl ?_
              refine xj_gt 19 RF RF RF (by kernel_rfl) SR (y_ia_own (v := .slice a95 (m.getD x []).length c95) (i := y) Tryd.underlying25 Tryd.sizeOf3 RF MM RF hyr) rfl ?_
              refine xj_gt 20 RF RF RF (by kernel_rfl) SR (by first | exact y_load_own0 (v := .slice a95 (m.getD x []).length c95) (i := y) Tryd.underlying3 rfl RF MM hyr (flat_iget (set_getD hyr)) | exact LD3) rfl ?_
              refine xj_gt 21 RF RF RF (by kernel_rfl) SR FA24_22 rfl ?_
              refine xj_gt 22 RF RF RF (by kernel_rfl) SR LD22 rfl ?_
              refine xj_gt 23 RF RF RF (by kernel_rfl) SR (y_move RF) rfl ?_
              refine xj_gt 24 RF RF RF (by kernel_rfl) SR IA22 rfl ?_
              refine xj_gt 25 RF RF RF (by kernel_rfl) SR LD25 rfl ?_
              refine xj_gt 26 RF RF RF (by kernel_rfl) SR (y_move RF) rfl ?_
              refine xj_gt 27 RF RF RF (by kernel_rfl) SR IA25 rfl ?_
              refine xj_gt 28 RF RF RF (by kernel_rfl) SR LD3 rfl ?_
              refine xj_gt 29 RF RF RF (by kernel_rfl) SR (y_sub RF RF (by omega)) rfl ?_
              refine xj_gt 30 RF RF RF (by kernel_rfl) SR (y_leq RF RF) rfl ?_
              refine xj_s 31 RF (by kernel_rfl) SR (y_pick_f RF RF) rfl ?_
              refine xj_s 32 RF (by kernel_rfl) SR (y_move RF) rfl ?_
              refine xj_known (tt := 161) (b' := true) RF (by first | rfl | exact decide_eq_true (by have h := hgr (by assumption); dsimp only; omega)) ?_
              refine xj_one 33 RF (by kernel_rfl) ?_
              refine sq_gt RF RF (y_call (first := []) (caps := []) RF Tryd.call15 EvL.nil (fun w1 hw1 => awake15 w1 (CA.at hT hw1 MM))) rfl ?_
              refine sq_nil ?_
              refine sx_xp SR ?_
              refine xj_s 34 RF (by kernel_rfl) SR (y_pick_t RF RF) rfl ?_
              refine xj_s 35 RF (by kernel_rfl) SR (y_assign RF) rfl ?_
              refine xj_done (by kernel_rfl) ?_
              refine sx_then ?_
              refine sc_ret ?_
              refine sx_ret1 (.inl rfl) rfl Tryd.results9 RF ?_
              intro w' hw'
              exact ⟨rfl, hw'.below MM⟩
end Go.Proofs.YtpijahglojichaaDoor
