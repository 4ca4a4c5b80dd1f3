/- The walk of the document's joins of a solution. -/
import Derived.Test.YtfceajkofpafpaaFW11
import Derived.Test.YtfceajkofpafpaaMetDat
namespace Go.Proofs.Ytfceajkofpafpaa
open Go Go.Eng Go.RowKit Go.Proofs
open Go.Proofs.Ytfceajkofpafpaa.Sc (iRow spRow sp0 Sp spB plusV getD_of get_of_lt any_range_get all_not_any all_getD)
set_option maxRecDepth 100000
def jRow (x : J4) : List Value := [.int .i64 (x.1 : Int), .int .i64 (x.2.1 : Int), .int .i64 (x.2.2.1 : Int), .int .i64 (x.2.2.2 : Int)]
theorem jRow_len (x : J4) : (jRow x).length = 4 := rfl
theorem ei87 : EI Try.prog 87 (.agg #[.int .i64 0, .int .i64 0, .int .i64 0, .int .i64 0]) 4 32 := by unfold EI; kernel_rfl
theorem bt87 : BT Try.prog 87 [(0, 1), (1, 1), (2, 1), (3, 1)] (.agg #[.int .i64 0, .int .i64 0, .int .i64 0, .int .i64 0]) := BT.of Try.underlying87 (by kernel_rfl) (by kernel_rfl)
theorem Met18 (w : World) (z : Pz) (hF : PzF z) (a : Option Addr) (c : Nat) (al : Option Addr) (cl : Nat) (l : List Ly) (hl : RowsA lyRow 2 0 w al l) (hln : l.length = z.pieces.length) (hok : ∀ x, x ∈ l → LyOk z x) : Calls Try.prog 18 #[.agg (pzRow z a c).toArray, .slice al l.length cl] w fun e w' => ∃ v, e = .returned v ∧ Below w.heap.size w w' ∧ v.oneCell' = true ∧ w'.ownsRow w.heap.size 87 4 v (metL z l).length ((metL z l).flatMap jRow) := by
  have hlen := hl.len
  have hn := hF.n
  have hw0 := hF.w
  have hlx : ∀ i, i < l.length → LyOk z (lyD l i) := fun i hi => hok _ (List.mem_of_getElem? (get_of_lt (0, 0) hi))
  refine calls_of_SC (args := [.agg (pzRow z a c).toArray, .slice al l.length cl]) Try.func18 rfl Try.ntmps18 rfl ?_
  simp only [argL, Nat.zero_add]
  refine sc_seq ?_
  refine sc_region ?_
  refine sq_box RF rfl (fun b2 => ?_)
  refine qs (y_assign RF) ?_
  refine sq_nil ?_
  refine sx_then ?_
  refine sc_seq ?_
  refine sc_region ?_
  refine qs (y_assign RF) ?_
  refine sq_nil ?_
  refine sx_then ?_
  refine sc_seq ?_
  refine sc_seq ?_
  refine sc_nil_own 87 4 ?_
  refine sc_region ?_
  refine qs (y_assign RF) ?_
  refine sq_nil ?_
  refine sx_then ?_
  refine sc_block ?_
  refine sc_loop (σ := Nat × Value × List J4)
    (fun s => [(1, .slice al l.length cl), (2, .pointer (some ⟨b2, 0, none⟩)), (6, .int .i64 s.1), (5, s.2.1)])
    (fun s => [.own s.2.1 87 4 s.2.2.length (s.2.2.flatMap jRow), .blk b2 (.cells (pzRow z a c).toArray 62 (0, 0)), .reg 0 w])
    (fun s => s.1 ≤ l.length ∧ s.2.1.oneCell' = true ∧ s.2.2 = (List.range s.1).flatMap (metI z l) ∧ s.2.2.length ≤ 2 * s.1)
    (fun s => l.length - s.1)
    ((0, .slice none 0 0, [])) ?_ SU SR ?_
  · exact ⟨Nat.zero_le _, rfl, rfl, Nat.zero_le _⟩
  rintro ⟨m, v, js⟩ ⟨hm, hv1, hjs, hjl⟩
  dsimp only at hm hv1 hjs hjl ⊢
  refine sc_seq ?_
  refine sc_seq ?_
  refine sc_region ?_
  refine qs (y_move RF) ?_
  refine qs (y_move RF) ?_
  refine qs (y_len Try.underlying64 RF) ?_
  refine qs (y_lss RF RF) ?_
  refine sq_nil ?_
  refine sx_then ?_
  refine scp (fun hc0 => ?_) (fun hc0 => ?_)
  ·
    have hm' : m < l.length := by omega
    have hsm := (hl.get (0, 0) hm').1
    have hcm : CA 0 w (elt al m 2) (lyRow (lyD l m)) := (hl.get (0, 0) hm').2
    refine sc_skip ?_
    refine sx_then ?_
    refine sc_seq ?_
    refine sc_block ?_
    refine sc_seq ?_
    refine sc_region ?_
    refine qs (y_assign RF) ?_
    refine sq_nil ?_
    refine sx_then ?_
    refine sc_block ?_
    refine sc_loop (σ := Nat × Value × List J4)
      (fun s => [(1, .slice al l.length cl), (2, .pointer (some ⟨b2, 0, none⟩)), (6, .int .i64 m), (7, .int .i64 s.1), (5, s.2.1)])
      (fun s => [.own s.2.1 87 4 s.2.2.length (s.2.2.flatMap jRow), .blk b2 (.cells (pzRow z a c).toArray 62 (0, 0)), .reg 0 w])
      (fun s => s.1 ≤ 2 ∧ s.2.1.oneCell' = true ∧ s.2.2 = (List.range m).flatMap (metI z l) ++ (List.range s.1).flatMap (metC z l m) ∧ s.2.2.length ≤ 2 * m + s.1)
      (fun s => 2 - s.1)
      ((0, v, js)) ?_ SU SR ?_
    · exact ⟨Nat.zero_le _, hv1, by rw [hjs]; simp, by dsimp only; omega⟩
    rintro ⟨i, v, js⟩ ⟨hi0, hv1, hjs, hjl⟩
    dsimp only at hi0 hv1 hjs hjl ⊢
    refine sc_seq ?_
    refine sc_seq ?_
    refine sc_region ?_
    refine qs (y_move RF) ?_
    refine qs (y_lss RF RF) ?_
    refine sq_nil ?_
    refine sx_then ?_
    refine scp (fun hc1 => ?_) (fun hc1 => ?_)
    ·
      refine sc_skip ?_
      refine sx_then ?_
      refine sc_seq ?_
      refine sc_block ?_
      refine sc_seq ?_
      refine sc_region ?_
      refine qs (y_move RF) ?_
      refine qs (y_add RF RF (by omega)) ?_
      refine qs (y_assign RF) ?_
      refine qs (y_assign RF) ?_
      refine sq_nil ?_
      refine sx_then ?_
      refine sc_seq ?_
      refine sc_seq ?_
      refine sc_region ?_
      refine qs (y_move RF) ?_
      refine qs (y_eql RF RF) ?_
      refine sq_nil ?_
      refine sx_then ?_
      refine scp (fun hc2 => ?_) (fun hc2 => ?_)
      ·
        have hi : i = 1 := by omega
        refine sc_region ?_
        refine qs (y_move RF) ?_
        refine qs FA62_3 ?_
        refine qs LD3 ?_
        refine qs (y_add RF RF (by omega)) ?_
        refine qs (y_assign RF) ?_
        refine qs (y_assign RF) ?_
        refine sq_nil ?_
        refine sx_then ?_
        refine sc_seq ?_
        refine sc_seq ?_
        refine sc_draw rfl (by kernel_rfl) (by kernel_rfl) ?_
        refine qq_y (OpY.s (y_move RF)) rfl ?_
        refine qq_y (OpY.s (y_eql RF RF)) rfl ?_
        refine qq_y (OpY.s (y_move RF)) rfl ?_
        refine qq_known (tt := 31) (b' := false) RF (decide_eq_false (by omega)) ?_
        refine qq_gf RF RF RF rfl ?_
        refine qq_gf RF RF RF rfl ?_
        refine qq_gf RF RF RF rfl ?_
        refine qq_gf RF RF RF rfl ?_
        refine qq_gf RF RF RF rfl ?_
        refine qq_gf RF RF RF rfl ?_
        refine qq_gf RF RF RF rfl ?_
        refine qq_gf RF RF RF rfl ?_
        refine qq_y (OpY.s (y_pick_f RF RF)) rfl ?_
        refine qq_y (OpY.s (y_move RF)) rfl ?_
        refine qq_gt RF RF (OpY.s (y_move RF)) rfl ?_
        refine qq_gt RF RF (OpY.s (y_move RF)) rfl ?_
        refine qq_gt RF RF (OpY.s (y_len Try.underlying64 RF)) rfl ?_
        refine qq_gt RF RF (OpY.s (y_geq RF RF)) rfl ?_
        refine qq_y (OpY.s (y_pick_f RF RF)) rfl ?_
        refine qq_nil ?_
        refine sx_then ?_
        refine scp (fun hc3 => ?_) (fun hc3 => ?_)
        ·
          refine sc_exit ?_
          refine sx_then_exit ?_
          refine sx_blk_hit ?_
          refine sx_then ?_
          refine sc_region ?_
          refine qs (y_move RF) ?_
          refine qs (y_add RF RF (by omega)) ?_
          refine qs (y_assign RF) ?_
          refine sq_nil ?_
          refine sx_round ((i + 1, v, js)) ?_ ?_ SU SR
          · exact ⟨by dsimp only; omega, hv1, by dsimp only; rw [range_fm, metC_far (by unfold othI; rw [if_neg (by omega)]; omega), List.append_nil]; exact hjs, by dsimp only; omega⟩
          · dsimp only; omega
        ·
          have ho' : (m + z.wide.toNat) < l.length := by omega
          have hso := (hl.get (0, 0) ho').1
          have hco : CA 0 w (elt al (m + z.wide.toNat) 2) (lyRow (lyD l (m + z.wide.toNat))) := (hl.get (0, 0) ho').2
          have hoI : othI z m i = (m + z.wide.toNat) := by unfold othI; rw [if_neg (by omega)]
          have hyes : metC z l m i = [jnOf l m (m + z.wide.toNat) 2] := by rw [metC_yes (by omega) (by rw [hoI]; exact ho'), hoI, hi]
          refine sc_skip ?_
          refine sx_then ?_
          refine sc_seq ?_
          refine sc_drawX ([.own v 87 4 js.length (js.flatMap jRow), .blk b2 (.cells (pzRow z a c).toArray 62 (0, 0)), .reg 0 w]) (by kernel_rfl) ?_
          refine xj_s 0 RF (by kernel_rfl) SR (y_move RF) rfl ?_
          refine xj_s 1 RF (by kernel_rfl) SR (y_move RF) rfl ?_
          refine xj_s 2 RF (by kernel_rfl) SR (y_ia_el (i := m) Try.underlying64 Try.sizeOf70 RF RF hm' hsm) rfl ?_
          refine xj_s 3 RF (by kernel_rfl) SR FA70_3 rfl ?_
          refine xj_s 4 RF (by kernel_rfl) SR (by first | exact y_load_caj Try.underlying3 rfl RF MM hcm rfl | exact LD3) rfl ?_
          refine xj_s 5 RF (by kernel_rfl) SR (y_move RF) rfl ?_
          refine xj_s 6 RF (by kernel_rfl) SR (y_move RF) rfl ?_
          refine xj_s 7 RF (by kernel_rfl) SR (y_ia_el (i := m) Try.underlying64 Try.sizeOf70 RF RF hm' hsm) rfl ?_
          refine xj_s 8 RF (by kernel_rfl) SR (by first | exact y_load_ca Try.underlying70 rfl Try.sizeOf70 RF MM hcm rfl | exact LD70) rfl ?_
          refine xj_s 9 RF (by kernel_rfl) SR (y_move RF) rfl ?_
          refine xj_s 11 RF (by kernel_rfl) SR (y_move RF) rfl ?_
          refine xj_s 12 RF (by kernel_rfl) SR (y_move RF) rfl ?_
          refine xj_s 13 RF (by kernel_rfl) SR (y_ia_el (i := (m + z.wide.toNat)) Try.underlying64 Try.sizeOf70 RF (ev_int RF (by omega)) ho' hso) rfl ?_
          refine xj_s 14 RF (by kernel_rfl) SR FA70_3 rfl ?_
          refine xj_s 15 RF (by kernel_rfl) SR (by first | exact y_load_caj Try.underlying3 rfl RF MM hco rfl | exact LD3) rfl ?_
          refine xj_s 16 RF (by kernel_rfl) SR (y_move RF) rfl ?_
          refine xj_s 17 RF (by kernel_rfl) SR (y_move RF) rfl ?_
          refine xj_s 18 RF (by kernel_rfl) SR (y_ia_el (i := (m + z.wide.toNat)) Try.underlying64 Try.sizeOf70 RF (ev_int RF (by omega)) ho' hso) rfl ?_
          refine xj_s 19 RF (by kernel_rfl) SR (by first | exact y_load_ca Try.underlying70 rfl Try.sizeOf70 RF MM hco rfl | exact LD70) rfl ?_
          refine xj_s 20 RF (by kernel_rfl) SR (y_move RF) rfl ?_
          refine xj_s 21 RF (by kernel_rfl) SR (y_add RF RF (by omega)) rfl ?_
          refine xj_s 22 RF (by kernel_rfl) SR (y_rem RF RF (by omega) (by omega)) rfl ?_
          refine xj_all (l := [10, 25]) (by kernel_rfl) (by simp) (Each.cons ⟨_, rfl, ?_⟩ (Each.cons ⟨_, rfl, ?_⟩ Each.nil))
          ·
            refine qy (yc Try.call52 E2 (fun w1 _ => Own52 w1 (lyD l m) (hlx m hm').2 2 (by decide))) ?_
            refine sq_nil ?_
            refine sx_xp SR ?_
            refine xj_all (l := [23, 25]) (by kernel_rfl) (by simp) (Each.cons ⟨_, rfl, ?_⟩ (Each.cons ⟨_, rfl, ?_⟩ Each.nil))
            ·
              refine qy (yc Try.call52 E2 (fun w1 _ => Own52 w1 (lyD l (m + z.wide.toNat)) (hlx _ ho').2 0 (by decide))) ?_
              refine sq_nil ?_
              refine sx_xp SR ?_
              refine xj_s 24 RF (by kernel_rfl) SR (y_build (cells := #[.int .i64 ((lyD l m).1 : Int), .int .i64 ((ownS (lyD l m) 2 : Nat) : Int), .int .i64 ((lyD l (m + z.wide.toNat)).1 : Int), .int .i64 ((ownS (lyD l (m + z.wide.toNat)) 0 : Nat) : Int)]) bt87 (EvP.cons RF (EvP.cons RF (EvP.cons RF (EvP.cons RF EvP.nil)))) (by kernel_rfl)) rfl ?_
              refine xj_one 25 RF (by kernel_rfl) ?_
              refine sq_alloc Try.zeroValue87 rfl (fun b10 => ?_)
              refine sq_nil ?_
              refine sx_xp SR ?_
              refine xj_one 26 RF (by kernel_rfl) ?_
              refine sq_store_all (vs := [.int .i64 ((lyD l m).1 : Int), .int .i64 ((ownS (lyD l m) 2 : Nat) : Int), .int .i64 ((lyD l (m + z.wide.toNat)).1 : Int), .int .i64 ((ownS (lyD l (m + z.wide.toNat)) 0 : Nat) : Int)]) Try.sizeOf87 RF RF rfl RM rfl rfl ?_
              refine sq_nil ?_
              refine sx_xpl (by kernel_rfl) ?_
              refine xj_done (by kernel_rfl) ?_
              refine sx_then ?_
              refine sc_seq ?_
              refine sc_seq ?_
              refine sc_region ?_
              refine qs FA87_3 ?_
              refine qs LD3 ?_
              refine qs FA87_3 ?_
              refine qs LD3 ?_
              refine qs (y_gtr RF RF) ?_
              refine sq_nil ?_
              refine sx_then ?_
              refine scp (fun hc4 => ?_) (fun hc4 => ?_)
              ·
                refine sc_region ?_
                refine qs FA87_3 ?_
                refine qs LD3 ?_
                refine qs FA87_3 ?_
                refine qs LD3 ?_
                refine qs FA87_3 ?_
                refine qs LD3 ?_
                refine qs FA87_3 ?_
                refine qs LD3 ?_
                refine qs (y_build (cells := #[.int .i64 ((lyD l (m + z.wide.toNat)).1 : Int), .int .i64 ((ownS (lyD l (m + z.wide.toNat)) 0 : Nat) : Int), .int .i64 ((lyD l m).1 : Int), .int .i64 ((ownS (lyD l m) 2 : Nat) : Int)]) bt87 (EvP.cons RF (EvP.cons RF (EvP.cons RF (EvP.cons RF EvP.nil)))) (by kernel_rfl)) ?_
                refine sq_store_all (vs := [.int .i64 ((lyD l (m + z.wide.toNat)).1 : Int), .int .i64 ((ownS (lyD l (m + z.wide.toNat)) 0 : Nat) : Int), .int .i64 ((lyD l m).1 : Int), .int .i64 ((ownS (lyD l m) 2 : Nat) : Int)]) Try.sizeOf87 RF RF rfl RM rfl rfl ?_
                refine sq_nil ?_
                refine sx_then ?_
                refine sc_region ?_
                refine qs (y_move RF) ?_
                refine qs LD87 ?_
                refine sq_bs Try.underlying71 ei87 (EvI.cons RF EvI.nil) (by first | (simp [Value.cells]; done) | (simp [Value.cells]; rfl) | (simp [Value.cells]; and_intros <;> rfl)) rfl rfl rfl (fun b88 => ?_)
                refine sq_append (news := [.int .i64 ((lyD l (m + z.wide.toNat)).1 : Int), .int .i64 ((ownS (lyD l (m + z.wide.toNat)) 0 : Nat) : Int), .int .i64 ((lyD l m).1 : Int), .int .i64 ((ownS (lyD l m) 2 : Nat) : Int)]) Try.underlying71 ei87 rfl (by decide) RF RM RF rfl (fun _ hw => news_blk hw MM) (by simp [Value.oneCell']) (by omega) rfl (fun v89 ho89 => ?_)
                rw [show js.flatMap jRow ++ [.int .i64 ((lyD l (m + z.wide.toNat)).1 : Int), .int .i64 ((ownS (lyD l (m + z.wide.toNat)) 0 : Nat) : Int), .int .i64 ((lyD l m).1 : Int), .int .i64 ((ownS (lyD l m) 2 : Nat) : Int)] = (js ++ [jnOf l m (m + z.wide.toNat) 2]).flatMap jRow from by rw [show jnOf l m (m + z.wide.toNat) 2 = ((lyD l (m + z.wide.toNat)).1, ownS (lyD l (m + z.wide.toNat)) 0, (lyD l m).1, ownS (lyD l m) 2) from if_pos (by omega)]; simp [jRow], show js.length + 1 = (js ++ [jnOf l m (m + z.wide.toNat) 2]).length from by simp]
                refine qs (y_assign RF) ?_
                refine sq_nil ?_
                refine sx_blk ?_
                refine sx_then ?_
                refine sc_region ?_
                refine qs (y_move RF) ?_
                refine qs (y_add RF RF (by omega)) ?_
                refine qs (y_assign RF) ?_
                refine sq_nil ?_
                refine sx_round ((i + 1, v89, js ++ [jnOf l m (m + z.wide.toNat) 2])) ?_ ?_ SU SR
                · exact ⟨by dsimp only; omega, ho89, by dsimp only; rw [range_fm, hyes, ← List.append_assoc, ← hjs], by dsimp only; rw [List.length_append]; simp only [List.length_cons, List.length_nil]; omega⟩
                · dsimp only; omega
              ·
                refine sc_skip ?_
                refine sx_then ?_
                refine sc_region ?_
                refine qs (y_move RF) ?_
                refine qs LD87 ?_
                refine sq_bs Try.underlying71 ei87 (EvI.cons RF EvI.nil) (by first | (simp [Value.cells]; done) | (simp [Value.cells]; rfl) | (simp [Value.cells]; and_intros <;> rfl)) rfl rfl rfl (fun b88 => ?_)
                refine sq_append (news := [.int .i64 ((lyD l m).1 : Int), .int .i64 ((ownS (lyD l m) 2 : Nat) : Int), .int .i64 ((lyD l (m + z.wide.toNat)).1 : Int), .int .i64 ((ownS (lyD l (m + z.wide.toNat)) 0 : Nat) : Int)]) Try.underlying71 ei87 rfl (by decide) RF RM RF rfl (fun _ hw => news_blk hw MM) (by simp [Value.oneCell']) (by omega) rfl (fun v89 ho89 => ?_)
                rw [show js.flatMap jRow ++ [.int .i64 ((lyD l m).1 : Int), .int .i64 ((ownS (lyD l m) 2 : Nat) : Int), .int .i64 ((lyD l (m + z.wide.toNat)).1 : Int), .int .i64 ((ownS (lyD l (m + z.wide.toNat)) 0 : Nat) : Int)] = (js ++ [jnOf l m (m + z.wide.toNat) 2]).flatMap jRow from by rw [show jnOf l m (m + z.wide.toNat) 2 = ((lyD l m).1, ownS (lyD l m) 2, (lyD l (m + z.wide.toNat)).1, ownS (lyD l (m + z.wide.toNat)) 0) from if_neg (by omega)]; simp [jRow], show js.length + 1 = (js ++ [jnOf l m (m + z.wide.toNat) 2]).length from by simp]
                refine qs (y_assign RF) ?_
                refine sq_nil ?_
                refine sx_blk ?_
                refine sx_then ?_
                refine sc_region ?_
                refine qs (y_move RF) ?_
                refine qs (y_add RF RF (by omega)) ?_
                refine qs (y_assign RF) ?_
                refine sq_nil ?_
                refine sx_round ((i + 1, v89, js ++ [jnOf l m (m + z.wide.toNat) 2])) ?_ ?_ SU SR
                · exact ⟨by dsimp only; omega, ho89, by dsimp only; rw [range_fm, hyes, ← List.append_assoc, ← hjs], by dsimp only; rw [List.length_append]; simp only [List.length_cons, List.length_nil]; omega⟩
                · dsimp only; omega
            ·
              refine sq_alloc Try.zeroValue87 rfl (fun b10 => ?_)
              refine sq_nil ?_
              refine sx_xp SR ?_
              refine xj_one 23 RF (by kernel_rfl) ?_
              refine qy (yc Try.call52 E2 (fun w1 _ => Own52 w1 (lyD l (m + z.wide.toNat)) (hlx _ ho').2 0 (by decide))) ?_
              refine sq_nil ?_
              refine sx_xp SR ?_
              refine xj_s 24 RF (by kernel_rfl) SR (y_build (cells := #[.int .i64 ((lyD l m).1 : Int), .int .i64 ((ownS (lyD l m) 2 : Nat) : Int), .int .i64 ((lyD l (m + z.wide.toNat)).1 : Int), .int .i64 ((ownS (lyD l (m + z.wide.toNat)) 0 : Nat) : Int)]) bt87 (EvP.cons RF (EvP.cons RF (EvP.cons RF (EvP.cons RF EvP.nil)))) (by kernel_rfl)) rfl ?_
              refine xj_one 26 RF (by kernel_rfl) ?_
              refine sq_store_all (vs := [.int .i64 ((lyD l m).1 : Int), .int .i64 ((ownS (lyD l m) 2 : Nat) : Int), .int .i64 ((lyD l (m + z.wide.toNat)).1 : Int), .int .i64 ((ownS (lyD l (m + z.wide.toNat)) 0 : Nat) : Int)]) Try.sizeOf87 RF RF rfl RM rfl rfl ?_
              refine sq_nil ?_
              refine sx_xpl (by kernel_rfl) ?_
              refine xj_done (by kernel_rfl) ?_
              refine sx_then ?_
              refine sc_seq ?_
              refine sc_seq ?_
              refine sc_region ?_
              refine qs FA87_3 ?_
              refine qs LD3 ?_
              refine qs FA87_3 ?_
              refine qs LD3 ?_
              refine qs (y_gtr RF RF) ?_
              refine sq_nil ?_
              refine sx_then ?_
              refine scp (fun hc4 => ?_) (fun hc4 => ?_)
              ·
                refine sc_region ?_
                refine qs FA87_3 ?_
                refine qs LD3 ?_
                refine qs FA87_3 ?_
                refine qs LD3 ?_
                refine qs FA87_3 ?_
                refine qs LD3 ?_
                refine qs FA87_3 ?_
                refine qs LD3 ?_
                refine qs (y_build (cells := #[.int .i64 ((lyD l (m + z.wide.toNat)).1 : Int), .int .i64 ((ownS (lyD l (m + z.wide.toNat)) 0 : Nat) : Int), .int .i64 ((lyD l m).1 : Int), .int .i64 ((ownS (lyD l m) 2 : Nat) : Int)]) bt87 (EvP.cons RF (EvP.cons RF (EvP.cons RF (EvP.cons RF EvP.nil)))) (by kernel_rfl)) ?_
                refine sq_store_all (vs := [.int .i64 ((lyD l (m + z.wide.toNat)).1 : Int), .int .i64 ((ownS (lyD l (m + z.wide.toNat)) 0 : Nat) : Int), .int .i64 ((lyD l m).1 : Int), .int .i64 ((ownS (lyD l m) 2 : Nat) : Int)]) Try.sizeOf87 RF RF rfl RM rfl rfl ?_
                refine sq_nil ?_
                refine sx_then ?_
                refine sc_region ?_
                refine qs (y_move RF) ?_
                refine qs LD87 ?_
                refine sq_bs Try.underlying71 ei87 (EvI.cons RF EvI.nil) (by first | (simp [Value.cells]; done) | (simp [Value.cells]; rfl) | (simp [Value.cells]; and_intros <;> rfl)) rfl rfl rfl (fun b88 => ?_)
                refine sq_append (news := [.int .i64 ((lyD l (m + z.wide.toNat)).1 : Int), .int .i64 ((ownS (lyD l (m + z.wide.toNat)) 0 : Nat) : Int), .int .i64 ((lyD l m).1 : Int), .int .i64 ((ownS (lyD l m) 2 : Nat) : Int)]) Try.underlying71 ei87 rfl (by decide) RF RM RF rfl (fun _ hw => news_blk hw MM) (by simp [Value.oneCell']) (by omega) rfl (fun v89 ho89 => ?_)
                rw [show js.flatMap jRow ++ [.int .i64 ((lyD l (m + z.wide.toNat)).1 : Int), .int .i64 ((ownS (lyD l (m + z.wide.toNat)) 0 : Nat) : Int), .int .i64 ((lyD l m).1 : Int), .int .i64 ((ownS (lyD l m) 2 : Nat) : Int)] = (js ++ [jnOf l m (m + z.wide.toNat) 2]).flatMap jRow from by rw [show jnOf l m (m + z.wide.toNat) 2 = ((lyD l (m + z.wide.toNat)).1, ownS (lyD l (m + z.wide.toNat)) 0, (lyD l m).1, ownS (lyD l m) 2) from if_pos (by omega)]; simp [jRow], show js.length + 1 = (js ++ [jnOf l m (m + z.wide.toNat) 2]).length from by simp]
                refine qs (y_assign RF) ?_
                refine sq_nil ?_
                refine sx_blk ?_
                refine sx_then ?_
                refine sc_region ?_
                refine qs (y_move RF) ?_
                refine qs (y_add RF RF (by omega)) ?_
                refine qs (y_assign RF) ?_
                refine sq_nil ?_
                refine sx_round ((i + 1, v89, js ++ [jnOf l m (m + z.wide.toNat) 2])) ?_ ?_ SU SR
                · exact ⟨by dsimp only; omega, ho89, by dsimp only; rw [range_fm, hyes, ← List.append_assoc, ← hjs], by dsimp only; rw [List.length_append]; simp only [List.length_cons, List.length_nil]; omega⟩
                · dsimp only; omega
              ·
                refine sc_skip ?_
                refine sx_then ?_
                refine sc_region ?_
                refine qs (y_move RF) ?_
                refine qs LD87 ?_
                refine sq_bs Try.underlying71 ei87 (EvI.cons RF EvI.nil) (by first | (simp [Value.cells]; done) | (simp [Value.cells]; rfl) | (simp [Value.cells]; and_intros <;> rfl)) rfl rfl rfl (fun b88 => ?_)
                refine sq_append (news := [.int .i64 ((lyD l m).1 : Int), .int .i64 ((ownS (lyD l m) 2 : Nat) : Int), .int .i64 ((lyD l (m + z.wide.toNat)).1 : Int), .int .i64 ((ownS (lyD l (m + z.wide.toNat)) 0 : Nat) : Int)]) Try.underlying71 ei87 rfl (by decide) RF RM RF rfl (fun _ hw => news_blk hw MM) (by simp [Value.oneCell']) (by omega) rfl (fun v89 ho89 => ?_)
                rw [show js.flatMap jRow ++ [.int .i64 ((lyD l m).1 : Int), .int .i64 ((ownS (lyD l m) 2 : Nat) : Int), .int .i64 ((lyD l (m + z.wide.toNat)).1 : Int), .int .i64 ((ownS (lyD l (m + z.wide.toNat)) 0 : Nat) : Int)] = (js ++ [jnOf l m (m + z.wide.toNat) 2]).flatMap jRow from by rw [show jnOf l m (m + z.wide.toNat) 2 = ((lyD l m).1, ownS (lyD l m) 2, (lyD l (m + z.wide.toNat)).1, ownS (lyD l (m + z.wide.toNat)) 0) from if_neg (by omega)]; simp [jRow], show js.length + 1 = (js ++ [jnOf l m (m + z.wide.toNat) 2]).length from by simp]
                refine qs (y_assign RF) ?_
                refine sq_nil ?_
                refine sx_blk ?_
                refine sx_then ?_
                refine sc_region ?_
                refine qs (y_move RF) ?_
                refine qs (y_add RF RF (by omega)) ?_
                refine qs (y_assign RF) ?_
                refine sq_nil ?_
                refine sx_round ((i + 1, v89, js ++ [jnOf l m (m + z.wide.toNat) 2])) ?_ ?_ SU SR
                · exact ⟨by dsimp only; omega, ho89, by dsimp only; rw [range_fm, hyes, ← List.append_assoc, ← hjs], by dsimp only; rw [List.length_append]; simp only [List.length_cons, List.length_nil]; omega⟩
                · dsimp only; omega
          ·
            refine sq_alloc Try.zeroValue87 rfl (fun b10 => ?_)
            refine sq_nil ?_
            refine sx_xp SR ?_
            refine xj_one 10 RF (by kernel_rfl) ?_
            refine qy (yc Try.call52 E2 (fun w1 _ => Own52 w1 (lyD l m) (hlx m hm').2 2 (by decide))) ?_
            refine sq_nil ?_
            refine sx_xp SR ?_
            refine xj_one 23 RF (by kernel_rfl) ?_
            refine qy (yc Try.call52 E2 (fun w1 _ => Own52 w1 (lyD l (m + z.wide.toNat)) (hlx _ ho').2 0 (by decide))) ?_
            refine sq_nil ?_
            refine sx_xp SR ?_
            refine xj_s 24 RF (by kernel_rfl) SR (y_build (cells := #[.int .i64 ((lyD l m).1 : Int), .int .i64 ((ownS (lyD l m) 2 : Nat) : Int), .int .i64 ((lyD l (m + z.wide.toNat)).1 : Int), .int .i64 ((ownS (lyD l (m + z.wide.toNat)) 0 : Nat) : Int)]) bt87 (EvP.cons RF (EvP.cons RF (EvP.cons RF (EvP.cons RF EvP.nil)))) (by kernel_rfl)) rfl ?_
            refine xj_one 26 RF (by kernel_rfl) ?_
            refine sq_store_all (vs := [.int .i64 ((lyD l m).1 : Int), .int .i64 ((ownS (lyD l m) 2 : Nat) : Int), .int .i64 ((lyD l (m + z.wide.toNat)).1 : Int), .int .i64 ((ownS (lyD l (m + z.wide.toNat)) 0 : Nat) : Int)]) Try.sizeOf87 RF RF rfl RM rfl rfl ?_
            refine sq_nil ?_
            refine sx_xpl (by kernel_rfl) ?_
            refine xj_done (by kernel_rfl) ?_
            refine sx_then ?_
            refine sc_seq ?_
            refine sc_seq ?_
            refine sc_region ?_
            refine qs FA87_3 ?_
            refine qs LD3 ?_
            refine qs FA87_3 ?_
            refine qs LD3 ?_
            refine qs (y_gtr RF RF) ?_
            refine sq_nil ?_
            refine sx_then ?_
            refine scp (fun hc4 => ?_) (fun hc4 => ?_)
            ·
              refine sc_region ?_
              refine qs FA87_3 ?_
              refine qs LD3 ?_
              refine qs FA87_3 ?_
              refine qs LD3 ?_
              refine qs FA87_3 ?_
              refine qs LD3 ?_
              refine qs FA87_3 ?_
              refine qs LD3 ?_
              refine qs (y_build (cells := #[.int .i64 ((lyD l (m + z.wide.toNat)).1 : Int), .int .i64 ((ownS (lyD l (m + z.wide.toNat)) 0 : Nat) : Int), .int .i64 ((lyD l m).1 : Int), .int .i64 ((ownS (lyD l m) 2 : Nat) : Int)]) bt87 (EvP.cons RF (EvP.cons RF (EvP.cons RF (EvP.cons RF EvP.nil)))) (by kernel_rfl)) ?_
              refine sq_store_all (vs := [.int .i64 ((lyD l (m + z.wide.toNat)).1 : Int), .int .i64 ((ownS (lyD l (m + z.wide.toNat)) 0 : Nat) : Int), .int .i64 ((lyD l m).1 : Int), .int .i64 ((ownS (lyD l m) 2 : Nat) : Int)]) Try.sizeOf87 RF RF rfl RM rfl rfl ?_
              refine sq_nil ?_
              refine sx_then ?_
              refine sc_region ?_
              refine qs (y_move RF) ?_
              refine qs LD87 ?_
              refine sq_bs Try.underlying71 ei87 (EvI.cons RF EvI.nil) (by first | (simp [Value.cells]; done) | (simp [Value.cells]; rfl) | (simp [Value.cells]; and_intros <;> rfl)) rfl rfl rfl (fun b88 => ?_)
              refine sq_append (news := [.int .i64 ((lyD l (m + z.wide.toNat)).1 : Int), .int .i64 ((ownS (lyD l (m + z.wide.toNat)) 0 : Nat) : Int), .int .i64 ((lyD l m).1 : Int), .int .i64 ((ownS (lyD l m) 2 : Nat) : Int)]) Try.underlying71 ei87 rfl (by decide) RF RM RF rfl (fun _ hw => news_blk hw MM) (by simp [Value.oneCell']) (by omega) rfl (fun v89 ho89 => ?_)
              rw [show js.flatMap jRow ++ [.int .i64 ((lyD l (m + z.wide.toNat)).1 : Int), .int .i64 ((ownS (lyD l (m + z.wide.toNat)) 0 : Nat) : Int), .int .i64 ((lyD l m).1 : Int), .int .i64 ((ownS (lyD l m) 2 : Nat) : Int)] = (js ++ [jnOf l m (m + z.wide.toNat) 2]).flatMap jRow from by rw [show jnOf l m (m + z.wide.toNat) 2 = ((lyD l (m + z.wide.toNat)).1, ownS (lyD l (m + z.wide.toNat)) 0, (lyD l m).1, ownS (lyD l m) 2) from if_pos (by omega)]; simp [jRow], show js.length + 1 = (js ++ [jnOf l m (m + z.wide.toNat) 2]).length from by simp]
              refine qs (y_assign RF) ?_
              refine sq_nil ?_
              refine sx_blk ?_
              refine sx_then ?_
              refine sc_region ?_
              refine qs (y_move RF) ?_
              refine qs (y_add RF RF (by omega)) ?_
              refine qs (y_assign RF) ?_
              refine sq_nil ?_
              refine sx_round ((i + 1, v89, js ++ [jnOf l m (m + z.wide.toNat) 2])) ?_ ?_ SU SR
              · exact ⟨by dsimp only; omega, ho89, by dsimp only; rw [range_fm, hyes, ← List.append_assoc, ← hjs], by dsimp only; rw [List.length_append]; simp only [List.length_cons, List.length_nil]; omega⟩
              · dsimp only; omega
            ·
              refine sc_skip ?_
              refine sx_then ?_
              refine sc_region ?_
              refine qs (y_move RF) ?_
              refine qs LD87 ?_
              refine sq_bs Try.underlying71 ei87 (EvI.cons RF EvI.nil) (by first | (simp [Value.cells]; done) | (simp [Value.cells]; rfl) | (simp [Value.cells]; and_intros <;> rfl)) rfl rfl rfl (fun b88 => ?_)
              refine sq_append (news := [.int .i64 ((lyD l m).1 : Int), .int .i64 ((ownS (lyD l m) 2 : Nat) : Int), .int .i64 ((lyD l (m + z.wide.toNat)).1 : Int), .int .i64 ((ownS (lyD l (m + z.wide.toNat)) 0 : Nat) : Int)]) Try.underlying71 ei87 rfl (by decide) RF RM RF rfl (fun _ hw => news_blk hw MM) (by simp [Value.oneCell']) (by omega) rfl (fun v89 ho89 => ?_)
              rw [show js.flatMap jRow ++ [.int .i64 ((lyD l m).1 : Int), .int .i64 ((ownS (lyD l m) 2 : Nat) : Int), .int .i64 ((lyD l (m + z.wide.toNat)).1 : Int), .int .i64 ((ownS (lyD l (m + z.wide.toNat)) 0 : Nat) : Int)] = (js ++ [jnOf l m (m + z.wide.toNat) 2]).flatMap jRow from by rw [show jnOf l m (m + z.wide.toNat) 2 = ((lyD l m).1, ownS (lyD l m) 2, (lyD l (m + z.wide.toNat)).1, ownS (lyD l (m + z.wide.toNat)) 0) from if_neg (by omega)]; simp [jRow], show js.length + 1 = (js ++ [jnOf l m (m + z.wide.toNat) 2]).length from by simp]
              refine qs (y_assign RF) ?_
              refine sq_nil ?_
              refine sx_blk ?_
              refine sx_then ?_
              refine sc_region ?_
              refine qs (y_move RF) ?_
              refine qs (y_add RF RF (by omega)) ?_
              refine qs (y_assign RF) ?_
              refine sq_nil ?_
              refine sx_round ((i + 1, v89, js ++ [jnOf l m (m + z.wide.toNat) 2])) ?_ ?_ SU SR
              · exact ⟨by dsimp only; omega, ho89, by dsimp only; rw [range_fm, hyes, ← List.append_assoc, ← hjs], by dsimp only; rw [List.length_append]; simp only [List.length_cons, List.length_nil]; omega⟩
              · dsimp only; omega
      ·
        have hi : i = 0 := by omega
        refine sc_skip ?_
        refine sx_then ?_
        refine sc_seq ?_
        refine sc_seq ?_
        refine sc_draw rfl (by kernel_rfl) (by kernel_rfl) ?_
        refine qq_y (OpY.s (y_move RF)) rfl ?_
        refine qq_y (OpY.s (y_eql RF RF)) rfl ?_
        refine qq_y (OpY.s (y_move RF)) rfl ?_
        refine qq_known (tt := 31) (b' := true) RF (decide_eq_true (by omega)) ?_
        refine qq_gt RF RF (OpY.s (y_move RF)) rfl ?_
        refine qq_gt RF RF (OpY.s FA62_3) rfl ?_
        refine qq_gt RF RF (OpY.s LD3) rfl ?_
        refine qq_gt RF RF (OpY.s (y_rem RF RF (by omega) (by omega))) rfl ?_
        try rw [show ((m : Nat) : Int) % z.wide = colI z m from rfl]
        refine qq_gt RF RF (OpY.s FA62_3) rfl ?_
        refine qq_gt RF RF (OpY.s LD3) rfl ?_
        refine qq_gt RF RF (OpY.s (y_sub RF RF (by omega))) rfl ?_
        refine qq_gt RF RF (OpY.s (y_eql RF RF)) rfl ?_
        refine qq_y (OpY.s (y_pick_t RF RF)) rfl ?_
        refine qq_y (OpY.s (y_move RF)) rfl ?_
        first | refine qq_splitd (tt := 41) RF (fun hg11_12 => ?_) (fun hg11_12 => ?_) | refine qq_splitn (tt := 41) RF (fun hg11_12 => ?_) (fun hg11_12 => ?_) | refine qq_split (tt := 41) RF (fun hg11_12 => ?_) (fun hg11_12 => ?_)
        ·
          refine qq_gf RF RF RF rfl ?_
          refine qq_gf RF RF RF rfl ?_
          refine qq_gf RF RF RF rfl ?_
          refine qq_gf RF RF RF rfl ?_
          refine qq_y (OpY.s (y_pick_t RF RF)) rfl ?_
          refine qq_nil ?_
          refine sx_then ?_
          refine sc_t RF ?_
          refine sc_exit ?_
          refine sx_then_exit ?_
          refine sx_blk_hit ?_
          refine sx_then ?_
          refine sc_region ?_
          refine qs (y_move RF) ?_
          refine qs (y_add RF RF (by omega)) ?_
          refine qs (y_assign RF) ?_
          refine sq_nil ?_
          refine sx_round ((i + 1, v, js)) ?_ ?_ SU SR
          · exact ⟨by dsimp only; omega, hv1, by dsimp only; rw [range_fm, metC_rim (by omega) hg11_12, List.append_nil]; exact hjs, by dsimp only; omega⟩
          · dsimp only; omega
        ·
          refine qq_gt RF RF (OpY.s (y_move RF)) rfl ?_
          refine qq_gt RF RF (OpY.s (y_move RF)) rfl ?_
          refine qq_gt RF RF (OpY.s (y_len Try.underlying64 RF)) rfl ?_
          refine qq_gt RF RF (OpY.s (y_geq RF RF)) rfl ?_
          refine qq_y (OpY.s (y_pick_f RF RF)) rfl ?_
          refine qq_nil ?_
          refine sx_then ?_
          refine scp (fun hc3 => ?_) (fun hc3 => ?_)
          ·
            refine sc_exit ?_
            refine sx_then_exit ?_
            refine sx_blk_hit ?_
            refine sx_then ?_
            refine sc_region ?_
            refine qs (y_move RF) ?_
            refine qs (y_add RF RF (by omega)) ?_
            refine qs (y_assign RF) ?_
            refine sq_nil ?_
            refine sx_round ((i + 1, v, js)) ?_ ?_ SU SR
            · exact ⟨by dsimp only; omega, hv1, by dsimp only; rw [range_fm, metC_far (by unfold othI; rw [if_pos (by omega)]; omega), List.append_nil]; exact hjs, by dsimp only; omega⟩
            · dsimp only; omega
          ·
            have ho' : (m + 1) < l.length := by omega
            have hso := (hl.get (0, 0) ho').1
            have hco : CA 0 w (elt al (m + 1) 2) (lyRow (lyD l (m + 1))) := (hl.get (0, 0) ho').2
            have hoI : othI z m i = (m + 1) := by unfold othI; rw [if_pos (by omega)]
            have hyes : metC z l m i = [jnOf l m (m + 1) 1] := by rw [metC_yes (by exact fun h => hg11_12 h.2) (by rw [hoI]; exact ho'), hoI, hi]
            refine sc_skip ?_
            refine sx_then ?_
            refine sc_seq ?_
            refine sc_drawX ([.own v 87 4 js.length (js.flatMap jRow), .blk b2 (.cells (pzRow z a c).toArray 62 (0, 0)), .reg 0 w]) (by kernel_rfl) ?_
            refine xj_s 0 RF (by kernel_rfl) SR (y_move RF) rfl ?_
            refine xj_s 1 RF (by kernel_rfl) SR (y_move RF) rfl ?_
            refine xj_s 2 RF (by kernel_rfl) SR (y_ia_el (i := m) Try.underlying64 Try.sizeOf70 RF RF hm' hsm) rfl ?_
            refine xj_s 3 RF (by kernel_rfl) SR FA70_3 rfl ?_
            refine xj_s 4 RF (by kernel_rfl) SR (by first | exact y_load_caj Try.underlying3 rfl RF MM hcm rfl | exact LD3) rfl ?_
            refine xj_s 5 RF (by kernel_rfl) SR (y_move RF) rfl ?_
            refine xj_s 6 RF (by kernel_rfl) SR (y_move RF) rfl ?_
            refine xj_s 7 RF (by kernel_rfl) SR (y_ia_el (i := m) Try.underlying64 Try.sizeOf70 RF RF hm' hsm) rfl ?_
            refine xj_s 8 RF (by kernel_rfl) SR (by first | exact y_load_ca Try.underlying70 rfl Try.sizeOf70 RF MM hcm rfl | exact LD70) rfl ?_
            refine xj_s 9 RF (by kernel_rfl) SR (y_move RF) rfl ?_
            refine xj_s 11 RF (by kernel_rfl) SR (y_move RF) rfl ?_
            refine xj_s 12 RF (by kernel_rfl) SR (y_move RF) rfl ?_
            refine xj_s 13 RF (by kernel_rfl) SR (y_ia_el (i := (m + 1)) Try.underlying64 Try.sizeOf70 RF (ev_int RF (by omega)) ho' hso) rfl ?_
            refine xj_s 14 RF (by kernel_rfl) SR FA70_3 rfl ?_
            refine xj_s 15 RF (by kernel_rfl) SR (by first | exact y_load_caj Try.underlying3 rfl RF MM hco rfl | exact LD3) rfl ?_
            refine xj_s 16 RF (by kernel_rfl) SR (y_move RF) rfl ?_
            refine xj_s 17 RF (by kernel_rfl) SR (y_move RF) rfl ?_
            refine xj_s 18 RF (by kernel_rfl) SR (y_ia_el (i := (m + 1)) Try.underlying64 Try.sizeOf70 RF (ev_int RF (by omega)) ho' hso) rfl ?_
            refine xj_s 19 RF (by kernel_rfl) SR (by first | exact y_load_ca Try.underlying70 rfl Try.sizeOf70 RF MM hco rfl | exact LD70) rfl ?_
            refine xj_s 20 RF (by kernel_rfl) SR (y_move RF) rfl ?_
            refine xj_s 21 RF (by kernel_rfl) SR (y_add RF RF (by omega)) rfl ?_
            refine xj_s 22 RF (by kernel_rfl) SR (y_rem RF RF (by omega) (by omega)) rfl ?_
            refine xj_all (l := [10, 25]) (by kernel_rfl) (by simp) (Each.cons ⟨_, rfl, ?_⟩ (Each.cons ⟨_, rfl, ?_⟩ Each.nil))
            ·
              refine qy (yc Try.call52 E2 (fun w1 _ => Own52 w1 (lyD l m) (hlx m hm').2 1 (by decide))) ?_
              refine sq_nil ?_
              refine sx_xp SR ?_
              refine xj_all (l := [23, 25]) (by kernel_rfl) (by simp) (Each.cons ⟨_, rfl, ?_⟩ (Each.cons ⟨_, rfl, ?_⟩ Each.nil))
              ·
                refine qy (yc Try.call52 E2 (fun w1 _ => Own52 w1 (lyD l (m + 1)) (hlx _ ho').2 3 (by decide))) ?_
                refine sq_nil ?_
                refine sx_xp SR ?_
                refine xj_s 24 RF (by kernel_rfl) SR (y_build (cells := #[.int .i64 ((lyD l m).1 : Int), .int .i64 ((ownS (lyD l m) 1 : Nat) : Int), .int .i64 ((lyD l (m + 1)).1 : Int), .int .i64 ((ownS (lyD l (m + 1)) 3 : Nat) : Int)]) bt87 (EvP.cons RF (EvP.cons RF (EvP.cons RF (EvP.cons RF EvP.nil)))) (by kernel_rfl)) rfl ?_
                refine xj_one 25 RF (by kernel_rfl) ?_
                refine sq_alloc Try.zeroValue87 rfl (fun b10 => ?_)
                refine sq_nil ?_
                refine sx_xp SR ?_
                refine xj_one 26 RF (by kernel_rfl) ?_
                refine sq_store_all (vs := [.int .i64 ((lyD l m).1 : Int), .int .i64 ((ownS (lyD l m) 1 : Nat) : Int), .int .i64 ((lyD l (m + 1)).1 : Int), .int .i64 ((ownS (lyD l (m + 1)) 3 : Nat) : Int)]) Try.sizeOf87 RF RF rfl RM rfl rfl ?_
                refine sq_nil ?_
                refine sx_xpl (by kernel_rfl) ?_
                refine xj_done (by kernel_rfl) ?_
                refine sx_then ?_
                refine sc_seq ?_
                refine sc_seq ?_
                refine sc_region ?_
                refine qs FA87_3 ?_
                refine qs LD3 ?_
                refine qs FA87_3 ?_
                refine qs LD3 ?_
                refine qs (y_gtr RF RF) ?_
                refine sq_nil ?_
                refine sx_then ?_
                refine scp (fun hc4 => ?_) (fun hc4 => ?_)
                ·
                  refine sc_region ?_
                  refine qs FA87_3 ?_
                  refine qs LD3 ?_
                  refine qs FA87_3 ?_
                  refine qs LD3 ?_
                  refine qs FA87_3 ?_
                  refine qs LD3 ?_
                  refine qs FA87_3 ?_
                  refine qs LD3 ?_
                  refine qs (y_build (cells := #[.int .i64 ((lyD l (m + 1)).1 : Int), .int .i64 ((ownS (lyD l (m + 1)) 3 : Nat) : Int), .int .i64 ((lyD l m).1 : Int), .int .i64 ((ownS (lyD l m) 1 : Nat) : Int)]) bt87 (EvP.cons RF (EvP.cons RF (EvP.cons RF (EvP.cons RF EvP.nil)))) (by kernel_rfl)) ?_
                  refine sq_store_all (vs := [.int .i64 ((lyD l (m + 1)).1 : Int), .int .i64 ((ownS (lyD l (m + 1)) 3 : Nat) : Int), .int .i64 ((lyD l m).1 : Int), .int .i64 ((ownS (lyD l m) 1 : Nat) : Int)]) Try.sizeOf87 RF RF rfl RM rfl rfl ?_
                  refine sq_nil ?_
                  refine sx_then ?_
                  refine sc_region ?_
                  refine qs (y_move RF) ?_
                  refine qs LD87 ?_
                  refine sq_bs Try.underlying71 ei87 (EvI.cons RF EvI.nil) (by first | (simp [Value.cells]; done) | (simp [Value.cells]; rfl) | (simp [Value.cells]; and_intros <;> rfl)) rfl rfl rfl (fun b88 => ?_)
                  refine sq_append (news := [.int .i64 ((lyD l (m + 1)).1 : Int), .int .i64 ((ownS (lyD l (m + 1)) 3 : Nat) : Int), .int .i64 ((lyD l m).1 : Int), .int .i64 ((ownS (lyD l m) 1 : Nat) : Int)]) Try.underlying71 ei87 rfl (by decide) RF RM RF rfl (fun _ hw => news_blk hw MM) (by simp [Value.oneCell']) (by omega) rfl (fun v89 ho89 => ?_)
                  rw [show js.flatMap jRow ++ [.int .i64 ((lyD l (m + 1)).1 : Int), .int .i64 ((ownS (lyD l (m + 1)) 3 : Nat) : Int), .int .i64 ((lyD l m).1 : Int), .int .i64 ((ownS (lyD l m) 1 : Nat) : Int)] = (js ++ [jnOf l m (m + 1) 1]).flatMap jRow from by rw [show jnOf l m (m + 1) 1 = ((lyD l (m + 1)).1, ownS (lyD l (m + 1)) 3, (lyD l m).1, ownS (lyD l m) 1) from if_pos (by omega)]; simp [jRow], show js.length + 1 = (js ++ [jnOf l m (m + 1) 1]).length from by simp]
                  refine qs (y_assign RF) ?_
                  refine sq_nil ?_
                  refine sx_blk ?_
                  refine sx_then ?_
                  refine sc_region ?_
                  refine qs (y_move RF) ?_
                  refine qs (y_add RF RF (by omega)) ?_
                  refine qs (y_assign RF) ?_
                  refine sq_nil ?_
                  refine sx_round ((i + 1, v89, js ++ [jnOf l m (m + 1) 1])) ?_ ?_ SU SR
                  · exact ⟨by dsimp only; omega, ho89, by dsimp only; rw [range_fm, hyes, ← List.append_assoc, ← hjs], by dsimp only; rw [List.length_append]; simp only [List.length_cons, List.length_nil]; omega⟩
                  · dsimp only; omega
                ·
                  refine sc_skip ?_
                  refine sx_then ?_
                  refine sc_region ?_
                  refine qs (y_move RF) ?_
                  refine qs LD87 ?_
                  refine sq_bs Try.underlying71 ei87 (EvI.cons RF EvI.nil) (by first | (simp [Value.cells]; done) | (simp [Value.cells]; rfl) | (simp [Value.cells]; and_intros <;> rfl)) rfl rfl rfl (fun b88 => ?_)
                  refine sq_append (news := [.int .i64 ((lyD l m).1 : Int), .int .i64 ((ownS (lyD l m) 1 : Nat) : Int), .int .i64 ((lyD l (m + 1)).1 : Int), .int .i64 ((ownS (lyD l (m + 1)) 3 : Nat) : Int)]) Try.underlying71 ei87 rfl (by decide) RF RM RF rfl (fun _ hw => news_blk hw MM) (by simp [Value.oneCell']) (by omega) rfl (fun v89 ho89 => ?_)
                  rw [show js.flatMap jRow ++ [.int .i64 ((lyD l m).1 : Int), .int .i64 ((ownS (lyD l m) 1 : Nat) : Int), .int .i64 ((lyD l (m + 1)).1 : Int), .int .i64 ((ownS (lyD l (m + 1)) 3 : Nat) : Int)] = (js ++ [jnOf l m (m + 1) 1]).flatMap jRow from by rw [show jnOf l m (m + 1) 1 = ((lyD l m).1, ownS (lyD l m) 1, (lyD l (m + 1)).1, ownS (lyD l (m + 1)) 3) from if_neg (by omega)]; simp [jRow], show js.length + 1 = (js ++ [jnOf l m (m + 1) 1]).length from by simp]
                  refine qs (y_assign RF) ?_
                  refine sq_nil ?_
                  refine sx_blk ?_
                  refine sx_then ?_
                  refine sc_region ?_
                  refine qs (y_move RF) ?_
                  refine qs (y_add RF RF (by omega)) ?_
                  refine qs (y_assign RF) ?_
                  refine sq_nil ?_
                  refine sx_round ((i + 1, v89, js ++ [jnOf l m (m + 1) 1])) ?_ ?_ SU SR
                  · exact ⟨by dsimp only; omega, ho89, by dsimp only; rw [range_fm, hyes, ← List.append_assoc, ← hjs], by dsimp only; rw [List.length_append]; simp only [List.length_cons, List.length_nil]; omega⟩
                  · dsimp only; omega
              ·
                refine sq_alloc Try.zeroValue87 rfl (fun b10 => ?_)
                refine sq_nil ?_
                refine sx_xp SR ?_
                refine xj_one 23 RF (by kernel_rfl) ?_
                refine qy (yc Try.call52 E2 (fun w1 _ => Own52 w1 (lyD l (m + 1)) (hlx _ ho').2 3 (by decide))) ?_
                refine sq_nil ?_
                refine sx_xp SR ?_
                refine xj_s 24 RF (by kernel_rfl) SR (y_build (cells := #[.int .i64 ((lyD l m).1 : Int), .int .i64 ((ownS (lyD l m) 1 : Nat) : Int), .int .i64 ((lyD l (m + 1)).1 : Int), .int .i64 ((ownS (lyD l (m + 1)) 3 : Nat) : Int)]) bt87 (EvP.cons RF (EvP.cons RF (EvP.cons RF (EvP.cons RF EvP.nil)))) (by kernel_rfl)) rfl ?_
                refine xj_one 26 RF (by kernel_rfl) ?_
                refine sq_store_all (vs := [.int .i64 ((lyD l m).1 : Int), .int .i64 ((ownS (lyD l m) 1 : Nat) : Int), .int .i64 ((lyD l (m + 1)).1 : Int), .int .i64 ((ownS (lyD l (m + 1)) 3 : Nat) : Int)]) Try.sizeOf87 RF RF rfl RM rfl rfl ?_
                refine sq_nil ?_
                refine sx_xpl (by kernel_rfl) ?_
                refine xj_done (by kernel_rfl) ?_
                refine sx_then ?_
                refine sc_seq ?_
                refine sc_seq ?_
                refine sc_region ?_
                refine qs FA87_3 ?_
                refine qs LD3 ?_
                refine qs FA87_3 ?_
                refine qs LD3 ?_
                refine qs (y_gtr RF RF) ?_
                refine sq_nil ?_
                refine sx_then ?_
                refine scp (fun hc4 => ?_) (fun hc4 => ?_)
                ·
                  refine sc_region ?_
                  refine qs FA87_3 ?_
                  refine qs LD3 ?_
                  refine qs FA87_3 ?_
                  refine qs LD3 ?_
                  refine qs FA87_3 ?_
                  refine qs LD3 ?_
                  refine qs FA87_3 ?_
                  refine qs LD3 ?_
                  refine qs (y_build (cells := #[.int .i64 ((lyD l (m + 1)).1 : Int), .int .i64 ((ownS (lyD l (m + 1)) 3 : Nat) : Int), .int .i64 ((lyD l m).1 : Int), .int .i64 ((ownS (lyD l m) 1 : Nat) : Int)]) bt87 (EvP.cons RF (EvP.cons RF (EvP.cons RF (EvP.cons RF EvP.nil)))) (by kernel_rfl)) ?_
                  refine sq_store_all (vs := [.int .i64 ((lyD l (m + 1)).1 : Int), .int .i64 ((ownS (lyD l (m + 1)) 3 : Nat) : Int), .int .i64 ((lyD l m).1 : Int), .int .i64 ((ownS (lyD l m) 1 : Nat) : Int)]) Try.sizeOf87 RF RF rfl RM rfl rfl ?_
                  refine sq_nil ?_
                  refine sx_then ?_
                  refine sc_region ?_
                  refine qs (y_move RF) ?_
                  refine qs LD87 ?_
                  refine sq_bs Try.underlying71 ei87 (EvI.cons RF EvI.nil) (by first | (simp [Value.cells]; done) | (simp [Value.cells]; rfl) | (simp [Value.cells]; and_intros <;> rfl)) rfl rfl rfl (fun b88 => ?_)
                  refine sq_append (news := [.int .i64 ((lyD l (m + 1)).1 : Int), .int .i64 ((ownS (lyD l (m + 1)) 3 : Nat) : Int), .int .i64 ((lyD l m).1 : Int), .int .i64 ((ownS (lyD l m) 1 : Nat) : Int)]) Try.underlying71 ei87 rfl (by decide) RF RM RF rfl (fun _ hw => news_blk hw MM) (by simp [Value.oneCell']) (by omega) rfl (fun v89 ho89 => ?_)
                  rw [show js.flatMap jRow ++ [.int .i64 ((lyD l (m + 1)).1 : Int), .int .i64 ((ownS (lyD l (m + 1)) 3 : Nat) : Int), .int .i64 ((lyD l m).1 : Int), .int .i64 ((ownS (lyD l m) 1 : Nat) : Int)] = (js ++ [jnOf l m (m + 1) 1]).flatMap jRow from by rw [show jnOf l m (m + 1) 1 = ((lyD l (m + 1)).1, ownS (lyD l (m + 1)) 3, (lyD l m).1, ownS (lyD l m) 1) from if_pos (by omega)]; simp [jRow], show js.length + 1 = (js ++ [jnOf l m (m + 1) 1]).length from by simp]
                  refine qs (y_assign RF) ?_
                  refine sq_nil ?_
                  refine sx_blk ?_
                  refine sx_then ?_
                  refine sc_region ?_
                  refine qs (y_move RF) ?_
                  refine qs (y_add RF RF (by omega)) ?_
                  refine qs (y_assign RF) ?_
                  refine sq_nil ?_
                  refine sx_round ((i + 1, v89, js ++ [jnOf l m (m + 1) 1])) ?_ ?_ SU SR
                  · exact ⟨by dsimp only; omega, ho89, by dsimp only; rw [range_fm, hyes, ← List.append_assoc, ← hjs], by dsimp only; rw [List.length_append]; simp only [List.length_cons, List.length_nil]; omega⟩
                  · dsimp only; omega
                ·
                  refine sc_skip ?_
                  refine sx_then ?_
                  refine sc_region ?_
                  refine qs (y_move RF) ?_
                  refine qs LD87 ?_
                  refine sq_bs Try.underlying71 ei87 (EvI.cons RF EvI.nil) (by first | (simp [Value.cells]; done) | (simp [Value.cells]; rfl) | (simp [Value.cells]; and_intros <;> rfl)) rfl rfl rfl (fun b88 => ?_)
                  refine sq_append (news := [.int .i64 ((lyD l m).1 : Int), .int .i64 ((ownS (lyD l m) 1 : Nat) : Int), .int .i64 ((lyD l (m + 1)).1 : Int), .int .i64 ((ownS (lyD l (m + 1)) 3 : Nat) : Int)]) Try.underlying71 ei87 rfl (by decide) RF RM RF rfl (fun _ hw => news_blk hw MM) (by simp [Value.oneCell']) (by omega) rfl (fun v89 ho89 => ?_)
                  rw [show js.flatMap jRow ++ [.int .i64 ((lyD l m).1 : Int), .int .i64 ((ownS (lyD l m) 1 : Nat) : Int), .int .i64 ((lyD l (m + 1)).1 : Int), .int .i64 ((ownS (lyD l (m + 1)) 3 : Nat) : Int)] = (js ++ [jnOf l m (m + 1) 1]).flatMap jRow from by rw [show jnOf l m (m + 1) 1 = ((lyD l m).1, ownS (lyD l m) 1, (lyD l (m + 1)).1, ownS (lyD l (m + 1)) 3) from if_neg (by omega)]; simp [jRow], show js.length + 1 = (js ++ [jnOf l m (m + 1) 1]).length from by simp]
                  refine qs (y_assign RF) ?_
                  refine sq_nil ?_
                  refine sx_blk ?_
                  refine sx_then ?_
                  refine sc_region ?_
                  refine qs (y_move RF) ?_
                  refine qs (y_add RF RF (by omega)) ?_
                  refine qs (y_assign RF) ?_
                  refine sq_nil ?_
                  refine sx_round ((i + 1, v89, js ++ [jnOf l m (m + 1) 1])) ?_ ?_ SU SR
                  · exact ⟨by dsimp only; omega, ho89, by dsimp only; rw [range_fm, hyes, ← List.append_assoc, ← hjs], by dsimp only; rw [List.length_append]; simp only [List.length_cons, List.length_nil]; omega⟩
                  · dsimp only; omega
            ·
              refine sq_alloc Try.zeroValue87 rfl (fun b10 => ?_)
              refine sq_nil ?_
              refine sx_xp SR ?_
              refine xj_one 10 RF (by kernel_rfl) ?_
              refine qy (yc Try.call52 E2 (fun w1 _ => Own52 w1 (lyD l m) (hlx m hm').2 1 (by decide))) ?_
              refine sq_nil ?_
              refine sx_xp SR ?_
              refine xj_one 23 RF (by kernel_rfl) ?_
              refine qy (yc Try.call52 E2 (fun w1 _ => Own52 w1 (lyD l (m + 1)) (hlx _ ho').2 3 (by decide))) ?_
              refine sq_nil ?_
              refine sx_xp SR ?_
              refine xj_s 24 RF (by kernel_rfl) SR (y_build (cells := #[.int .i64 ((lyD l m).1 : Int), .int .i64 ((ownS (lyD l m) 1 : Nat) : Int), .int .i64 ((lyD l (m + 1)).1 : Int), .int .i64 ((ownS (lyD l (m + 1)) 3 : Nat) : Int)]) bt87 (EvP.cons RF (EvP.cons RF (EvP.cons RF (EvP.cons RF EvP.nil)))) (by kernel_rfl)) rfl ?_
              refine xj_one 26 RF (by kernel_rfl) ?_
              refine sq_store_all (vs := [.int .i64 ((lyD l m).1 : Int), .int .i64 ((ownS (lyD l m) 1 : Nat) : Int), .int .i64 ((lyD l (m + 1)).1 : Int), .int .i64 ((ownS (lyD l (m + 1)) 3 : Nat) : Int)]) Try.sizeOf87 RF RF rfl RM rfl rfl ?_
              refine sq_nil ?_
              refine sx_xpl (by kernel_rfl) ?_
              refine xj_done (by kernel_rfl) ?_
              refine sx_then ?_
              refine sc_seq ?_
              refine sc_seq ?_
              refine sc_region ?_
              refine qs FA87_3 ?_
              refine qs LD3 ?_
              refine qs FA87_3 ?_
              refine qs LD3 ?_
              refine qs (y_gtr RF RF) ?_
              refine sq_nil ?_
              refine sx_then ?_
              refine scp (fun hc4 => ?_) (fun hc4 => ?_)
              ·
                refine sc_region ?_
                refine qs FA87_3 ?_
                refine qs LD3 ?_
                refine qs FA87_3 ?_
                refine qs LD3 ?_
                refine qs FA87_3 ?_
                refine qs LD3 ?_
                refine qs FA87_3 ?_
                refine qs LD3 ?_
                refine qs (y_build (cells := #[.int .i64 ((lyD l (m + 1)).1 : Int), .int .i64 ((ownS (lyD l (m + 1)) 3 : Nat) : Int), .int .i64 ((lyD l m).1 : Int), .int .i64 ((ownS (lyD l m) 1 : Nat) : Int)]) bt87 (EvP.cons RF (EvP.cons RF (EvP.cons RF (EvP.cons RF EvP.nil)))) (by kernel_rfl)) ?_
                refine sq_store_all (vs := [.int .i64 ((lyD l (m + 1)).1 : Int), .int .i64 ((ownS (lyD l (m + 1)) 3 : Nat) : Int), .int .i64 ((lyD l m).1 : Int), .int .i64 ((ownS (lyD l m) 1 : Nat) : Int)]) Try.sizeOf87 RF RF rfl RM rfl rfl ?_
                refine sq_nil ?_
                refine sx_then ?_
                refine sc_region ?_
                refine qs (y_move RF) ?_
                refine qs LD87 ?_
                refine sq_bs Try.underlying71 ei87 (EvI.cons RF EvI.nil) (by first | (simp [Value.cells]; done) | (simp [Value.cells]; rfl) | (simp [Value.cells]; and_intros <;> rfl)) rfl rfl rfl (fun b88 => ?_)
                refine sq_append (news := [.int .i64 ((lyD l (m + 1)).1 : Int), .int .i64 ((ownS (lyD l (m + 1)) 3 : Nat) : Int), .int .i64 ((lyD l m).1 : Int), .int .i64 ((ownS (lyD l m) 1 : Nat) : Int)]) Try.underlying71 ei87 rfl (by decide) RF RM RF rfl (fun _ hw => news_blk hw MM) (by simp [Value.oneCell']) (by omega) rfl (fun v89 ho89 => ?_)
                rw [show js.flatMap jRow ++ [.int .i64 ((lyD l (m + 1)).1 : Int), .int .i64 ((ownS (lyD l (m + 1)) 3 : Nat) : Int), .int .i64 ((lyD l m).1 : Int), .int .i64 ((ownS (lyD l m) 1 : Nat) : Int)] = (js ++ [jnOf l m (m + 1) 1]).flatMap jRow from by rw [show jnOf l m (m + 1) 1 = ((lyD l (m + 1)).1, ownS (lyD l (m + 1)) 3, (lyD l m).1, ownS (lyD l m) 1) from if_pos (by omega)]; simp [jRow], show js.length + 1 = (js ++ [jnOf l m (m + 1) 1]).length from by simp]
                refine qs (y_assign RF) ?_
                refine sq_nil ?_
                refine sx_blk ?_
                refine sx_then ?_
                refine sc_region ?_
                refine qs (y_move RF) ?_
                refine qs (y_add RF RF (by omega)) ?_
                refine qs (y_assign RF) ?_
                refine sq_nil ?_
                refine sx_round ((i + 1, v89, js ++ [jnOf l m (m + 1) 1])) ?_ ?_ SU SR
                · exact ⟨by dsimp only; omega, ho89, by dsimp only; rw [range_fm, hyes, ← List.append_assoc, ← hjs], by dsimp only; rw [List.length_append]; simp only [List.length_cons, List.length_nil]; omega⟩
                · dsimp only; omega
              ·
                refine sc_skip ?_
                refine sx_then ?_
                refine sc_region ?_
                refine qs (y_move RF) ?_
                refine qs LD87 ?_
                refine sq_bs Try.underlying71 ei87 (EvI.cons RF EvI.nil) (by first | (simp [Value.cells]; done) | (simp [Value.cells]; rfl) | (simp [Value.cells]; and_intros <;> rfl)) rfl rfl rfl (fun b88 => ?_)
                refine sq_append (news := [.int .i64 ((lyD l m).1 : Int), .int .i64 ((ownS (lyD l m) 1 : Nat) : Int), .int .i64 ((lyD l (m + 1)).1 : Int), .int .i64 ((ownS (lyD l (m + 1)) 3 : Nat) : Int)]) Try.underlying71 ei87 rfl (by decide) RF RM RF rfl (fun _ hw => news_blk hw MM) (by simp [Value.oneCell']) (by omega) rfl (fun v89 ho89 => ?_)
                rw [show js.flatMap jRow ++ [.int .i64 ((lyD l m).1 : Int), .int .i64 ((ownS (lyD l m) 1 : Nat) : Int), .int .i64 ((lyD l (m + 1)).1 : Int), .int .i64 ((ownS (lyD l (m + 1)) 3 : Nat) : Int)] = (js ++ [jnOf l m (m + 1) 1]).flatMap jRow from by rw [show jnOf l m (m + 1) 1 = ((lyD l m).1, ownS (lyD l m) 1, (lyD l (m + 1)).1, ownS (lyD l (m + 1)) 3) from if_neg (by omega)]; simp [jRow], show js.length + 1 = (js ++ [jnOf l m (m + 1) 1]).length from by simp]
                refine qs (y_assign RF) ?_
                refine sq_nil ?_
                refine sx_blk ?_
                refine sx_then ?_
                refine sc_region ?_
                refine qs (y_move RF) ?_
                refine qs (y_add RF RF (by omega)) ?_
                refine qs (y_assign RF) ?_
                refine sq_nil ?_
                refine sx_round ((i + 1, v89, js ++ [jnOf l m (m + 1) 1])) ?_ ?_ SU SR
                · exact ⟨by dsimp only; omega, ho89, by dsimp only; rw [range_fm, hyes, ← List.append_assoc, ← hjs], by dsimp only; rw [List.length_append]; simp only [List.length_cons, List.length_nil]; omega⟩
                · dsimp only; omega
    ·
      refine sc_exit ?_
      refine sx_then_exit ?_
      refine sx_round_exit ?_
      refine sx_blk_hit ?_
      refine sx_blk ?_
      refine sx_then ?_
      refine sc_region ?_
      refine qs (y_move RF) ?_
      refine qs (y_add RF RF (by omega)) ?_
      refine qs (y_assign RF) ?_
      refine sq_nil ?_
      refine sx_round ((m + 1, v, js)) ?_ ?_ SU SR
      · have hi2 : i = 2 := by omega
        subst hi2
        exact ⟨by dsimp only; omega, hv1, by dsimp only; rw [range_fm]; exact hjs, by dsimp only; omega⟩
      · dsimp only; omega
  ·
    refine sc_exit ?_
    refine sx_then_exit ?_
    refine sx_round_exit ?_
    refine sx_blk_hit ?_
    refine sx_then ?_
    refine sc_seq ?_
    refine sc_region ?_
    refine qs (y_move RF) ?_
    refine qs (y_assign RF) ?_
    refine sq_nil ?_
    refine sx_then ?_
    refine sc_ret ?_
    refine sx_ret1 (.inl rfl) rfl Try.results18 RF ?_
    intro w' hw'
    have hmn : m = l.length := by omega
    subst hmn
    have hjs : js = metL z l := hjs
    rw [← hjs]
    exact ⟨v, rfl, hw'.below MM, hv1, own_new_mem hw' (v := v) (xs := js.flatMap jRow) MM MM⟩
end Go.Proofs.Ytfceajkofpafpaa
