/- The walks of the document's example: a strip of four pieces. -/
import Derived.Test.YtfceajkofpafpaaFW10
import Derived.Test.YtfceajkofpafpaaFW11
import Derived.Test.YtfceajkofpafpaaLawT
namespace Go.Proofs.Ytfceajkofpafpaa
open Go Go.Eng Go.RowKit Go.Proofs
open Go.Proofs.Ytfceajkofpafpaa.Sc (iRow spRow sp0 Sp spB plusV getD_of get_of_lt any_range_get all_not_any all_getD)
set_option maxRecDepth 100000
def tabE (lo hi : Int) : Eg := ⟨1, ⟨1000, 1000⟩, ⟨lo, hi⟩, ⟨400, 400⟩⟩
def holeE : Eg := ⟨2, ⟨1000, 1000⟩, ⟨515, 515⟩, ⟨410, 410⟩⟩
def pcE (r l : Eg) : Pc := ⟨eg0, r, eg0, l⟩
def z03 : Pz := ⟨⟨2000, 20, 30, ⟨0, 10⟩⟩, 4, 1, false, [pcE (tabE 500 500) eg0, pcE (tabE 500 500) holeE, pcE (tabE 480 490) holeE, pcE eg0 holeE]⟩
def l03 : List Ly := [(0, 0), (2, 0), (1, 0), (3, 0)]
theorem sol03 : solL z03 = [[(0, 0), (1, 0), (2, 0), (3, 0)], l03] := by decide +kernel
theorem pz03 : PzF z03 := pz_of (by decide +kernel)
theorem many03 : manyS z03 = 2 := by unfold manyS; rw [sol03]; rfl
theorem err03 : errS z03 = 0 := by unfold errS; rw [sol03]; rfl
theorem ok03 : SolOk z03 l03 := sol_ok (by rw [sol03]; exact .tail _ (.head _))
def c03 : Ct := ⟨4, 1, [0, 2, 1, 3]⟩
theorem c03_eq : cutT z03 l03 = c03 := rfl
theorem lists_eq {a b : List Ly} (hl : a.length = b.length) (h : ∀ j, j < a.length → lyD a j = lyD b j) : a = b := by
  apply List.ext_getElem hl
  intro i h1 h2
  have := h i h1
  rwa [show lyD a i = a[i] from getD_of (List.getElem?_eq_getElem h1), show lyD b i = b[i] from getD_of (List.getElem?_eq_getElem h2)] at this
theorem rows_new {α : Type} {row : α → List Value} {sz lo b : Nat} {w : World} {l : List α} (h : RowsA row sz 0 w (some ⟨b, 0, none⟩) l) (hb : lo ≤ b) : RowsA row sz lo w (some ⟨b, 0, none⟩) l :=
  ⟨fun i s hi => ⟨(h.el i s hi).1, ⟨by unfold elt; rw [Addr.add_block]; exact hb, (h.el i s hi).2.2⟩⟩, h.len⟩
/-- Solve's answer, to be read -/
theorem Solve16r (w : World) (z : Pz) (hF : PzF z) (a : Option Addr) (c : Nat) (hp : RowsA pcRow 28 0 w a z.pieces) : Calls Try.prog 16 #[.agg (pzRow z a c).toArray] w fun e w' => ∃ q : (Option Addr × Nat) × (Option Addr × Nat), e = .returned (.tuple #[.slice q.1.1 ((solL z).getD 0 []).length q.1.2, .slice q.2.1 ((solL z).getD 1 []).length q.2.2, .int .i64 (manyS z), .int .i64 (errS z)]) ∧ Below w.heap.size w w' ∧ (RowsA lyRow 2 w.heap.size w' q.1.1 ((solL z).getD 0 []) ∧ ((solL z).getD 0 []).length ≤ q.1.2) ∧ (RowsA lyRow 2 w.heap.size w' q.2.1 ((solL z).getD 1 []) ∧ ((solL z).getD 1 []).length ≤ q.2.2) :=
  (Solve16 w z hF a c hp).mono fun e w' ⟨q, h1, h2, h3, h4⟩ => by
    have hle : ∀ i, ((solL z).getD i []).length ≤ 9223372036854775807 := fun i => by
      rw [List.getD_eq_getElem?_getD]
      cases hg : (solL z)[i]? with
      | none => exact Nat.zero_le _
      | some h =>
        have := (sol_ok (List.mem_of_getElem? hg)).len
        have := hF.n
        show h.length ≤ _
        omega
    obtain ⟨a1, c1, e1, n1, r1⟩ := own_rowsA (row := lyRow) lyRow_len h3 rfl (hle 0)
    obtain ⟨a2, c2, e2, n2, r2⟩ := own_rowsA (row := lyRow) lyRow_len h4 rfl (hle 1)
    exact ⟨((a1, c1), (a2, c2)), by rw [h1, e1, e2], h2, ⟨r1, n1⟩, ⟨r2, n2⟩⟩
theorem eql70 (a b c d : Int) : ∀ w, (binOp .eql 70 (.agg #[.int .i64 a, .int .i64 b]) (.agg #[.int .i64 c, .int .i64 d])).run Try.prog w = .ok (.bool (decide (a = c ∧ b = d))) w := fun w => by
  have h1 := Try.underlying70
  have h2 := Try.underlying3
  have h3 : Try.prog.stoodInHeld 70 = false := by kernel_rfl
  have hf : Try.prog.fieldsOf 70 = #[⟨"Piece", 3, 0, false, "", "", 0⟩, ⟨"Turn", 3, 1, false, "", "", 8⟩] := by kernel_rfl
  have h4 : Try.prog.underlying 70 = some (.struct (Try.prog.fieldsOf 70)) := by rw [hf]; exact h1
  rw [run_eql_struct, run_equalIn_struct w 9999 70 _ _ h4 h3, hf]
  by_cases e1 : a = c <;> by_cases e2 : b = d <;> simp [Op.eqFields, part, run_isAgg_scal h2 rfl, run_equalIn_int w _ 3 .i64 .i64 _ _ h2, e1, e2]
theorem neq70 (a b c d : Int) : ∀ w, (binOp .neq 70 (.agg #[.int .i64 a, .int .i64 b]) (.agg #[.int .i64 c, .int .i64 d])).run Try.prog w = .ok (.bool (!decide (a = c ∧ b = d))) w := fun w => by
  have h := eql70 a b c d w
  rw [run_eql_struct] at h
  rw [run_neq_struct]
  cases hr : (Op.equalIn 10000 70 (.agg #[.int .i64 a, .int .i64 b]) (.agg #[.int .i64 c, .int .i64 d])).run Try.prog w with
  | ok x w1 => rw [hr] at h; simp at h; obtain ⟨h5, h6⟩ := h; subst h6; simp [h5]
  | halt x w1 => rw [hr] at h; simp at h
theorem bt62 : BT Try.prog 62 [(0, 5), (5, 1), (6, 1), (7, 1), (8, 1)] (.agg #[.int .i64 0, .int .i64 0, .int .i64 0, .int .i64 0, .int .i64 0, .int .i64 0, .int .i64 0, .bool false, .slice none 0 0]) := BT.of Try.underlying62 (by kernel_rfl) (by kernel_rfl)
theorem bt84 : BT Try.prog 84 [(0, 28)] (.agg #[.int .i64 0, .int .i64 0, .int .i64 0, .int .i64 0, .int .i64 0, .int .i64 0, .int .i64 0, .int .i64 0, .int .i64 0, .int .i64 0, .int .i64 0, .int .i64 0, .int .i64 0, .int .i64 0, .int .i64 0, .int .i64 0, .int .i64 0, .int .i64 0, .int .i64 0, .int .i64 0, .int .i64 0, .int .i64 0, .int .i64 0, .int .i64 0, .int .i64 0, .int .i64 0, .int .i64 0, .int .i64 0]) := BT.of Try.underlying84 (by kernel_rfl) (by kernel_rfl)
theorem ei84 : EI Try.prog 84 (.agg #[.int .i64 0, .int .i64 0, .int .i64 0, .int .i64 0, .int .i64 0, .int .i64 0, .int .i64 0, .int .i64 0, .int .i64 0, .int .i64 0, .int .i64 0, .int .i64 0, .int .i64 0, .int .i64 0, .int .i64 0, .int .i64 0, .int .i64 0, .int .i64 0, .int .i64 0, .int .i64 0, .int .i64 0, .int .i64 0, .int .i64 0, .int .i64 0, .int .i64 0, .int .i64 0, .int .i64 0, .int .i64 0]) 28 224 := by unfold EI; kernel_rfl
theorem Lays46 (w : World) (a1 : Option Addr) (c1 : Nat) (l1 : List Ly) (h1 : RowsA lyRow 2 0 w a1 l1) (a2 : Option Addr) (c2 : Nat) (l2 : List Ly) (h2 : RowsA lyRow 2 0 w a2 l2) : Calls Try.prog 46 #[.slice a1 l1.length c1, .slice a2 l2.length c2] w fun e w' => e = .returned (.bool (decide (l1 = l2))) ∧ Below w.heap.size w w' := by
  have hl1 := h1.len
  have hl2 := h2.len
  refine calls_of_SC (args := [.slice a1 l1.length c1, .slice a2 l2.length c2]) Try.func46 rfl Try.ntmps46 rfl ?_
  simp only [argL, Nat.zero_add]
  refine sc_seq ?_
  refine sc_region ?_
  refine qs (y_assign RF) ?_
  refine sq_nil ?_
  refine sx_then ?_
  refine sc_seq ?_
  refine sc_seq ?_
  refine sc_region ?_
  refine qs (y_move RF) ?_
  refine qs (y_len Try.underlying64 RF) ?_
  refine qs (y_move RF) ?_
  refine qs (y_len Try.underlying64 RF) ?_
  refine qs (y_neq RF RF) ?_
  refine sq_nil ?_
  refine sx_then ?_
  refine scp (fun hc0 => ?_) (fun hc0 => ?_)
  ·
    refine sc_seq ?_
    refine sc_region ?_
    refine qs (y_assign RF) ?_
    refine sq_nil ?_
    refine sx_then ?_
    refine sc_ret ?_
    refine sx_then_ret ?_
    refine sx_ret1 (.inl rfl) rfl Try.results46 RF ?_
    intro w' hw'
    exact ⟨by rw [decide_eq_false (fun e => hc0 (by rw [e]))], hw'.below MM⟩
  ·
    have hll : l1.length = l2.length := by omega
    refine sc_skip ?_
    refine sx_then ?_
    refine sc_seq ?_
    refine sc_seq ?_
    refine sc_region ?_
    refine qs (y_assign RF) ?_
    refine sq_nil ?_
    refine sx_then ?_
    refine sc_block ?_
    refine sc_loop (σ := Nat)
      (fun s => [(0, .slice a1 l1.length c1), (1, .slice a2 l2.length c2), (5, .int .i64 s)])
      (fun s => [.reg 0 w])
      (fun s => s ≤ l1.length ∧ ∀ j, j < s → lyD l1 j = lyD l2 j)
      (fun s => l1.length - s)
      (0) ?_ SU SR ?_
    · exact ⟨Nat.zero_le _, fun j hj => absurd hj (Nat.not_lt_zero j)⟩
    rintro i ⟨hi, hno⟩
    refine sc_seq ?_
    refine sc_seq ?_
    refine sc_region ?_
    refine qs (y_move RF) ?_
    refine qs (y_move RF) ?_
    refine qs (y_len Try.underlying64 RF) ?_
    refine qs (y_lss RF RF) ?_
    refine sq_nil ?_
    refine sx_then ?_
    refine scp (fun hc1 => ?_) (fun hc1 => ?_)
    ·
      have hi1 : i < l1.length := by omega
      have hi2 : i < l2.length := by omega
      have hs1 := (h1.get (0, 0) hi1).1
      have hs2 := (h2.get (0, 0) hi2).1
      have hc1' : CA 0 w (elt a1 i 2) (lyRow (lyD l1 i)) := (h1.get (0, 0) hi1).2
      have hc2' : CA 0 w (elt a2 i 2) (lyRow (lyD l2 i)) := (h2.get (0, 0) hi2).2
      refine sc_skip ?_
      refine sx_then ?_
      refine sc_seq ?_
      refine sc_block ?_
      refine sc_seq ?_
      refine sc_draw rfl (by kernel_rfl) (by kernel_rfl) ?_
      refine qq_y (OpY.s (y_move RF)) rfl ?_
      refine qq_y (OpY.s (y_move RF)) rfl ?_
      refine qq_y (OpY.s (y_ia_el (i := i) Try.underlying64 Try.sizeOf70 RF RF hi1 hs1)) rfl ?_
      refine qq_y (OpY.s (by first | exact y_load_ca Try.underlying70 rfl Try.sizeOf70 RF MM hc1' rfl | exact LD70)) rfl ?_
      refine qq_y (OpY.s (y_move RF)) rfl ?_
      refine qq_y (OpY.s (y_move RF)) rfl ?_
      refine qq_y (OpY.s (y_ia_el (i := i) Try.underlying64 Try.sizeOf70 RF RF hi2 hs2)) rfl ?_
      refine qq_y (OpY.s (by first | exact y_load_ca Try.underlying70 rfl Try.sizeOf70 RF MM hc2' rfl | exact LD70)) rfl ?_
      refine qq_y (OpY.s (y_neqs (by kernel_rfl) RF RF (neq70 _ _ _ _))) rfl ?_
      refine qq_nil ?_
      refine sx_then ?_
      refine scp (fun hc2 => ?_) (fun hc2 => ?_)
      ·
        refine sc_seq ?_
        refine sc_region ?_
        refine qs (y_assign RF) ?_
        refine sq_nil ?_
        refine sx_then ?_
        refine sc_ret ?_
        refine sx_blk_ret ?_
        refine sx_then_ret ?_
        refine sx_round_ret ?_
        refine sx_blk_ret ?_
        refine sx_then_ret ?_
        refine sx_ret1 (.inl rfl) rfl Try.results46 RF ?_
        intro w' hw'
        exact ⟨by rw [decide_eq_false (fun e => hc2 (by rw [e]; exact ⟨rfl, rfl⟩))], hw'.below MM⟩
      ·
        refine sc_skip ?_
        refine sx_blk ?_
        refine sx_then ?_
        refine sc_region ?_
        refine qs (y_move RF) ?_
        refine qs (y_add RF RF (by omega)) ?_
        refine qs (y_assign RF) ?_
        refine sq_nil ?_
        refine sx_round (i + 1) ?_ ?_ SU SR
        · refine ⟨by omega, fun j hj => ?_⟩
          rcases Nat.lt_succ_iff_lt_or_eq.1 hj with h9 | rfl
          · exact hno j h9
          · exact Prod.ext (by omega) (by omega)
        · omega
    ·
      refine sc_exit ?_
      refine sx_then_exit ?_
      refine sx_round_exit ?_
      refine sx_blk_hit ?_
      refine sx_then ?_
      refine sc_seq ?_
      refine sc_region ?_
      refine qs (y_assign RF) ?_
      refine sq_nil ?_
      refine sx_then ?_
      refine sc_ret ?_
      refine sx_ret1 (.inl rfl) rfl Try.results46 RF ?_
      intro w' hw'
      exact ⟨by rw [decide_eq_true (lists_eq hll (fun j hj => hno j (by omega)))], hw'.below MM⟩
theorem span78 (w : World) (lo hi : Int) : Calls Try.prog 78 #[.int .i64 lo, .int .i64 hi] w fun e w' => e = .returned (.agg #[.int .i64 lo, .int .i64 hi]) ∧ Below w.heap.size w w' := by
  refine calls_of_SC (args := [.int .i64 lo, .int .i64 hi]) Try.func78 rfl Try.ntmps78 rfl ?_
  simp only [argL, Nat.zero_add]
  refine sc_seq ?_
  refine sc_region ?_
  refine sq_alloc Try.zeroValue38 rfl (fun b4 => ?_)
  refine sq_nil ?_
  refine sx_then ?_
  refine sc_seq ?_
  refine sc_region ?_
  refine qs (y_move RF) ?_
  refine qs (y_move RF) ?_
  refine qs (y_build bt38 (EvP.cons RF (EvP.cons RF EvP.nil)) RF) ?_
  refine sq_store_all (vs := [.int .i64 lo, .int .i64 hi]) Try.sizeOf38 RF RF rfl RM rfl rfl ?_
  refine sq_nil ?_
  refine sx_then ?_
  refine sc_ret ?_
  refine sx_retc (vs := [.int .i64 lo, .int .i64 hi]) (.inl rfl) rfl Try.results78 Try.underlying38 rfl Try.sizeOf38 RF MM rfl ?_
  intro w' hw'
  exact ⟨rfl, hw'.below MM⟩
theorem tab79 (w : World) (lo hi : Int) (p : Addr) (hp : CA 0 w p [.func (.func 78) #[] #[]]) : Calls Try.prog 79 #[.int .i64 lo, .int .i64 hi, .pointer (some p)] w fun e w' => e = .returned (.agg (egRow (tabE lo hi)).toArray) ∧ Below w.heap.size w w' := by
  refine calls_of_SC (args := [.int .i64 lo, .int .i64 hi, .pointer (some p)]) Try.func79 rfl Try.ntmps79 rfl ?_
  simp only [argL, Nat.reduceAdd, Nat.zero_add]
  refine sc_seq ?_
  refine sc_region ?_
  refine sq_alloc Try.zeroValue81 rfl (fun b5 => ?_)
  refine sq_nil ?_
  refine sx_then ?_
  refine sc_seq ?_
  refine sc_drawX ([.reg 0 w]) (by kernel_rfl) ?_
  refine xj_s 0 RF (by kernel_rfl) SR LD169 rfl ?_
  refine xj_s 2 RF (by kernel_rfl) SR LD169 rfl ?_
  refine xj_s 3 RF (by kernel_rfl) SR (y_move RF) rfl ?_
  refine xj_s 4 RF (by kernel_rfl) SR (y_move RF) rfl ?_
  refine xj_s 6 RF (by kernel_rfl) SR LD169 rfl ?_
  refine xj_one 1 RF (by kernel_rfl) ?_
  refine qy (y_call (first := []) (caps := []) (by exact rfl) Try.call78 E2 (fun w1 _ => span78 w1 1000 1000)) ?_
  refine sq_nil ?_
  refine sx_xp SR ?_
  refine xj_one 5 RF (by kernel_rfl) ?_
  refine qy (y_call (first := []) (caps := []) (by exact rfl) Try.call78 E2 (fun w1 _ => span78 w1 lo hi)) ?_
  refine sq_nil ?_
  refine sx_xp SR ?_
  refine xj_one 7 RF (by kernel_rfl) ?_
  refine qy (y_call (first := []) (caps := []) (by exact rfl) Try.call78 E2 (fun w1 _ => span78 w1 400 400)) ?_
  refine sq_nil ?_
  refine sx_xp SR ?_
  refine xj_s 8 RF (by kernel_rfl) SR (y_build (cells := (egRow (tabE lo hi)).toArray) bt81 (EvP.cons RF (EvP.cons RF (EvP.cons RF (EvP.cons RF EvP.nil)))) (by kernel_rfl)) rfl ?_
  refine xj_one 9 RF (by kernel_rfl) ?_
  refine sq_store_all (vs := egRow (tabE lo hi)) Try.sizeOf81 RF RF rfl RM rfl rfl ?_
  refine sq_nil ?_
  refine sx_xpl (by kernel_rfl) ?_
  refine xj_done (by kernel_rfl) ?_
  refine sx_then ?_
  refine sc_ret ?_
  refine sx_retc (.inl rfl) rfl Try.results79 Try.underlying81 rfl Try.sizeOf81 RF MM rfl ?_
  intro w' hw'
  exact ⟨rfl, hw'.below MM⟩
theorem piece80 (w : World) (r l : Eg) : Calls Try.prog 80 #[.agg (egRow r).toArray, .agg (egRow l).toArray] w fun e w' => e = .returned (.agg (pcRow (pcE r l)).toArray) ∧ Below w.heap.size w w' := by
  refine calls_of_SC (args := [.agg (egRow r).toArray, .agg (egRow l).toArray]) Try.func80 rfl Try.ntmps80 rfl ?_
  simp only [argL, Nat.zero_add]
  refine sc_seq ?_
  refine sc_region ?_
  refine sq_box RF rfl (fun b2 => ?_)
  refine sq_box RF rfl (fun b3 => ?_)
  refine sq_alloc Try.zeroValue84 rfl (fun b4 => ?_)
  refine sq_nil ?_
  refine sx_then ?_
  refine sc_seq ?_
  refine sc_region ?_
  refine qs LD81 ?_
  refine qs LD81 ?_
  refine qs (y_build_arr (cells := (pcRow (pcE r l)).toArray) Try.underlying82 Try.zeroValue82 Try.sizeOf81 (EvP.cons RF (EvP.cons RF EvP.nil)) (by kernel_rfl)) ?_
  refine qs (y_build (cells := (pcRow (pcE r l)).toArray) bt84 (EvP.cons RF EvP.nil) (by kernel_rfl)) ?_
  refine sq_store_all (vs := pcRow (pcE r l)) Try.sizeOf84 RF RF rfl RM rfl rfl ?_
  refine sq_nil ?_
  refine sx_then ?_
  refine sc_ret ?_
  refine sx_retc (.inl rfl) rfl Try.results80 Try.underlying84 rfl Try.sizeOf84 RF MM rfl ?_
  intro w' hw'
  exact ⟨rfl, hw'.below MM⟩
theorem strip45 (w : World) : Calls Try.prog 45 #[] w fun e w' => ∃ b, e = .returned (.agg (pzRow z03 (some ⟨b, 0, none⟩) 4).toArray) ∧ Below w.heap.size w w' ∧ RowsA pcRow 28 w.heap.size w' (some ⟨b, 0, none⟩) z03.pieces := by
  refine calls_of_SC (args := []) Try.func45 rfl Try.ntmps45 rfl ?_
  simp only [argL]
  refine sc_seq ?_
  refine sc_region ?_
  refine sq_alloc Try.zeroValue62 rfl (fun b0 => ?_)
  refine sq_nil ?_
  refine sx_then ?_
  refine sc_seq ?_
  refine sc_region ?_
  refine sq_alloc Try.zeroValue169 rfl (fun b1 => ?_)
  refine sq_store_to (cs' := #[.func (.func 78) #[] #[]]) Try.sizeOf169 RF RF rfl RM (Nat.le_of_ble_eq_true rfl) rfl ?_
  refine sq_nil ?_
  refine sx_then ?_
  refine sc_seq ?_
  refine sc_region ?_
  refine qs (y_makeFunc EvL.nil (EvL.cons RF EvL.nil)) ?_
  refine qs (y_assign RF) ?_
  refine sq_nil ?_
  refine sx_then ?_
  refine sc_seq ?_
  refine sc_drawX ([.blk b1 (.cells #[.func (.func 78) #[] #[]] 169 (0, 0)), .reg 0 w]) (by kernel_rfl) ?_
  refine xj_s 0 RF (by kernel_rfl) SR LD169 rfl ?_
  refine xj_s 2 RF (by kernel_rfl) SR LD169 rfl ?_
  refine xj_s 4 RF (by kernel_rfl) SR LD169 rfl ?_
  refine xj_all (l := [1, 7]) (by kernel_rfl) (by simp) (Each.cons ⟨_, rfl, ?_⟩ (Each.cons ⟨_, rfl, ?_⟩ Each.nil))
  ·
    refine qy (y_call (first := []) (caps := []) (by exact rfl) Try.call78 E2 (fun w1 _ => span78 w1 1000 1000)) ?_
    refine sq_nil ?_
    refine sx_xp SR ?_
    refine xj_all (l := [3, 7]) (by kernel_rfl) (by simp) (Each.cons ⟨_, rfl, ?_⟩ (Each.cons ⟨_, rfl, ?_⟩ Each.nil))
    ·
      refine qy (y_call (first := []) (caps := []) (by exact rfl) Try.call78 E2 (fun w1 _ => span78 w1 515 515)) ?_
      refine sq_nil ?_
      refine sx_xp SR ?_
      refine xj_all (l := [5, 7]) (by kernel_rfl) (by simp) (Each.cons ⟨_, rfl, ?_⟩ (Each.cons ⟨_, rfl, ?_⟩ Each.nil))
      ·
        refine qy (y_call (first := []) (caps := []) (by exact rfl) Try.call78 E2 (fun w1 _ => span78 w1 410 410)) ?_
        refine sq_nil ?_
        refine sx_xp SR ?_
        refine xj_s 6 RF (by kernel_rfl) SR (y_build (cells := (egRow holeE).toArray) bt81 (EvP.cons RF (EvP.cons RF (EvP.cons RF (EvP.cons RF EvP.nil)))) (by kernel_rfl)) rfl ?_
        refine xj_one 7 RF (by kernel_rfl) ?_
        refine sq_alloc Try.zeroValue81 rfl (fun b3 => ?_)
        refine sq_nil ?_
        refine sx_xp SR ?_
        refine xj_one 8 RF (by kernel_rfl) ?_
        refine sq_store_all (vs := egRow holeE) Try.sizeOf81 RF RF rfl RM rfl rfl ?_
        refine sq_nil ?_
        refine sx_xpl (by kernel_rfl) ?_
        refine xj_done (by kernel_rfl) ?_
        refine sx_then ?_
        refine sc_seq ?_
        refine sc_region ?_
        refine qs (y_assign RF) ?_
        refine sq_nil ?_
        refine sx_then ?_
        refine sc_seq ?_
        refine sc_drawX ([.blk b1 (.cells #[.func (.func 78) #[] #[]] 169 (0, 0)), .blk b3 (.cells (egRow holeE).toArray 81 (0, 0)), .reg 0 w]) (by kernel_rfl) ?_
        refine xj_s 0 RF (by kernel_rfl) SR LD169 rfl ?_
        refine xj_s 3 RF (by kernel_rfl) SR (y_move RF) rfl ?_
        refine xj_s 4 RF (by kernel_rfl) SR (y_move RF) rfl ?_
        refine xj_s 6 RF (by kernel_rfl) SR (y_build (cells := (egRow eg0).toArray) bt81 EvP.nil (by kernel_rfl)) rfl ?_
        refine xj_s 8 RF (by kernel_rfl) SR (y_move RF) rfl ?_
        refine xj_s 9 RF (by kernel_rfl) SR (y_move RF) rfl ?_
        refine xj_s 11 RF (by kernel_rfl) SR LD81 rfl ?_
        refine xj_s 13 RF (by kernel_rfl) SR (y_move RF) rfl ?_
        refine xj_s 14 RF (by kernel_rfl) SR (y_move RF) rfl ?_
        refine xj_s 16 RF (by kernel_rfl) SR LD81 rfl ?_
        refine xj_s 18 RF (by kernel_rfl) SR (y_move RF) rfl ?_
        refine xj_s 19 RF (by kernel_rfl) SR (y_build (cells := (egRow eg0).toArray) bt81 EvP.nil (by kernel_rfl)) rfl ?_
        refine xj_s 20 RF (by kernel_rfl) SR LD81 rfl ?_
        refine xj_one 1 RF (by kernel_rfl) ?_
        refine qy (y_call (first := []) (caps := []) (by exact rfl) Try.call78 E2 (fun w1 _ => span78 w1 0 10)) ?_
        refine sq_nil ?_
        refine sx_xp SR ?_
        refine xj_s 2 RF (by kernel_rfl) SR (y_build (cells := (plRow z03.play).toArray) bt59 (EvP.cons RF (EvP.cons RF (EvP.cons RF (EvP.cons RF EvP.nil)))) (by kernel_rfl)) rfl ?_
        refine xj_one 5 RF (by kernel_rfl) ?_
        refine qy (y_call (first := []) (caps := [.pointer (some ⟨b1, 0, none⟩)]) (by exact rfl) Try.call79 E2 (fun w1 hw1 => tab79 w1 500 500 ⟨b1, 0, none⟩ (CA.blk (vs := [.func (.func 78) #[] #[]]) hw1 MM))) ?_
        refine sq_nil ?_
        refine sx_xp SR ?_
        refine xj_one 7 RF (by kernel_rfl) ?_
        refine qy (y_call (first := []) (caps := []) (by exact rfl) Try.call80 E2 (fun w1 _ => piece80 w1 (tabE 500 500) eg0)) ?_
        refine sq_nil ?_
        refine sx_xp SR ?_
        refine xj_one 10 RF (by kernel_rfl) ?_
        refine qy (y_call (first := []) (caps := [.pointer (some ⟨b1, 0, none⟩)]) (by exact rfl) Try.call79 E2 (fun w1 hw1 => tab79 w1 500 500 ⟨b1, 0, none⟩ (CA.blk (vs := [.func (.func 78) #[] #[]]) hw1 MM))) ?_
        refine sq_nil ?_
        refine sx_xp SR ?_
        refine xj_one 12 RF (by kernel_rfl) ?_
        refine qy (y_call (first := []) (caps := []) (by exact rfl) Try.call80 E2 (fun w1 _ => piece80 w1 (tabE 500 500) holeE)) ?_
        refine sq_nil ?_
        refine sx_xp SR ?_
        refine xj_one 15 RF (by kernel_rfl) ?_
        refine qy (y_call (first := []) (caps := [.pointer (some ⟨b1, 0, none⟩)]) (by exact rfl) Try.call79 E2 (fun w1 hw1 => tab79 w1 480 490 ⟨b1, 0, none⟩ (CA.blk (vs := [.func (.func 78) #[] #[]]) hw1 MM))) ?_
        refine sq_nil ?_
        refine sx_xp SR ?_
        refine xj_one 17 RF (by kernel_rfl) ?_
        refine qy (y_call (first := []) (caps := []) (by exact rfl) Try.call80 E2 (fun w1 _ => piece80 w1 (tabE 480 490) holeE)) ?_
        refine sq_nil ?_
        refine sx_xp SR ?_
        refine xj_one 21 RF (by kernel_rfl) ?_
        refine qy (y_call (first := []) (caps := []) (by exact rfl) Try.call80 E2 (fun w1 _ => piece80 w1 eg0 holeE)) ?_
        refine sq_nil ?_
        refine sx_xp SR ?_
        refine xj_one 22 RF (by kernel_rfl) ?_
        refine sq_bs Try.underlying60 ei84 (EvI.cons RF (EvI.cons RF (EvI.cons RF (EvI.cons RF EvI.nil)))) (by simp [Value.cells, pcRow_len]) rfl rfl rfl (fun b35 => ?_)
        refine sq_nil ?_
        refine sx_xp SR ?_
        refine xj_s 23 RF (by kernel_rfl) SR (y_build (cells := (pzRow z03 (some ⟨b35, 0, none⟩) 4).toArray) bt62 (EvP.cons RF (EvP.cons RF (EvP.cons RF (EvP.cons RF EvP.nil)))) (by kernel_rfl)) rfl ?_
        refine xj_one 24 RF (by kernel_rfl) ?_
        refine sq_store_all (vs := pzRow z03 (some ⟨b35, 0, none⟩) 4) Try.sizeOf62 RF RF rfl RM rfl rfl ?_
        refine sq_nil ?_
        refine sx_xpl (by kernel_rfl) ?_
        refine xj_done (by kernel_rfl) ?_
        refine sx_then ?_
        refine sc_ret ?_
        refine sx_retc (.inl rfl) rfl Try.results45 Try.underlying62 rfl Try.sizeOf62 RF MM rfl ?_
        intro w' hw'
        exact ⟨b35, rfl, hw'.below MM, rows_new (lit_rowsA (row := pcRow) (l := z03.pieces) pcRow_len hw' MM rfl (by decide)) (blk_new hw' RM MM)⟩
      ·
        refine sq_alloc Try.zeroValue81 rfl (fun b3 => ?_)
        refine sq_nil ?_
        refine sx_xp SR ?_
        refine xj_one 5 RF (by kernel_rfl) ?_
        refine qy (y_call (first := []) (caps := []) (by exact rfl) Try.call78 E2 (fun w1 _ => span78 w1 410 410)) ?_
        refine sq_nil ?_
        refine sx_xp SR ?_
        refine xj_s 6 RF (by kernel_rfl) SR (y_build (cells := (egRow holeE).toArray) bt81 (EvP.cons RF (EvP.cons RF (EvP.cons RF (EvP.cons RF EvP.nil)))) (by kernel_rfl)) rfl ?_
        refine xj_one 8 RF (by kernel_rfl) ?_
        refine sq_store_all (vs := egRow holeE) Try.sizeOf81 RF RF rfl RM rfl rfl ?_
        refine sq_nil ?_
        refine sx_xpl (by kernel_rfl) ?_
        refine xj_done (by kernel_rfl) ?_
        refine sx_then ?_
        refine sc_seq ?_
        refine sc_region ?_
        refine qs (y_assign RF) ?_
        refine sq_nil ?_
        refine sx_then ?_
        refine sc_seq ?_
        refine sc_drawX ([.blk b1 (.cells #[.func (.func 78) #[] #[]] 169 (0, 0)), .blk b3 (.cells (egRow holeE).toArray 81 (0, 0)), .reg 0 w]) (by kernel_rfl) ?_
        refine xj_s 0 RF (by kernel_rfl) SR LD169 rfl ?_
        refine xj_s 3 RF (by kernel_rfl) SR (y_move RF) rfl ?_
        refine xj_s 4 RF (by kernel_rfl) SR (y_move RF) rfl ?_
        refine xj_s 6 RF (by kernel_rfl) SR (y_build (cells := (egRow eg0).toArray) bt81 EvP.nil (by kernel_rfl)) rfl ?_
        refine xj_s 8 RF (by kernel_rfl) SR (y_move RF) rfl ?_
        refine xj_s 9 RF (by kernel_rfl) SR (y_move RF) rfl ?_
        refine xj_s 11 RF (by kernel_rfl) SR LD81 rfl ?_
        refine xj_s 13 RF (by kernel_rfl) SR (y_move RF) rfl ?_
        refine xj_s 14 RF (by kernel_rfl) SR (y_move RF) rfl ?_
        refine xj_s 16 RF (by kernel_rfl) SR LD81 rfl ?_
        refine xj_s 18 RF (by kernel_rfl) SR (y_move RF) rfl ?_
        refine xj_s 19 RF (by kernel_rfl) SR (y_build (cells := (egRow eg0).toArray) bt81 EvP.nil (by kernel_rfl)) rfl ?_
        refine xj_s 20 RF (by kernel_rfl) SR LD81 rfl ?_
        refine xj_one 1 RF (by kernel_rfl) ?_
        refine qy (y_call (first := []) (caps := []) (by exact rfl) Try.call78 E2 (fun w1 _ => span78 w1 0 10)) ?_
        refine sq_nil ?_
        refine sx_xp SR ?_
        refine xj_s 2 RF (by kernel_rfl) SR (y_build (cells := (plRow z03.play).toArray) bt59 (EvP.cons RF (EvP.cons RF (EvP.cons RF (EvP.cons RF EvP.nil)))) (by kernel_rfl)) rfl ?_
        refine xj_one 5 RF (by kernel_rfl) ?_
        refine qy (y_call (first := []) (caps := [.pointer (some ⟨b1, 0, none⟩)]) (by exact rfl) Try.call79 E2 (fun w1 hw1 => tab79 w1 500 500 ⟨b1, 0, none⟩ (CA.blk (vs := [.func (.func 78) #[] #[]]) hw1 MM))) ?_
        refine sq_nil ?_
        refine sx_xp SR ?_
        refine xj_one 7 RF (by kernel_rfl) ?_
        refine qy (y_call (first := []) (caps := []) (by exact rfl) Try.call80 E2 (fun w1 _ => piece80 w1 (tabE 500 500) eg0)) ?_
        refine sq_nil ?_
        refine sx_xp SR ?_
        refine xj_one 10 RF (by kernel_rfl) ?_
        refine qy (y_call (first := []) (caps := [.pointer (some ⟨b1, 0, none⟩)]) (by exact rfl) Try.call79 E2 (fun w1 hw1 => tab79 w1 500 500 ⟨b1, 0, none⟩ (CA.blk (vs := [.func (.func 78) #[] #[]]) hw1 MM))) ?_
        refine sq_nil ?_
        refine sx_xp SR ?_
        refine xj_one 12 RF (by kernel_rfl) ?_
        refine qy (y_call (first := []) (caps := []) (by exact rfl) Try.call80 E2 (fun w1 _ => piece80 w1 (tabE 500 500) holeE)) ?_
        refine sq_nil ?_
        refine sx_xp SR ?_
        refine xj_one 15 RF (by kernel_rfl) ?_
        refine qy (y_call (first := []) (caps := [.pointer (some ⟨b1, 0, none⟩)]) (by exact rfl) Try.call79 E2 (fun w1 hw1 => tab79 w1 480 490 ⟨b1, 0, none⟩ (CA.blk (vs := [.func (.func 78) #[] #[]]) hw1 MM))) ?_
        refine sq_nil ?_
        refine sx_xp SR ?_
        refine xj_one 17 RF (by kernel_rfl) ?_
        refine qy (y_call (first := []) (caps := []) (by exact rfl) Try.call80 E2 (fun w1 _ => piece80 w1 (tabE 480 490) holeE)) ?_
        refine sq_nil ?_
        refine sx_xp SR ?_
        refine xj_one 21 RF (by kernel_rfl) ?_
        refine qy (y_call (first := []) (caps := []) (by exact rfl) Try.call80 E2 (fun w1 _ => piece80 w1 eg0 holeE)) ?_
        refine sq_nil ?_
        refine sx_xp SR ?_
        refine xj_one 22 RF (by kernel_rfl) ?_
        refine sq_bs Try.underlying60 ei84 (EvI.cons RF (EvI.cons RF (EvI.cons RF (EvI.cons RF EvI.nil)))) (by simp [Value.cells, pcRow_len]) rfl rfl rfl (fun b35 => ?_)
        refine sq_nil ?_
        refine sx_xp SR ?_
        refine xj_s 23 RF (by kernel_rfl) SR (y_build (cells := (pzRow z03 (some ⟨b35, 0, none⟩) 4).toArray) bt62 (EvP.cons RF (EvP.cons RF (EvP.cons RF (EvP.cons RF EvP.nil)))) (by kernel_rfl)) rfl ?_
        refine xj_one 24 RF (by kernel_rfl) ?_
        refine sq_store_all (vs := pzRow z03 (some ⟨b35, 0, none⟩) 4) Try.sizeOf62 RF RF rfl RM rfl rfl ?_
        refine sq_nil ?_
        refine sx_xpl (by kernel_rfl) ?_
        refine xj_done (by kernel_rfl) ?_
        refine sx_then ?_
        refine sc_ret ?_
        refine sx_retc (.inl rfl) rfl Try.results45 Try.underlying62 rfl Try.sizeOf62 RF MM rfl ?_
        intro w' hw'
        exact ⟨b35, rfl, hw'.below MM, rows_new (lit_rowsA (row := pcRow) (l := z03.pieces) pcRow_len hw' MM rfl (by decide)) (blk_new hw' RM MM)⟩
    ·
      refine sq_alloc Try.zeroValue81 rfl (fun b3 => ?_)
      refine sq_nil ?_
      refine sx_xp SR ?_
      refine xj_one 3 RF (by kernel_rfl) ?_
      refine qy (y_call (first := []) (caps := []) (by exact rfl) Try.call78 E2 (fun w1 _ => span78 w1 515 515)) ?_
      refine sq_nil ?_
      refine sx_xp SR ?_
      refine xj_one 5 RF (by kernel_rfl) ?_
      refine qy (y_call (first := []) (caps := []) (by exact rfl) Try.call78 E2 (fun w1 _ => span78 w1 410 410)) ?_
      refine sq_nil ?_
      refine sx_xp SR ?_
      refine xj_s 6 RF (by kernel_rfl) SR (y_build (cells := (egRow holeE).toArray) bt81 (EvP.cons RF (EvP.cons RF (EvP.cons RF (EvP.cons RF EvP.nil)))) (by kernel_rfl)) rfl ?_
      refine xj_one 8 RF (by kernel_rfl) ?_
      refine sq_store_all (vs := egRow holeE) Try.sizeOf81 RF RF rfl RM rfl rfl ?_
      refine sq_nil ?_
      refine sx_xpl (by kernel_rfl) ?_
      refine xj_done (by kernel_rfl) ?_
      refine sx_then ?_
      refine sc_seq ?_
      refine sc_region ?_
      refine qs (y_assign RF) ?_
      refine sq_nil ?_
      refine sx_then ?_
      refine sc_seq ?_
      refine sc_drawX ([.blk b1 (.cells #[.func (.func 78) #[] #[]] 169 (0, 0)), .blk b3 (.cells (egRow holeE).toArray 81 (0, 0)), .reg 0 w]) (by kernel_rfl) ?_
      refine xj_s 0 RF (by kernel_rfl) SR LD169 rfl ?_
      refine xj_s 3 RF (by kernel_rfl) SR (y_move RF) rfl ?_
      refine xj_s 4 RF (by kernel_rfl) SR (y_move RF) rfl ?_
      refine xj_s 6 RF (by kernel_rfl) SR (y_build (cells := (egRow eg0).toArray) bt81 EvP.nil (by kernel_rfl)) rfl ?_
      refine xj_s 8 RF (by kernel_rfl) SR (y_move RF) rfl ?_
      refine xj_s 9 RF (by kernel_rfl) SR (y_move RF) rfl ?_
      refine xj_s 11 RF (by kernel_rfl) SR LD81 rfl ?_
      refine xj_s 13 RF (by kernel_rfl) SR (y_move RF) rfl ?_
      refine xj_s 14 RF (by kernel_rfl) SR (y_move RF) rfl ?_
      refine xj_s 16 RF (by kernel_rfl) SR LD81 rfl ?_
      refine xj_s 18 RF (by kernel_rfl) SR (y_move RF) rfl ?_
      refine xj_s 19 RF (by kernel_rfl) SR (y_build (cells := (egRow eg0).toArray) bt81 EvP.nil (by kernel_rfl)) rfl ?_
      refine xj_s 20 RF (by kernel_rfl) SR LD81 rfl ?_
      refine xj_one 1 RF (by kernel_rfl) ?_
      refine qy (y_call (first := []) (caps := []) (by exact rfl) Try.call78 E2 (fun w1 _ => span78 w1 0 10)) ?_
      refine sq_nil ?_
      refine sx_xp SR ?_
      refine xj_s 2 RF (by kernel_rfl) SR (y_build (cells := (plRow z03.play).toArray) bt59 (EvP.cons RF (EvP.cons RF (EvP.cons RF (EvP.cons RF EvP.nil)))) (by kernel_rfl)) rfl ?_
      refine xj_one 5 RF (by kernel_rfl) ?_
      refine qy (y_call (first := []) (caps := [.pointer (some ⟨b1, 0, none⟩)]) (by exact rfl) Try.call79 E2 (fun w1 hw1 => tab79 w1 500 500 ⟨b1, 0, none⟩ (CA.blk (vs := [.func (.func 78) #[] #[]]) hw1 MM))) ?_
      refine sq_nil ?_
      refine sx_xp SR ?_
      refine xj_one 7 RF (by kernel_rfl) ?_
      refine qy (y_call (first := []) (caps := []) (by exact rfl) Try.call80 E2 (fun w1 _ => piece80 w1 (tabE 500 500) eg0)) ?_
      refine sq_nil ?_
      refine sx_xp SR ?_
      refine xj_one 10 RF (by kernel_rfl) ?_
      refine qy (y_call (first := []) (caps := [.pointer (some ⟨b1, 0, none⟩)]) (by exact rfl) Try.call79 E2 (fun w1 hw1 => tab79 w1 500 500 ⟨b1, 0, none⟩ (CA.blk (vs := [.func (.func 78) #[] #[]]) hw1 MM))) ?_
      refine sq_nil ?_
      refine sx_xp SR ?_
      refine xj_one 12 RF (by kernel_rfl) ?_
      refine qy (y_call (first := []) (caps := []) (by exact rfl) Try.call80 E2 (fun w1 _ => piece80 w1 (tabE 500 500) holeE)) ?_
      refine sq_nil ?_
      refine sx_xp SR ?_
      refine xj_one 15 RF (by kernel_rfl) ?_
      refine qy (y_call (first := []) (caps := [.pointer (some ⟨b1, 0, none⟩)]) (by exact rfl) Try.call79 E2 (fun w1 hw1 => tab79 w1 480 490 ⟨b1, 0, none⟩ (CA.blk (vs := [.func (.func 78) #[] #[]]) hw1 MM))) ?_
      refine sq_nil ?_
      refine sx_xp SR ?_
      refine xj_one 17 RF (by kernel_rfl) ?_
      refine qy (y_call (first := []) (caps := []) (by exact rfl) Try.call80 E2 (fun w1 _ => piece80 w1 (tabE 480 490) holeE)) ?_
      refine sq_nil ?_
      refine sx_xp SR ?_
      refine xj_one 21 RF (by kernel_rfl) ?_
      refine qy (y_call (first := []) (caps := []) (by exact rfl) Try.call80 E2 (fun w1 _ => piece80 w1 eg0 holeE)) ?_
      refine sq_nil ?_
      refine sx_xp SR ?_
      refine xj_one 22 RF (by kernel_rfl) ?_
      refine sq_bs Try.underlying60 ei84 (EvI.cons RF (EvI.cons RF (EvI.cons RF (EvI.cons RF EvI.nil)))) (by simp [Value.cells, pcRow_len]) rfl rfl rfl (fun b35 => ?_)
      refine sq_nil ?_
      refine sx_xp SR ?_
      refine xj_s 23 RF (by kernel_rfl) SR (y_build (cells := (pzRow z03 (some ⟨b35, 0, none⟩) 4).toArray) bt62 (EvP.cons RF (EvP.cons RF (EvP.cons RF (EvP.cons RF EvP.nil)))) (by kernel_rfl)) rfl ?_
      refine xj_one 24 RF (by kernel_rfl) ?_
      refine sq_store_all (vs := pzRow z03 (some ⟨b35, 0, none⟩) 4) Try.sizeOf62 RF RF rfl RM rfl rfl ?_
      refine sq_nil ?_
      refine sx_xpl (by kernel_rfl) ?_
      refine xj_done (by kernel_rfl) ?_
      refine sx_then ?_
      refine sc_ret ?_
      refine sx_retc (.inl rfl) rfl Try.results45 Try.underlying62 rfl Try.sizeOf62 RF MM rfl ?_
      intro w' hw'
      exact ⟨b35, rfl, hw'.below MM, rows_new (lit_rowsA (row := pcRow) (l := z03.pieces) pcRow_len hw' MM rfl (by decide)) (blk_new hw' RM MM)⟩
  ·
    refine sq_alloc Try.zeroValue81 rfl (fun b3 => ?_)
    refine sq_nil ?_
    refine sx_xp SR ?_
    refine xj_one 1 RF (by kernel_rfl) ?_
    refine qy (y_call (first := []) (caps := []) (by exact rfl) Try.call78 E2 (fun w1 _ => span78 w1 1000 1000)) ?_
    refine sq_nil ?_
    refine sx_xp SR ?_
    refine xj_one 3 RF (by kernel_rfl) ?_
    refine qy (y_call (first := []) (caps := []) (by exact rfl) Try.call78 E2 (fun w1 _ => span78 w1 515 515)) ?_
    refine sq_nil ?_
    refine sx_xp SR ?_
    refine xj_one 5 RF (by kernel_rfl) ?_
    refine qy (y_call (first := []) (caps := []) (by exact rfl) Try.call78 E2 (fun w1 _ => span78 w1 410 410)) ?_
    refine sq_nil ?_
    refine sx_xp SR ?_
    refine xj_s 6 RF (by kernel_rfl) SR (y_build (cells := (egRow holeE).toArray) bt81 (EvP.cons RF (EvP.cons RF (EvP.cons RF (EvP.cons RF EvP.nil)))) (by kernel_rfl)) rfl ?_
    refine xj_one 8 RF (by kernel_rfl) ?_
    refine sq_store_all (vs := egRow holeE) Try.sizeOf81 RF RF rfl RM rfl rfl ?_
    refine sq_nil ?_
    refine sx_xpl (by kernel_rfl) ?_
    refine xj_done (by kernel_rfl) ?_
    refine sx_then ?_
    refine sc_seq ?_
    refine sc_region ?_
    refine qs (y_assign RF) ?_
    refine sq_nil ?_
    refine sx_then ?_
    refine sc_seq ?_
    refine sc_drawX ([.blk b1 (.cells #[.func (.func 78) #[] #[]] 169 (0, 0)), .blk b3 (.cells (egRow holeE).toArray 81 (0, 0)), .reg 0 w]) (by kernel_rfl) ?_
    refine xj_s 0 RF (by kernel_rfl) SR LD169 rfl ?_
    refine xj_s 3 RF (by kernel_rfl) SR (y_move RF) rfl ?_
    refine xj_s 4 RF (by kernel_rfl) SR (y_move RF) rfl ?_
    refine xj_s 6 RF (by kernel_rfl) SR (y_build (cells := (egRow eg0).toArray) bt81 EvP.nil (by kernel_rfl)) rfl ?_
    refine xj_s 8 RF (by kernel_rfl) SR (y_move RF) rfl ?_
    refine xj_s 9 RF (by kernel_rfl) SR (y_move RF) rfl ?_
    refine xj_s 11 RF (by kernel_rfl) SR LD81 rfl ?_
    refine xj_s 13 RF (by kernel_rfl) SR (y_move RF) rfl ?_
    refine xj_s 14 RF (by kernel_rfl) SR (y_move RF) rfl ?_
    refine xj_s 16 RF (by kernel_rfl) SR LD81 rfl ?_
    refine xj_s 18 RF (by kernel_rfl) SR (y_move RF) rfl ?_
    refine xj_s 19 RF (by kernel_rfl) SR (y_build (cells := (egRow eg0).toArray) bt81 EvP.nil (by kernel_rfl)) rfl ?_
    refine xj_s 20 RF (by kernel_rfl) SR LD81 rfl ?_
    refine xj_one 1 RF (by kernel_rfl) ?_
    refine qy (y_call (first := []) (caps := []) (by exact rfl) Try.call78 E2 (fun w1 _ => span78 w1 0 10)) ?_
    refine sq_nil ?_
    refine sx_xp SR ?_
    refine xj_s 2 RF (by kernel_rfl) SR (y_build (cells := (plRow z03.play).toArray) bt59 (EvP.cons RF (EvP.cons RF (EvP.cons RF (EvP.cons RF EvP.nil)))) (by kernel_rfl)) rfl ?_
    refine xj_one 5 RF (by kernel_rfl) ?_
    refine qy (y_call (first := []) (caps := [.pointer (some ⟨b1, 0, none⟩)]) (by exact rfl) Try.call79 E2 (fun w1 hw1 => tab79 w1 500 500 ⟨b1, 0, none⟩ (CA.blk (vs := [.func (.func 78) #[] #[]]) hw1 MM))) ?_
    refine sq_nil ?_
    refine sx_xp SR ?_
    refine xj_one 7 RF (by kernel_rfl) ?_
    refine qy (y_call (first := []) (caps := []) (by exact rfl) Try.call80 E2 (fun w1 _ => piece80 w1 (tabE 500 500) eg0)) ?_
    refine sq_nil ?_
    refine sx_xp SR ?_
    refine xj_one 10 RF (by kernel_rfl) ?_
    refine qy (y_call (first := []) (caps := [.pointer (some ⟨b1, 0, none⟩)]) (by exact rfl) Try.call79 E2 (fun w1 hw1 => tab79 w1 500 500 ⟨b1, 0, none⟩ (CA.blk (vs := [.func (.func 78) #[] #[]]) hw1 MM))) ?_
    refine sq_nil ?_
    refine sx_xp SR ?_
    refine xj_one 12 RF (by kernel_rfl) ?_
    refine qy (y_call (first := []) (caps := []) (by exact rfl) Try.call80 E2 (fun w1 _ => piece80 w1 (tabE 500 500) holeE)) ?_
    refine sq_nil ?_
    refine sx_xp SR ?_
    refine xj_one 15 RF (by kernel_rfl) ?_
    refine qy (y_call (first := []) (caps := [.pointer (some ⟨b1, 0, none⟩)]) (by exact rfl) Try.call79 E2 (fun w1 hw1 => tab79 w1 480 490 ⟨b1, 0, none⟩ (CA.blk (vs := [.func (.func 78) #[] #[]]) hw1 MM))) ?_
    refine sq_nil ?_
    refine sx_xp SR ?_
    refine xj_one 17 RF (by kernel_rfl) ?_
    refine qy (y_call (first := []) (caps := []) (by exact rfl) Try.call80 E2 (fun w1 _ => piece80 w1 (tabE 480 490) holeE)) ?_
    refine sq_nil ?_
    refine sx_xp SR ?_
    refine xj_one 21 RF (by kernel_rfl) ?_
    refine qy (y_call (first := []) (caps := []) (by exact rfl) Try.call80 E2 (fun w1 _ => piece80 w1 eg0 holeE)) ?_
    refine sq_nil ?_
    refine sx_xp SR ?_
    refine xj_one 22 RF (by kernel_rfl) ?_
    refine sq_bs Try.underlying60 ei84 (EvI.cons RF (EvI.cons RF (EvI.cons RF (EvI.cons RF EvI.nil)))) (by simp [Value.cells, pcRow_len]) rfl rfl rfl (fun b35 => ?_)
    refine sq_nil ?_
    refine sx_xp SR ?_
    refine xj_s 23 RF (by kernel_rfl) SR (y_build (cells := (pzRow z03 (some ⟨b35, 0, none⟩) 4).toArray) bt62 (EvP.cons RF (EvP.cons RF (EvP.cons RF (EvP.cons RF EvP.nil)))) (by kernel_rfl)) rfl ?_
    refine xj_one 24 RF (by kernel_rfl) ?_
    refine sq_store_all (vs := pzRow z03 (some ⟨b35, 0, none⟩) 4) Try.sizeOf62 RF RF rfl RM rfl rfl ?_
    refine sq_nil ?_
    refine sx_xpl (by kernel_rfl) ?_
    refine xj_done (by kernel_rfl) ?_
    refine sx_then ?_
    refine sc_ret ?_
    refine sx_retc (.inl rfl) rfl Try.results45 Try.underlying62 rfl Try.sizeOf62 RF MM rfl ?_
    intro w' hw'
    exact ⟨b35, rfl, hw'.below MM, rows_new (lit_rowsA (row := pcRow) (l := z03.pieces) pcRow_len hw' MM rfl (by decide)) (blk_new hw' RM MM)⟩
theorem awake15 (w : World) : Calls Try.prog 15 #[] w fun e w' => e = .returned (.bool true) ∧ Below w.heap.size w w' := by
  refine calls_of_SC (args := []) Try.func15 rfl Try.ntmps15 rfl ?_
  simp only [argL]
  refine sc_seq ?_
  refine sc_region ?_
  refine qs (y_assign RF) ?_
  refine sq_nil ?_
  refine sx_then ?_
  refine sc_seq ?_
  refine sc_region ?_
  refine sq_call_new (first := []) (caps := []) (Z := Nat) (fun b => .agg (pzRow z03 (some ⟨b, 0, none⟩) 4).toArray) (fun lo w' b => RowsA pcRow 28 lo w' (some ⟨b, 0, none⟩) z03.pieces) RF Try.call45 EvL.nil (fun w1 _ => strip45 w1) rfl (fun lo1 wr1 bz hbz => ?_)
  refine sq_call_new (first := []) (caps := []) (Z := (Option Addr × Nat) × (Option Addr × Nat)) (fun q => .tuple #[.slice q.1.1 ((solL z03).getD 0 []).length q.1.2, .slice q.2.1 ((solL z03).getD 1 []).length q.2.2, .int .i64 (manyS z03), .int .i64 (errS z03)]) (fun lo w' q => RowsA lyRow 2 lo w' q.2.1 ((solL z03).getD 1 [])) RF Try.call16 (EvL.cons RF EvL.nil) (fun w1 hw1 => (Solve16r w1 z03 pz03 (some ⟨bz, 0, none⟩) 4 (hbz.at hw1 MM)).mono (fun e w' ⟨q, h1, h2, _, h4⟩ => ⟨q, h1, h2, h4.1⟩)) rfl (fun lo2 wr2 q hq => ?_)
  rw [many03, err03]
  rw [sol03] at hq
  rw [sol03]
  have hq : RowsA lyRow 2 lo2 wr2 q.2.1 l03 := hq
  refine qs (y_move RF) ?_
  refine qs (y_extract RF RF) ?_
  refine qs (y_extract RF RF) ?_
  refine qs (y_extract RF RF) ?_
  refine qs (y_extract RF RF) ?_
  refine qs (y_assign RF) ?_
  refine qs (y_assign RF) ?_
  refine qs (y_assign RF) ?_
  refine qs (y_assign RF) ?_
  refine sq_nil ?_
  refine sx_then ?_
  refine sc_seq ?_
  have hok3 : CutOk c03 (nP c03) := (dist_T pz03 ok03).ok
  have hn3 : nP c03 = 4 := nP_T pz03 ok03
  refine sc_region ?_
  refine sq_bs Try.underlying22 ei3 (EvI.cons RF (EvI.cons RF (EvI.cons RF (EvI.cons RF EvI.nil)))) (by first | (simp [Value.cells]; done) | (simp [Value.cells]; rfl) | (simp [Value.cells]; and_intros <;> rfl)) rfl rfl rfl (fun b15 => ?_)
  refine qs (y_build (cells := (ctV c03 (some ⟨b15, 0, none⟩) 4).toArray) bt24 (EvP.cons RF (EvP.cons RF (EvP.cons RF EvP.nil))) (by kernel_rfl)) ?_
  refine sq_call_new (first := []) (caps := []) (Z := Int × Int) (fun y => .tuple #[.int .i64 y.1, .int .i64 y.2]) (fun _ _ y => ChkR c03 y.1 y.2) RF Try.call7 (EvL.cons RF EvL.nil) (fun w1 hw1 => check7 w1 c03 (some ⟨b15, 0, none⟩) 4 (lit_rowsA (row := iRow) (l := [0, 2, 1, 3]) iRow_len hw1 MM rfl (by simp))) rfl (fun lo3 wr3 y hy => ?_)
  have hy0 : y.2 = 0 := Classical.byContradiction fun h => hy.2 h hok3
  have hy1 := (hy.1 hy0).2
  rw [hn3] at hy1
  obtain ⟨y1, y2⟩ := y
  dsimp only at hy0 hy1 ⊢
  rw [hy0, hy1]
  refine qs (y_move RF) ?_
  refine qs (y_extract RF RF) ?_
  refine qs (y_extract RF RF) ?_
  refine qs (y_assign RF) ?_
  refine qs (y_assign RF) ?_
  refine sq_nil ?_
  refine sx_then ?_
  refine sc_seq ?_
  refine sc_region ?_
  refine qs (y_move RF) ?_
  refine qs (y_build bt70 (EvP.cons RF EvP.nil) RF) ?_
  refine qs (y_build bt70 (EvP.cons RF EvP.nil) RF) ?_
  refine qs (y_build bt70 (EvP.cons RF EvP.nil) RF) ?_
  refine qs (y_build bt70 (EvP.cons RF EvP.nil) RF) ?_
  refine sq_bs Try.underlying64 ei70 (EvI.cons RF (EvI.cons RF (EvI.cons RF (EvI.cons RF EvI.nil)))) (by first | (simp [Value.cells]; done) | (simp [Value.cells]; rfl) | (simp [Value.cells]; and_intros <;> rfl)) rfl rfl rfl (fun b25 => ?_)
  refine qy (yc Try.call46 E2 (fun w1 hw1 => Lays46 w1 q.2.1 q.2.2 l03 (hq.at hw1 MM) (some ⟨b25, 0, none⟩) 4 l03 (lit_rowsA (row := lyRow) lyRow_len hw1 MM rfl (by decide)))) ?_
  refine qs (y_move RF) ?_
  refine sq_known (tt := 27) (b' := true) RF (decide_eq_true rfl) ?_
  refine qg (y_move RF) ?_
  refine qg (y_eql RF RF) ?_
  refine qs (y_pick_t RF RF) ?_
  refine qs (y_move RF) ?_
  refine sq_known (tt := 31) (b' := true) RF (decide_eq_true rfl) ?_
  refine qg (y_move RF) ?_
  refine qg (y_eql RF RF) ?_
  refine qs (y_pick_t RF RF) ?_
  refine qs (y_move RF) ?_
  refine sq_known (tt := 35) (b' := true) RF (decide_eq_true rfl) ?_
  refine qg (y_move RF) ?_
  refine qg (y_eql RF RF) ?_
  refine qs (y_pick_t RF RF) ?_
  refine qs (y_move RF) ?_
  refine sq_known (tt := 39) (b' := true) RF (decide_eq_true rfl) ?_
  refine qg (y_move RF) ?_
  refine qg (y_eql RF RF) ?_
  refine qs (y_pick_t RF RF) ?_
  refine qs (y_assign RF) ?_
  refine sq_nil ?_
  refine sx_then ?_
  refine sc_ret ?_
  refine sx_ret1 (.inl rfl) rfl Try.results15 RF ?_
  intro w' hw'
  exact ⟨by simp, hw'.below MM⟩
end Go.Proofs.Ytfceajkofpafpaa
