/- The walks of the document's words about solutions. -/
import Derived.Test.YtfceajkofpafpaaFW8
namespace Go.Proofs.Ytfceajkofpafpaa
open Go Go.Eng Go.RowKit Go.Proofs
open Go.Proofs.Ytfceajkofpafpaa.Sc (iRow spRow sp0 Sp spB plusV getD_of get_of_lt any_range_get all_not_any all_getD)
set_option maxRecDepth 100000
theorem rim_at' {z : Pz} {n s : Nat} (h : s < 4) : (#[.bool (rimB z n 0), .bool (rimB z n 1), .bool (rimB z n 2), .bool (rimB z n 3)] : Array Value)[0 + s * 1]? = some (.bool (rimB z n s)) := by
  rw [Nat.zero_add, Nat.mul_one]; exact rim_at h
theorem used_ne {l : List Ly} {p i : Nat} (h : usedB l p = false) (hi : i < l.length) : (lyD l i).1 ≠ p := fun e => by
  have h1 : usedB l p = true := List.any_eq_true.2 ⟨lyD l i, List.mem_of_getElem? (get_of_lt (0, 0) hi), decide_eq_true e⟩
  rw [h] at h1; cases h1
theorem meet_ne {z : Pz} {k q : Nat × Nat} (h : k.1 ≠ q.1) : meetV z (k, q) = fitV z.play (edAt z k) (edAt z q) := if_neg h
/-- a list is a solution -/
structure SolOk (z : Pz) (l : List Ly) : Prop where
  len : l.length = z.pieces.length
  pc : ∀ i, i < z.pieces.length → (lyD l i).1 < z.pieces.length
  tn : ∀ i, i < z.pieces.length → (lyD l i).2 < trnV z (lyD l i).1
  un : ∀ i, i < z.pieces.length → usedB (l.take i) (lyD l i).1 = false
  may : ∀ i, i < z.pieces.length → mayV z (l.take i) (lyD l i) = true
theorem SolOk.ly {z : Pz} {l : List Ly} (h : SolOk z l) {i : Nat} (hi : i < z.pieces.length) : LyOk z (lyD l i) := ⟨h.pc i hi, by have := h.tn i hi; have := trn_le z (lyD l i).1; omega⟩
theorem SolOk.mem {z : Pz} {l : List Ly} (h : SolOk z l) : ∀ x, x ∈ l → LyOk z x := fun x hx => by
  obtain ⟨i, hi, rfl⟩ := List.getElem_of_mem hx
  have := h.ly (i := i) (by rw [← h.len]; exact hi)
  rwa [show lyD l i = l[i] from getD_of (List.getElem?_eq_getElem hi)] at this
theorem Turns50 (w : World) (z : Pz) (a : Option Addr) (c : Nat) (p : Nat) : Calls Try.prog 50 #[.agg (pzRow z a c).toArray, .int .i64 (p : Int)] w fun e w' => e = .returned (.int .i64 (trnV z p : Nat)) ∧ Below w.heap.size w w' := by
  refine calls_of_SC (args := [.agg (pzRow z a c).toArray, .int .i64 (p : Int)]) Try.func50 rfl Try.ntmps50 rfl ?_
  simp only [argL, Nat.zero_add]
  refine sc_seq ?_
  refine sc_region ?_
  refine sq_box RF rfl (fun b2 => ?_)
  refine qs (y_assign RF) ?_
  refine sq_nil ?_
  refine sx_then ?_
  refine sc_seq ?_
  refine sc_seq ?_
  refine sc_region ?_
  refine qs FA62_4 ?_
  refine qs LD4 ?_
  refine qs (y_move RF) ?_
  refine sp 7 (fun hg1_2 => ?_) (fun hg1_2 => ?_)
  ·
    refine qg (y_move RF) ?_
    refine qg (y_gtr RF RF) ?_
    refine qs (y_pick_t RF RF) ?_
    refine sq_nil ?_
    refine sx_then ?_
    refine scp (fun hc0 => ?_) (fun hc0 => ?_)
    ·
      refine sc_seq ?_
      refine sc_region ?_
      refine qs (y_assign RF) ?_
      refine sq_nil ?_
      refine sx_then ?_
      refine sc_ret ?_
      refine sx_then_ret ?_
      refine sx_ret1 (.inl rfl) rfl Try.results50 RF ?_
      intro w' hw'
      refine ⟨?_, hw'.below MM⟩
      first
        | (rw [show trnV z p = 4 from if_pos ⟨hg1_2, by omega⟩]; rfl)
        | (rw [show trnV z p = 1 from if_neg (fun h => by omega)]; rfl)
        | (rw [show trnV z p = 1 from if_neg (fun h => by rw [hg1_2] at h; exact absurd h.1 (by decide))]; rfl)
    ·
      refine sc_skip ?_
      refine sx_then ?_
      refine sc_seq ?_
      refine sc_region ?_
      refine qs (y_assign RF) ?_
      refine sq_nil ?_
      refine sx_then ?_
      refine sc_ret ?_
      refine sx_ret1 (.inl rfl) rfl Try.results50 RF ?_
      intro w' hw'
      refine ⟨?_, hw'.below MM⟩
      first
        | (rw [show trnV z p = 4 from if_pos ⟨hg1_2, by omega⟩]; rfl)
        | (rw [show trnV z p = 1 from if_neg (fun h => by omega)]; rfl)
        | (rw [show trnV z p = 1 from if_neg (fun h => by rw [hg1_2] at h; exact absurd h.1 (by decide))]; rfl)
  ·
    refine qf ?_
    refine qf ?_
    refine qs (y_pick_f RF RF) ?_
    refine sq_nil ?_
    refine sx_then ?_
    refine sc_f RF ?_
    refine sc_skip ?_
    refine sx_then ?_
    refine sc_seq ?_
    refine sc_region ?_
    refine qs (y_assign RF) ?_
    refine sq_nil ?_
    refine sx_then ?_
    refine sc_ret ?_
    refine sx_ret1 (.inl rfl) rfl Try.results50 RF ?_
    intro w' hw'
    refine ⟨?_, hw'.below MM⟩
    first
      | (rw [show trnV z p = 4 from if_pos ⟨hg1_2, by omega⟩]; rfl)
      | (rw [show trnV z p = 1 from if_neg (fun h => by omega)]; rfl)
      | (rw [show trnV z p = 1 from if_neg (fun h => by rw [hg1_2] at h; exact absurd h.1 (by decide))]; rfl)
theorem Own52 (w : World) (x : Ly) (hx : x.2 < 4) (s : Nat) (hs : s < 4) : Calls Try.prog 52 #[.agg (lyRow x).toArray, .int .i64 (s : Int)] w fun e w' => e = .returned (.int .i64 (ownS x s : Nat)) ∧ Below w.heap.size w w' := by
  unfold lyRow
  refine calls_of_SC (args := [.agg #[.int .i64 (x.1 : Int), .int .i64 (x.2 : Int)], .int .i64 (s : Int)]) Try.func52 rfl Try.ntmps52 rfl ?_
  simp only [argL, Nat.zero_add]
  refine sc_seq ?_
  refine sc_region ?_
  refine sq_box RF rfl (fun b2 => ?_)
  refine qs (y_assign RF) ?_
  refine sq_nil ?_
  refine sx_then ?_
  refine sc_seq ?_
  refine sc_region ?_
  refine qs (y_move RF) ?_
  refine qs (y_add RF RF (by omega)) ?_
  refine qs FA70_3 ?_
  refine qs LD3 ?_
  refine qs (y_sub RF RF (by omega)) ?_
  refine qs (y_rem RF RF (by omega) (by omega)) ?_
  rw [show ((s : Int) + 4 - (x.2 : Int)) % 4 = ((ownS x s : Nat) : Int) from by unfold ownS; omega]
  refine qs (y_assign RF) ?_
  refine sq_nil ?_
  refine sx_then ?_
  refine sc_ret ?_
  refine sx_ret1 (.inl rfl) rfl Try.results52 RF ?_
  intro w' hw'
  exact ⟨rfl, hw'.below MM⟩
theorem Side88 (w : World) (z : Pz) (a : Option Addr) (c : Nat) (hp : RowsA pcRow 28 0 w a z.pieces) (x : Ly) (hx : LyOk z x) (s : Nat) (hs : s < 4) : Calls Try.prog 88 #[.agg (pzRow z a c).toArray, .agg (lyRow x).toArray, .int .i64 (s : Int)] w fun e w' => e = .returned (.agg (egRow (edAt z (sdK x s))).toArray) ∧ Below w.heap.size w w' := by
  have hlen := hp.len
  have h4 := hx.2
  have hsk := (hp.get pc0 hx.1).1
  have hck := (hp.get pc0 hx.1).2
  refine calls_of_SC (args := [.agg (pzRow z a c).toArray, .agg (lyRow x).toArray, .int .i64 (s : Int)]) Try.func88 rfl Try.ntmps88 rfl ?_
  simp only [argL, Nat.reduceAdd, Nat.zero_add]
  refine sc_seq ?_
  refine sc_region ?_
  refine sq_box RF rfl (fun b3 => ?_)
  refine sq_box RF rfl (fun b4 => ?_)
  refine sq_alloc Try.zeroValue81 rfl (fun b6 => ?_)
  refine sq_nil ?_
  refine sx_then ?_
  refine sc_seq ?_
  refine sc_drawX ([.blk b3 (.cells (pzRow z a c).toArray 62 (0, 0)), .blk b4 (.cells (lyRow x).toArray 70 (0, 0)), .reg 0 w]) (by kernel_rfl) ?_
  refine xj_s 0 RF (by kernel_rfl) SR FA62_60 rfl ?_
  refine xj_s 1 RF (by kernel_rfl) SR LD60 rfl ?_
  refine xj_s 2 RF (by kernel_rfl) SR FA70_3 rfl ?_
  refine xj_s 3 RF (by kernel_rfl) SR LD3 rfl ?_
  refine xj_s 4 RF (by kernel_rfl) SR (y_move RF) rfl ?_
  refine xj_s 5 RF (by kernel_rfl) SR (y_add RF RF (by omega)) rfl ?_
  refine xj_s 6 RF (by kernel_rfl) SR FA70_3 rfl ?_
  refine xj_s 7 RF (by kernel_rfl) SR LD3 rfl ?_
  refine xj_s 8 RF (by kernel_rfl) SR (y_sub RF RF (by omega)) rfl ?_
  refine xj_s 9 RF (by kernel_rfl) SR (y_rem RF RF (by omega) (by omega)) rfl ?_
  rw [show ((s : Int) + 4 - (x.2 : Int)) % 4 = ((ownS x s : Nat) : Int) from by unfold ownS; omega]
  refine xj_s 10 RF (by kernel_rfl) SR (y_ia_el (i := x.1) Try.underlying60 Try.sizeOf84 RF RF hx.1 hsk) rfl ?_
  refine xj_s 11 RF (by kernel_rfl) SR FA84_82 rfl ?_
  refine xj_s 12 RF (by kernel_rfl) SR (y_ia_arra (i := ownS x s) Try.underlying82 Try.sizeOf81 RF RF (own_lt x s)) rfl ?_
  refine xj_s 13 RF (by kernel_rfl) SR (by first | exact y_load_capart2 Try.underlying81 rfl Try.sizeOf81 RF MM hck (pc_part (own_lt x s)) rfl | exact LD81) rfl ?_
  refine xj_one 14 RF (by kernel_rfl) ?_
  refine sq_store_all (vs := egRow (edAt z (sdK x s))) Try.sizeOf81 RF RF rfl RM rfl rfl ?_
  refine sq_nil ?_
  refine sx_xpl (by kernel_rfl) ?_
  refine xj_done (by kernel_rfl) ?_
  refine sx_then ?_
  refine sc_ret ?_
  refine sx_retc (.inl rfl) rfl Try.results88 Try.underlying81 rfl Try.sizeOf81 RF MM rfl ?_
  intro w' hw'
  exact ⟨rfl, hw'.below MM⟩
theorem fit89 (w : World) (z : Pz) (hF : PzF z) (a : Option Addr) (c : Nat) (x y : Eg) (hx : egB x = true) (hy : egB y = true) : Calls Try.prog 89 #[.agg (pzRow z a c).toArray, .agg (egRow x).toArray, .agg (egRow y).toArray] w fun e w' => e = .returned (.int .i64 (fitV z.play x y)) ∧ Below w.heap.size w w' := by
  refine calls_of_SC (args := [.agg (pzRow z a c).toArray, .agg (egRow x).toArray, .agg (egRow y).toArray]) Try.func89 rfl Try.ntmps89 rfl ?_
  simp only [argL, Nat.reduceAdd, Nat.zero_add]
  refine sc_seq ?_
  refine sc_region ?_
  refine sq_box RF rfl (fun b3 => ?_)
  refine sq_box RF rfl (fun b4 => ?_)
  refine sq_box RF rfl (fun b5 => ?_)
  refine qs (y_assign RF) ?_
  refine sq_nil ?_
  refine sx_then ?_
  refine sc_seq ?_
  refine sc_region ?_
  refine qs FA62_59 ?_
  refine qs LD59 ?_
  refine qs LD81 ?_
  refine qs LD81 ?_
  refine qy (yc Try.call110 E3 (fun w1 _ => Fit110 w1 z.play x y hF.play hx hy)) ?_
  refine qs (y_move RF) ?_
  refine qs (y_extract RF RF) ?_
  refine qs (y_extract RF RF) ?_
  refine qs (y_assign RF) ?_
  refine qs (y_assign RF) ?_
  refine sq_nil ?_
  refine sx_then ?_
  refine sc_seq ?_
  refine sc_region ?_
  refine qs (y_move RF) ?_
  refine qs (y_assign RF) ?_
  refine sq_nil ?_
  refine sx_then ?_
  refine sc_ret ?_
  refine sx_ret1 (.inl rfl) rfl Try.results89 RF ?_
  intro w' hw'
  exact ⟨rfl, hw'.below MM⟩
theorem May51 (w : World) (z : Pz) (hF : PzF z) (a : Option Addr) (c : Nat) (hp : RowsA pcRow 28 0 w a z.pieces) (al : Option Addr) (cl : Nat) (l : List Ly) (hl : RowsA lyRow 2 0 w al l) (hok : ∀ x, x ∈ l → LyOk z x) (hln : l.length < z.pieces.length) (x : Ly) (hx : LyOk z x) (hun : usedB l x.1 = false) : Calls Try.prog 51 #[.agg (pzRow z a c).toArray, .slice al l.length cl, .agg (lyRow x).toArray] w fun e w' => e = .returned (.bool (mayV z l x)) ∧ Below w.heap.size w w' := by
  have hlen := hp.len
  have hn := hF.n
  have hw0 := hF.w
  have hh0 := hF.h
  have hge := row_ge hF (n := l.length)
  have hce := col_ge (z := z) (n := l.length)
  have hlx : ∀ i, i < l.length → LyOk z (lyD l i) := fun i hi => hok _ (List.mem_of_getElem? (get_of_lt (0, 0) hi))
  have hne : ∀ i, i < l.length → (lyD l i).1 ≠ x.1 := fun i hi => used_ne hun hi
  refine calls_of_SC (args := [.agg (pzRow z a c).toArray, .slice al l.length cl, .agg (lyRow x).toArray]) Try.func51 rfl Try.ntmps51 rfl ?_
  simp only [argL, Nat.reduceAdd, Nat.zero_add]
  refine sc_seq ?_
  refine sc_region ?_
  refine sq_box RF rfl (fun b3 => ?_)
  refine sq_box RF rfl (fun b5 => ?_)
  refine qs (y_assign RF) ?_
  refine sq_nil ?_
  refine sx_then ?_
  refine sc_seq ?_
  refine sc_seq ?_
  refine sc_region ?_
  refine qs (y_assign RF) ?_
  refine sq_nil ?_
  refine sx_then ?_
  refine sc_block ?_
  refine sc_loop (σ := Nat)
    (fun s_ => [(1, .slice al l.length cl), (3, .pointer (some ⟨b3, 0, none⟩)), (5, .pointer (some ⟨b5, 0, none⟩)), (7, .int .i64 s_)])
    (fun s_ => [.blk b3 (.cells (pzRow z a c).toArray 62 (0, 0)), .blk b5 (.cells (lyRow x).toArray 70 (0, 0)), .reg 0 w])
    (fun s_ => s_ ≤ l.length)
    (fun s_ => l.length - s_)
    (0) ?_ SU SR ?_
  · exact Nat.zero_le _
  rintro i hi
  refine sc_seq ?_
  refine sc_seq ?_
  refine sc_region ?_
  refine qs (y_move RF) ?_
  refine qs (y_move RF) ?_
  refine qs (y_len Try.underlying64 RF) ?_
  refine qs (y_lss RF RF) ?_
  refine sq_nil ?_
  refine sx_then ?_
  refine scp (fun hc0 => ?_) (fun hc0 => ?_)
  ·
    have hi' : i < l.length := by omega
    have hsi := (hl.get (0, 0) hi').1
    have hci : CA 0 w (elt al i 2) (lyRow (lyD l i)) := (hl.get (0, 0) hi').2
    refine sc_skip ?_
    refine sx_then ?_
    refine sc_seq ?_
    refine sc_block ?_
    refine sc_seq ?_
    refine sc_draw rfl (by kernel_rfl) (by kernel_rfl) ?_
    refine qq_y (OpY.s (y_move RF)) rfl ?_
    refine qq_y (OpY.s (y_move RF)) rfl ?_
    refine qq_y (OpY.s (y_ia_el (i := i) Try.underlying64 Try.sizeOf70 RF RF hi' hsi)) rfl ?_
    refine qq_y (OpY.s FA70_3) rfl ?_
    refine qq_y (OpY.s (by first | exact y_load_caj Try.underlying3 rfl RF MM hci rfl | exact LD3)) rfl ?_
    refine qq_y (OpY.s FA70_3) rfl ?_
    refine qq_y (OpY.s LD3) rfl ?_
    refine qq_y (OpY.s (y_eql RF RF)) rfl ?_
    refine qq_nil ?_
    refine sx_then ?_
    refine sc_f (lk_bool rfl (decide_eq_false (by have := hne i hi'; omega))) ?_
    refine sc_skip ?_
    refine sx_blk ?_
    refine sx_then ?_
    refine sc_region ?_
    refine qs (y_move RF) ?_
    refine qs (y_add RF RF (by omega)) ?_
    refine qs (y_assign RF) ?_
    refine sq_nil ?_
    refine sx_round (i + 1) ?_ ?_ SU SR
    · omega
    · omega
  ·
    refine sc_exit ?_
    refine sx_then_exit ?_
    refine sx_round_exit ?_
    refine sx_blk_hit ?_
    refine sx_then ?_
    refine sc_seq ?_
    refine sc_region ?_
    refine qs (y_move RF) ?_
    refine qs (y_len Try.underlying64 RF) ?_
    refine qs (y_assign RF) ?_
    refine sq_nil ?_
    refine sx_then ?_
    refine sc_seq ?_
    refine sc_draw rfl (by kernel_rfl) (by kernel_rfl) ?_
    refine qq_y (OpY.s (y_move RF)) rfl ?_
    refine qq_y (OpY.s FA62_3) rfl ?_
    refine qq_y (OpY.s LD3) rfl ?_
    refine qq_y (OpY.s (y_quo RF RF (by omega) (by omega))) rfl ?_
    rw [show ((l.length : Nat) : Int) / z.wide = rowI z l.length from rfl]
    refine qq_y (OpY.s (y_move RF)) rfl ?_
    refine qq_y (OpY.s FA62_3) rfl ?_
    refine qq_y (OpY.s LD3) rfl ?_
    refine qq_y (OpY.s (y_rem RF RF (by omega) (by omega))) rfl ?_
    rw [show ((l.length : Nat) : Int) % z.wide = colI z l.length from rfl]
    refine qq_y (OpY.s (y_assign RF)) rfl ?_
    refine qq_y (OpY.s (y_assign RF)) rfl ?_
    refine qq_nil ?_
    refine sx_then ?_
    refine sc_seq ?_
    refine sc_region ?_
    refine qs (y_move RF) ?_
    refine qs (y_eql RF RF) ?_
    refine qs (y_move RF) ?_
    refine qs FA62_3 ?_
    refine qs LD3 ?_
    refine qs (y_sub RF RF (by omega)) ?_
    refine qs (y_eql RF RF) ?_
    refine qs (y_move RF) ?_
    refine qs FA62_3 ?_
    refine qs LD3 ?_
    refine qs (y_sub RF RF (by omega)) ?_
    refine qs (y_eql RF RF) ?_
    refine qs (y_move RF) ?_
    refine qs (y_eql RF RF) ?_
    refine qs (y_build_arr (cells := #[.bool (rimB z l.length 0), .bool (rimB z l.length 1), .bool (rimB z l.length 2), .bool (rimB z l.length 3)]) Try.underlying139 Try.zeroValue139 Try.sizeOf4 (EvP.cons RF (EvP.cons RF (EvP.cons RF (EvP.cons RF EvP.nil)))) (by kernel_rfl)) ?_
    refine sq_alloc Try.zeroValue139 rfl (fun b11 => ?_)
    refine sq_store_all (vs := [.bool (rimB z l.length 0), .bool (rimB z l.length 1), .bool (rimB z l.length 2), .bool (rimB z l.length 3)]) Try.sizeOf139 RF RF rfl RM rfl rfl ?_
    refine sq_nil ?_
    refine sx_then ?_
    refine sc_seq ?_
    refine sc_seq ?_
    refine sc_region ?_
    refine qs (y_assign RF) ?_
    refine sq_nil ?_
    refine sx_then ?_
    refine sc_block ?_
    refine sc_loop (σ := Nat)
      (fun s_ => [(1, .slice al l.length cl), (3, .pointer (some ⟨b3, 0, none⟩)), (5, .pointer (some ⟨b5, 0, none⟩)), (8, .int .i64 (l.length : Nat)), (9, .int .i64 (rowI z l.length)), (10, .int .i64 (colI z l.length)), (11, .pointer (some ⟨b11, 0, none⟩)), (12, .int .i64 s_)])
      (fun s_ => [.blk b11 (.cells #[.bool (rimB z l.length 0), .bool (rimB z l.length 1), .bool (rimB z l.length 2), .bool (rimB z l.length 3)] 139 (0, 0)), .blk b3 (.cells (pzRow z a c).toArray 62 (0, 0)), .blk b5 (.cells (lyRow x).toArray 70 (0, 0)), .reg 0 w])
      (fun s_ => s_ ≤ 4 ∧ ∀ j, j < s_ → (!rimB z l.length j || flatB z x j) = true)
      (fun s_ => 4 - s_)
      (0) ?_ SU SR ?_
    · exact ⟨Nat.zero_le _, fun j hj => absurd hj (Nat.not_lt_zero j)⟩
    rintro s ⟨hs, hno⟩
    refine sc_seq ?_
    refine sc_seq ?_
    refine sc_region ?_
    refine qs (y_move RF) ?_
    refine qs (y_lss RF RF) ?_
    refine sq_nil ?_
    refine sx_then ?_
    refine scp (fun hc2 => ?_) (fun hc2 => ?_)
    ·
      have hs' : s < 4 := by omega
      refine sc_skip ?_
      refine sx_then ?_
      refine sc_seq ?_
      refine sc_block ?_
      refine sc_seq ?_
      refine sc_region ?_
      refine qs (y_move RF) ?_
      refine qs (y_ia_arr (i := s) Try.underlying139 Try.sizeOf4 RF RF hs') ?_
      refine qs (by first | exact y_load_blk Try.underlying4 rfl RF MM (rim_at' hs') | exact LD4) ?_
      refine qs (y_move RF) ?_
      refine sp 59 (fun hg12_3 => ?_) (fun hg12_3 => ?_)
      ·
        refine qg LD62 ?_
        refine qg LD70 ?_
        refine qg (y_move RF) ?_
        refine sq_gt RF RF (y_call (first := []) (caps := []) RF Try.call88 (EvL.cons RF (EvL.cons RF (EvL.cons RF EvL.nil))) (fun w1 hw1 => Side88 w1 z a c (hp.at hw1 MM) x hx s hs')) rfl ?_
        refine qg (y_field Try.underlying81 RF Try.underlying3 rfl RF RF) ?_
        refine qg (y_neq RF RF) ?_
        refine qs (y_pick_t RF RF) ?_
        refine sq_nil ?_
        refine sx_then ?_
        refine scp (fun hc3 => ?_) (fun hc3 => ?_)
        ·
          refine sc_seq ?_
          refine sc_region ?_
          refine qs (y_assign RF) ?_
          refine sq_nil ?_
          refine sx_then ?_
          refine sc_ret ?_
          refine sx_blk_ret ?_
          refine sx_then_ret ?_
          refine sx_round_ret ?_
          refine sx_blk_ret ?_
          refine sx_then_ret ?_
          refine sx_ret1 (.inl rfl) rfl Try.results51 RF ?_
          intro w' hw'
          exact ⟨by rw [may_rim hs' hg12_3 hc3], hw'.below MM⟩
        ·
          refine sc_skip ?_
          refine sx_blk ?_
          refine sx_then ?_
          refine sc_region ?_
          refine qs (y_move RF) ?_
          refine qs (y_add RF RF (by omega)) ?_
          refine qs (y_assign RF) ?_
          refine sq_nil ?_
          refine sx_round (s + 1) ?_ ?_ SU SR
          · refine ⟨by omega, fun j hj => ?_⟩
            rcases Nat.lt_succ_iff_lt_or_eq.1 hj with h9 | rfl
            · exact hno j h9
            · unfold flatB; rw [decide_eq_true hc3, Bool.or_true]
          · omega
      ·
        refine qf ?_
        refine qf ?_
        refine qf ?_
        refine qf ?_
        refine qf ?_
        refine qf ?_
        refine qs (y_pick_f RF RF) ?_
        refine sq_nil ?_
        refine sx_then ?_
        refine sc_f RF ?_
        refine sc_skip ?_
        refine sx_blk ?_
        refine sx_then ?_
        refine sc_region ?_
        refine qs (y_move RF) ?_
        refine qs (y_add RF RF (by omega)) ?_
        refine qs (y_assign RF) ?_
        refine sq_nil ?_
        refine sx_round (s + 1) ?_ ?_ SU SR
        · refine ⟨by omega, fun j hj => ?_⟩
          rcases Nat.lt_succ_iff_lt_or_eq.1 hj with h9 | rfl
          · exact hno j h9
          · rw [hg12_3]; rfl
        · omega
    ·
      have hall := may_all (z := z) (l := l) (x := x) fun j hj => hno j (by omega)
      refine sc_exit ?_
      refine sx_then_exit ?_
      refine sx_round_exit ?_
      refine sx_blk_hit ?_
      refine sx_then ?_
      refine sc_seq ?_
      refine sc_seq ?_
      refine sc_drawR (by kernel_rfl) ?_
      refine xj_s 0 RF (by kernel_rfl) SR (y_move RF) rfl ?_
      refine xj_s 1 RF (by kernel_rfl) SR (y_gtr RF RF) rfl ?_
      refine xj_s 2 RF (by kernel_rfl) SR (y_move RF) rfl ?_
      first | refine xj_splitd (tt := 69) RF (fun hg14_2 => ?_) (fun hg14_2 => ?_) | refine xj_splitn (tt := 69) RF (fun hg14_2 => ?_) (fun hg14_2 => ?_) | refine xj_split (tt := 69) RF (fun hg14_2 => ?_) (fun hg14_2 => ?_)
      ·
        refine xj_gt 3 RF RF RF (by kernel_rfl) SR LD62 rfl ?_
        refine xj_gt 4 RF RF RF (by kernel_rfl) SR LD62 rfl ?_
        refine xj_gt 5 RF RF RF (by kernel_rfl) SR (y_move RF) rfl ?_
        refine xj_gt 6 RF RF RF (by kernel_rfl) SR (y_move RF) rfl ?_
        refine xj_gt 7 RF RF RF (by kernel_rfl) SR FA62_3 rfl ?_
        refine xj_gt 8 RF RF RF (by kernel_rfl) SR LD3 rfl ?_
        refine xj_gt 9 RF RF RF (by kernel_rfl) SR (y_sub RF RF (by omega)) rfl ?_
        refine xj_gt 10 RF RF RF (by kernel_rfl) SR (y_ia_el (i := l.length - z.wide.toNat) Try.underlying64 Try.sizeOf70 RF (ev_int RF (by omega)) (by omega) (hl.get (i := l.length - z.wide.toNat) (0, 0) (by omega)).1) rfl ?_
        refine xj_gt 11 RF RF RF (by kernel_rfl) SR (by first | exact y_load_ca Try.underlying70 rfl Try.sizeOf70 RF MM (hl.get (i := l.length - z.wide.toNat) (0, 0) (by omega)).2 rfl | exact LD70) rfl ?_
        refine xj_gt 13 RF RF RF (by kernel_rfl) SR LD62 rfl ?_
        refine xj_gt 14 RF RF RF (by kernel_rfl) SR LD70 rfl ?_
        refine xj_one 12 RF (by kernel_rfl) ?_
        refine sq_gt RF RF (y_call (first := []) (caps := []) RF Try.call88 (EvL.cons RF (EvL.cons RF (EvL.cons RF EvL.nil))) (fun w1 hw1 => Side88 w1 z a c (hp.at hw1 MM) (lyD l (l.length - z.wide.toNat)) (hlx _ (by omega)) 2 (by decide))) rfl ?_
        refine sq_nil ?_
        refine sx_xp SR ?_
        refine xj_one 15 RF (by kernel_rfl) ?_
        refine sq_gt RF RF (y_call (first := []) (caps := []) RF Try.call88 (EvL.cons RF (EvL.cons RF (EvL.cons RF EvL.nil))) (fun w1 hw1 => Side88 w1 z a c (hp.at hw1 MM) x hx 0 (by decide))) rfl ?_
        refine sq_nil ?_
        refine sx_xp SR ?_
        refine xj_one 16 RF (by kernel_rfl) ?_
        refine sq_gt RF RF (y_call (first := []) (caps := []) RF Try.call89 (EvL.cons RF (EvL.cons RF (EvL.cons RF EvL.nil))) (fun w1 _ => fit89 w1 z hF a c (edAt z (sdK (lyD l (l.length - z.wide.toNat)) 2)) (edAt z (sdK x 0)) (hF.ed (hlx _ (by omega)).1) (hF.ed hx.1))) rfl ?_
        refine sq_nil ?_
        refine sx_xp SR ?_
        try rw [← meet_ne (z := z) (k := sdK (lyD l (l.length - z.wide.toNat)) 2) (q := sdK x 0) (hne _ (by omega))]
        refine xj_gt 17 RF RF RF (by kernel_rfl) SR (y_eql RF RF) rfl ?_
        refine xj_s 18 RF (by kernel_rfl) SR (y_pick_t RF RF) rfl ?_
        refine xj_done (by kernel_rfl) ?_
        refine sx_then ?_
        refine scp (fun hc4 => ?_) (fun hc4 => ?_)
        ·
          refine sc_seq ?_
          refine sc_region ?_
          refine qs (y_assign RF) ?_
          refine sq_nil ?_
          refine sx_then ?_
          refine sc_ret ?_
          refine sx_then_ret ?_
          refine sx_ret1 (.inl rfl) rfl Try.results51 RF ?_
          intro w' hw'
          refine ⟨?_, hw'.below MM⟩
          rw [hall]
          simp [*]
        ·
          refine sc_skip ?_
          refine sx_then ?_
          refine sc_seq ?_
          refine sc_drawR (by kernel_rfl) ?_
          refine xj_s 0 RF (by kernel_rfl) SR (y_move RF) rfl ?_
          refine xj_s 1 RF (by kernel_rfl) SR (y_eql RF RF) rfl ?_
          refine xj_s 2 RF (by kernel_rfl) SR (y_move RF) rfl ?_
          first | refine xj_splitd (tt := 88) RF (fun hg16_2 => ?_) (fun hg16_2 => ?_) | refine xj_splitn (tt := 88) RF (fun hg16_2 => ?_) (fun hg16_2 => ?_) | refine xj_split (tt := 88) RF (fun hg16_2 => ?_) (fun hg16_2 => ?_)
          ·
            refine xj_gf 3 RF RF RF rfl (by kernel_rfl) SR rfl ?_
            refine xj_gf 4 RF RF RF rfl (by kernel_rfl) SR rfl ?_
            refine xj_gf 5 RF RF RF rfl (by kernel_rfl) SR rfl ?_
            refine xj_gf 6 RF RF RF rfl (by kernel_rfl) SR rfl ?_
            refine xj_gf 7 RF RF RF rfl (by kernel_rfl) SR rfl ?_
            refine xj_gf 8 RF RF RF rfl (by kernel_rfl) SR rfl ?_
            refine xj_gf 9 RF RF RF rfl (by kernel_rfl) SR rfl ?_
            refine xj_gf 10 RF RF RF rfl (by kernel_rfl) SR rfl ?_
            refine xj_gf 11 RF RF RF rfl (by kernel_rfl) SR rfl ?_
            refine xj_gf 12 RF RF RF rfl (by kernel_rfl) SR rfl ?_
            refine xj_gf 13 RF RF RF rfl (by kernel_rfl) SR rfl ?_
            refine xj_gf 14 RF RF RF rfl (by kernel_rfl) SR rfl ?_
            try rw [← meet_ne (z := z) (k := sdK (lyD l (l.length - 1)) 1) (q := sdK x 3) (hne _ (by omega))]
            refine xj_gf 15 RF RF RF rfl (by kernel_rfl) SR rfl ?_
            refine xj_s 16 RF (by kernel_rfl) SR (y_pick_t RF RF) rfl ?_
            refine xj_s 17 RF (by kernel_rfl) SR (y_assign RF) rfl ?_
            refine xj_done (by kernel_rfl) ?_
            refine sx_then ?_
            refine sc_ret ?_
            refine sx_ret1 (.inl rfl) rfl Try.results51 RF ?_
            intro w' hw'
            refine ⟨?_, hw'.below MM⟩
            rw [hall]
            simp [*]
          ·
            refine xj_gt 3 RF RF RF (by kernel_rfl) SR LD62 rfl ?_
            refine xj_gt 4 RF RF RF (by kernel_rfl) SR LD62 rfl ?_
            refine xj_gt 5 RF RF RF (by kernel_rfl) SR (y_move RF) rfl ?_
            refine xj_gt 6 RF RF RF (by kernel_rfl) SR (y_move RF) rfl ?_
            refine xj_gt 7 RF RF RF (by kernel_rfl) SR (y_sub RF RF (by omega)) rfl ?_
            refine xj_gt 8 RF RF RF (by kernel_rfl) SR (y_ia_el (i := l.length - 1) Try.underlying64 Try.sizeOf70 RF (ev_int RF (by omega)) (by omega) (hl.get (i := l.length - 1) (0, 0) (by omega)).1) rfl ?_
            refine xj_gt 9 RF RF RF (by kernel_rfl) SR (by first | exact y_load_ca Try.underlying70 rfl Try.sizeOf70 RF MM (hl.get (i := l.length - 1) (0, 0) (by omega)).2 rfl | exact LD70) rfl ?_
            refine xj_gt 11 RF RF RF (by kernel_rfl) SR LD62 rfl ?_
            refine xj_gt 12 RF RF RF (by kernel_rfl) SR LD70 rfl ?_
            refine xj_one 10 RF (by kernel_rfl) ?_
            refine sq_gt RF RF (y_call (first := []) (caps := []) RF Try.call88 (EvL.cons RF (EvL.cons RF (EvL.cons RF EvL.nil))) (fun w1 hw1 => Side88 w1 z a c (hp.at hw1 MM) (lyD l (l.length - 1)) (hlx _ (by omega)) 1 (by decide))) rfl ?_
            refine sq_nil ?_
            refine sx_xp SR ?_
            refine xj_one 13 RF (by kernel_rfl) ?_
            refine sq_gt RF RF (y_call (first := []) (caps := []) RF Try.call88 (EvL.cons RF (EvL.cons RF (EvL.cons RF EvL.nil))) (fun w1 hw1 => Side88 w1 z a c (hp.at hw1 MM) x hx 3 (by decide))) rfl ?_
            refine sq_nil ?_
            refine sx_xp SR ?_
            refine xj_one 14 RF (by kernel_rfl) ?_
            refine sq_gt RF RF (y_call (first := []) (caps := []) RF Try.call89 (EvL.cons RF (EvL.cons RF (EvL.cons RF EvL.nil))) (fun w1 _ => fit89 w1 z hF a c (edAt z (sdK (lyD l (l.length - 1)) 1)) (edAt z (sdK x 3)) (hF.ed (hlx _ (by omega)).1) (hF.ed hx.1))) rfl ?_
            refine sq_nil ?_
            refine sx_xp SR ?_
            try rw [← meet_ne (z := z) (k := sdK (lyD l (l.length - 1)) 1) (q := sdK x 3) (hne _ (by omega))]
            refine xj_gt 15 RF RF RF (by kernel_rfl) SR (y_neq RF RF) rfl ?_
            refine xj_s 16 RF (by kernel_rfl) SR (y_pick_f RF RF) rfl ?_
            refine xj_s 17 RF (by kernel_rfl) SR (y_assign RF) rfl ?_
            refine xj_done (by kernel_rfl) ?_
            refine sx_then ?_
            refine sc_ret ?_
            refine sx_ret1 (.inl rfl) rfl Try.results51 RF ?_
            intro w' hw'
            refine ⟨?_, hw'.below MM⟩
            rw [hall]
            simp [*]
      ·
        refine xj_gf 3 RF RF RF rfl (by kernel_rfl) SR rfl ?_
        refine xj_gf 4 RF RF RF rfl (by kernel_rfl) SR rfl ?_
        refine xj_gf 5 RF RF RF rfl (by kernel_rfl) SR rfl ?_
        refine xj_gf 6 RF RF RF rfl (by kernel_rfl) SR rfl ?_
        refine xj_gf 7 RF RF RF rfl (by kernel_rfl) SR rfl ?_
        refine xj_gf 8 RF RF RF rfl (by kernel_rfl) SR rfl ?_
        refine xj_gf 9 RF RF RF rfl (by kernel_rfl) SR rfl ?_
        refine xj_gf 10 RF RF RF rfl (by kernel_rfl) SR rfl ?_
        refine xj_gf 11 RF RF RF rfl (by kernel_rfl) SR rfl ?_
        refine xj_gf 12 RF RF RF rfl (by kernel_rfl) SR rfl ?_
        refine xj_gf 13 RF RF RF rfl (by kernel_rfl) SR rfl ?_
        refine xj_gf 14 RF RF RF rfl (by kernel_rfl) SR rfl ?_
        refine xj_gf 15 RF RF RF rfl (by kernel_rfl) SR rfl ?_
        refine xj_gf 16 RF RF RF rfl (by kernel_rfl) SR rfl ?_
        try rw [← meet_ne (z := z) (k := sdK (lyD l (l.length - z.wide.toNat)) 2) (q := sdK x 0) (hne _ (by omega))]
        refine xj_gf 17 RF RF RF rfl (by kernel_rfl) SR rfl ?_
        refine xj_s 18 RF (by kernel_rfl) SR (y_pick_f RF RF) rfl ?_
        refine xj_done (by kernel_rfl) ?_
        refine sx_then ?_
        refine sc_f RF ?_
        refine sc_skip ?_
        refine sx_then ?_
        refine sc_seq ?_
        refine sc_drawR (by kernel_rfl) ?_
        refine xj_s 0 RF (by kernel_rfl) SR (y_move RF) rfl ?_
        refine xj_s 1 RF (by kernel_rfl) SR (y_eql RF RF) rfl ?_
        refine xj_s 2 RF (by kernel_rfl) SR (y_move RF) rfl ?_
        first | refine xj_splitd (tt := 88) RF (fun hg16_2 => ?_) (fun hg16_2 => ?_) | refine xj_splitn (tt := 88) RF (fun hg16_2 => ?_) (fun hg16_2 => ?_) | refine xj_split (tt := 88) RF (fun hg16_2 => ?_) (fun hg16_2 => ?_)
        ·
          refine xj_gf 3 RF RF RF rfl (by kernel_rfl) SR rfl ?_
          refine xj_gf 4 RF RF RF rfl (by kernel_rfl) SR rfl ?_
          refine xj_gf 5 RF RF RF rfl (by kernel_rfl) SR rfl ?_
          refine xj_gf 6 RF RF RF rfl (by kernel_rfl) SR rfl ?_
          refine xj_gf 7 RF RF RF rfl (by kernel_rfl) SR rfl ?_
          refine xj_gf 8 RF RF RF rfl (by kernel_rfl) SR rfl ?_
          refine xj_gf 9 RF RF RF rfl (by kernel_rfl) SR rfl ?_
          refine xj_gf 10 RF RF RF rfl (by kernel_rfl) SR rfl ?_
          refine xj_gf 11 RF RF RF rfl (by kernel_rfl) SR rfl ?_
          refine xj_gf 12 RF RF RF rfl (by kernel_rfl) SR rfl ?_
          refine xj_gf 13 RF RF RF rfl (by kernel_rfl) SR rfl ?_
          refine xj_gf 14 RF RF RF rfl (by kernel_rfl) SR rfl ?_
          try rw [← meet_ne (z := z) (k := sdK (lyD l (l.length - 1)) 1) (q := sdK x 3) (hne _ (by omega))]
          refine xj_gf 15 RF RF RF rfl (by kernel_rfl) SR rfl ?_
          refine xj_s 16 RF (by kernel_rfl) SR (y_pick_t RF RF) rfl ?_
          refine xj_s 17 RF (by kernel_rfl) SR (y_assign RF) rfl ?_
          refine xj_done (by kernel_rfl) ?_
          refine sx_then ?_
          refine sc_ret ?_
          refine sx_ret1 (.inl rfl) rfl Try.results51 RF ?_
          intro w' hw'
          refine ⟨?_, hw'.below MM⟩
          rw [hall]
          simp [*]
        ·
          refine xj_gt 3 RF RF RF (by kernel_rfl) SR LD62 rfl ?_
          refine xj_gt 4 RF RF RF (by kernel_rfl) SR LD62 rfl ?_
          refine xj_gt 5 RF RF RF (by kernel_rfl) SR (y_move RF) rfl ?_
          refine xj_gt 6 RF RF RF (by kernel_rfl) SR (y_move RF) rfl ?_
          refine xj_gt 7 RF RF RF (by kernel_rfl) SR (y_sub RF RF (by omega)) rfl ?_
          refine xj_gt 8 RF RF RF (by kernel_rfl) SR (y_ia_el (i := l.length - 1) Try.underlying64 Try.sizeOf70 RF (ev_int RF (by omega)) (by omega) (hl.get (i := l.length - 1) (0, 0) (by omega)).1) rfl ?_
          refine xj_gt 9 RF RF RF (by kernel_rfl) SR (by first | exact y_load_ca Try.underlying70 rfl Try.sizeOf70 RF MM (hl.get (i := l.length - 1) (0, 0) (by omega)).2 rfl | exact LD70) rfl ?_
          refine xj_gt 11 RF RF RF (by kernel_rfl) SR LD62 rfl ?_
          refine xj_gt 12 RF RF RF (by kernel_rfl) SR LD70 rfl ?_
          refine xj_one 10 RF (by kernel_rfl) ?_
          refine sq_gt RF RF (y_call (first := []) (caps := []) RF Try.call88 (EvL.cons RF (EvL.cons RF (EvL.cons RF EvL.nil))) (fun w1 hw1 => Side88 w1 z a c (hp.at hw1 MM) (lyD l (l.length - 1)) (hlx _ (by omega)) 1 (by decide))) rfl ?_
          refine sq_nil ?_
          refine sx_xp SR ?_
          refine xj_one 13 RF (by kernel_rfl) ?_
          refine sq_gt RF RF (y_call (first := []) (caps := []) RF Try.call88 (EvL.cons RF (EvL.cons RF (EvL.cons RF EvL.nil))) (fun w1 hw1 => Side88 w1 z a c (hp.at hw1 MM) x hx 3 (by decide))) rfl ?_
          refine sq_nil ?_
          refine sx_xp SR ?_
          refine xj_one 14 RF (by kernel_rfl) ?_
          refine sq_gt RF RF (y_call (first := []) (caps := []) RF Try.call89 (EvL.cons RF (EvL.cons RF (EvL.cons RF EvL.nil))) (fun w1 _ => fit89 w1 z hF a c (edAt z (sdK (lyD l (l.length - 1)) 1)) (edAt z (sdK x 3)) (hF.ed (hlx _ (by omega)).1) (hF.ed hx.1))) rfl ?_
          refine sq_nil ?_
          refine sx_xp SR ?_
          try rw [← meet_ne (z := z) (k := sdK (lyD l (l.length - 1)) 1) (q := sdK x 3) (hne _ (by omega))]
          refine xj_gt 15 RF RF RF (by kernel_rfl) SR (y_neq RF RF) rfl ?_
          refine xj_s 16 RF (by kernel_rfl) SR (y_pick_f RF RF) rfl ?_
          refine xj_s 17 RF (by kernel_rfl) SR (y_assign RF) rfl ?_
          refine xj_done (by kernel_rfl) ?_
          refine sx_then ?_
          refine sc_ret ?_
          refine sx_ret1 (.inl rfl) rfl Try.results51 RF ?_
          intro w' hw'
          refine ⟨?_, hw'.below MM⟩
          rw [hall]
          simp [*]
theorem Solution17 (w : World) (z : Pz) (hF : PzF z) (a : Option Addr) (c : Nat) (hp : RowsA pcRow 28 0 w a z.pieces) (al : Option Addr) (cl : Nat) (l : List Ly) (hl : RowsA lyRow 2 0 w al l) (hcl : l.length ≤ cl) (hS : SolOk z l) : Calls Try.prog 17 #[.agg (pzRow z a c).toArray, .slice al l.length cl] w fun e w' => e = .returned (.bool true) ∧ Below w.heap.size w w' := by
  have hlen := hp.len
  have hn := hF.n
  have hll := hS.len
  refine calls_of_SC (args := [.agg (pzRow z a c).toArray, .slice al l.length cl]) Try.func17 rfl Try.ntmps17 rfl ?_
  simp only [argL, Nat.zero_add]
  refine sc_seq ?_
  refine sc_region ?_
  refine sq_box RF rfl (fun b2 => ?_)
  refine qs (y_assign RF) ?_
  refine sq_nil ?_
  refine sx_then ?_
  refine sc_seq ?_
  refine sc_seq ?_
  refine sc_region ?_
  refine qs (y_move RF) ?_
  refine qs (y_len Try.underlying64 RF) ?_
  refine qs FA62_60 ?_
  refine qs LD60 ?_
  refine qs (y_len Try.underlying60 RF) ?_
  refine qs (y_neq RF RF) ?_
  refine sq_nil ?_
  refine sx_then ?_
  refine sc_f (lk_bool rfl (by rw [decide_eq_true (by omega)]; rfl)) ?_
  refine sc_skip ?_
  refine sx_then ?_
  refine sc_seq ?_
  refine sc_seq ?_
  refine sc_region ?_
  refine qs (y_assign RF) ?_
  refine sq_nil ?_
  refine sx_then ?_
  refine sc_block ?_
  refine sc_loop (σ := Nat)
    (fun s => [(1, .slice al l.length cl), (2, .pointer (some ⟨b2, 0, none⟩)), (5, .int .i64 s)])
    (fun s => [.blk b2 (.cells (pzRow z a c).toArray 62 (0, 0)), .reg 0 w])
    (fun s => s ≤ l.length)
    (fun s => l.length - s)
    (0) ?_ SU SR ?_
  · exact Nat.zero_le _
  rintro i hi
  refine sc_seq ?_
  refine sc_seq ?_
  refine sc_region ?_
  refine qs (y_move RF) ?_
  refine qs (y_move RF) ?_
  refine qs (y_len Try.underlying64 RF) ?_
  refine qs (y_lss RF RF) ?_
  refine sq_nil ?_
  refine sx_then ?_
  refine scp (fun hc1 => ?_) (fun hc1 => ?_)
  ·
    have hi' : i < l.length := by omega
    have hsi := (hl.get (0, 0) hi').1
    have hci : CA 0 w (elt al i 2) (lyRow (lyD l i)) := (hl.get (0, 0) hi').2
    have hti : (l.take i).length = i := by rw [List.length_take]; omega
    have hpc := hS.pc i (by omega)
    have htn := hS.tn i (by omega)
    have htl := trn_le z (lyD l i).1
    have hmay := hS.may i (by omega)
    refine sc_skip ?_
    refine sx_then ?_
    refine sc_seq ?_
    refine sc_block ?_
    refine sc_seq ?_
    refine sc_drawR (by kernel_rfl) ?_
    refine xj_s 0 RF (by kernel_rfl) SR (y_move RF) rfl ?_
    refine xj_s 1 RF (by kernel_rfl) SR (y_move RF) rfl ?_
    refine xj_s 2 RF (by kernel_rfl) SR (y_ia_el (i := i) Try.underlying64 Try.sizeOf70 RF RF hi' hsi) rfl ?_
    refine xj_s 3 RF (by kernel_rfl) SR FA70_3 rfl ?_
    refine xj_s 4 RF (by kernel_rfl) SR (by first | exact y_load_caj Try.underlying3 rfl RF MM hci rfl | exact LD3) rfl ?_
    refine xj_s 5 RF (by kernel_rfl) SR FA62_60 rfl ?_
    refine xj_s 6 RF (by kernel_rfl) SR LD60 rfl ?_
    refine xj_s 7 RF (by kernel_rfl) SR (y_len Try.underlying60 RF) rfl ?_
    refine xj_s 8 RF (by kernel_rfl) SR (y_sub RF RF (by omega)) rfl ?_
    refine xj_one 9 RF (by kernel_rfl) ?_
    refine qy (yc Try.call43 E3 (fun w1 _ => in43 _ _ _ w1)) ?_
    refine sq_nil ?_
    refine sx_xp SR ?_
    refine xj_s 10 RF (by kernel_rfl) SR (y_not RF) rfl ?_
    refine xj_s 11 RF (by kernel_rfl) SR (y_move RF) rfl ?_
    refine xj_known (tt := 29) (b' := false) RF (by rw [decide_eq_true (by omega)]; rfl) ?_
    refine xj_gt 12 RF RF RF (by kernel_rfl) SR (y_move RF) rfl ?_
    refine xj_gt 13 RF RF RF (by kernel_rfl) SR (y_move RF) rfl ?_
    refine xj_gt 14 RF RF RF (by kernel_rfl) SR (y_ia_el (i := i) Try.underlying64 Try.sizeOf70 RF RF hi' hsi) rfl ?_
    refine xj_gt 15 RF RF RF (by kernel_rfl) SR FA70_3 rfl ?_
    refine xj_gt 16 RF RF RF (by kernel_rfl) SR (by first | exact y_load_caj Try.underlying3 rfl RF MM hci rfl | exact LD3) rfl ?_
    refine xj_gt 17 RF RF RF (by kernel_rfl) SR LD62 rfl ?_
    refine xj_gt 18 RF RF RF (by kernel_rfl) SR (y_move RF) rfl ?_
    refine xj_gt 19 RF RF RF (by kernel_rfl) SR (y_move RF) rfl ?_
    refine xj_gt 20 RF RF RF (by kernel_rfl) SR (y_ia_el (i := i) Try.underlying64 Try.sizeOf70 RF RF hi' hsi) rfl ?_
    refine xj_gt 21 RF RF RF (by kernel_rfl) SR FA70_3 rfl ?_
    refine xj_gt 22 RF RF RF (by kernel_rfl) SR (by first | exact y_load_caj Try.underlying3 rfl RF MM hci rfl | exact LD3) rfl ?_
    refine xj_one 23 RF (by kernel_rfl) ?_
    refine sq_gt RF RF (y_call (first := []) (caps := []) RF Try.call50 (EvL.cons RF (EvL.cons RF EvL.nil)) (fun w1 _ => Turns50 w1 z a c (lyD l i).1)) rfl ?_
    refine sq_nil ?_
    refine sx_xp SR ?_
    refine xj_gt 24 RF RF RF (by kernel_rfl) SR (y_sub RF RF (by omega)) rfl ?_
    refine xj_one 25 RF (by kernel_rfl) ?_
    refine sq_gt RF RF (y_call (first := []) (caps := []) RF Try.call43 (EvL.cons RF (EvL.cons RF (EvL.cons RF EvL.nil))) (fun w1 _ => in43 _ _ _ w1)) rfl ?_
    refine sq_nil ?_
    refine sx_xp SR ?_
    refine xj_gt 26 RF RF RF (by kernel_rfl) SR (y_not RF) rfl ?_
    refine xj_s 27 RF (by kernel_rfl) SR (y_pick_f RF RF) rfl ?_
    refine xj_s 28 RF (by kernel_rfl) SR (y_move RF) rfl ?_
    refine xj_known (tt := 46) (b' := false) RF (by rw [decide_eq_true (by omega)]; rfl) ?_
    refine xj_gt 29 RF RF RF (by kernel_rfl) SR LD62 rfl ?_
    refine xj_gt 30 RF RF RF (by kernel_rfl) SR (y_move RF) rfl ?_
    refine xj_gt 31 RF RF RF (by kernel_rfl) SR (y_move RF) rfl ?_
    refine xj_gt 32 RF RF RF (by kernel_rfl) SR (y_slice_h Try.underlying64 Try.sizeOf70 RF RF (by omega)) rfl ?_
    refine xj_gt 33 RF RF RF (by kernel_rfl) SR (y_move RF) rfl ?_
    refine xj_gt 34 RF RF RF (by kernel_rfl) SR (y_move RF) rfl ?_
    refine xj_gt 35 RF RF RF (by kernel_rfl) SR (y_ia_el (i := i) Try.underlying64 Try.sizeOf70 RF RF hi' hsi) rfl ?_
    refine xj_gt 36 RF RF RF (by kernel_rfl) SR (by first | exact y_load_ca Try.underlying70 rfl Try.sizeOf70 RF MM hci rfl | exact LD70) rfl ?_
    refine xj_one 37 RF (by kernel_rfl) ?_
    refine sq_gt RF RF (y_call (first := []) (caps := []) RF Try.call51 (EvL.cons RF (EvL.cons RF (EvL.cons RF EvL.nil))) (fun w1 hw1 => by
      have h9 := May51 w1 z hF a c (hp.at hw1 MM) al cl (l.take i) ((hl.at hw1 MM).take i) (fun x hx => hS.mem x (List.mem_of_mem_take hx)) (by rw [hti]; omega) (lyD l i) (hS.ly (by omega)) (hS.un i (by omega))
      rw [hti] at h9; exact h9)) rfl ?_
    refine sq_nil ?_
    refine sx_xp SR ?_
    refine xj_gt 38 RF RF RF (by kernel_rfl) SR (y_not RF) rfl ?_
    refine xj_s 39 RF (by kernel_rfl) SR (y_pick_f RF RF) rfl ?_
    refine xj_done (by kernel_rfl) ?_
    refine sx_then ?_
    refine sc_f (lk_bool rfl (by rw [hmay]; rfl)) ?_
    refine sc_skip ?_
    refine sx_blk ?_
    refine sx_then ?_
    refine sc_region ?_
    refine qs (y_move RF) ?_
    refine qs (y_add RF RF (by omega)) ?_
    refine qs (y_assign RF) ?_
    refine sq_nil ?_
    refine sx_round (i + 1) ?_ ?_ SU SR
    · omega
    · omega
  ·
    refine sc_exit ?_
    refine sx_then_exit ?_
    refine sx_round_exit ?_
    refine sx_blk_hit ?_
    refine sx_then ?_
    refine sc_seq ?_
    refine sc_region ?_
    refine qs (y_assign RF) ?_
    refine sq_nil ?_
    refine sx_then ?_
    refine sc_ret ?_
    refine sx_ret1 (.inl rfl) rfl Try.results17 RF ?_
    intro w' hw'
    exact ⟨rfl, hw'.below MM⟩
end Go.Proofs.Ytfceajkofpafpaa
