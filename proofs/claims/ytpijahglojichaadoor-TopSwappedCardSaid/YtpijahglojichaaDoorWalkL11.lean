/- The walks of who has the puzzle, of the look that clashes, and of what the document fixes about both. -/
import Derived.Test.YtpijahglojichaaDoorWalkL10
import Derived.Test.YtpijahglojichaaDoorWalk16
namespace Go.Proofs.YtpijahglojichaaDoor
open Go Go.Eng Go.RowKit Go.Proofs
set_option maxRecDepth 100000
theorem windowOf66n (w : World) (a : Option Addr) (c n : Nat) (l : List Sg) (hn : l.length = n) (hl : RowsA sgRow 3 0 w a l) (hs : ∀ s, s ∈ l → s.h ≤ 1048576 ∧ s.th < 65536 ∧ s.g < 65536) (k : Nat) (hk : k < 16) : Calls Tryd.prog 66 #[.slice a n c, .int .i64 (k : Int)] w fun e w' => e = .returned (.agg #[.int .i64 ((winW l k).1 : Int), .int .i64 ((winW l k).2 : Int)]) ∧ Below w.heap.size w w' := by
  subst hn; exact windowOf66 w a c l hl hs k hk
/-- who has the puzzle, by at most one loan, that has the hour -/
def holdA (t : Tl) : Int := if t.loans.length = 0 then -1 else ((t.loans.getD 0 ln0).p : Int)

theorem index65h (w : World) (at_ : Int) (a : Option Addr) (c : Nat) (l : List Ln) (hl : RowsA lnRow 3 0 w a l) (hin : ∀ x, x ∈ l → (x.f : Int) ≤ at_ ∧ at_ < (x.t : Int)) : Calls Tryd.prog 65 #[.slice a l.length c, .func (.func 64) #[.int .i64 at_] #[]] w fun e w' => e = .returned (.int .i64 (if l.length = 0 then -1 else 0)) ∧ Below w.heap.size w w' := by
  have hlen := hl.len
  refine calls_of_SC (args := [.slice a l.length c, .func (.func 64) #[.int .i64 at_] #[]]) Tryd.func65 rfl Tryd.ntmps65 rfl ?_
  simp only [argL, Nat.zero_add]
  refine sc_seq ?_
  refine sc_region ?_
  refine qs (y_assign RF) ?_
  refine sq_nil ?_
  refine sx_then ?_
  refine sc_seq ?_
  refine sc_seq ?_
  refine sc_region ?_
  refine qs (y_move RF) ?_
  refine qs (y_len Tryd.underlying59 RF) ?_
  refine qs (y_move RF) ?_
  refine sq_nil ?_
  refine sx_then ?_
  refine sc_block ?_
  refine sc_loop (σ := Nat)
    (fun s_ => [(0, .slice a l.length c), (1, .func (.func 64) #[.int .i64 at_] #[]), (7, .int .i64 l.length), (8, .int .i64 (0 : Nat))])
    (fun s_ => [.reg 0 w])
    (fun s_ => True)
    (fun s_ => 0)
    (0) ?_ SU SR ?_
  · trivial
  rintro s _
  refine sc_seq ?_
  refine sc_region ?_
  refine qs (y_lss RF RF) ?_
  refine sq_nil ?_
  refine sx_then ?_
  refine sc_seq ?_
  refine scp (fun hc0 => ?_) (fun hc0 => ?_)
  ·
    have h0 : 0 < l.length := by omega
    have hs0 := (hl.get ln0 h0).1
    have hc0x := (hl.get ln0 h0).2
    have hi0 := hin _ (getD_mem (d := ln0) h0)
    refine sc_skip ?_
    refine sx_then ?_
    refine sc_seq ?_
    refine sc_block ?_
    refine sc_seq ?_
    refine sc_region ?_
    refine qs (y_move RF) ?_
    refine qs (y_assign RF) ?_
    refine sq_nil ?_
    refine sx_then ?_
    refine sc_seq ?_
    refine sc_region ?_
    refine qs (y_move RF) ?_
    refine qs (y_move RF) ?_
    refine qs (y_move RF) ?_
    refine qs IA59 ?_
    refine qs (by first | exact y_load_ca Tryd.underlying63 rfl Tryd.sizeOf63 RF MM hc0x (lnRow_len _) | exact LD63) ?_
    refine qy (y_call (first := [.int .i64 at_]) (caps := []) (by exact rfl) Tryd.call64 (EvL.cons RF EvL.nil) (fun w1 hw1 => isIn64 w1 at_ (l.getD 0 ln0))) ?_
    refine sq_nil ?_
    refine sx_then ?_
    refine sc_t (lk_bool rfl (decide_eq_true hi0)) ?_
    refine sc_seq ?_
    refine sc_region ?_
    refine qs (y_move RF) ?_
    refine qs (y_assign RF) ?_
    refine sq_nil ?_
    refine sx_then ?_
    refine sc_ret ?_
    refine sx_blk_ret ?_
    refine sx_then_ret ?_
    refine sx_round_ret ?_
    refine sx_blk_ret ?_
    refine sx_then_ret ?_
    refine sx_ret1 (.inl rfl) rfl Tryd.results65 RF ?_
    intro w' hw'
    rw [if_neg (show ¬ l.length = 0 by omega)]
    exact ⟨rfl, hw'.below MM⟩
  ·
    refine sc_exit ?_
    refine sx_then_exit ?_
    refine sx_round_exit ?_
    refine sx_blk_hit ?_
    refine sx_then ?_
    refine sc_seq ?_
    refine sc_region ?_
    refine qs (y_assign RF) ?_
    refine sq_nil ?_
    refine sx_then ?_
    refine sc_ret ?_
    refine sx_ret1 (.inl rfl) rfl Tryd.results65 RF ?_
    intro w' hw'
    rw [if_pos (show l.length = 0 by omega)]
    exact ⟨rfl, hw'.below MM⟩
theorem Holder36 (w : World) (z : TlA) (t : Tl) (hz : TlAt 0 w z t) (ok : OkT t) (at_ : Int) (hat : 0 ≤ at_ ∧ at_ ≤ 1048575) (hin : ∀ x, x ∈ t.loans → (x.f : Int) ≤ at_ ∧ at_ < (x.t : Int)) : Calls Tryd.prog 36 #[.agg (tlV z t).toArray, .int .i64 at_] w fun e w' => e = .returned (.tuple #[.int .i64 (holdA t), .int .i64 0]) ∧ Below w.heap.size w w' := by
  refine calls_of_SC (args := [.agg (tlV z t).toArray, .int .i64 at_]) Tryd.func36 rfl Tryd.ntmps36 rfl ?_
  simp only [argL, Nat.zero_add]
  refine sc_seq ?_
  refine sc_region ?_
  refine sq_box RF rfl (fun b2 => ?_)
  refine qs (y_assign RF) ?_
  refine qs (y_assign RF) ?_
  refine sq_nil ?_
  refine sx_then ?_
  refine sc_seq ?_
  refine sc_block ?_
  refine sc_seq ?_
  refine sc_region ?_
  refine qs LD61 ?_
  refine qy (yc Tryd.call62 E1 (fun w1 hw1 => isTale62 w1 z t (hz.at hw1 MM) ok)) ?_
  refine qs (y_not RF) ?_
  refine qs (y_assign RF) ?_
  refine sq_nil ?_
  refine sx_then ?_
  refine sc_f (lk_bool rfl (rfl)) ?_
  refine sc_seq ?_
  refine sc_region ?_
  refine qs (y_move RF) ?_
  refine qy (yc Tryd.call63 E3 (fun w1 hw1 => within63 at_ 0 1048575 w1)) ?_
  refine qs (y_not RF) ?_
  refine qs (y_assign RF) ?_
  refine sq_nil ?_
  refine sx_then ?_
  refine sc_f (lk_bool rfl (by rw [decide_eq_true (by omega)]; rfl)) ?_
  refine sc_skip ?_
  refine sx_blk ?_
  refine sx_then ?_
  refine sc_seq ?_
  refine sc_region ?_
  refine qs (y_move RF) ?_
  refine qs (y_makeFunc (EvL.cons RF EvL.nil) EvL.nil) ?_
  refine qs (y_assign RF) ?_
  refine sq_nil ?_
  refine sx_then ?_
  refine sc_seq ?_
  refine sc_seq ?_
  refine sc_region ?_
  refine qs FA61_59 ?_
  refine qs LD59 ?_
  refine qs (y_move RF) ?_
  refine qy (yc Tryd.call65 E2 (fun w1 hw1 => index65h w1 at_ z.la z.lc t.loans (hz.ln.at hw1 MM) hin)) ?_
  refine qs (y_assign RF) ?_
  refine sq_nil ?_
  refine sx_then ?_
  refine sc_seq ?_
  refine sc_region ?_
  refine qs (y_move RF) ?_
  refine qs (y_geq RF RF) ?_
  refine sq_nil ?_
  refine sx_then ?_
  refine scp (fun hc2 => ?_) (fun hc2 => ?_)
  ·
    have hne : t.loans.length ≠ 0 := fun e => by rw [if_pos e] at hc2; omega
    rw [if_neg hne]
    have hs0 := (hz.ln.get ln0 (show 0 < t.loans.length by omega)).1
    have hc0x := (hz.ln.get ln0 (show 0 < t.loans.length by omega)).2
    refine sc_seq ?_
    refine sc_region ?_
    refine qs FA61_59 ?_
    refine qs LD59 ?_
    refine qs (y_move RF) ?_
    refine qs (y_ia_el (i := 0) Tryd.underlying59 Tryd.sizeOf63 RF RF (by omega) hs0) ?_
    refine qs FA63_3 ?_
    refine qs (by first | exact y_load_caj (j := 0) Tryd.underlying3 rfl RF MM hc0x rfl | exact LD3) ?_
    refine qs (y_assign RF) ?_
    refine qs (y_assign RF) ?_
    refine sq_nil ?_
    refine sx_then ?_
    refine sc_ret ?_
    refine sx_then_ret ?_
    refine sx_ret2 (.inl rfl) rfl Tryd.results36 RF RF ?_
    intro w' hw'
    unfold holdA
    rw [if_neg hne]
    exact ⟨rfl, hw'.below MM⟩
  ·
    have he : t.loans.length = 0 := Classical.byContradiction fun e => by rw [if_neg e] at hc2; omega
    refine sc_skip ?_
    refine sx_then ?_
    refine sc_seq ?_
    refine sc_region ?_
    refine qs (y_assign RF) ?_
    refine qs (y_assign RF) ?_
    refine sq_nil ?_
    refine sx_then ?_
    refine sc_ret ?_
    refine sx_ret2 (.inl rfl) rfl Tryd.results36 RF RF ?_
    intro w' hw'
    unfold holdA
    rw [if_pos he]
    exact ⟨rfl, hw'.below MM⟩
theorem part_get {cs : List Value} {o : Nat} (u v : Value) (h : o + 2 ≤ cs.length) : ∀ j x, [u, v][j]? = some x → (cs.take o ++ [u, v] ++ cs.drop (o + 2)).toArray[o + j]? = some x := fun j x hj => by
  have hl : (cs.take o).length = o := by rw [List.length_take]; omega
  have hj2 : j < 2 := (List.getElem?_eq_some_iff.1 hj).1
  rw [List.getElem?_toArray, List.append_assoc, List.getElem?_append_right (by omega), hl, Nat.add_sub_cancel_left, List.getElem?_append_left (by simpa using hj2)]
  exact hj
theorem part_len {cs : List Value} {o : Nat} (u v : Value) (h : o + 2 ≤ cs.length) : (cs.take o ++ [u, v] ++ cs.drop (o + 2)).length = cs.length := by
  simp only [List.length_append, List.length_take, List.length_drop, List.length_cons, List.length_nil]; omega
theorem Clash37 (w : World) (z : TlA) (t : Tl) (hz : TlAt 0 w z t) (np : Nat) (h : TaF t np) (hsc : t.looks.length ≤ z.sc) (hpre : ∀ i, i < t.looks.length → ∀ k, k < t.pieces → (winW (t.looks.take (i + 1)) k).1 < (winW (t.looks.take (i + 1)) k).2) : Calls Tryd.prog 37 #[.agg (tlV z t).toArray] w fun e w' => e = .returned (.tuple #[.int .i64 0, .int .i64 4]) ∧ Below w.heap.size w w' := by
  have hal : t.admits.length = np := by rw [h.ad, admL_len]
  have hp16 := h.ok.p16
  have hpw := pow16 hp16
  have hs20 := h.ok.s20
  refine calls_of_SC (args := [.agg (tlV z t).toArray]) Tryd.func37 rfl Tryd.ntmps37 rfl ?_
  simp only [argL]
  refine sc_seq ?_
  refine sc_region ?_
  refine sq_box RF rfl (fun b1 => ?_)
  refine qs (y_assign RF) ?_
  refine qs (y_assign RF) ?_
  refine sq_nil ?_
  refine sx_then ?_
  refine sc_seq ?_
  refine sc_seq ?_
  refine sc_region ?_
  refine qs LD61 ?_
  refine qy (yc Tryd.call62 E1 (fun w1 hw1 => isTale62 w1 z t (hz.at hw1 MM) h.ok)) ?_
  refine qs (y_not RF) ?_
  refine sq_nil ?_
  refine sx_then ?_
  refine sc_f (lk_bool rfl (rfl)) ?_
  refine sc_skip ?_
  refine sx_then ?_
  refine sc_seq ?_
  refine sc_region ?_
  refine sq_alloc (z := .agg #[.int .i64 0, .int .i64 0, .int .i64 0, .int .i64 0, .int .i64 0, .int .i64 0, .int .i64 0, .int .i64 0, .int .i64 0, .int .i64 0, .int .i64 0, .int .i64 0, .int .i64 0, .int .i64 0, .int .i64 0, .int .i64 0, .int .i64 0, .int .i64 0, .int .i64 0, .int .i64 0, .int .i64 0, .int .i64 0, .int .i64 0, .int .i64 0, .int .i64 0, .int .i64 0, .int .i64 0, .int .i64 0, .int .i64 0, .int .i64 0, .int .i64 0, .int .i64 0]) Tryd.zeroValue114 rfl (fun b4 => ?_)
  refine sq_nil ?_
  refine sx_then ?_
  refine sc_seq ?_
  refine sc_seq ?_
  refine sc_region ?_
  refine qs FA61_58 ?_
  refine qs LD58 ?_
  refine qs (y_len Tryd.underlying58 RF) ?_
  refine qs (y_move RF) ?_
  refine sq_nil ?_
  refine sx_then ?_
  refine sc_block ?_
  refine sc_loop (σ := Nat × List Value)
    (fun s_ => [(1, .pointer (some ⟨b1, 0, none⟩)), (4, .pointer (some ⟨b4, 0, none⟩)), (14, .int .i64 t.looks.length), (15, .int .i64 s_.1)])
    (fun s_ => [.blk b4 (.cells s_.2.toArray 114 (0, 0)), .blk b1 (.cells (tlV z t).toArray 61 (0, 0)), .reg 0 w])
    (fun s_ => s_.1 ≤ t.looks.length ∧ s_.2.length = 32)
    (fun s_ => t.looks.length - s_.1)
    ((0, [Value.int .i64 0, Value.int .i64 0, Value.int .i64 0, Value.int .i64 0, Value.int .i64 0, Value.int .i64 0, Value.int .i64 0, Value.int .i64 0, Value.int .i64 0, Value.int .i64 0, Value.int .i64 0, Value.int .i64 0, Value.int .i64 0, Value.int .i64 0, Value.int .i64 0, Value.int .i64 0, Value.int .i64 0, Value.int .i64 0, Value.int .i64 0, Value.int .i64 0, Value.int .i64 0, Value.int .i64 0, Value.int .i64 0, Value.int .i64 0, Value.int .i64 0, Value.int .i64 0, Value.int .i64 0, Value.int .i64 0, Value.int .i64 0, Value.int .i64 0, Value.int .i64 0, Value.int .i64 0])) ?_ SU SR ?_
  · exact ⟨Nat.zero_le _, rfl⟩
  rintro ⟨i, cs0⟩ ⟨hi, hcs0⟩
  dsimp only at hi hcs0 ⊢
  refine sc_seq ?_
  refine sc_region ?_
  refine qs (y_lss RF RF) ?_
  refine sq_nil ?_
  refine sx_then ?_
  refine sc_seq ?_
  refine scp (fun hc1 => ?_) (fun hc1 => ?_)
  ·
    have hi2 : i < t.looks.length := by omega
    refine sc_skip ?_
    refine sx_then ?_
    refine sc_seq ?_
    refine sc_block ?_
    refine sc_seq ?_
    refine sc_region ?_
    refine qs (y_move RF) ?_
    refine qs (y_assign RF) ?_
    refine sq_nil ?_
    refine sx_then ?_
    refine sc_seq ?_
    refine sc_region ?_
    refine qs FA61_3 ?_
    refine qs LD3 ?_
    refine qs (y_move RF) ?_
    refine sq_nil ?_
    refine sx_then ?_
    refine sc_block ?_
    refine sc_loop (σ := Nat × List Value)
      (fun s_ => [(1, .pointer (some ⟨b1, 0, none⟩)), (4, .pointer (some ⟨b4, 0, none⟩)), (5, .int .i64 i), (14, .int .i64 t.looks.length), (15, .int .i64 i), (19, .int .i64 t.pieces), (20, .int .i64 s_.1)])
      (fun s_ => [.blk b4 (.cells s_.2.toArray 114 (0, 0)), .blk b1 (.cells (tlV z t).toArray 61 (0, 0)), .reg 0 w])
      (fun s_ => s_.1 ≤ t.pieces ∧ s_.2.length = 32)
      (fun s_ => t.pieces - s_.1)
      ((0, cs0)) ?_ SU SR ?_
    · exact ⟨Nat.zero_le _, hcs0⟩
    rintro ⟨k, cs⟩ ⟨hk, hcs⟩
    dsimp only at hk hcs ⊢
    refine sc_seq ?_
    refine sc_region ?_
    refine qs (y_lss RF RF) ?_
    refine sq_nil ?_
    refine sx_then ?_
    refine sc_seq ?_
    refine scp (fun hc2 => ?_) (fun hc2 => ?_)
    ·
      have hk2 : k < t.pieces := by omega
      refine sc_skip ?_
      refine sx_then ?_
      refine sc_seq ?_
      refine sc_block ?_
      refine sc_seq ?_
      refine sc_region ?_
      refine qs (y_move RF) ?_
      refine qs (y_assign RF) ?_
      refine sq_nil ?_
      refine sx_then ?_
      refine sc_seq ?_
      refine sc_region ?_
      refine qs (y_move RF) ?_
      refine qs FA61_58 ?_
      refine qs LD58 ?_
      refine qs (y_move RF) ?_
      refine qs (y_add RF RF (by omega)) ?_
      rw [show (i : Int) + 1 = ((i + 1 : Nat) : Int) from rfl]
      refine qs (y_slice_h Tryd.underlying58 Tryd.sizeOf57 RF RF (by omega)) ?_
      refine qs (y_move RF) ?_
      refine qy (yc Tryd.call66 E2 (fun w1 hw1 => windowOf66n w1 z.sa z.sc (i + 1) (t.looks.take (i + 1)) (by rw [List.length_take]; omega) (rows_take (hz.sg.at hw1 MM) (i + 1)) (fun s hs => by have := h.ok.sg s (List.mem_of_mem_take hs); exact ⟨this.1, by omega, by omega⟩) k (by omega))) ?_
      refine qs (y_ia_arr Tryd.underlying114 Tryd.sizeOf113 RF RF (by omega)) ?_
      rw [show 0 + k * 2 = k * 2 from Nat.zero_add _]
      refine sq_store_part (o := k * 2) (cs := cs) (vs := [Value.int .i64 ((winW (t.looks.take (i + 1)) k).1 : Int), Value.int .i64 ((winW (t.looks.take (i + 1)) k).2 : Int)]) (cs' := (cs.take (k * 2) ++ [Value.int .i64 ((winW (t.looks.take (i + 1)) k).1 : Int), Value.int .i64 ((winW (t.looks.take (i + 1)) k).2 : Int)] ++ cs.drop (k * 2 + 2))) Tryd.sizeOf113 RF RF rfl RM rfl (by omega) rfl ?_
      refine sq_nil ?_
      refine sx_then ?_
      refine sc_seq ?_
      refine sc_region ?_
      refine qs (y_move RF) ?_
      refine qs (y_ia_arr Tryd.underlying114 Tryd.sizeOf113 RF RF (by omega)) ?_
      rw [show 0 + k * 2 = k * 2 from Nat.zero_add _]
      refine qs (by first | exact y_load_blks (o := k * 2) (cs := (cs.take (k * 2) ++ [Value.int .i64 ((winW (t.looks.take (i + 1)) k).1 : Int), Value.int .i64 ((winW (t.looks.take (i + 1)) k).2 : Int)] ++ cs.drop (k * 2 + 2)).toArray) [Value.int .i64 ((winW (t.looks.take (i + 1)) k).1 : Int), Value.int .i64 ((winW (t.looks.take (i + 1)) k).2 : Int)] Tryd.underlying113 rfl Tryd.sizeOf113 RF MM rfl (part_get _ _ (by omega)) | exact LD113) ?_
      refine qy (yc Tryd.call67 E1 (fun w1 hw1 => isEmpty67 w1 (winW (t.looks.take (i + 1)) k).1 (winW (t.looks.take (i + 1)) k).2)) ?_
      refine sq_nil ?_
      refine sx_then ?_
      refine sc_f (lk_bool rfl (decide_eq_false (by have := hpre i hi2 k hk2; omega))) ?_
      refine sc_skip ?_
      refine sx_blk ?_
      refine sx_then ?_
      refine sc_region ?_
      refine qs (y_add RF RF (by omega)) ?_
      refine qs (y_move RF) ?_
      refine sq_nil ?_
      refine sx_round ((k + 1, (cs.take (k * 2) ++ [Value.int .i64 ((winW (t.looks.take (i + 1)) k).1 : Int), Value.int .i64 ((winW (t.looks.take (i + 1)) k).2 : Int)] ++ cs.drop (k * 2 + 2)))) ?_ ?_ SU SR
      · exact ⟨by dsimp only; omega, by dsimp only; rw [part_len _ _ (by omega)]; exact hcs⟩
      · dsimp only; omega
    ·
      refine sc_exit ?_
      refine sx_then_exit ?_
      refine sx_round_exit ?_
      refine sx_blk_hit ?_
      refine sx_blk ?_
      refine sx_then ?_
      refine sc_region ?_
      refine qs (y_add RF RF (by omega)) ?_
      refine qs (y_move RF) ?_
      refine sq_nil ?_
      refine sx_round ((i + 1, cs)) ?_ ?_ SU SR
      · exact ⟨by dsimp only; omega, hcs⟩
      · dsimp only; omega
  ·
    refine sc_exit ?_
    refine sx_then_exit ?_
    refine sx_round_exit ?_
    refine sx_blk_hit ?_
    refine sx_then ?_
    refine sc_seq ?_
    refine sc_seq ?_
    refine sc_region ?_
    refine qs LD61 ?_
    refine qy (yc Tryd.call68 E1 (fun w1 hw1 => open68 w1 z t (hz.at hw1 MM) h.ok h.win)) ?_
    refine qs (y_move RF) ?_
    refine qs (y_extract RF RF) ?_
    refine qs (y_extract RF RF) ?_
    refine sq_alloc Tryd.zeroValue118 rfl (fun b7 => ?_)
    refine sq_store_all (vs := (bkV z t (canL t t.pieces))) Tryd.sizeOf118 RF RF (by rfl) RM (bkV_len z t (canL_len _ _)) rfl ?_
    refine qs (y_assign RF) ?_
    refine sq_nil ?_
    refine sx_then ?_
    refine sc_seq ?_
    refine sc_region ?_
    refine qs (by first | exact y_load_all Tryd.underlying118 rfl Tryd.sizeOf118 RF MM (bkV_len z t (canL_len _ _)) | exact LD118) ?_
    refine qy (yc Tryd.call69 E1 (fun w1 hw1 => fits69 w1 z t (hz.at hw1 MM) np np 0 h.ad h.np6 h.np6 (by omega) hp16 (canL t t.pieces) (canL_len _ _) h.lt)) ?_
    refine qs (y_not RF) ?_
    refine sq_nil ?_
    refine sx_then ?_
    refine sc_f (lk_bool rfl (by rw [h.fits]; rfl)) ?_
    refine sc_skip ?_
    refine sx_then ?_
    refine sc_seq ?_
    refine sc_region ?_
    refine qs (y_assign RF) ?_
    refine qs (y_assign RF) ?_
    refine sq_nil ?_
    refine sx_then ?_
    refine sc_ret ?_
    refine sx_ret2 (.inl rfl) rfl Tryd.results37 RF RF ?_
    intro w' hw'
    exact ⟨rfl, hw'.below MM⟩
theorem smp_lit {w0 w : World} {rs : List Res} (hw : Hp w0 rs w) {b b1 b2 b3 b4 : Nat} {f0 f1 f2 f3 f4 : Nat × Nat} {e0 e1 e2 e3 e4 : TypeId} (h : Res.blk b (.cells [Value.slice (some ⟨b1, 0, none⟩) 4 4, Value.slice (some ⟨b2, 0, none⟩) 4 4, Value.slice (some ⟨b3, 0, none⟩) 4 4, Value.slice (some ⟨b4, 0, none⟩) 4 4].toArray e0 f0) ∈ rs) (h1 : Res.blk b1 (.cells [Value.int .i64 0, Value.int .i64 5, Value.int .i64 3, Value.int .i64 0].toArray e1 f1) ∈ rs) (h2 : Res.blk b2 (.cells [Value.int .i64 2, Value.int .i64 0, Value.int .i64 4, Value.int .i64 0].toArray e2 f2) ∈ rs) (h3 : Res.blk b3 (.cells [Value.int .i64 6, Value.int .i64 0, Value.int .i64 0, Value.int .i64 1].toArray e3 f3) ∈ rs) (h4 : Res.blk b4 (.cells [Value.int .i64 0, Value.int .i64 7, Value.int .i64 0, Value.int .i64 0].toArray e4 f4) ∈ rs) : MtA 0 w ⟨some ⟨b, 0, none⟩, 4, fun i => match i with | 0 => some ⟨b1, 0, none⟩ | 1 => some ⟨b2, 0, none⟩ | 2 => some ⟨b3, 0, none⟩ | _ => some ⟨b4, 0, none⟩, fun _ => 4⟩ smpM := by
  have hl := lit_rowsA (row := wRow) (l := [Value.slice (some ⟨b1, 0, none⟩) 4 4, Value.slice (some ⟨b2, 0, none⟩) 4 4, Value.slice (some ⟨b3, 0, none⟩) 4 4, Value.slice (some ⟨b4, 0, none⟩) 4 4]) (fun _ => rfl) hw h rfl (by simp)
  have r1 := lit_rowsA (row := iRow) (l := [0, 5, 3, 0]) iRow_len hw h1 rfl (by decide)
  have r2 := lit_rowsA (row := iRow) (l := [2, 0, 4, 0]) iRow_len hw h2 rfl (by decide)
  have r3 := lit_rowsA (row := iRow) (l := [6, 0, 0, 1]) iRow_len hw h3 rfl (by decide)
  have r4 := lit_rowsA (row := iRow) (l := [0, 7, 0, 0]) iRow_len hw h4 rfl (by decide)
  refine LsA.lit _ hl ?_ (by decide)
  intro i r hi
  rcases i with _ | _ | _ | _ | i
  · obtain rfl : [0, 5, 3, 0] = r := by simpa [smpM] using hi
    exact ⟨rfl, r1⟩
  · obtain rfl : [2, 0, 4, 0] = r := by simpa [smpM] using hi
    exact ⟨rfl, r2⟩
  · obtain rfl : [6, 0, 0, 1] = r := by simpa [smpM] using hi
    exact ⟨rfl, r3⟩
  · obtain rfl : [0, 7, 0, 0] = r := by simpa [smpM] using hi
    exact ⟨rfl, r4⟩
  · simp [smpM] at hi
def tale9 : Tl := ⟨1, [⟨0, 10, 20⟩], [⟨10, 1, 0⟩, ⟨20, 0, 1⟩], [-1]⟩
theorem tale9_F : TaF tale9 1 := by
  refine ⟨⟨by decide, by decide, by decide, by decide, by decide, by decide, ?_, ?_, ?_⟩, ?_, rfl, by decide, ?_⟩
  · intro l hl
    obtain rfl : l = ⟨0, 10, 20⟩ := by simpa [tale9] using hl
    decide
  · intro s hs
    have hs : s = ⟨10, 1, 0⟩ ∨ s = ⟨20, 0, 1⟩ := by simpa [tale9] using hs
    rcases hs with rfl | rfl <;> decide
  · intro n hn
    obtain rfl : n = -1 := by simpa [tale9] using hn
    decide
  · intro k hk
    obtain rfl : k = 0 := by have : k < 1 := hk; omega
    decide
  · intro k hk
    obtain rfl : k = 0 := by have : k < 1 := hk; omega
    decide
theorem tale9_lit {w0 w : World} {rs : List Res} (hw : Hp w0 rs w) {b1 b2 b3 : Nat} {f1 f2 f3 : Nat × Nat} {e1 e2 e3 : TypeId} (h1 : Res.blk b1 (.cells [Value.int .i64 0, Value.int .i64 10, Value.int .i64 20].toArray e1 f1) ∈ rs) (h2 : Res.blk b2 (.cells [Value.int .i64 10, Value.int .i64 1, Value.int .i64 0, Value.int .i64 20, Value.int .i64 0, Value.int .i64 1].toArray e2 f2) ∈ rs) (h3 : Res.blk b3 (.cells [Value.int .i64 (-1)].toArray e3 f3) ∈ rs) : TlAt 0 w ⟨some ⟨b1, 0, none⟩, 1, some ⟨b2, 0, none⟩, 2, some ⟨b3, 0, none⟩, 1⟩ tale9 :=
  ⟨lit_rowsA (row := lnRow) (l := tale9.loans) lnRow_len hw h1 rfl (by decide), lit_rowsA (row := sgRow) (l := tale9.looks) sgRow_len hw h2 rfl (by decide), lit_rowsA (row := iRow) (l := tale9.admits) iRow_len hw h3 rfl (by decide)⟩

theorem awake35 (w : World) (hT : TabAt w) : Calls Tryd.prog 35 #[] w fun e w' => e = .returned (.bool true) ∧ Below w.heap.size w w' := by
  refine calls_of_SC (args := []) Tryd.func35 rfl Tryd.ntmps35 rfl ?_
  simp only [argL]
  refine sc_seq ?_
  refine sc_region ?_
  refine qs (y_assign RF) ?_
  refine sq_nil ?_
  refine sx_then ?_
  refine sc_seq ?_
  refine sc_region ?_
  refine sq_bs Tryd.underlying25 ei3 (EvI.cons RF (EvI.cons RF (EvI.cons RF (EvI.cons RF EvI.nil)))) (by first | (simp [Value.cells]; done) | (simp [Value.cells]; rfl) | (simp [Value.cells]; and_intros <;> rfl)) rfl rfl rfl (fun b8 => ?_)
  refine sq_bs Tryd.underlying25 ei3 (EvI.cons RF (EvI.cons RF (EvI.cons RF (EvI.cons RF EvI.nil)))) (by first | (simp [Value.cells]; done) | (simp [Value.cells]; rfl) | (simp [Value.cells]; and_intros <;> rfl)) rfl rfl rfl (fun b9 => ?_)
  refine sq_bs Tryd.underlying25 ei3 (EvI.cons RF (EvI.cons RF (EvI.cons RF (EvI.cons RF EvI.nil)))) (by first | (simp [Value.cells]; done) | (simp [Value.cells]; rfl) | (simp [Value.cells]; and_intros <;> rfl)) rfl rfl rfl (fun b10 => ?_)
  refine sq_bs Tryd.underlying25 ei3 (EvI.cons RF (EvI.cons RF (EvI.cons RF (EvI.cons RF EvI.nil)))) (by first | (simp [Value.cells]; done) | (simp [Value.cells]; rfl) | (simp [Value.cells]; and_intros <;> rfl)) rfl rfl rfl (fun b11 => ?_)
  refine sq_bs Tryd.underlying22 ei25 (EvI.cons RF (EvI.cons RF (EvI.cons RF (EvI.cons RF EvI.nil)))) (by first | (simp [Value.cells]; done) | (simp [Value.cells]; rfl) | (simp [Value.cells]; and_intros <;> rfl)) rfl rfl rfl (fun b12 => ?_)
  refine qs (y_build (cells := #[.slice (some ⟨b12, 0, none⟩) 4 4]) bt24 (EvP.cons RF EvP.nil) (by kernel_rfl)) ?_
  refine sq_call_new (first := []) (caps := []) (Z := Option Addr × Nat) (fun q => .tuple #[.slice q.1 4 q.2, .int .i64 15, .int .i64 0]) (fun lo w' q => RowsA iRow 1 lo w' q.1 [1, 2, 0, 3]) RF Tryd.call23 (EvL.cons RF EvL.nil) (fun w1 hw1 => best23p w1 ⟨some ⟨b12, 0, none⟩, 4, fun i => match i with | 0 => some ⟨b8, 0, none⟩ | 1 => some ⟨b9, 0, none⟩ | 2 => some ⟨b10, 0, none⟩ | _ => some ⟨b11, 0, none⟩, fun _ => 4⟩ (smp_lit hw1 MM MM MM MM MM) (CA.at hT hw1 MM)) rfl (fun lo1 wr1 y1 hy1 => ?_)
  refine qs (y_move RF) ?_
  refine qs (y_extract RF RF) ?_
  refine qs (y_extract RF RF) ?_
  refine qs (y_extract RF RF) ?_
  refine qs (y_assign RF) ?_
  refine qs (y_assign RF) ?_
  refine qs (y_assign RF) ?_
  refine sq_nil ?_
  refine sx_then ?_
  refine sc_seq ?_
  refine sc_region ?_
  refine qs (y_build (cells := #[.int .i64 0, .int .i64 10, .int .i64 20]) bt63 (EvP.cons RF (EvP.cons RF (EvP.cons RF EvP.nil))) (by kernel_rfl)) ?_
  refine sq_bs Tryd.underlying59 ei63 (EvI.cons RF EvI.nil) (by first | (simp [Value.cells]; done) | (simp [Value.cells]; rfl) | (simp [Value.cells]; and_intros <;> rfl)) rfl rfl rfl (fun b19 => ?_)
  refine qs (y_build (cells := #[.int .i64 10, .int .i64 1, .int .i64 0]) bt57 (EvP.cons RF (EvP.cons RF EvP.nil)) (by kernel_rfl)) ?_
  refine qs (y_build (cells := #[.int .i64 20, .int .i64 0, .int .i64 1]) bt57 (EvP.cons RF (EvP.cons RF EvP.nil)) (by kernel_rfl)) ?_
  refine sq_bs Tryd.underlying58 ei57 (EvI.cons RF (EvI.cons RF EvI.nil)) (by first | (simp [Value.cells]; done) | (simp [Value.cells]; rfl) | (simp [Value.cells]; and_intros <;> rfl)) rfl rfl rfl (fun b22 => ?_)
  refine sq_bs Tryd.underlying25 ei3 (EvI.cons RF EvI.nil) (by first | (simp [Value.cells]; done) | (simp [Value.cells]; rfl) | (simp [Value.cells]; and_intros <;> rfl)) rfl rfl rfl (fun b23 => ?_)
  refine qs (y_build (cells := (tlV ⟨some ⟨b19, 0, none⟩, 1, some ⟨b22, 0, none⟩, 2, some ⟨b23, 0, none⟩, 1⟩ tale9).toArray) bt61 (EvP.cons RF (EvP.cons RF (EvP.cons RF (EvP.cons RF EvP.nil)))) (by kernel_rfl)) ?_
  refine sq_alloc Tryd.zeroValue61 rfl (fun b4 => ?_)
  refine sq_store_all Tryd.sizeOf61 RF RF rfl RM rfl rfl ?_
  refine sq_nil ?_
  refine sx_then ?_
  refine sc_seq ?_
  refine sc_region ?_
  refine qs LD61 ?_
  refine qy (yc Tryd.call38 E2 (fun w1 hw1 => Who38 w1 ⟨some ⟨b19, 0, none⟩, 1, some ⟨b22, 0, none⟩, 2, some ⟨b23, 0, none⟩, 1⟩ tale9 (tale9_lit hw1 MM MM MM) 1 tale9_F (CA.at hT hw1 MM) 0 (by decide))) ?_
  refine qs (y_move RF) ?_
  refine qs (y_extract RF RF) ?_
  refine qs (y_extract RF RF) ?_
  refine qs (y_assign RF) ?_
  refine qs (y_assign RF) ?_
  refine sq_nil ?_
  refine sx_then ?_
  refine sc_seq ?_
  rw [show canN tale9 0 = 1 from by decide]
  have hs1 := (hy1.get 0 (show 0 < [(1 : Int), 2, 0, 3].length by decide)).1
  have hc1 := (hy1.get 0 (show 0 < [(1 : Int), 2, 0, 3].length by decide)).2
  refine sc_region ?_
  refine qs (y_move RF) ?_
  refine qs (y_len Tryd.underlying25 RF) ?_
  refine qs (y_eql RF RF) ?_
  refine qs (y_move RF) ?_
  refine sq_known (tt := 33) (b' := true) RF (rfl) ?_
  refine qg (y_move RF) ?_
  refine qg (y_ia_el (i := 0) Tryd.underlying25 Tryd.sizeOf3 RF RF (by omega) hs1) ?_
  refine qg (by first | exact y_load_ca0 Tryd.underlying3 rfl RF MM hc1 rfl | exact LD3) ?_
  refine qg (y_eql RF RF) ?_
  refine qs (y_pick_t RF RF) ?_
  refine qs (y_move RF) ?_
  refine sq_known (tt := 39) (b' := true) RF (rfl) ?_
  refine qg (y_move RF) ?_
  refine qg (y_eql RF RF) ?_
  refine qs (y_pick_t RF RF) ?_
  refine qs (y_move RF) ?_
  refine sq_known (tt := 43) (b' := true) RF (rfl) ?_
  refine qg (y_move RF) ?_
  refine qg (y_eql RF RF) ?_
  refine qs (y_pick_t RF RF) ?_
  refine qs (y_move RF) ?_
  refine sq_known (tt := 47) (b' := true) RF (rfl) ?_
  refine qg (y_move RF) ?_
  refine qg (y_eql RF RF) ?_
  refine qs (y_pick_t RF RF) ?_
  refine qs (y_move RF) ?_
  refine sq_known (tt := 51) (b' := true) RF (rfl) ?_
  refine qg (y_move RF) ?_
  refine qg (y_eql RF RF) ?_
  refine qs (y_pick_t RF RF) ?_
  refine qs (y_assign RF) ?_
  refine sq_nil ?_
  refine sx_then ?_
  refine sc_ret ?_
  refine sx_ret1 (.inl rfl) rfl Tryd.results35 RF ?_
  intro w' hw'
  exact ⟨rfl, hw'.below MM⟩
end Go.Proofs.YtpijahglojichaaDoor
