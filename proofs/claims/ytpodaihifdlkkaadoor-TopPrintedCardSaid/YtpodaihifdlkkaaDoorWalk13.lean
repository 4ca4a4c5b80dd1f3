/- The walks of what compares numbers, of the store with other sheets of a kind, and of the document's example. -/
import Derived.Test.YtpodaihifdlkkaaDoorLawA
import Derived.Test.YtpodaihifdlkkaaDoorEng20
namespace Go.Proofs.YtpodaihifdlkkaaDoor
open Go Go.Eng Go.RowKit Go.Proofs
set_option maxRecDepth 100000

theorem ints17 (w : World) (a b : Option Addr) (ca cb : Nat) (l1 l2 : List Int) (h1 : RowsA iRow 1 0 w a l1) (h2 : RowsA iRow 1 0 w b l2) : Calls Tryd.prog 17 #[.slice a l1.length ca, .slice b l2.length cb] w fun e w' => e = .returned (.bool (decide (l1 = l2))) ∧ Below w.heap.size w w' := by
  have hn1 := h1.len
  have hn2 := h2.len
  refine calls_of_SC (args := [.slice a l1.length ca, .slice b l2.length cb]) Tryd.func17 rfl Tryd.ntmps17 rfl ?_
  simp only [argL, Nat.zero_add]
  refine sc_seq ?_
  refine sc_region ?_
  refine qs (y_assign RF) ?_
  refine sq_nil ?_
  refine sx_then ?_
  refine sc_seq ?_
  refine sc_seq ?_
  refine sc_region ?_
  refine qs (y_move RF) ?_
  refine qs (y_len Tryd.underlying35 RF) ?_
  refine qs (y_move RF) ?_
  refine qs (y_len Tryd.underlying35 RF) ?_
  refine qs (y_neq RF RF) ?_
  refine sq_nil ?_
  refine sx_then ?_
  refine scp (fun hc0 => ?_) (fun hc0 => ?_)
  ·
    refine sc_seq ?_
    refine sc_region ?_
    refine qs (y_assign RF) ?_
    refine sq_nil ?_
    refine sx_then ?_
    refine sc_ret ?_
    refine sx_then_ret ?_
    refine sx_ret1 (.inl rfl) rfl Tryd.results17 RF ?_
    intro w' hw'
    refine ⟨?_, hw'.below MM⟩
    congr 2; symm; rw [decide_eq_false_iff_not]; intro h; rw [h] at hc0; exact hc0 rfl
  ·
    refine sc_skip ?_
    refine sx_then ?_
    refine sc_seq ?_
    refine sc_seq ?_
    have hll : l1.length = l2.length := by omega
    refine sc_region ?_
    refine qs (y_assign RF) ?_
    refine sq_nil ?_
    refine sx_then ?_
    refine sc_block ?_
    refine sc_loop (σ := Nat)
      (fun s => [(0, .slice a l1.length ca), (1, .slice b l2.length cb), (5, .int .i64 s)])
      (fun s => [.reg 0 w])
      (fun s => s ≤ l1.length ∧ ∀ j, j < s → l1[j]? = l2[j]?)
      (fun s => l1.length - s)
      (0) ?_ SU SE ?_
    · exact ⟨Nat.zero_le _, fun j hj => absurd hj (Nat.not_lt_zero j)⟩
    rintro k ⟨hk, hsame⟩
    refine sc_seq ?_
    refine sc_seq ?_
    refine sc_region ?_
    refine qs (y_move RF) ?_
    refine qs (y_move RF) ?_
    refine qs (y_len Tryd.underlying35 RF) ?_
    refine qs (y_lss RF RF) ?_
    refine sq_nil ?_
    refine sx_then ?_
    refine scp (fun hc1 => ?_) (fun hc1 => ?_)
    ·
      have hk' : k < l1.length := by omega
      obtain ⟨x, hx⟩ : ∃ x, l1[k]? = some x := ⟨_, List.getElem?_eq_getElem hk'⟩
      obtain ⟨y, hy⟩ : ∃ y, l2[k]? = some y := ⟨_, List.getElem?_eq_getElem (by omega)⟩
      have hs1 := (h1.el k x hx).1
      have hc1 := (h1.el k x hx).2
      have hs2 := (h2.el k y hy).1
      have hc22 := (h2.el k y hy).2
      refine sc_skip ?_
      refine sx_then ?_
      refine sc_seq ?_
      refine sc_block ?_
      refine sc_seq ?_
      refine sc_draw rfl (by kernel_rfl) (by kernel_rfl) ?_
      refine qq_y (OpY.s (y_move RF)) rfl ?_
      refine qq_y (OpY.s (y_move RF)) rfl ?_
      refine qq_y (OpY.s IA35) rfl ?_
      refine qq_y (OpY.s (by first | exact y_load_ca0 Tryd.underlying3 rfl RF MM hc1 rfl | exact LD3)) rfl ?_
      refine qq_y (OpY.s (y_move RF)) rfl ?_
      refine qq_y (OpY.s (y_move RF)) rfl ?_
      refine qq_y (OpY.s IA35) rfl ?_
      refine qq_y (OpY.s (by first | exact y_load_ca0 Tryd.underlying3 rfl RF MM hc22 rfl | exact LD3)) rfl ?_
      refine qq_y (OpY.s (y_neq RF RF)) rfl ?_
      refine qq_nil ?_
      refine sx_then ?_
      refine scp (fun hc2 => ?_) (fun hc2 => ?_)
      ·
        refine sc_seq ?_
        refine sc_region ?_
        refine qs (y_assign RF) ?_
        refine sq_nil ?_
        refine sx_then ?_
        refine sc_ret ?_
        refine sx_blk_ret ?_
        refine sx_then_ret ?_
        refine sx_round_ret ?_
        refine sx_blk_ret ?_
        refine sx_then_ret ?_
        refine sx_ret1 (.inl rfl) rfl Tryd.results17 RF ?_
        intro w' hw'
        refine ⟨?_, hw'.below MM⟩
        congr 2; symm; rw [decide_eq_false_iff_not]; intro h; rw [h, hy] at hx; cases hx; simp at hc2
      ·
        refine sc_skip ?_
        refine sx_blk ?_
        refine sx_then ?_
        refine sc_region ?_
        refine qs (y_move RF) ?_
        refine qs (y_add RF RF (by omega)) ?_
        refine qs (y_assign RF) ?_
        refine sq_nil ?_
        refine sx_round (k + 1) ?_ ?_ SU SE
        · refine ⟨by omega, fun j hj => ?_⟩
          rcases Nat.lt_succ_iff_lt_or_eq.1 hj with h | rfl
          · exact hsame j h
          · rw [hx, hy]; exact congrArg some (by simpa using hc2)
        · omega
    ·
      refine sc_exit ?_
      refine sx_then_exit ?_
      refine sx_round_exit ?_
      refine sx_blk_hit ?_
      refine sx_then ?_
      refine sc_seq ?_
      refine sc_region ?_
      refine qs (y_assign RF) ?_
      refine sq_nil ?_
      refine sx_then ?_
      refine sc_ret ?_
      refine sx_ret1 (.inl rfl) rfl Tryd.results17 RF ?_
      intro w' hw'
      refine ⟨?_, hw'.below MM⟩
      congr 2; symm; rw [decide_eq_true_eq]
      exact List.ext_getElem? fun j => by
        rcases Nat.lt_or_ge j k with h | h
        · exact hsame j h
        · rw [List.getElem?_eq_none (by omega), List.getElem?_eq_none (by omega)]
theorem shRow_len (x : Sh) : (shRow x).length = 3 := rfl
theorem shs_cells {w : World} {ad : Addr} {l : List Sh} (h : RowsA shRow 3 0 w (some ad) l) : ∀ j u, (l.flatMap shRow)[j]? = some u → w.cell? (ad.add j) = some u := h.cells shRow_len (by decide)
theorem shs_one (l : List Sh) : ∀ u, u ∈ l.flatMap shRow → u.oneCell' = true := flat_one (fun x u hu => by simp [shRow] at hu; rcases hu with rfl | rfl | rfl <;> rfl) l
def reS (z : SA) (y : Option Addr × Nat) : SA := { z with a1 := y.1, c1 := y.2 }
theorem with10 (w : World) (z : SA) (s : So) (hz : SoA 0 w z s) (h4 : s.sh.length ≤ 4) (m : Sp) (cost : Int) (p1 p2 : Addr) (k : Nat) (hk : k < s.sh.length) (hp1 : CA 0 w p1 (stV z s)) (hp2 : CA 0 w p2 [.int .i64 (k : Int)]) : Calls Tryd.prog 10 #[.agg (spRow m).toArray, .int .i64 cost, .pointer (some p1), .pointer (some p2)] w fun e w' => ∃ y : Option Addr × Nat, e = .returned (.agg (stV (reS z y) (putS s k ⟨m, cost⟩)).toArray) ∧ Below w.heap.size w w' ∧ RowsA shRow 3 w.heap.size w' y.1 (s.sh.set k ⟨m, cost⟩) := by
  refine calls_of_SC (args := [.agg (spRow m).toArray, .int .i64 cost, .pointer (some p1), .pointer (some p2)]) Tryd.func10 rfl Tryd.ntmps10 rfl ?_
  simp only [argL, Nat.reduceAdd, Nat.zero_add]
  refine sc_seq ?_
  refine sc_region ?_
  refine sq_box RF rfl (fun b4 => ?_)
  refine sq_alloc Tryd.zeroValue27 rfl (fun b6 => ?_)
  refine sq_nil ?_
  refine sx_then ?_
  refine sc_seq ?_
  refine sc_region ?_
  refine qs (by first | exact y_load_ca Tryd.underlying27 rfl Tryd.sizeOf27 RF MM hp1 rfl | exact LD27) ?_
  refine sq_alloc Tryd.zeroValue27 rfl (fun b7 => ?_)
  refine sq_store_all Tryd.sizeOf27 RF RF rfl RM rfl rfl ?_
  refine sq_nil ?_
  refine sx_then ?_
  refine sc_seq ?_
  refine sc_region ?_
  refine sq_bs Tryd.underlying22 ei42 (EvI.nil) (by simp) rfl rfl rfl (fun b9 => ?_)
  refine sq_blk_own0 (sz := 3) (c := 0) RM rfl (Nat.zero_le _) ?_
  refine qs FA27_22 ?_
  refine qs LD22 ?_
  refine sq_append_rows (news := s.sh.flatMap shRow) Tryd.underlying22 ei42 Tryd.sizeOf42 rfl (by decide) RF RM RF hz.sh.noa (flat_len shRow_len s.sh) (fun ad had w1 hw1 => shs_cells (by rw [← had]; exact hz.sh.at hw1 MM)) (shs_one s.sh) (by omega) rfl (fun v12 ho12 => ?_)
  rw [Nat.zero_add s.sh.length, List.nil_append]
  refine qs FA27_22 ?_
  refine sq_store_eq (cs' := [v12, .slice z.a2 s.li.length z.c2, .slice z.a3 s.mks.length z.c3, .slice z.a4 s.wi.length z.c4].toArray) Tryd.sizeOf22 RF RF ho12 RM (Nat.le_of_ble_eq_true rfl) rfl ?_
  refine sq_nil ?_
  refine sx_then ?_
  refine sc_seq ?_
  refine sc_region ?_
  refine qs FA27_22 ?_
  refine qs LD22 ?_
  refine qs (by first | exact y_load_ca0 Tryd.underlying3 rfl RF MM hp2 rfl | exact LD3) ?_
  refine qs LD29 ?_
  refine qs (y_move RF) ?_
  refine qs (y_build (cells := (shRow ⟨m, cost⟩).toArray) bt42 (EvP.cons RF (EvP.cons RF EvP.nil)) (by kernel_rfl)) ?_
  refine qs (y_ia_own (v := v12) (e' := 42) (i := k) (m := s.sh.length) (xs := s.sh.flatMap shRow) Tryd.underlying22 Tryd.sizeOf42 RF MM RF hk) ?_
  refine sq_store_ownrow (v := v12) (i := k) (vs := shRow ⟨m, cost⟩) Tryd.sizeOf42 RF RF rfl rfl RM hk ?_
  rw [flat_setrow shRow_len _ hk]
  refine sq_nil ?_
  refine sx_then ?_
  refine sc_seq ?_
  refine sc_region ?_
  refine qs LD27 ?_
  refine sq_store_all (vs := [v12, .slice z.a2 s.li.length z.c2, .slice z.a3 s.mks.length z.c3, .slice z.a4 s.wi.length z.c4]) Tryd.sizeOf27 RF RF (by rw [List.all_cons, ho12]; rfl) RM rfl rfl ?_
  refine sq_nil ?_
  refine sx_then ?_
  refine sc_ret ?_
  refine sx_retc (.inl rfl) rfl Tryd.results10 Tryd.underlying27 rfl Tryd.sizeOf27 RF MM rfl ?_
  intro w' hw'
  have ho := own_new_mem hw' (v := v12) (xs := (s.sh.set k ⟨m, cost⟩).flatMap shRow) MM MM
  obtain ⟨a2, c2, rfl, _, hr⟩ := own_rowsA (row := shRow) shRow_len ho (by simp) (by omega)
  exact ⟨(a2, c2), by unfold stV; rw [put_len]; rfl, hw'.below MM, hr⟩
/-! ### the example -/
def exS : So := ⟨[sh0], [li0], [⟨0, [3]⟩], [⟨0, 5, 0, 0, 0⟩]⟩
def exA (b1 b2 b3 b4 b5 : Nat) : SA := ⟨some ⟨b1, 0, none⟩, 1, some ⟨b2, 0, none⟩, 1, some ⟨b3, 0, none⟩, 1, some ⟨b4, 0, none⟩, 1, fun _ => some ⟨b5, 0, none⟩, fun _ => 1⟩
theorem ex_ok : stB exS = true := by decide +kernel
theorem ex_takes : takesV exS 1 = [15] := by decide +kernel
theorem ex_open : openE exS 1 false = 0 := by decide +kernel
theorem ex_sheets : sheetsR ⟨20, 50⟩ 95 = (100, 0) := by decide +kernel
theorem sheets8a (w : World) : Calls Tryd.prog 8 #[.agg (spRow ⟨20, 50⟩).toArray, .int .i64 95] w fun e w' => e = .returned (.tuple #[.int .i64 100, .int .i64 0]) ∧ Below w.heap.size w w' := by
  have h := sheets8 w ⟨20, 50⟩ 95
  rw [ex_sheets] at h; exact h
theorem Takes7a (w : World) (z : SA) (hz : SoA 0 w z exS) (hT : TabAt w) : Calls Tryd.prog 7 #[.agg (stV z exS).toArray, .int .i64 1] w fun e w' => ∃ y : Option Addr × Nat, e = .returned (.tuple #[.slice y.1 1 y.2, .int .i64 0]) ∧ Below w.heap.size w w' ∧ RowsA iRow 1 w.heap.size w' y.1 [15] := by
  have h := Takes7 w z exS hz ex_ok hT 1
  rw [ex_takes, ex_open] at h; exact h
theorem exSoA {w0 w : World} {rs : List Res} (hw : Hp w0 rs w) {b1 b2 b3 b4 b5 : Nat} {f1 f2 f3 f4 f5 : Nat × Nat} {e1 e2 e3 e4 e5 : TypeId} (h1 : Res.blk b1 (.cells (shRow sh0).toArray e1 f1) ∈ rs) (h2 : Res.blk b2 (.cells (liRow li0).toArray e2 f2) ∈ rs) (h3 : Res.blk b3 (.cells [Value.int .i64 0, .slice (some ⟨b5, 0, none⟩) 1 1].toArray e3 f3) ∈ rs) (h4 : Res.blk b4 (.cells (wiRow ⟨0, 5, 0, 0, 0⟩).toArray e4 f4) ∈ rs) (h5 : Res.blk b5 (.cells [Value.int .i64 3].toArray e5 f5) ∈ rs) : SoA 0 w (exA b1 b2 b3 b4 b5) exS := by
  refine ⟨lit_rowsA (row := shRow) (l := [sh0]) (fun _ => rfl) hw h1 rfl (by decide), lit_rowsA (row := liRow) (l := [li0]) (fun _ => rfl) hw h2 rfl (by decide), ⟨fun i m hi => ?_, by decide⟩, lit_rowsA (row := wiRow) (l := [⟨0, 5, 0, 0, 0⟩]) (fun _ => rfl) hw h4 rfl (by decide)⟩
  rcases i with _ | i
  · obtain rfl : (⟨0, [3]⟩ : Mk) = m := by simpa [exS] using hi
    refine ⟨rfl, ?_, lit_rowsA (row := iRow) (l := [3]) (fun _ => rfl) hw h5 rfl (by decide)⟩
    have e : elt (some ⟨b3, 0, none⟩) 0 2 = (⟨b3, 0, none⟩ : Addr) := by simp [elt, Addr.add_lit]
    show CA 0 w (elt (some ⟨b3, 0, none⟩) 0 2) _
    rw [e]
    exact CA.blk hw h3
  · simp [exS] at hi
theorem awake5 (w : World) (hT : TabAt w) : Calls Tryd.prog 5 #[] w fun e w' => e = .returned (.bool true) ∧ Below w.heap.size w w' := by
  refine calls_of_SC (args := []) Tryd.func5 rfl Tryd.ntmps5 rfl ?_
  simp only [argL]
  refine sc_seq ?_
  refine sc_region ?_
  refine qs (y_assign RF) ?_
  refine sq_nil ?_
  refine sx_then ?_
  refine sc_seq ?_
  refine sc_region ?_
  refine qs (y_build bt29 (EvP.cons RF (EvP.cons RF EvP.nil)) RF) ?_
  refine qy (yc Tryd.call8 E2 (fun w1 _ => sheets8a w1)) ?_
  refine qs (y_move RF) ?_
  refine qs (y_extract RF RF) ?_
  refine qs (y_extract RF RF) ?_
  refine qs (y_assign RF) ?_
  refine qs (y_assign RF) ?_
  refine sq_nil ?_
  refine sx_then ?_
  refine sc_seq ?_
  refine sc_region ?_
  refine qs (y_build bt42 EvP.nil RF) ?_
  refine sq_bs Tryd.underlying22 ei42 (EvI.cons RF EvI.nil) (by first | (simp [Value.cells]; done) | (simp [Value.cells]; rfl) | (simp [Value.cells]; and_intros <;> rfl)) rfl rfl rfl (fun b12 => ?_)
  refine qs (y_build bt55 EvP.nil RF) ?_
  refine sq_bs Tryd.underlying23 ei55 (EvI.cons RF EvI.nil) (by first | (simp [Value.cells]; done) | (simp [Value.cells]; rfl) | (simp [Value.cells]; and_intros <;> rfl)) rfl rfl rfl (fun b14 => ?_)
  refine sq_bs Tryd.underlying35 ei3 (EvI.cons RF EvI.nil) (by first | (simp [Value.cells]; done) | (simp [Value.cells]; rfl) | (simp [Value.cells]; and_intros <;> rfl)) rfl rfl rfl (fun b15 => ?_)
  refine qs (y_build bt57 (EvP.cons RF EvP.nil) RF) ?_
  refine sq_bs Tryd.underlying24 ei57 (EvI.cons RF EvI.nil) (by first | (simp [Value.cells]; done) | (simp [Value.cells]; rfl) | (simp [Value.cells]; and_intros <;> rfl)) rfl rfl rfl (fun b17 => ?_)
  refine qs (y_build bt50 (EvP.cons RF EvP.nil) RF) ?_
  refine sq_bs Tryd.underlying25 ei50 (EvI.cons RF EvI.nil) (by first | (simp [Value.cells]; done) | (simp [Value.cells]; rfl) | (simp [Value.cells]; and_intros <;> rfl)) rfl rfl rfl (fun b19 => ?_)
  refine qs (y_build bt27 (EvP.cons RF (EvP.cons RF (EvP.cons RF (EvP.cons RF EvP.nil)))) RF) ?_
  refine sq_call_new (first := []) (caps := []) (Z := Option Addr × Nat) (fun y => .tuple #[.slice y.1 1 y.2, .int .i64 0]) (fun lo w' y => RowsA iRow 1 lo w' y.1 [15]) RF Tryd.call7 (EvL.cons RF (EvL.cons RF EvL.nil)) (fun w1 hw1 => Takes7a w1 (exA b12 b14 b17 b19 b15) (exSoA hw1 MM MM MM MM MM) (CA.at hT hw1 MM)) rfl (fun lo21 wr21 y21 hy21 => ?_)
  refine qs (y_move RF) ?_
  refine qs (y_extract RF RF) ?_
  refine qs (y_extract RF RF) ?_
  refine qs (y_assign RF) ?_
  refine qs (y_assign RF) ?_
  refine sq_nil ?_
  refine sx_then ?_
  refine sc_seq ?_
  refine sc_region ?_
  refine qs (y_move RF) ?_
  refine qs (y_eql RF RF) ?_
  refine qs (y_move RF) ?_
  refine sq_known (tt := 26) (b' := true) RF (rfl) ?_
  refine qg (y_move RF) ?_
  refine qg (y_eql RF RF) ?_
  refine qs (y_pick_t RF RF) ?_
  refine qs (y_move RF) ?_
  refine sq_known (tt := 30) (b' := true) RF (rfl) ?_
  refine qg (y_move RF) ?_
  refine sq_guard RF RF ?_
  refine sq_bs Tryd.underlying35 ei3 (EvI.cons RF EvI.nil) (by first | (simp [Value.cells]; done) | (simp [Value.cells]; rfl) | (simp [Value.cells]; and_intros <;> rfl)) rfl rfl rfl (fun b32 => ?_)
  refine sq_gt RF RF (y_call (first := []) (caps := []) RF Tryd.call17 (EvL.cons RF (EvL.cons RF EvL.nil)) (fun w1 hw1 => ints17 w1 y21.1 _ y21.2 1 [15] [15] (hy21.at hw1 MM) (lit_rowsA (row := iRow) (l := [15]) (fun _ => rfl) hw1 MM rfl (by decide)))) rfl ?_
  refine qs (y_pick_t RF RF) ?_
  refine qs (y_move RF) ?_
  refine sq_known (tt := 35) (b' := true) RF (rfl) ?_
  refine qg (y_move RF) ?_
  refine qg (y_eql RF RF) ?_
  refine qs (y_pick_t RF RF) ?_
  refine qs (y_assign RF) ?_
  refine sq_nil ?_
  refine sx_then ?_
  refine sc_ret ?_
  refine sx_ret1 (.inl rfl) rfl Tryd.results5 RF ?_
  intro w' hw'
  exact ⟨rfl, hw'.below MM⟩
end Go.Proofs.YtpodaihifdlkkaaDoor
