/- The walk of the law ScaleNext. -/
import Derived.Test.YtofjipmheckmjaaLaw4
import Derived.Test.YtofjipmheckmjaaWalk23
import Derived.Test.YtofjipmheckmjaaEng15
namespace Go.Proofs.Ytofjipmheckmjaa
open Go Go.Eng Go.RowKit Go.Proofs
set_option maxRecDepth 100000
theorem readAns_ok {b : Bx} {L : List Int} {t : Te} (hok : bxB b = true) (ht : teB b t = true) (hc : canV b L = true) : readAns b L t = .tuple #[.agg (spRow (readV b t L)).toArray, .int .i64 0] := by
  unfold readAns; rw [if_pos ⟨hok, ht⟩, if_pos hc]
theorem judge16w (w : World) (b : Bx) (a : Option Addr) (c : Nat) (hB : RowsA kdRow 3 0 w a b.kinds) (v : Value) (R : List Rd) (hv : w.ownsRow 0 54 8 v R.length (R.flatMap rdRow)) (hb : R.length ≤ 100000) : Calls Try.prog 16 #[.agg (bxRow b a c).toArray, v] w fun e' w' => e' = .returned (.tuple #[.int .i64 (jn b R), .int .i64 (openE b R [])]) ∧ Below w.heap.size w w' := by
  obtain ⟨a2, c2, rfl, _, hr⟩ := own_rowsA (row := rdRow) (fun _ => rfl) hv rfl (by omega)
  exact judge16x w b a c hB a2 c2 R hr (judgeAns_jn b R)
theorem got_cell (s : Sp) (u : Int) : ∀ {k : Nat}, k < 3 → ([Value.int .i64 s.lo, .int .i64 s.hi, .int .i64 (s.lo + u % (s.hi - s.lo + 1))] : List Value).toArray[0 + k * 1]? = some (.int .i64 ((gotL s u).getD k 0))
  | 0, _ => rfl
  | 1, _ => rfl
  | 2, _ => rfl
theorem rdRow_len (x : Rd) : (rdRow x).length = 8 := rfl
theorem rds_cells {w : World} {ad : Addr} {l : List Rd} (h : RowsA rdRow 8 0 w (some ad) l) : ∀ j u, (l.flatMap rdRow)[j]? = some u → w.cell? (ad.add j) = some u := h.cells rdRow_len (by decide)
theorem rds_one (l : List Rd) : ∀ u, u ∈ l.flatMap rdRow → u.oneCell' = true := flat_one (fun x u hu => by simp [rdRow] at hu; rcases hu with rfl | rfl | rfl | rfl | rfl | rfl | rfl | rfl <;> rfl) l

theorem doubt41 (w : World) (b : Bx) (a : Option Addr) (c : Nat) (hB : RowsA kdRow 3 0 w a b.kinds) (hok : bxB b = true) (al : Option Addr) (cl : Nat) (ls : List Rd) (hl : RowsA rdRow 8 0 w al ls) (hn : ls.length ≤ 15) (t : Te) (ht : teB b t = true) (a2 : Option Addr) (f : Nat → Option Addr) (c2 : Nat) (cf : Nat → Nat) (ll : List (List Int)) (hll : LLA 0 w a2 f cf ll) (hin : ∀ x, x ∈ ll → canV b x = true) (u : Int) (hu : 0 ≤ u ∧ u ≤ 4294967295) (p1 p2 p3 p4 : Addr) (hp1 : CA 0 w p1 [.slice a2 ll.length c2]) (hp2 : CA 0 w p2 (bxRow b a c)) (hp3 : CA 0 w p3 [.int .u32 u]) (hp4 : CA 0 w p4 [.slice al ls.length cl]) : Calls Try.prog 41 #[.agg (teRow t).toArray, .pointer (some p1), .pointer (some p2), .pointer (some p3), .pointer (some p4)] w fun e w' => e = .returned (.bool (doubtV b ls ll t u)) ∧ Below w.heap.size w w' := by
  have hlen := hll.len
  refine calls_of_SC (args := [.agg (teRow t).toArray, .pointer (some p1), .pointer (some p2), .pointer (some p3), .pointer (some p4)]) Try.func41 rfl Try.ntmps41 rfl ?_
  simp only [argL, Nat.reduceAdd, Nat.zero_add]
  refine sc_seq ?_
  refine sc_region ?_
  refine sq_box RF rfl (fun b5 => ?_)
  refine qs (y_assign RF) ?_
  refine sq_nil ?_
  refine sx_then ?_
  refine sc_seq ?_
  refine sc_seq ?_
  refine sc_region ?_
  refine qs (by first | exact y_load_ca0 Try.underlying68 rfl RF MM hp1 rfl | exact LD68) ?_
  refine qs (y_len Try.underlying68 RF) ?_
  refine qs (y_move RF) ?_
  refine sq_nil ?_
  refine sx_then ?_
  refine sc_block ?_
  refine sc_loop (σ := Nat)
    (fun s => [(1, .pointer (some p1)), (2, .pointer (some p2)), (3, .pointer (some p3)), (4, .pointer (some p4)), (5, .pointer (some ⟨b5, 0, none⟩)), (16, .slice a2 ll.length c2), (17, .int .i64 ll.length), (18, .int .i64 s)])
    (fun s => [.blk b5 (.cells (teRow t).toArray 29 (0, 0)), .reg 0 w])
    (fun s => s ≤ ll.length ∧ ∀ q y, q < s → ll[q]? = some y → ((gotL (readV b t y) u).any fun g => badR b (ls ++ [⟨t, g⟩])) = false)
    (fun s => ll.length - s)
    (0) ?_ SU SR ?_
  · exact ⟨Nat.zero_le _, fun q y hq => absurd hq (Nat.not_lt_zero q)⟩
  rintro k ⟨hk, hno⟩
  refine sc_seq ?_
  refine sc_region ?_
  refine qs (y_lss RF RF) ?_
  refine sq_nil ?_
  refine sx_then ?_
  refine sc_seq ?_
  refine scp (fun hc0 => ?_) (fun hc0 => ?_)
  ·
    have hk' : k < ll.length := by omega
    obtain ⟨x, hx⟩ : ∃ x, ll[k]? = some x := ⟨_, List.getElem?_eq_getElem hk'⟩
    have hsx := (hll.el k x hx).1
    have hcx := (hll.el k x hx).2.1
    have hxr := (hll.el k x hx).2.2
    have hh := allL_ok hok x ((mem_allL hok x).2 (hin x (List.mem_of_getElem? hx)))
    have hrd := readK_bd hok ht hh x.length (Nat.le_refl _)
    have hle := readV_le hok ht hh
    have hhl := hh.len
    have hbp := (bxB_parts hok).1
    have hrem : 0 ≤ u % ((readV b t x).hi - (readV b t x).lo + 1) ∧ u % ((readV b t x).hi - (readV b t x).lo + 1) < (readV b t x).hi - (readV b t x).lo + 1 := ⟨Int.emod_nonneg _ (by omega), Int.emod_lt_of_pos _ (by omega)⟩
    unfold readV at hle hrem
    rw [show readK b t x x.length = (readV b t x) from rfl] at hrd hle hrem
    refine sc_skip ?_
    refine sx_then ?_
    refine sc_seq ?_
    refine sc_block ?_
    refine sc_seq ?_
    refine sc_region ?_
    refine qs IA68 ?_
    refine qs (by first | exact y_load_ca0 Try.underlying27 rfl RF MM hcx rfl | exact LD27) ?_
    refine qs (y_assign RF) ?_
    refine sq_nil ?_
    refine sx_then ?_
    refine sc_seq ?_
    refine sc_region ?_
    refine qs (by first | exact y_load_ca Try.underlying26 rfl Try.sizeOf26 RF MM hp2 rfl | exact LD26) ?_
    refine qs (y_move RF) ?_
    refine qs LD29 ?_
    refine qy (yc Try.call14 E3 (fun w1 hw1 => reads14x w1 b a c (hB.at hw1 MM) (f k) (cf k) x (hxr.at hw1 MM) t (readAns_ok hok ht (hin x (List.mem_of_getElem? hx))))) ?_
    refine qs (y_move RF) ?_
    refine qs (y_extract RF RF) ?_
    refine qs (y_extract RF RF) ?_
    refine sq_alloc Try.zeroValue24 rfl (fun b9 => ?_)
    refine sq_store_all Try.sizeOf24 RF RF rfl RM rfl rfl ?_
    refine qs (y_assign RF) ?_
    refine sq_nil ?_
    refine sx_then ?_
    refine sc_seq ?_
    refine sc_seq ?_
    refine sc_region ?_
    refine qs (y_move RF) ?_
    refine qs (y_neq RF RF) ?_
    refine sq_nil ?_
    refine sx_then ?_
    refine sc_f (lk_bool rfl (by simp)) ?_
    refine sc_skip ?_
    refine sx_then ?_
    refine sc_seq ?_
    refine sc_drawX ([.blk b9 (.cells (spRow (readV b t x)).toArray 24 (0, 0)), .reg 0 w]) (by kernel_rfl) ?_
    refine xj_s 0 RF (by kernel_rfl) SR FA24_3 rfl ?_
    refine xj_s 1 RF (by kernel_rfl) SR LD3 rfl ?_
    refine xj_s 2 RF (by kernel_rfl) SR FA24_3 rfl ?_
    refine xj_s 3 RF (by kernel_rfl) SR LD3 rfl ?_
    refine xj_s 4 RF (by kernel_rfl) SR FA24_3 rfl ?_
    refine xj_s 5 RF (by kernel_rfl) SR LD3 rfl ?_
    refine xj_s 6 RF (by kernel_rfl) SR (by first | exact y_load_ca0 Try.underlying67 rfl RF MM hp3 rfl | exact LD67) rfl ?_
    refine xj_s 7 RF (by kernel_rfl) SR (y_conv Try.underlying67 Try.underlying3 RF (wrap64_in (by omega) (by omega))) rfl ?_
    refine xj_s 8 RF (by kernel_rfl) SR FA24_3 rfl ?_
    refine xj_s 9 RF (by kernel_rfl) SR LD3 rfl ?_
    refine xj_s 10 RF (by kernel_rfl) SR FA24_3 rfl ?_
    refine xj_s 11 RF (by kernel_rfl) SR LD3 rfl ?_
    refine xj_s 12 RF (by kernel_rfl) SR (y_sub RF RF (by omega)) rfl ?_
    refine xj_s 13 RF (by kernel_rfl) SR (y_add RF RF (by omega)) rfl ?_
    refine xj_s 14 RF (by kernel_rfl) SR (y_rem RF RF (by first | omega | exact hu.1) (by first | omega | exact hu.1)) rfl ?_
    refine xj_s 15 RF (by kernel_rfl) SR (y_add RF RF (by omega)) rfl ?_
    refine xj_s 18 RF (by kernel_rfl) SR (y_move RF) rfl ?_
    refine xj_one 16 RF (by kernel_rfl) ?_
    refine sq_bs Try.underlying27 ei3 (EvI.cons RF (EvI.cons RF (EvI.cons RF EvI.nil))) (by first | (simp [Value.cells]; done) | (simp [Value.cells]; rfl) | (simp [Value.cells]; and_intros <;> rfl)) rfl rfl rfl (fun b47 => ?_)
    refine sq_nil ?_
    refine sx_xp SR ?_
    refine xj_s 17 RF (by kernel_rfl) SR (y_len Try.underlying27 RF) rfl ?_
    refine xj_done (by kernel_rfl) ?_
    refine sx_then ?_
    refine sc_block ?_
    refine sc_loop (σ := Nat)
      (fun s => [(1, .pointer (some p1)), (2, .pointer (some p2)), (3, .pointer (some p3)), (4, .pointer (some p4)), (5, .pointer (some ⟨b5, 0, none⟩)), (16, .slice a2 ll.length c2), (17, .int .i64 ll.length), (18, .int .i64 k), (8, .slice (f k) x.length (cf k)), (9, .pointer (some ⟨b9, 0, none⟩)), (47, .slice (some ⟨b47, 0, none⟩) 3 3), (48, .int .i64 ((3 : Nat) : Int)), (49, .int .i64 s)])
      (fun s => [.blk b5 (.cells (teRow t).toArray 29 (0, 0)), .blk b47 (.cells [Value.int .i64 (readV b t x).lo, .int .i64 (readV b t x).hi, .int .i64 ((readV b t x).lo + u % ((readV b t x).hi - (readV b t x).lo + 1))].toArray 3 (0, 0)), .reg 0 w])
      (fun s => s ≤ 3 ∧ ∀ j, j < s → badR b (ls ++ [⟨t, (gotL (readV b t x) u).getD j 0⟩]) = false)
      (fun s => 3 - s)
      (0) ?_ SU SR ?_
    · exact ⟨Nat.zero_le _, fun j hj => absurd hj (Nat.not_lt_zero j)⟩
    rintro q ⟨hq, hqno⟩
    refine sc_seq ?_
    refine sc_region ?_
    refine qs (y_lss RF RF) ?_
    refine sq_nil ?_
    refine sx_then ?_
    refine sc_seq ?_
    refine scp (fun hc2 => ?_) (fun hc2 => ?_)
    ·
      have hq' : q < 3 := by omega
      refine sc_skip ?_
      refine sx_then ?_
      refine sc_seq ?_
      refine sc_block ?_
      refine sc_seq ?_
      refine sc_region ?_
      refine qs IA27 ?_
      refine qs (by first | exact y_load_blk (v := .int .i64 ((gotL (readV b t x) u).getD q 0)) Try.underlying3 rfl RF MM (got_cell (readV b t x) u hq') | exact LD3) ?_
      refine qs (y_assign RF) ?_
      refine sq_nil ?_
      refine sx_then ?_
      refine sc_seq ?_
      refine sc_midE (Z := {v : Value // v.oneCell' = true}) (fun z => [(1, .pointer (some p1)), (2, .pointer (some p2)), (3, .pointer (some p3)), (4, .pointer (some p4)), (5, .pointer (some ⟨b5, 0, none⟩)), (16, .slice a2 ll.length c2), (17, .int .i64 ll.length), (18, .int .i64 k), (8, .slice (f k) x.length (cf k)), (9, .pointer (some ⟨b9, 0, none⟩)), (47, .slice (some ⟨b47, 0, none⟩) 3 3), (48, .int .i64 ((3 : Nat) : Int)), (49, .int .i64 q), (12, .int .i64 ((gotL (readV b t x) u).getD q 0)), (13, z.1)]) (fun z => [.own z.1 54 8 (ls ++ [(⟨t, ((gotL (readV b t x) u).getD q 0)⟩ : Rd)]).length ((ls ++ [(⟨t, ((gotL (readV b t x) u).getD q 0)⟩ : Rd)]).flatMap rdRow), .blk b5 (.cells (teRow t).toArray 29 (0, 0)), .blk b47 (.cells [Value.int .i64 (readV b t x).lo, .int .i64 (readV b t x).hi, .int .i64 ((readV b t x).lo + u % ((readV b t x).hi - (readV b t x).lo + 1))].toArray 3 (0, 0)), .reg 0 w]) ?_ ?_
      ·
        refine sc_drawX ([.blk b5 (.cells (teRow t).toArray 29 (0, 0)), .reg 0 w]) (by kernel_rfl) ?_
        refine xj_s 1 RF (by kernel_rfl) SR (by first | exact y_load_ca0 Try.underlying30 rfl RF MM hp4 rfl | exact LD30) rfl ?_
        refine xj_s 3 RF (by kernel_rfl) SR LD29 rfl ?_
        refine xj_s 4 RF (by kernel_rfl) SR (y_move RF) rfl ?_
        refine xj_s 5 RF (by kernel_rfl) SR (y_build (cells := (rdRow ⟨t, ((gotL (readV b t x) u).getD q 0)⟩).toArray) bt54 (EvP.cons RF (EvP.cons RF EvP.nil)) (by kernel_rfl)) rfl ?_
        refine xj_all (l := [0, 6]) (by kernel_rfl) (by simp) (Each.cons ⟨_, rfl, ?_⟩ (Each.cons ⟨_, rfl, ?_⟩ Each.nil))
        ·
          refine sq_bs Try.underlying30 ei54 (EvI.nil) (by simp) rfl rfl rfl (fun b53 => ?_)
          refine sq_blk_own0 (sz := 8) (c := 0) RM rfl (Nat.zero_le _) ?_
          refine sq_nil ?_
          refine sx_xp SR ?_
          refine xj_all (l := [2, 6]) (by kernel_rfl) (by simp) (Each.cons ⟨_, rfl, ?_⟩ (Each.cons ⟨_, rfl, ?_⟩ Each.nil))
          ·
            refine sq_append_rows (news := ls.flatMap rdRow) Try.underlying30 ei54 Try.sizeOf54 rfl (by decide) RF RM RF hl.noa (flat_len rdRow_len ls) (fun ad had w1 hw1 => rds_cells (by rw [← had]; exact hl.at hw1 MM)) (rds_one ls) (by omega) rfl (fun v55 ho55 => ?_)
            rw [Nat.zero_add ls.length, List.nil_append]
            refine sq_nil ?_
            refine sx_xp SR ?_
            refine xj_one 6 RF (by kernel_rfl) ?_
            refine sq_bs Try.underlying30 ei54 (EvI.cons RF EvI.nil) (by first | (simp [Value.cells]; done) | (simp [Value.cells]; rfl) | (simp [Value.cells]; and_intros <;> rfl)) rfl rfl rfl (fun b59 => ?_)
            refine sq_nil ?_
            refine sx_xp SR ?_
            refine xj_one 7 RF (by kernel_rfl) ?_
            refine sq_append (news := rdRow ⟨t, ((gotL (readV b t x) u).getD q 0)⟩) Try.underlying30 ei54 rfl (by decide) RF RM RF rfl (fun _ hw => news_blk hw MM) (by simp [rdRow, Value.oneCell']) (by omega) rfl (fun v60 ho60 => ?_)
            rw [show ls.flatMap rdRow ++ rdRow ⟨t, ((gotL (readV b t x) u).getD q 0)⟩ = (ls ++ [(⟨t, ((gotL (readV b t x) u).getD q 0)⟩ : Rd)]).flatMap rdRow from by simp, show ls.length + 1 = (ls ++ [(⟨t, ((gotL (readV b t x) u).getD q 0)⟩ : Rd)]).length from by simp]
            refine sq_nil ?_
            refine sx_xp SR ?_
            refine xj_s 8 RF (by kernel_rfl) SR (y_assign RF) rfl ?_
            refine xj_done (by kernel_rfl) ?_
            exact sx_midE (⟨v60, ho60⟩) SU SR
          ·
            refine sq_bs Try.underlying30 ei54 (EvI.cons RF EvI.nil) (by first | (simp [Value.cells]; done) | (simp [Value.cells]; rfl) | (simp [Value.cells]; and_intros <;> rfl)) rfl rfl rfl (fun b59 => ?_)
            refine sq_nil ?_
            refine sx_xp SR ?_
            refine xj_one 2 RF (by kernel_rfl) ?_
            refine sq_append_rows (news := ls.flatMap rdRow) Try.underlying30 ei54 Try.sizeOf54 rfl (by decide) RF RM RF hl.noa (flat_len rdRow_len ls) (fun ad had w1 hw1 => rds_cells (by rw [← had]; exact hl.at hw1 MM)) (rds_one ls) (by omega) rfl (fun v55 ho55 => ?_)
            rw [Nat.zero_add ls.length, List.nil_append]
            refine sq_nil ?_
            refine sx_xp SR ?_
            refine xj_one 7 RF (by kernel_rfl) ?_
            refine sq_append (news := rdRow ⟨t, ((gotL (readV b t x) u).getD q 0)⟩) Try.underlying30 ei54 rfl (by decide) RF RM RF rfl (fun _ hw => news_blk hw MM) (by simp [rdRow, Value.oneCell']) (by omega) rfl (fun v60 ho60 => ?_)
            rw [show ls.flatMap rdRow ++ rdRow ⟨t, ((gotL (readV b t x) u).getD q 0)⟩ = (ls ++ [(⟨t, ((gotL (readV b t x) u).getD q 0)⟩ : Rd)]).flatMap rdRow from by simp, show ls.length + 1 = (ls ++ [(⟨t, ((gotL (readV b t x) u).getD q 0)⟩ : Rd)]).length from by simp]
            refine sq_nil ?_
            refine sx_xp SR ?_
            refine xj_s 8 RF (by kernel_rfl) SR (y_assign RF) rfl ?_
            refine xj_done (by kernel_rfl) ?_
            exact sx_midE (⟨v60, ho60⟩) SU SR
        ·
          refine sq_bs Try.underlying30 ei54 (EvI.cons RF EvI.nil) (by first | (simp [Value.cells]; done) | (simp [Value.cells]; rfl) | (simp [Value.cells]; and_intros <;> rfl)) rfl rfl rfl (fun b59 => ?_)
          refine sq_nil ?_
          refine sx_xp SR ?_
          refine xj_one 0 RF (by kernel_rfl) ?_
          refine sq_bs Try.underlying30 ei54 (EvI.nil) (by simp) rfl rfl rfl (fun b53 => ?_)
          refine sq_blk_own0 (sz := 8) (c := 0) RM rfl (Nat.zero_le _) ?_
          refine sq_nil ?_
          refine sx_xp SR ?_
          refine xj_one 2 RF (by kernel_rfl) ?_
          refine sq_append_rows (news := ls.flatMap rdRow) Try.underlying30 ei54 Try.sizeOf54 rfl (by decide) RF RM RF hl.noa (flat_len rdRow_len ls) (fun ad had w1 hw1 => rds_cells (by rw [← had]; exact hl.at hw1 MM)) (rds_one ls) (by omega) rfl (fun v55 ho55 => ?_)
          rw [Nat.zero_add ls.length, List.nil_append]
          refine sq_nil ?_
          refine sx_xp SR ?_
          refine xj_one 7 RF (by kernel_rfl) ?_
          refine sq_append (news := rdRow ⟨t, ((gotL (readV b t x) u).getD q 0)⟩) Try.underlying30 ei54 rfl (by decide) RF RM RF rfl (fun _ hw => news_blk hw MM) (by simp [rdRow, Value.oneCell']) (by omega) rfl (fun v60 ho60 => ?_)
          rw [show ls.flatMap rdRow ++ rdRow ⟨t, ((gotL (readV b t x) u).getD q 0)⟩ = (ls ++ [(⟨t, ((gotL (readV b t x) u).getD q 0)⟩ : Rd)]).flatMap rdRow from by simp, show ls.length + 1 = (ls ++ [(⟨t, ((gotL (readV b t x) u).getD q 0)⟩ : Rd)]).length from by simp]
          refine sq_nil ?_
          refine sx_xp SR ?_
          refine xj_s 8 RF (by kernel_rfl) SR (y_assign RF) rfl ?_
          refine xj_done (by kernel_rfl) ?_
          exact sx_midE (⟨v60, ho60⟩) SU SR
      rintro ⟨v13, hv13⟩
      try dsimp only
      refine sx_then ?_
      refine sc_seq ?_
      refine sc_region ?_
      refine qs (by first | exact y_load_ca Try.underlying26 rfl Try.sizeOf26 RF MM hp2 rfl | exact LD26) ?_
      refine qs (y_move RF) ?_
      refine qy (yc Try.call16 E2 (fun w1 hw1 => judge16w w1 b a c (hB.at hw1 MM) v13 (ls ++ [(⟨t, ((gotL (readV b t x) u).getD q 0)⟩ : Rd)]) (hw1.ok (Res.own v13 54 8 (ls ++ [(⟨t, ((gotL (readV b t x) u).getD q 0)⟩ : Rd)]).length ((ls ++ [(⟨t, ((gotL (readV b t x) u).getD q 0)⟩ : Rd)]).flatMap rdRow)) MM) (by rw [List.length_append, List.length_singleton]; omega))) ?_
      refine qs (y_move RF) ?_
      refine qs (y_extract RF RF) ?_
      refine qs (y_extract RF RF) ?_
      refine qs (y_assign RF) ?_
      refine qs (y_assign RF) ?_
      refine sq_nil ?_
      refine sx_then ?_
      refine sc_seq ?_
      refine sc_region ?_
      refine qs (y_move RF) ?_
      refine qs (y_neq RF RF) ?_
      refine qs (y_move RF) ?_
      refine sp 69 (fun hg12_2 => ?_) (fun hg12_2 => ?_)
      ·
        refine qf ?_
        refine qf ?_
        refine qs (y_pick_t RF RF) ?_
        refine sq_nil ?_
        refine sx_then ?_
        refine sc_t RF ?_
        refine sc_seq ?_
        refine sc_region ?_
        refine qs (y_assign RF) ?_
        refine sq_nil ?_
        refine sx_then ?_
        refine sc_ret ?_
        refine sx_blk_ret ?_
        refine sx_then_ret ?_
        refine sx_round_ret ?_
        refine sx_blk_ret ?_
        refine sx_blk_ret ?_
        refine sx_then_ret ?_
        refine sx_round_ret ?_
        refine sx_blk_ret ?_
        refine sx_then_ret ?_
        refine sx_ret1 (.inl rfl) rfl Try.results41 RF ?_
        intro w' hw'
        refine ⟨?_, hw'.below MM⟩
        have hd : doubtV b ls ll t u = true := List.any_eq_true.2 ⟨x, List.mem_of_getElem? hx, List.any_eq_true.2 ⟨((gotL (readV b t x) u).getD q 0), List.mem_of_getElem? (get_of_lt 0 hq'), by rw [badR_jn, decide_eq_false hg12_2]; rfl⟩⟩
        rw [hd]
      ·
        refine qg (y_move RF) ?_
        refine qg (y_eql RF RF) ?_
        refine qs (y_pick_f RF RF) ?_
        refine sq_nil ?_
        refine sx_then ?_
        refine scp (fun hc3 => ?_) (fun hc3 => ?_)
        ·
          refine sc_seq ?_
          refine sc_region ?_
          refine qs (y_assign RF) ?_
          refine sq_nil ?_
          refine sx_then ?_
          refine sc_ret ?_
          refine sx_blk_ret ?_
          refine sx_then_ret ?_
          refine sx_round_ret ?_
          refine sx_blk_ret ?_
          refine sx_blk_ret ?_
          refine sx_then_ret ?_
          refine sx_round_ret ?_
          refine sx_blk_ret ?_
          refine sx_then_ret ?_
          refine sx_ret1 (.inl rfl) rfl Try.results41 RF ?_
          intro w' hw'
          refine ⟨?_, hw'.below MM⟩
          have hd : doubtV b ls ll t u = true := List.any_eq_true.2 ⟨x, List.mem_of_getElem? hx, List.any_eq_true.2 ⟨((gotL (readV b t x) u).getD q 0), List.mem_of_getElem? (get_of_lt 0 hq'), by rw [badR_jn, decide_eq_true hc3, Bool.or_true]⟩⟩
          rw [hd]
        ·
          refine sc_skip ?_
          refine sx_blk ?_
          refine sx_then ?_
          refine sc_region ?_
          refine qs (y_add RF RF (by omega)) ?_
          refine qs (y_move RF) ?_
          refine sq_nil ?_
          refine sx_round (q + 1) ?_ ?_ SU SR
          · refine ⟨by omega, fun j hj => ?_⟩
            rcases Nat.lt_succ_iff_lt_or_eq.1 hj with h9 | rfl
            · exact hqno j h9
            · rw [badR_jn, decide_eq_true hg12_2, decide_eq_false hc3]; rfl
          · omega
    ·
      have hq3 : q = 3 := by omega
      have hgno : ((gotL (readV b t x) u).any fun g => badR b (ls ++ [⟨t, g⟩])) = false := by
        subst hq3
        rw [List.any_eq_false]
        intro g hg
        obtain ⟨j, hj⟩ := List.getElem?_of_mem hg
        have := hqno j (List.getElem?_eq_some_iff.1 hj).1
        rw [getD_of hj] at this
        rw [this]; decide
      refine sc_exit ?_
      refine sx_then_exit ?_
      refine sx_round_exit ?_
      refine sx_blk_hit ?_
      refine sx_blk ?_
      refine sx_then ?_
      refine sc_region ?_
      refine qs (y_add RF RF (by omega)) ?_
      refine qs (y_move RF) ?_
      refine sq_nil ?_
      refine sx_round (k + 1) ?_ ?_ SU SR
      · refine ⟨by omega, fun q2 y hq hy => ?_⟩
        rcases Nat.lt_succ_iff_lt_or_eq.1 hq with h9 | rfl
        · exact hno q2 y h9 hy
        · rw [hx] at hy; injection hy with hy; subst hy
          exact hgno
      · omega
  ·
    refine sc_exit ?_
    refine sx_then_exit ?_
    refine sx_round_exit ?_
    refine sx_blk_hit ?_
    refine sx_then ?_
    refine sc_seq ?_
    refine sc_region ?_
    refine qs (y_assign RF) ?_
    refine sq_nil ?_
    refine sx_then ?_
    refine sc_ret ?_
    refine sx_ret1 (.inl rfl) rfl Try.results41 RF ?_
    intro w' hw'
    refine ⟨?_, hw'.below MM⟩
    have hkn : k = ll.length := by omega
    have hd : doubtV b ls ll t u = false := by
      unfold doubtV
      rw [List.any_eq_false]
      intro x hx
      obtain ⟨i, hi⟩ := List.getElem?_of_mem hx
      rw [hno i x (by rw [hkn]; exact (List.getElem?_eq_some_iff.1 hi).1) hi]; decide
    rw [hd]
theorem next25x (w : World) (b : Bx) (a : Option Addr) (c : Nat) (hB : RowsA kdRow 3 0 w a b.kinds) (al : Option Addr) (cl : Nat) (ls : List Rd) (hl : RowsA rdRow 8 0 w al ls) (at_ : Option Addr) (ct : Nat) (ts : List Te) (ht : RowsA teRow 7 0 w at_ ts) {z1 z2 : Int} (h : nextR b ls ts = (z1, z2)) : Calls Try.prog 25 #[.agg (bxRow b a c).toArray, .slice al ls.length cl, .slice at_ ts.length ct] w fun e w' => e = .returned (.tuple #[.int .i64 z1, .int .i64 z2]) ∧ Below w.heap.size w w' := by
  have := next25 w b a c hB al cl ls hl at_ ct ts ht
  rw [h] at this; exact this
theorem next9 (w : World) (b : Bx) (a : Option Addr) (c : Nat) (hB : RowsA kdRow 3 0 w a b.kinds) (al : Option Addr) (cl : Nat) (ls : List Rd) (hl : RowsA rdRow 8 0 w al ls) (at_ : Option Addr) (ct : Nat) (ts : List Te) (ht : RowsA teRow 7 0 w at_ ts) (u : Int) (hu : 0 ≤ u ∧ u ≤ 4294967295) : Calls Try.prog 9 #[.agg (bxRow b a c).toArray, .slice al ls.length cl, .slice at_ ts.length ct, .int .u32 u] w fun e w' => e = .returned (.bool true) ∧ Below w.heap.size w w' := by
  have htlen := ht.len
  obtain ⟨z1, z2, hN⟩ : ∃ z1 z2, nextR b ls ts = (z1, z2) := ⟨_, _, rfl⟩
  refine calls_of_SC (args := [.agg (bxRow b a c).toArray, .slice al ls.length cl, .slice at_ ts.length ct, .int .u32 u]) Try.func9 rfl Try.ntmps9 rfl ?_
  simp only [argL, Nat.reduceAdd, Nat.zero_add]
  refine sc_seq ?_
  refine sc_region ?_
  refine sq_box RF rfl (fun b4 => ?_)
  refine sq_box RF rfl (fun b5 => ?_)
  refine sq_box RF rfl (fun b7 => ?_)
  refine qs (y_assign RF) ?_
  refine sq_nil ?_
  refine sx_then ?_
  refine sc_seq ?_
  refine sc_seq ?_
  refine sc_region ?_
  refine qs LD26 ?_
  refine qs LD30 ?_
  refine qs (y_move RF) ?_
  refine qy (yc Try.call12 E4 (fun w1 hw1 => great12 w1 b a c (hB.at hw1 MM) 2 al cl ls.length at_ ct ts.length)) ?_
  refine qs (y_move RF) ?_
  refine spb 23 (fun hg1_4 => ?_) (fun hg1_4 => ?_)
  ·
    refine qf ?_
    refine qf ?_
    refine qf ?_
    refine qs (y_pick_t RF RF) ?_
    refine qs (y_move RF) ?_
    refine qf ?_
    refine qf ?_
    refine qf ?_
    refine qs (y_pick_t RF RF) ?_
    refine qs (y_move RF) ?_
    refine qf ?_
    refine qf ?_
    refine qf ?_
    refine qs (y_pick_t RF RF) ?_
    refine sq_nil ?_
    refine sx_then ?_
    refine sc_t RF ?_
    refine sc_seq ?_
    refine sc_region ?_
    refine qy (yc Try.call13 E0 (fun w1 _ => alive13 w1)) ?_
    refine qs (y_assign RF) ?_
    refine sq_nil ?_
    refine sx_then ?_
    refine sc_ret ?_
    refine sx_then_ret ?_
    refine sx_ret1 (.inl rfl) rfl Try.results9 RF ?_
    intro w' hw'
    exact ⟨rfl, hw'.below MM⟩
  ·
    refine qg LD30 ?_
    refine qg (y_len Try.underlying30 RF) ?_
    refine qg (y_geq RF RF) ?_
    refine qs (y_pick_f RF RF) ?_
    refine qs (y_move RF) ?_
    refine sp 28 (fun hg1_9 => ?_) (fun hg1_9 => ?_)
    ·
      refine qf ?_
      refine qf ?_
      refine qf ?_
      refine qs (y_pick_t RF RF) ?_
      refine qs (y_move RF) ?_
      refine qf ?_
      refine qf ?_
      refine qf ?_
      refine qs (y_pick_t RF RF) ?_
      refine sq_nil ?_
      refine sx_then ?_
      refine sc_t RF ?_
      refine sc_seq ?_
      refine sc_region ?_
      refine qy (yc Try.call13 E0 (fun w1 _ => alive13 w1)) ?_
      refine qs (y_assign RF) ?_
      refine sq_nil ?_
      refine sx_then ?_
      refine sc_ret ?_
      refine sx_then_ret ?_
      refine sx_ret1 (.inl rfl) rfl Try.results9 RF ?_
      intro w' hw'
      exact ⟨rfl, hw'.below MM⟩
    ·
      refine qg (y_move RF) ?_
      refine qg (y_len Try.underlying43 RF) ?_
      refine qg (y_gtr RF RF) ?_
      refine qs (y_pick_f RF RF) ?_
      refine qs (y_move RF) ?_
      refine sp 33 (fun hg1_14 => ?_) (fun hg1_14 => ?_)
      ·
        refine qf ?_
        refine qf ?_
        refine qf ?_
        refine qs (y_pick_t RF RF) ?_
        refine sq_nil ?_
        refine sx_then ?_
        refine sc_t RF ?_
        refine sc_seq ?_
        refine sc_region ?_
        refine qy (yc Try.call13 E0 (fun w1 _ => alive13 w1)) ?_
        refine qs (y_assign RF) ?_
        refine sq_nil ?_
        refine sx_then ?_
        refine sc_ret ?_
        refine sx_then_ret ?_
        refine sx_ret1 (.inl rfl) rfl Try.results9 RF ?_
        intro w' hw'
        exact ⟨rfl, hw'.below MM⟩
      ·
        refine qg LD26 ?_
        refine sq_gt RF RF (y_call (first := []) (caps := []) RF Try.call32 (EvL.cons RF EvL.nil) (fun w1 hw1 => box32 w1 b a c (hB.at hw1 MM))) rfl ?_
        refine qg (y_not RF) ?_
        refine qs (y_pick_f RF RF) ?_
        refine sq_nil ?_
        refine sx_then ?_
        refine scp (fun hc0 => ?_) (fun hc0 => ?_)
        ·
          refine sc_seq ?_
          refine sc_region ?_
          refine qy (yc Try.call13 E0 (fun w1 _ => alive13 w1)) ?_
          refine qs (y_assign RF) ?_
          refine sq_nil ?_
          refine sx_then ?_
          refine sc_ret ?_
          refine sx_then_ret ?_
          refine sx_ret1 (.inl rfl) rfl Try.results9 RF ?_
          intro w' hw'
          exact ⟨rfl, hw'.below MM⟩
        ·
          refine sc_skip ?_
          refine sx_then ?_
          refine sc_seq ?_
          have hok : bxB b = true := by simpa using hc0
          have hn15 : ls.length ≤ 15 := by omega
          have hcs := next_cases b ls ts hn15 (by omega) hN
          refine sc_region ?_
          refine qs LD26 ?_
          refine qs LD30 ?_
          refine qs (y_move RF) ?_
          refine qy (yc Try.call25 E3 (fun w1 hw1 => next25x w1 b a c (hB.at hw1 MM) al cl ls (hl.at hw1 MM) at_ ct ts (ht.at hw1 MM) hN)) ?_
          refine qs (y_move RF) ?_
          refine qs (y_extract RF RF) ?_
          refine qs (y_extract RF RF) ?_
          refine qs (y_assign RF) ?_
          refine qs (y_assign RF) ?_
          refine sq_nil ?_
          refine sx_then ?_
          refine sc_seq ?_
          refine sc_region ?_
          refine qs LD26 ?_
          refine qs LD30 ?_
          refine qy (yc Try.call16 E2 (fun w1 hw1 => judge16x w1 b a c (hB.at hw1 MM) al cl ls (hl.at hw1 MM) (judgeAns_jn b ls))) ?_
          refine qs (y_move RF) ?_
          refine qs (y_extract RF RF) ?_
          refine qs (y_extract RF RF) ?_
          refine qs (y_assign RF) ?_
          refine qs (y_assign RF) ?_
          refine sq_nil ?_
          refine sx_then ?_
          refine sc_seq ?_
          refine sc_seq ?_
          refine sc_region ?_
          refine qs (y_move RF) ?_
          refine qs (y_eql RF RF) ?_
          refine sq_nil ?_
          refine sx_then ?_
          refine scp (fun hc1 => ?_) (fun hc1 => ?_)
          ·
            have hz1 : z1 = 0 := by rcases hcs with h | ⟨_, _, h | ⟨_, _, h | ⟨h, _⟩⟩⟩ <;> omega
            refine sc_seq ?_
            refine sc_region ?_
            refine qs (y_move RF) ?_
            refine qs (y_eql RF RF) ?_
            refine qs (y_move RF) ?_
            refine sq_known (tt := 56) (b' := true) RF (decide_eq_true hz1) ?_
            refine sq_gt RF RF (y_call (first := []) (caps := []) RF Try.call13 EvL.nil (fun w1 _ => alive13 w1)) rfl ?_
            refine qs (y_pick_t RF RF) ?_
            refine qs (y_assign RF) ?_
            refine sq_nil ?_
            refine sx_then ?_
            refine sc_ret ?_
            refine sx_then_ret ?_
            refine sx_ret1 (.inl rfl) rfl Try.results9 RF ?_
            intro w' hw'
            exact ⟨rfl, hw'.below MM⟩
          ·
            refine sc_skip ?_
            refine sx_then ?_
            refine sc_seq ?_
            refine sc_seq ?_
            obtain ⟨hchk, hchk0, hcs⟩ := hcs.resolve_left (fun h => hc1 h.1)
            have hz := chk_zero hchk
            have hcanf : ∀ x, x ∈ fitL b ls → canV b x = true := fun x hx => (mem_allL hok x).1 (List.mem_filter.1 hx).1
            refine sc_midE (Z := {x : Bool // x = false}) (fun z => [(2, .slice at_ ts.length ct), (4, .pointer (some ⟨b4, 0, none⟩)), (5, .pointer (some ⟨b5, 0, none⟩)), (7, .pointer (some ⟨b7, 0, none⟩)), (9, .int .i64 z1), (10, .int .i64 z2), (67, .bool z.1)]) (fun _ => [.blk b7 (.cells [Value.int .u32 u].toArray 67 (0, 0)), .blk b5 (.cells [Value.slice al ls.length cl].toArray 30 (0, 0)), .blk b4 (.cells (bxRow b a c).toArray 26 (0, 0)), .reg 0 w]) ?_ ?_
            ·
              refine sc_region ?_
              refine qs (y_move RF) ?_
              refine qs (y_eql RF RF) ?_
              refine qs (y_move RF) ?_
              refine qs (y_neq RF RF) ?_
              refine qs (y_move RF) ?_
              refine sp 63 (fun hg7_4 => ?_) (fun hg7_4 => ?_)
              ·
                refine qf ?_
                refine qf ?_
                refine qs (y_pick_t RF RF) ?_
                refine qs (y_neqb Try.underlying4 RF RF) ?_
                refine sq_nil ?_
                exact sx_midE (⟨!(decide (z2 = 6) == true), by rcases hcs with ⟨h, _⟩ | ⟨h, _⟩ <;> first | (rw [decide_eq_true h]; rfl) | exact absurd h hg7_4⟩) SU SR
              ·
                refine qg (y_move RF) ?_
                refine qg (y_neq RF RF) ?_
                refine qs (y_pick_f RF RF) ?_
                refine qs (y_neqb Try.underlying4 RF RF) ?_
                refine sq_nil ?_
                exact sx_midE (⟨!(decide (z2 = 6) == !decide (jn b ls = 1)), by rcases hcs with ⟨h, _, h2⟩ | ⟨_, h, h2⟩ <;> first | (rw [decide_eq_true h, decide_eq_false (by omega)]; rfl) | (rw [decide_eq_true h, decide_eq_false (by omega)]; rfl)⟩) SU SR
            rintro ⟨x, hx⟩
            try dsimp only
            refine sx_then ?_
            refine sc_f (lk_bool rfl (hx)) ?_
            refine sc_skip ?_
            refine sx_then ?_
            refine sc_seq ?_
            refine sc_seq ?_
            refine sc_region ?_
            refine qs (y_move RF) ?_
            refine qs (y_eql RF RF) ?_
            refine sq_nil ?_
            refine sx_then ?_
            refine scp (fun hc3 => ?_) (fun hc3 => ?_)
            ·
              have hz1 : z1 = 0 := by rcases hcs with h | ⟨_, _, h | ⟨h, _⟩⟩ <;> omega
              refine sc_seq ?_
              refine sc_region ?_
              refine qs (y_move RF) ?_
              refine qs (y_eql RF RF) ?_
              refine qs (y_move RF) ?_
              refine sq_known (tt := 72) (b' := true) RF (decide_eq_true hz1) ?_
              refine sq_gt RF RF (y_call (first := []) (caps := []) RF Try.call13 EvL.nil (fun w1 _ => alive13 w1)) rfl ?_
              refine qs (y_pick_t RF RF) ?_
              refine qs (y_assign RF) ?_
              refine sq_nil ?_
              refine sx_then ?_
              refine sc_ret ?_
              refine sx_then_ret ?_
              refine sx_ret1 (.inl rfl) rfl Try.results9 RF ?_
              intro w' hw'
              exact ⟨rfl, hw'.below MM⟩
            ·
              refine sc_skip ?_
              refine sx_then ?_
              refine sc_seq ?_
              obtain ⟨hop, hjn, hcs⟩ := hcs.resolve_left (fun h => hc3 h.1)
              refine sc_region ?_
              refine qs LD26 ?_
              refine qs LD30 ?_
              refine sq_call_new (first := []) (caps := []) (Z := Option Addr × (Nat → Option Addr) × Nat × (Nat → Nat)) (fun z => .slice z.1 (fitL b ls).length z.2.2.1) (fun lo w' z => w.heap.size ≤ lo ∧ Opened lo w' b ls z) RF Try.call40 (EvL.cons RF (EvL.cons RF EvL.nil)) (fun w1 hw1 => (fitting40 w1 b a c (hB.at hw1 MM) hok al cl ls (hl.at hw1 MM) hz.2.2.2.1).mono (fun e w' ⟨a2, f, c2, cf, he, hb, hL⟩ => ⟨(a2, f, c2, cf), he, hb, hw1.size, hL⟩)) rfl (fun lo wr zf hzf => ?_)
              refine sq_alloc Try.zeroValue68 rfl (fun b13 => ?_)
              refine sq_store Try.sizeOf68 RF RF (by first | rfl | assumption) RM (by first | exact Nat.le_of_ble_eq_true rfl | simp | omega) ?_
              refine sq_nil ?_
              refine sx_then ?_
              refine sc_seq ?_
              refine sc_region ?_
              refine qs (y_makeFunc EvL.nil (EvL.cons RF (EvL.cons RF (EvL.cons RF (EvL.cons RF EvL.nil))))) ?_
              refine qs (y_assign RF) ?_
              refine sq_nil ?_
              refine sx_then ?_
              refine sc_seq ?_
              refine sc_seq ?_
              refine sc_region ?_
              refine qs (y_move RF) ?_
              refine qs (y_neq RF RF) ?_
              refine sq_nil ?_
              refine sx_then ?_
              refine scp (fun hc4 => ?_) (fun hc4 => ?_)
              ·
                obtain ⟨hz4, hz1, hns⟩ := hcs.resolve_right (fun h => hc4 h.1)
                refine sc_seq ?_
                refine sc_seq ?_
                refine sc_region ?_
                refine qs (y_move RF) ?_
                refine qs (y_neq RF RF) ?_
                refine qs (y_move RF) ?_
                refine sq_known (tt := 83) (b' := false) RF (by rw [decide_eq_true hz1]; rfl) ?_
                refine qg (y_move RF) ?_
                refine qg (y_neq RF RF) ?_
                refine qs (y_pick_f RF RF) ?_
                refine sq_nil ?_
                refine sx_then ?_
                refine sc_f (lk_bool rfl (by rw [decide_eq_true hz4]; rfl)) ?_
                refine sc_skip ?_
                refine sx_then ?_
                refine sc_seq ?_
                refine sc_seq ?_
                refine sc_region ?_
                refine qs (y_move RF) ?_
                refine qs (y_len Try.underlying43 RF) ?_
                refine qs (y_move RF) ?_
                refine sq_nil ?_
                refine sx_then ?_
                refine sc_block ?_
                refine sc_loop (σ := Nat)
                  (fun s => [(2, .slice at_ ts.length ct), (4, .pointer (some ⟨b4, 0, none⟩)), (5, .pointer (some ⟨b5, 0, none⟩)), (7, .pointer (some ⟨b7, 0, none⟩)), (9, .int .i64 z1), (14, .func (.func 41) #[] #[.pointer (some ⟨b13, 0, none⟩), .pointer (some ⟨b4, 0, none⟩), .pointer (some ⟨b7, 0, none⟩), .pointer (some ⟨b5, 0, none⟩)]), (87, .slice at_ ts.length ct), (88, .int .i64 ts.length), (89, .int .i64 s)])
                  (fun s => [.blk b13 (.cells [Value.slice zf.1 (fitL b ls).length zf.2.2.1].toArray 68 (0, 0)), .blk b7 (.cells [Value.int .u32 u].toArray 67 (0, 0)), .blk b5 (.cells [Value.slice al ls.length cl].toArray 30 (0, 0)), .blk b4 (.cells (bxRow b a c).toArray 26 (0, 0)), .reg lo wr, .reg 0 w])
                  (fun s => s ≤ ts.length)
                  (fun s => ts.length - s)
                  (0) ?_ SU SR ?_
                · exact Nat.zero_le _
                rintro i hi
                refine sc_seq ?_
                refine sc_region ?_
                refine qs (y_lss RF RF) ?_
                refine sq_nil ?_
                refine sx_then ?_
                refine sc_seq ?_
                refine scp (fun hc6 => ?_) (fun hc6 => ?_)
                ·
                  have hi' : i < ts.length := by omega
                  have hsm := (ht.get te0 hi').1
                  have hca := (ht.get te0 hi').2
                  have htv := hz.2.2.2.2 _ (List.mem_of_getElem? (get_of_lt te0 hi'))
                  refine sc_skip ?_
                  refine sx_then ?_
                  refine sc_seq ?_
                  refine sc_block ?_
                  refine sc_seq ?_
                  refine sc_region ?_
                  refine qs IA43 ?_
                  refine qs (by first | exact y_load_ca Try.underlying29 rfl Try.sizeOf29 RF MM hca rfl | exact LD29) ?_
                  refine sq_alloc Try.zeroValue29 rfl (fun b16 => ?_)
                  refine sq_store_all Try.sizeOf29 RF RF rfl RM rfl rfl ?_
                  refine sq_nil ?_
                  refine sx_then ?_
                  refine sc_seq ?_
                  refine sc_region ?_
                  refine qs (y_move RF) ?_
                  refine qs LD29 ?_
                  refine qy (y_call (first := []) (caps := [.pointer (some ⟨b13, 0, none⟩), .pointer (some ⟨b4, 0, none⟩), .pointer (some ⟨b7, 0, none⟩), .pointer (some ⟨b5, 0, none⟩)]) RF Try.call41 E1 (fun w1 hw1 => doubt41 w1 b a c (hB.at hw1 MM) hok al cl ls (hl.at hw1 MM) hn15 (ts.getD i te0) htv zf.1 zf.2.1 zf.2.2.1 zf.2.2.2 (fitL b ls) (hzf.2.at hw1 MM) hcanf u hu _ _ _ _ (CA.blk (vs := [.slice zf.1 (fitL b ls).length zf.2.2.1]) hw1 MM) (CA.blk hw1 MM) (CA.blk (vs := [.int .u32 u]) hw1 MM) (CA.blk (vs := [.slice al ls.length cl]) hw1 MM))) ?_
                  refine qs (y_not RF) ?_
                  refine sq_nil ?_
                  refine sx_then ?_
                  refine sc_f (lk_bool rfl (by rw [doubt_yes hok htv (hns i hi')]; rfl)) ?_
                  refine sc_skip ?_
                  refine sx_blk ?_
                  refine sx_then ?_
                  refine sc_region ?_
                  refine qs (y_add RF RF (by omega)) ?_
                  refine qs (y_move RF) ?_
                  refine sq_nil ?_
                  refine sx_round (i + 1) ?_ ?_ SU SR
                  · omega
                  · omega
                ·
                  refine sc_exit ?_
                  refine sx_then_exit ?_
                  refine sx_round_exit ?_
                  refine sx_blk_hit ?_
                  refine sx_then ?_
                  refine sc_seq ?_
                  refine sc_region ?_
                  refine qy (yc Try.call13 E0 (fun w1 _ => alive13 w1)) ?_
                  refine qs (y_assign RF) ?_
                  refine sq_nil ?_
                  refine sx_then ?_
                  refine sc_ret ?_
                  refine sx_then_ret ?_
                  refine sx_ret1 (.inl rfl) rfl Try.results9 RF ?_
                  intro w' hw'
                  exact ⟨rfl, hw'.below MM⟩
              ·
                refine sc_skip ?_
                refine sx_then ?_
                refine sc_seq ?_
                refine sc_seq ?_
                obtain ⟨_, k, rfl, hk, hset, hmin⟩ := hcs.resolve_left (fun h => by omega)
                have hsk := (ht.get te0 hk).1
                have hcak := (ht.get te0 hk).2
                refine sc_region ?_
                refine qs (y_move RF) ?_
                refine qs (y_lss RF RF) ?_
                refine qs (y_move RF) ?_
                refine sq_known (tt := 101) (b' := false) RF (decide_eq_false (by omega)) ?_
                refine qg (y_move RF) ?_
                refine qg (y_move RF) ?_
                refine qg (y_len Try.underlying43 RF) ?_
                refine qg (y_geq RF RF) ?_
                refine qs (y_pick_f RF RF) ?_
                refine qs (y_move RF) ?_
                refine sq_known (tt := 107) (b' := false) RF (decide_eq_false (by omega)) ?_
                refine qg (y_move RF) ?_
                refine qg (y_move RF) ?_
                refine qg (y_move RF) ?_
                refine qg IA43 ?_
                refine qg (by first | exact y_load_ca Try.underlying29 rfl Try.sizeOf29 RF MM hcak rfl | exact LD29) ?_
                refine sq_gt RF RF (y_call (first := []) (caps := [.pointer (some ⟨b13, 0, none⟩), .pointer (some ⟨b4, 0, none⟩), .pointer (some ⟨b7, 0, none⟩), .pointer (some ⟨b5, 0, none⟩)]) RF Try.call41 E1 (fun w1 hw1 => doubt41 w1 b a c (hB.at hw1 MM) hok al cl ls (hl.at hw1 MM) hn15 (ts.getD k te0) (hz.2.2.2.2 _ (List.mem_of_getElem? (get_of_lt te0 hk))) zf.1 zf.2.1 zf.2.2.1 zf.2.2.2 (fitL b ls) (hzf.2.at hw1 MM) hcanf u hu _ _ _ _ (CA.blk (vs := [.slice zf.1 (fitL b ls).length zf.2.2.1]) hw1 MM) (CA.blk hw1 MM) (CA.blk (vs := [.int .u32 u]) hw1 MM) (CA.blk (vs := [.slice al ls.length cl]) hw1 MM))) rfl ?_
                refine qs (y_pick_f RF RF) ?_
                refine sq_nil ?_
                refine sx_then ?_
                refine sc_f (lk_bool rfl (doubt_no hchk0 hn15 (hz.2.2.2.2 _ (List.mem_of_getElem? (get_of_lt te0 hk))) hset)) ?_
                refine sc_skip ?_
                refine sx_then ?_
                refine sc_seq ?_
                refine sc_seq ?_
                refine sc_region ?_
                refine qs (y_move RF) ?_
                refine qs (y_len Try.underlying43 RF) ?_
                refine qs (y_move RF) ?_
                refine sq_nil ?_
                refine sx_then ?_
                refine sc_block ?_
                refine sc_loop (σ := Nat)
                  (fun s => [(2, .slice at_ ts.length ct), (4, .pointer (some ⟨b4, 0, none⟩)), (5, .pointer (some ⟨b5, 0, none⟩)), (7, .pointer (some ⟨b7, 0, none⟩)), (9, .int .i64 k), (14, .func (.func 41) #[] #[.pointer (some ⟨b13, 0, none⟩), .pointer (some ⟨b4, 0, none⟩), .pointer (some ⟨b7, 0, none⟩), .pointer (some ⟨b5, 0, none⟩)]), (115, .slice at_ ts.length ct), (116, .int .i64 ts.length), (117, .int .i64 s)])
                  (fun s => [.blk b13 (.cells [Value.slice zf.1 (fitL b ls).length zf.2.2.1].toArray 68 (0, 0)), .blk b7 (.cells [Value.int .u32 u].toArray 67 (0, 0)), .blk b5 (.cells [Value.slice al ls.length cl].toArray 30 (0, 0)), .blk b4 (.cells (bxRow b a c).toArray 26 (0, 0)), .reg lo wr, .reg 0 w])
                  (fun s => s ≤ ts.length)
                  (fun s => ts.length - s)
                  (0) ?_ SU SR ?_
                · exact Nat.zero_le _
                rintro i hi
                refine sc_seq ?_
                refine sc_region ?_
                refine qs (y_lss RF RF) ?_
                refine sq_nil ?_
                refine sx_then ?_
                refine sc_seq ?_
                refine scp (fun hc9 => ?_) (fun hc9 => ?_)
                ·
                  have hi' : i < ts.length := by omega
                  have hsm := (ht.get te0 hi').1
                  have hca := (ht.get te0 hi').2
                  have htv := hz.2.2.2.2 _ (List.mem_of_getElem? (get_of_lt te0 hi'))
                  have hbad : ((ts.getD i te0).cost < (ts.getD k te0).cost ∨ (ts.getD i te0).cost = (ts.getD k te0).cost ∧ (i : Int) < k) → doubtV b ls (fitL b ls) (ts.getD i te0) u = true := fun h => doubt_yes hok htv (by
                    cases hs : setV b (fitL b ls) (ts.getD i te0) with
                    | false => rfl
                    | true => have := hmin i hi' hs; omega)
                  refine sc_skip ?_
                  refine sx_then ?_
                  refine sc_seq ?_
                  refine sc_block ?_
                  refine sc_seq ?_
                  refine sc_region ?_
                  refine qs (y_move RF) ?_
                  refine qs IA43 ?_
                  refine qs (by first | exact y_load_ca Try.underlying29 rfl Try.sizeOf29 RF MM hca rfl | exact LD29) ?_
                  refine sq_alloc Try.zeroValue29 rfl (fun b18 => ?_)
                  refine qs (y_assign RF) ?_
                  refine sq_store_all Try.sizeOf29 RF RF rfl RM rfl rfl ?_
                  refine sq_nil ?_
                  refine sx_then ?_
                  refine sc_seq ?_
                  refine sc_midE (Z := {x : Bool // x = false}) (fun z => [(2, .slice at_ ts.length ct), (4, .pointer (some ⟨b4, 0, none⟩)), (5, .pointer (some ⟨b5, 0, none⟩)), (7, .pointer (some ⟨b7, 0, none⟩)), (9, .int .i64 k), (14, .func (.func 41) #[] #[.pointer (some ⟨b13, 0, none⟩), .pointer (some ⟨b4, 0, none⟩), .pointer (some ⟨b7, 0, none⟩), .pointer (some ⟨b5, 0, none⟩)]), (115, .slice at_ ts.length ct), (116, .int .i64 ts.length), (117, .int .i64 i), (150, .bool z.1)]) (fun _ => [.blk b13 (.cells [Value.slice zf.1 (fitL b ls).length zf.2.2.1].toArray 68 (0, 0)), .blk b7 (.cells [Value.int .u32 u].toArray 67 (0, 0)), .blk b5 (.cells [Value.slice al ls.length cl].toArray 30 (0, 0)), .blk b4 (.cells (bxRow b a c).toArray 26 (0, 0)), .reg lo wr, .reg 0 w]) ?_ ?_
                  ·
                    refine sc_drawX ([.blk b18 (.cells (teRow (ts.getD i te0)).toArray 29 (0, 0)), .reg 0 w]) (by kernel_rfl) ?_
                    refine xj_s 0 RF (by kernel_rfl) SR FA29_3 rfl ?_
                    refine xj_s 1 RF (by kernel_rfl) SR LD3 rfl ?_
                    refine xj_s 2 RF (by kernel_rfl) SR (y_move RF) rfl ?_
                    refine xj_s 3 RF (by kernel_rfl) SR (y_move RF) rfl ?_
                    refine xj_s 4 RF (by kernel_rfl) SR IA43 rfl ?_
                    refine xj_s 5 RF (by kernel_rfl) SR FA29_3 rfl ?_
                    refine xj_s 6 RF (by kernel_rfl) SR (by first | exact y_load_caj (j := 6) Try.underlying3 rfl RF MM hcak rfl | exact LD3) rfl ?_
                    refine xj_s 7 RF (by kernel_rfl) SR (y_lss RF RF) rfl ?_
                    refine xj_s 8 RF (by kernel_rfl) SR (y_move RF) rfl ?_
                    first | refine xj_splitd (tt := 130) RF (fun hg28_8 => ?_) (fun hg28_8 => ?_) | refine xj_splitn (tt := 130) RF (fun hg28_8 => ?_) (fun hg28_8 => ?_) | refine xj_split (tt := 130) RF (fun hg28_8 => ?_) (fun hg28_8 => ?_)
                    ·
                      refine xj_gf 9 RF RF RF rfl (by kernel_rfl) SR rfl ?_
                      refine xj_gf 10 RF RF RF rfl (by kernel_rfl) SR rfl ?_
                      refine xj_gf 11 RF RF RF rfl (by kernel_rfl) SR rfl ?_
                      refine xj_gf 12 RF RF RF rfl (by kernel_rfl) SR rfl ?_
                      refine xj_gf 13 RF RF RF rfl (by kernel_rfl) SR rfl ?_
                      refine xj_gf 14 RF RF RF rfl (by kernel_rfl) SR rfl ?_
                      refine xj_gf 15 RF RF RF rfl (by kernel_rfl) SR rfl ?_
                      refine xj_gf 16 RF RF RF rfl (by kernel_rfl) SR rfl ?_
                      refine xj_gf 17 RF RF RF rfl (by kernel_rfl) SR rfl ?_
                      refine xj_gu 18 RF RF RF (by kernel_rfl) SR rfl ?_
                      refine xj_gu 19 RF RF RF (by kernel_rfl) SR rfl ?_
                      refine xj_gu 20 RF RF RF (by kernel_rfl) SR rfl ?_
                      refine xj_gf 21 RF RF RF rfl (by kernel_rfl) SR rfl ?_
                      refine xj_s 22 RF (by kernel_rfl) SR (y_pick_t RF RF) rfl ?_
                      refine xj_s 23 RF (by kernel_rfl) SR (y_move RF) rfl ?_
                      refine xj_gt 24 RF RF RF (by kernel_rfl) SR (y_move RF) rfl ?_
                      refine xj_gt 25 RF RF RF (by kernel_rfl) SR LD29 rfl ?_
                      refine xj_one 26 RF (by kernel_rfl) ?_
                      refine sq_gt RF RF (y_call (first := []) (caps := [.pointer (some ⟨b13, 0, none⟩), .pointer (some ⟨b4, 0, none⟩), .pointer (some ⟨b7, 0, none⟩), .pointer (some ⟨b5, 0, none⟩)]) RF Try.call41 E1 (fun w1 hw1 => doubt41 w1 b a c (hB.at hw1 MM) hok al cl ls (hl.at hw1 MM) hn15 (ts.getD i te0) htv zf.1 zf.2.1 zf.2.2.1 zf.2.2.2 (fitL b ls) (hzf.2.at hw1 MM) hcanf u hu _ _ _ _ (CA.blk (vs := [.slice zf.1 (fitL b ls).length zf.2.2.1]) hw1 MM) (CA.blk hw1 MM) (CA.blk (vs := [.int .u32 u]) hw1 MM) (CA.blk (vs := [.slice al ls.length cl]) hw1 MM))) rfl ?_
                      refine sq_nil ?_
                      refine sx_xp SR ?_
                      refine xj_gt 27 RF RF RF (by kernel_rfl) SR (y_not RF) rfl ?_
                      refine xj_s 28 RF (by kernel_rfl) SR (y_pick_t RF RF) rfl ?_
                      refine xj_done (by kernel_rfl) ?_
                      exact sx_midE (⟨!doubtV b ls (fitL b ls) (ts.getD i te0) u, by rw [hbad (by omega)]; rfl⟩) SU SR
                    ·
                      refine xj_gt 9 RF RF RF (by kernel_rfl) SR FA29_3 rfl ?_
                      refine xj_gt 10 RF RF RF (by kernel_rfl) SR LD3 rfl ?_
                      refine xj_gt 11 RF RF RF (by kernel_rfl) SR (y_move RF) rfl ?_
                      refine xj_gt 12 RF RF RF (by kernel_rfl) SR (y_move RF) rfl ?_
                      refine xj_gt 13 RF RF RF (by kernel_rfl) SR IA43 rfl ?_
                      refine xj_gt 14 RF RF RF (by kernel_rfl) SR FA29_3 rfl ?_
                      refine xj_gt 15 RF RF RF (by kernel_rfl) SR (by first | exact y_load_caj (j := 6) Try.underlying3 rfl RF MM hcak rfl | exact LD3) rfl ?_
                      refine xj_gt 16 RF RF RF (by kernel_rfl) SR (y_eql RF RF) rfl ?_
                      refine xj_gt 17 RF RF RF (by kernel_rfl) SR (y_move RF) rfl ?_
                      first | refine xj_splitd (tt := 139) RF (fun hg28_17 => ?_) (fun hg28_17 => ?_) | refine xj_splitn (tt := 139) RF (fun hg28_17 => ?_) (fun hg28_17 => ?_) | refine xj_split (tt := 139) RF (fun hg28_17 => ?_) (fun hg28_17 => ?_)
                      ·
                        refine xj_gt 18 RF RF RF (by kernel_rfl) SR (y_move RF) rfl ?_
                        refine xj_gt 19 RF RF RF (by kernel_rfl) SR (y_move RF) rfl ?_
                        refine xj_gt 20 RF RF RF (by kernel_rfl) SR (y_lss RF RF) rfl ?_
                        refine xj_gt 21 RF RF RF (by kernel_rfl) SR (y_pick_t RF RF) rfl ?_
                        refine xj_s 22 RF (by kernel_rfl) SR (y_pick_f RF RF) rfl ?_
                        refine xj_s 23 RF (by kernel_rfl) SR (y_move RF) rfl ?_
                        first | refine xj_splitd (tt := 145) RF (fun hg28_23 => ?_) (fun hg28_23 => ?_) | refine xj_splitn (tt := 145) RF (fun hg28_23 => ?_) (fun hg28_23 => ?_) | refine xj_split (tt := 145) RF (fun hg28_23 => ?_) (fun hg28_23 => ?_)
                        ·
                          refine xj_gt 24 RF RF RF (by kernel_rfl) SR (y_move RF) rfl ?_
                          refine xj_gt 25 RF RF RF (by kernel_rfl) SR LD29 rfl ?_
                          refine xj_one 26 RF (by kernel_rfl) ?_
                          refine sq_gt RF RF (y_call (first := []) (caps := [.pointer (some ⟨b13, 0, none⟩), .pointer (some ⟨b4, 0, none⟩), .pointer (some ⟨b7, 0, none⟩), .pointer (some ⟨b5, 0, none⟩)]) RF Try.call41 E1 (fun w1 hw1 => doubt41 w1 b a c (hB.at hw1 MM) hok al cl ls (hl.at hw1 MM) hn15 (ts.getD i te0) htv zf.1 zf.2.1 zf.2.2.1 zf.2.2.2 (fitL b ls) (hzf.2.at hw1 MM) hcanf u hu _ _ _ _ (CA.blk (vs := [.slice zf.1 (fitL b ls).length zf.2.2.1]) hw1 MM) (CA.blk hw1 MM) (CA.blk (vs := [.int .u32 u]) hw1 MM) (CA.blk (vs := [.slice al ls.length cl]) hw1 MM))) rfl ?_
                          refine sq_nil ?_
                          refine sx_xp SR ?_
                          refine xj_gt 27 RF RF RF (by kernel_rfl) SR (y_not RF) rfl ?_
                          refine xj_s 28 RF (by kernel_rfl) SR (y_pick_t RF RF) rfl ?_
                          refine xj_done (by kernel_rfl) ?_
                          exact sx_midE (⟨!doubtV b ls (fitL b ls) (ts.getD i te0) u, by rw [hbad (by omega)]; rfl⟩) SU SR
                        ·
                          refine xj_gf 24 RF RF RF rfl (by kernel_rfl) SR rfl ?_
                          refine xj_gf 25 RF RF RF rfl (by kernel_rfl) SR rfl ?_
                          refine xj_gf 26 RF RF RF rfl (by kernel_rfl) SR rfl ?_
                          refine xj_gf 27 RF RF RF rfl (by kernel_rfl) SR rfl ?_
                          refine xj_s 28 RF (by kernel_rfl) SR (y_pick_f RF RF) rfl ?_
                          refine xj_done (by kernel_rfl) ?_
                          exact sx_midE (⟨false, rfl⟩) SU SR
                      ·
                        refine xj_gf 18 RF RF RF rfl (by kernel_rfl) SR rfl ?_
                        refine xj_gf 19 RF RF RF rfl (by kernel_rfl) SR rfl ?_
                        refine xj_gf 20 RF RF RF rfl (by kernel_rfl) SR rfl ?_
                        refine xj_gt 21 RF RF RF (by kernel_rfl) SR (y_pick_f RF RF) rfl ?_
                        refine xj_s 22 RF (by kernel_rfl) SR (y_pick_f RF RF) rfl ?_
                        refine xj_s 23 RF (by kernel_rfl) SR (y_move RF) rfl ?_
                        refine xj_gf 24 RF RF RF rfl (by kernel_rfl) SR rfl ?_
                        refine xj_gf 25 RF RF RF rfl (by kernel_rfl) SR rfl ?_
                        refine xj_gf 26 RF RF RF rfl (by kernel_rfl) SR rfl ?_
                        refine xj_gf 27 RF RF RF rfl (by kernel_rfl) SR rfl ?_
                        refine xj_s 28 RF (by kernel_rfl) SR (y_pick_f RF RF) rfl ?_
                        refine xj_done (by kernel_rfl) ?_
                        exact sx_midE (⟨false, rfl⟩) SU SR
                  rintro ⟨x, hx⟩
                  try dsimp only
                  refine sx_then ?_
                  refine sc_f (lk_bool rfl (hx)) ?_
                  refine sc_skip ?_
                  refine sx_blk ?_
                  refine sx_then ?_
                  refine sc_region ?_
                  refine qs (y_add RF RF (by omega)) ?_
                  refine qs (y_move RF) ?_
                  refine sq_nil ?_
                  refine sx_round (i + 1) ?_ ?_ SU SR
                  · omega
                  · omega
                ·
                  refine sc_exit ?_
                  refine sx_then_exit ?_
                  refine sx_round_exit ?_
                  refine sx_blk_hit ?_
                  refine sx_then ?_
                  refine sc_seq ?_
                  refine sc_region ?_
                  refine qy (yc Try.call13 E0 (fun w1 _ => alive13 w1)) ?_
                  refine qs (y_assign RF) ?_
                  refine sq_nil ?_
                  refine sx_then ?_
                  refine sc_ret ?_
                  refine sx_ret1 (.inl rfl) rfl Try.results9 RF ?_
                  intro w' hw'
                  exact ⟨rfl, hw'.below MM⟩
end Go.Proofs.Ytofjipmheckmjaa
