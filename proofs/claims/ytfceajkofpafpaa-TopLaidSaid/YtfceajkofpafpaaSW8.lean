/- The walks of Reads. -/
import Derived.Test.YtfceajkofpafpaaSW7
namespace Go.Proofs.Ytfceajkofpafpaa.Sc
open Go Go.Eng Go.RowKit Go.Proofs
set_option maxRecDepth 100000
theorem refL_can {b : Bx} : ∀ (k : Nat) (done h : List Int), h ∈ refL b k done → canV b h = true
  | 0, done, h, hh => by
    unfold refL at hh
    split at hh
    · rename_i hc; rw [List.mem_singleton.1 hh]; exact hc
    · cases hh
  | k + 1, done, h, hh => by
    unfold refL at hh
    obtain ⟨i, _, h2⟩ := List.mem_flatMap.1 hh
    exact refL_can k _ h h2
theorem can_refL {b : Bx} : ∀ (rest done : List Int), (∀ n, n ∈ rest → -4 ≤ n ∧ n ≤ 3) → canV b (done ++ rest) = true → done ++ rest ∈ refL b rest.length done
  | [], done, _, hc => by
    rw [List.append_nil] at hc ⊢
    show done ∈ refL b 0 done
    unfold refL; rw [if_pos hc]; exact List.mem_singleton.2 rfl
  | n :: rest, done, hn, hc => by
    have h1 := hn n (List.mem_cons_self ..)
    have h2 := can_refL rest (done ++ [n]) (fun m hm => hn m (List.mem_cons_of_mem _ hm)) (by rw [List.append_assoc]; exact hc)
    rw [List.append_assoc] at h2
    show _ ∈ (List.range 8).flatMap fun i => refL b rest.length (done ++ [((i : Nat) : Int) - 4])
    exact List.mem_flatMap.2 ⟨(n + 4).toNat, List.mem_range.2 (by omega), by rw [show (((n + 4).toNat : Nat) : Int) - 4 = n by omega]; exact h2⟩
theorem mem_allL {b : Bx} (hok : bxB b = true) (h : List Int) : h ∈ allL b ↔ canV b h = true := by
  rw [← refL_all hok]
  refine ⟨refL_can _ _ h, fun hc => ?_⟩
  have hc2 := hc
  simp only [canV, Bool.and_eq_true, decide_eq_true_eq, List.all_eq_true, List.mem_range] at hc2
  rw [← hc2.1.1]
  refine can_refL h [] (fun n hn => ?_) hc
  obtain ⟨i, hi, rfl⟩ := List.getElem_of_mem hn
  have h1 := hc2.1.2 i hi
  unfold okC at h1
  have h1 := of_decide_eq_true h1
  rw [getD_of (l := h) (d := 0) (List.getElem?_eq_getElem hi)] at h1
  exact h1.2
def readAns (b : Bx) (has : List Int) (t : Te) : Value := if bxB b = true ∧ teB b t = true then (if canV b has = true then .tuple #[.agg (spRow (readV b t has)).toArray, .int .i64 0] else .tuple #[.agg (spRow sp0).toArray, .int .i64 2]) else .tuple #[.agg (spRow sp0).toArray, .int .i64 1]
theorem list_ext {l m : List Int} (h : l.length = m.length) (hg : ∀ j, j < l.length → l.getD j 0 = m.getD j 0) : l = m := by
  refine List.ext_getElem h fun i h1 h2 => ?_
  have := hg i h1
  rwa [List.getD_eq_getElem?_getD, List.getD_eq_getElem?_getD, List.getElem?_eq_getElem h1, List.getElem?_eq_getElem h2] at this

theorem equal46 (w : World) (al1 : Option Addr) (cl1 : Nat) (l1 : List Int) (hl1 : RowsA iRow 1 0 w al1 l1) (al2 : Option Addr) (cl2 : Nat) (l2 : List Int) (hl2 : RowsA iRow 1 0 w al2 l2) : Calls Try.prog 36 #[.slice al1 l1.length cl1, .slice al2 l2.length cl2] w fun e w' => e = .returned (.bool (decide (l1 = l2))) ∧ Below w.heap.size w w' := by
  have hlen1 := hl1.len
  have hlen2 := hl2.len
  refine calls_of_SC (args := [.slice al1 l1.length cl1, .slice al2 l2.length cl2]) Try.func36 rfl Try.ntmps36 rfl ?_
  simp only [argL, Nat.zero_add]
  refine sc_seq ?_
  refine sc_region ?_
  refine qs (y_assign RF) ?_
  refine sq_nil ?_
  refine sx_then ?_
  refine sc_seq ?_
  refine sc_seq ?_
  refine sc_region ?_
  refine qs (y_move RF) ?_
  refine qs (y_len Try.underlying111 RF) ?_
  refine qs (y_move RF) ?_
  refine qs (y_len Try.underlying111 RF) ?_
  refine qs (y_neq RF RF) ?_
  refine sq_nil ?_
  refine sx_then ?_
  refine scp (fun hc0 => ?_) (fun hc0 => ?_)
  ·
    refine sc_seq ?_
    refine sc_region ?_
    refine qs (y_assign RF) ?_
    refine sq_nil ?_
    refine sx_then ?_
    refine sc_ret ?_
    refine sx_then_ret ?_
    refine sx_ret1 (.inl rfl) rfl Try.results36 RF ?_
    intro w' hw'
    refine ⟨?_, hw'.below MM⟩
    rw [decide_eq_false]
    rintro rfl; omega
  ·
    have hll : l1.length = l2.length := by omega
    refine sc_skip ?_
    refine sx_then ?_
    refine sc_seq ?_
    refine sc_seq ?_
    refine sc_region ?_
    refine qs (y_move RF) ?_
    refine qs (y_len Try.underlying111 RF) ?_
    refine qs (y_move RF) ?_
    refine sq_nil ?_
    refine sx_then ?_
    refine sc_block ?_
    refine sc_loop (σ := Nat)
      (fun s => [(0, .slice al1 l1.length cl1), (1, .slice al2 l2.length cl2), (12, .int .i64 l1.length), (13, .int .i64 s)])
      (fun s => [.reg 0 w])
      (fun s => s ≤ l1.length ∧ ∀ j, j < s → l1.getD j 0 = l2.getD j 0)
      (fun s => l1.length - s)
      (0) ?_ SU SE ?_
    · exact ⟨Nat.zero_le _, fun j hj => absurd hj (Nat.not_lt_zero j)⟩
    rintro k ⟨hk, hall⟩
    refine sc_seq ?_
    refine sc_region ?_
    refine qs (y_lss RF RF) ?_
    refine sq_nil ?_
    refine sx_then ?_
    refine sc_seq ?_
    refine scp (fun hc1 => ?_) (fun hc1 => ?_)
    ·
      have hk' : k < l1.length := by omega
      have hk2 : k < l2.length := by omega
      have hsm1 := (hl1.get 0 hk').1
      have hca1 := (hl1.get 0 hk').2
      have hsm2 := (hl2.get 0 hk2).1
      have hca2 := (hl2.get 0 hk2).2
      refine sc_skip ?_
      refine sx_then ?_
      refine sc_seq ?_
      refine sc_block ?_
      refine sc_seq ?_
      refine sc_region ?_
      refine qs (y_move RF) ?_
      refine qs (y_assign RF) ?_
      refine sq_nil ?_
      refine sx_then ?_
      refine sc_seq ?_
      refine sc_draw rfl (by kernel_rfl) (by kernel_rfl) ?_
      refine qq_y (OpY.s (y_move RF)) rfl ?_
      refine qq_y (OpY.s (y_move RF)) rfl ?_
      refine qq_y (OpY.s IA79) rfl ?_
      refine qq_y (OpY.s (by first | exact y_load_ca0 Try.underlying3 rfl RF MM hca1 rfl | exact LD3)) rfl ?_
      refine qq_y (OpY.s (y_move RF)) rfl ?_
      refine qq_y (OpY.s (y_move RF)) rfl ?_
      refine qq_y (OpY.s IA79) rfl ?_
      refine qq_y (OpY.s (by first | exact y_load_ca0 Try.underlying3 rfl RF MM hca2 rfl | exact LD3)) rfl ?_
      refine qq_y (OpY.s (y_neq RF RF)) rfl ?_
      refine qq_nil ?_
      refine sx_then ?_
      refine scp (fun hc2 => ?_) (fun hc2 => ?_)
      ·
        refine sc_seq ?_
        refine sc_region ?_
        refine qs (y_assign RF) ?_
        refine sq_nil ?_
        refine sx_then ?_
        refine sc_ret ?_
        refine sx_blk_ret ?_
        refine sx_then_ret ?_
        refine sx_round_ret ?_
        refine sx_blk_ret ?_
        refine sx_then_ret ?_
        refine sx_ret1 (.inl rfl) rfl Try.results36 RF ?_
        intro w' hw'
        refine ⟨?_, hw'.below MM⟩
        rw [decide_eq_false]
        rintro rfl; omega
      ·
        refine sc_skip ?_
        refine sx_blk ?_
        refine sx_then ?_
        refine sc_region ?_
        refine qs (y_add RF RF (by omega)) ?_
        refine qs (y_move RF) ?_
        refine sq_nil ?_
        refine sx_round (k + 1) ?_ ?_ SU SE
        · refine ⟨by omega, fun j hj => ?_⟩
          rcases Nat.lt_succ_iff_lt_or_eq.1 hj with h | rfl
          · exact hall j h
          · omega
        · omega
    ·
      refine sc_exit ?_
      refine sx_then_exit ?_
      refine sx_round_exit ?_
      refine sx_blk_hit ?_
      refine sx_then ?_
      refine sc_seq ?_
      refine sc_region ?_
      refine qs (y_assign RF) ?_
      refine sq_nil ?_
      refine sx_then ?_
      refine sc_ret ?_
      refine sx_ret1 (.inl rfl) rfl Try.results36 RF ?_
      intro w' hw'
      refine ⟨?_, hw'.below MM⟩
      have hkn : k = l1.length := by omega
      subst hkn
      rw [decide_eq_true (list_ext hll hall)]
theorem equal46v (w : World) (v : Value) (h : List Int) (hv : w.ownsRow 0 3 1 v h.length (h.flatMap iRow)) (hb : h.length ≤ 100000) (al : Option Addr) (cl : Nat) (l : List Int) (hl : RowsA iRow 1 0 w al l) : Calls Try.prog 36 #[v, .slice al l.length cl] w fun e w' => e = .returned (.bool (decide (h = l))) ∧ Below w.heap.size w w' := by
  obtain ⟨a2, c2, rfl, _, hr⟩ := own_rowsA (row := iRow) (fun _ => rfl) hv rfl (by omega)
  exact equal46 w a2 c2 h hr al cl l hl
theorem reads14 (w : World) (b : Bx) (a : Option Addr) (c : Nat) (hB : RowsA kdRow 3 0 w a b.kinds) (al : Option Addr) (cl : Nat) (l : List Int) (hl : RowsA iRow 1 0 w al l) (t : Te) : Calls Try.prog 11 #[.agg (bxRow b a c).toArray, .slice al l.length cl, .agg (teRow t).toArray] w fun e w' => e = .returned (readAns b l t) ∧ Below w.heap.size w w' := by
  refine calls_of_SCm (args := [.agg (bxRow b a c).toArray, .slice al l.length cl, .agg (teRow t).toArray]) Try.func11 rfl Try.ntmps11 rfl ?_
  simp only [argL, Nat.reduceAdd, Nat.zero_add]
  refine sc_seq ?_
  refine sc_region ?_
  refine sq_box RF rfl (fun b3 => ?_)
  refine sq_box RF rfl (fun b4 => ?_)
  refine sq_box RF rfl (fun b5 => ?_)
  refine sq_alloc Try.zeroValue38 rfl (fun b6 => ?_)
  refine sq_alloc Try.zeroValue26 rfl (fun b7 => ?_)
  refine sq_nil ?_
  refine sx_then ?_
  refine sc_seq ?_
  refine sc_seq ?_
  refine sc_region ?_
  refine qs LD26 ?_
  refine qy (yc Try.call33 E1 (fun w1 hw1 => isBox43 w1 b a c (hB.at hw1 MM))) ?_
  refine qs (y_not RF) ?_
  refine qs (y_move RF) ?_
  try (have hg1_3 : bxB b = true := by simpa using hg1_3)
  refine sp 12 (fun hg1_3 => ?_) (fun hg1_3 => ?_)
  ·
    try (have hg1_3 : bxB b = true := by simpa using hg1_3)
    refine qf ?_
    refine qf ?_
    refine qf ?_
    refine qf ?_
    refine qs (y_pick_t RF RF) ?_
    refine sq_nil ?_
    refine sx_then ?_
    refine sc_t RF ?_
    refine sc_seq ?_
    refine sc_region ?_
    refine qs (y_build bt24 EvP.nil RF) ?_
    refine sq_store_all Try.sizeOf38 RF RF rfl RM rfl rfl ?_
    refine sq_store Try.sizeOf26 RF RF (by first | rfl | assumption) RM (by first | exact Nat.le_of_ble_eq_true rfl | simp | omega) ?_
    refine sq_nil ?_
    refine sx_then ?_
    refine sc_ret ?_
    refine sx_then_ret ?_
    refine sx_retM0 (.inl rfl) rfl _ (res_cc (vs := spRow sp0) Try.results11 Try.underlying38 rfl Try.sizeOf38 Try.underlying26 rfl RF MM rfl RF MM) ?_
    intro w' hw'
    refine ⟨?_, hw'.below MM⟩
    have hx : bxB b = false := by simpa using hg1_3
    unfold readAns; rw [if_neg (by simp [hx])]
  ·
    try (have hg1_3 : bxB b = true := by simpa using hg1_3)
    refine qg LD26 ?_
    refine qg LD29 ?_
    refine sq_gt RF RF (y_call (first := []) (caps := []) RF Try.call34 (EvL.cons RF (EvL.cons RF EvL.nil)) (fun w1 _ => isTest44 w1 b a c (bxB_parts hg1_3).1.2 t)) rfl ?_
    refine qg (y_not RF) ?_
    refine qs (y_pick_f RF RF) ?_
    refine sq_nil ?_
    refine sx_then ?_
    refine scp (fun hc0 => ?_) (fun hc0 => ?_)
    ·
      refine sc_seq ?_
      refine sc_region ?_
      refine qs (y_build bt24 EvP.nil RF) ?_
      refine sq_store_all Try.sizeOf38 RF RF rfl RM rfl rfl ?_
      refine sq_store Try.sizeOf26 RF RF (by first | rfl | assumption) RM (by first | exact Nat.le_of_ble_eq_true rfl | simp | omega) ?_
      refine sq_nil ?_
      refine sx_then ?_
      refine sc_ret ?_
      refine sx_then_ret ?_
      refine sx_retM0 (.inl rfl) rfl _ (res_cc (vs := spRow sp0) Try.results11 Try.underlying38 rfl Try.sizeOf38 Try.underlying26 rfl RF MM rfl RF MM) ?_
      intro w' hw'
      refine ⟨?_, hw'.below MM⟩
      have ht : teB b t = false := by simpa using hc0
      unfold readAns; rw [if_neg (by simp [ht])]
    ·
      refine sc_skip ?_
      refine sx_then ?_
      refine sc_seq ?_
      refine sc_seq ?_
      have hok : bxB b = true := hg1_3
      have ht : teB b t = true := by simpa using hc0
      refine sc_region ?_
      refine qs LD26 ?_
      refine sq_call_new (first := []) (caps := []) (Z := Addr) (fun p => .func (.func 65) #[] #[.pointer (some p)]) (fun lo w' p => w.heap.size ≤ lo ∧ CA lo w' p (bxRow b a c)) RF Try.call35 (EvL.cons RF EvL.nil) (fun w1 hw1 => (lists45 w1 b a c).mono (fun e w' ⟨p, he, hb, hc⟩ => ⟨p, he, hb, hw1.size, hc⟩)) rfl (fun lo wr pb hpb => ?_)
      refine sq_nil ?_
      refine sx_then ?_
      refine sc_block ?_
      refine sc_rangeFuncS (Z := Unit) (Z' := Unit) (ps := [21]) (lb := [.pointer (some pb)]) (fun _ => .reg lo wr :: .reg 0 w :: .blk b7 (.cells [.int .i64 0].toArray 26 (0, 0)) :: .blk b6 (.cells (spRow sp0).toArray 38 (0, 0)) :: .blk b5 (.cells (teRow t).toArray 47 (0, 0)) :: .blk b4 (.cells [.slice al l.length cl].toArray 22 (0, 0)) :: .blk b3 (.cells (bxRow b a c).toArray 45 (0, 0)) ::  []) (fun _ => l ∉ allL b) (fun _ => .reg lo wr :: .reg 0 w :: .blk b7 (.cells [.int .i64 0].toArray 26 (0, 0)) :: .blk b6 (.cells (spRow (readV b t l)).toArray 38 (0, 0)) :: .blk b5 (.cells (teRow t).toArray 47 (0, 0)) :: .blk b4 (.cells [.slice al l.length cl].toArray 22 (0, 0)) :: .blk b3 (.cells (bxRow b a c).toArray 45 (0, 0)) ::  []) (fun _ => l ∈ allL b) rfl RF Try.call65 ?_ ?_ ?_
      ·
        intro fn tm l' D hts htL w1 hw1
        refine lists70q hw1 (.head _) hB hok pb hpb.2 { Z := Bool, M := 4096, UR := (fun z => .blk l' (.loop (LZ z fn tm [21] _ _ D)) :: .blk D (.deferred (some [])) :: .blk b7 (.cells [.int .i64 0].toArray 26 (0, 0)) :: .blk b6 (.cells (spRow (cond z sp0 (readV b t l))).toArray 38 (0, 0)) :: .blk b5 (.cells (teRow t).toArray 47 (0, 0)) :: .blk b4 (.cells [.slice al l.length cl].toArray 22 (0, 0)) :: .blk b3 (.cells (bxRow b a c).toArray 45 (0, 0)) ::  []), Inv := fun ds z => z = true ∧ l ∉ ds, Stp := fun z => z = false ∧ l ∈ allL b, loop := (fun _ _ h => by obtain ⟨rfl, _⟩ := h; exact .head _), one := rfl, round := ?_ } (allL_le hok) true ⟨rfl, fun h => by cases h⟩ (hw1.sel SR) ?_
        rotate_left
        · intro e w' hv y go h1 h2
          refine ⟨hv, ?_⟩
          by_cases hgo : go = true
          · rw [if_pos hgo] at h1
            obtain ⟨rfl, h1⟩ := h1
            exact .inl ⟨(), h1, h2.sel SR⟩
          · rw [if_neg hgo] at h1
            obtain ⟨rfl, h1⟩ := h1
            exact .inr ⟨(), h1, h2.sel SR⟩
        rintro ds z h ⟨rfl, hz⟩ hh hin hds F w2 v hw2
        rw [fold1]
        obtain ⟨hs2, hL2⟩ := one_param (p := 21) (u := v) hts htL (Nat.le_of_ble_eq_true rfl)
        refine round_of_SC (N := 30) hs2 hL2 hw2 ?_
        dsimp only [List.cons_append]
        refine sc_region ?_
        refine qs (y_assign RF) ?_
        refine sq_nil ?_
        refine sx_begin rfl RM rfl ?_
        refine sc_block ?_
        refine sc_seq ?_
        refine sc_region ?_
        refine qs (y_move RF) ?_
        refine qs LD27 ?_
        refine qy (yc Try.call36 E2 (fun w1 hw1 => equal46v w1 v h (hw1.ok (Res.own v 3 1 h.length (h.flatMap iRow)) MM) (by have := hh.len; have := (bxB_parts hok).1; omega) al cl l (hl.at hw1 MM))) ?_
        refine sq_nil ?_
        refine sx_then ?_
        refine scp (fun hc1 => ?_) (fun hc1 => ?_)
        ·
          have hhl : h = l := by simpa using hc1
          have hhl := hhl.symm
          subst hhl
          refine sc_seq ?_
          refine sc_region ?_
          refine qs LD26 ?_
          refine qs LD27 ?_
          refine qs LD29 ?_
          refine qy (yc Try.call37 E3 (fun w1 hw1 => reads47 w1 b a c (hB.at hw1 MM) hok al cl l (hl.at hw1 MM) hh t ht)) ?_
          refine sq_store_all Try.sizeOf38 RF RF rfl RM rfl rfl ?_
          refine sq_store Try.sizeOf26 RF RF (by first | rfl | assumption) RM (by first | exact Nat.le_of_ble_eq_true rfl | simp | omega) ?_
          refine sq_nil ?_
          refine sx_then ?_
          refine sc_ret ?_
          refine sx_blk_ret ?_
          refine sx_endround_ret RM ?_
          intro w' hw'
          exact ⟨false, false, by rw [if_neg (by decide)]; exact ⟨rfl, hin⟩, rfl, hw'.sel SR⟩
        ·
          have hhl : h ≠ l := by simpa using hc1
          refine sc_skip ?_
          refine sx_blk ?_
          refine sx_endround RM ?_
          intro w' hw'
          exact ⟨true, true, by rw [if_pos rfl]; exact ⟨rfl, fun hm => (List.mem_append.1 hm).elim hz (fun h => hhl (List.mem_singleton.1 h).symm)⟩, rfl, hw'.sel SR⟩
      ·
        rintro D ⟨⟩ hno
        refine sx_blk ?_
        refine sx_then ?_
        refine sc_seq ?_
        refine sc_region ?_
        refine qs (y_build bt24 EvP.nil RF) ?_
        refine sq_store_all Try.sizeOf38 RF RF rfl RM rfl rfl ?_
        refine sq_store Try.sizeOf26 RF RF (by first | rfl | assumption) RM (by first | exact Nat.le_of_ble_eq_true rfl | simp | omega) ?_
        refine sq_nil ?_
        refine sx_then ?_
        refine sc_ret ?_
        refine sx_retM (.inl rfl) rfl RM _ (res_cc (vs := spRow sp0) Try.results11 Try.underlying38 rfl Try.sizeOf38 Try.underlying26 rfl RF MM rfl RF MM) ?_
        intro w' hw'
        refine ⟨?_, hw'.below MM⟩
        have hcan : canV b l = false := by rw [mem_allL hok] at hno; simpa using hno
        unfold readAns; rw [if_pos ⟨hok, ht⟩, if_neg (by simp [hcan])]
      ·
        rintro D ⟨⟩ hyes
        refine sx_blk_ret ?_
        refine sx_then_ret ?_
        refine sx_retM (.inl rfl) rfl RM _ (res_cc (vs := spRow (readV b t l)) Try.results11 Try.underlying38 rfl Try.sizeOf38 Try.underlying26 rfl RF MM rfl RF MM) ?_
        intro w' hw'
        refine ⟨?_, hw'.below MM⟩
        have hcan := (mem_allL hok l).1 hyes
        unfold readAns; rw [if_pos ⟨hok, ht⟩, if_pos hcan]
end Go.Proofs.Ytfceajkofpafpaa.Sc
