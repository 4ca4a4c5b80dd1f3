/- The walks of alive, and of what compares two lists. -/
import Derived.Test.YtofjipmheckmjaaWalk18
import Derived.Test.YtofjipmheckmjaaWalk21
namespace Go.Proofs.Ytofjipmheckmjaa
open Go Go.Eng Go.RowKit Go.Proofs
set_option maxRecDepth 100000

theorem spans20 (w : World) (a b : Option Addr) (ca cb : Nat) (l1 l2 : List Sp) (h1 : RowsA spRow 2 0 w a l1) (h2 : RowsA spRow 2 0 w b l2) : Calls Try.prog 20 #[.slice a l1.length ca, .slice b l2.length cb] w fun e w' => e = .returned (.bool (decide (l1 = l2))) ∧ Below w.heap.size w w' := by
  have hn1 := h1.len
  have hn2 := h2.len
  refine calls_of_SC (args := [.slice a l1.length ca, .slice b l2.length cb]) Try.func20 rfl Try.ntmps20 rfl ?_
  simp only [argL, Nat.zero_add]
  refine sc_seq ?_
  refine sc_region ?_
  refine qs (y_assign RF) ?_
  refine sq_nil ?_
  refine sx_then ?_
  refine sc_seq ?_
  refine sc_seq ?_
  refine sc_region ?_
  refine qs (y_move RF) ?_
  refine qs (y_len Try.underlying38 RF) ?_
  refine qs (y_move RF) ?_
  refine qs (y_len Try.underlying38 RF) ?_
  refine qs (y_neq RF RF) ?_
  refine sq_nil ?_
  refine sx_then ?_
  refine scp (fun hc0 => ?_) (fun hc0 => ?_)
  ·
    refine sc_seq ?_
    refine sc_region ?_
    refine qs (y_assign RF) ?_
    refine sq_nil ?_
    refine sx_then ?_
    refine sc_ret ?_
    refine sx_then_ret ?_
    refine sx_ret1 (.inl rfl) rfl Try.results20 RF ?_
    intro w' hw'
    refine ⟨?_, hw'.below MM⟩
    congr 2; symm; rw [decide_eq_false_iff_not]; intro h; rw [h] at hc0; exact hc0 rfl
  ·
    refine sc_skip ?_
    refine sx_then ?_
    refine sc_seq ?_
    refine sc_seq ?_
    have hll : l1.length = l2.length := by omega
    refine sc_region ?_
    refine qs (y_assign RF) ?_
    refine sq_nil ?_
    refine sx_then ?_
    refine sc_block ?_
    refine sc_loop (σ := Nat)
      (fun s => [(0, .slice a l1.length ca), (1, .slice b l2.length cb), (5, .int .i64 s)])
      (fun s => [.reg 0 w])
      (fun s => s ≤ l1.length ∧ ∀ j, j < s → l1[j]? = l2[j]?)
      (fun s => l1.length - s)
      (0) ?_ SU SE ?_
    · exact ⟨Nat.zero_le _, fun j hj => absurd hj (Nat.not_lt_zero j)⟩
    rintro k ⟨hk, hsame⟩
    refine sc_seq ?_
    refine sc_seq ?_
    refine sc_region ?_
    refine qs (y_move RF) ?_
    refine qs (y_move RF) ?_
    refine qs (y_len Try.underlying38 RF) ?_
    refine qs (y_lss RF RF) ?_
    refine sq_nil ?_
    refine sx_then ?_
    refine scp (fun hc1 => ?_) (fun hc1 => ?_)
    ·
      have hk' : k < l1.length := by omega
      obtain ⟨x, hx⟩ : ∃ x, l1[k]? = some x := ⟨_, List.getElem?_eq_getElem hk'⟩
      obtain ⟨y, hy⟩ : ∃ y, l2[k]? = some y := ⟨_, List.getElem?_eq_getElem (by omega)⟩
      have hs1 := (h1.el k x hx).1
      have hc1 := (h1.el k x hx).2
      have hs2 := (h2.el k y hy).1
      have hc22 := (h2.el k y hy).2
      refine sc_skip ?_
      refine sx_then ?_
      refine sc_seq ?_
      refine sc_block ?_
      refine sc_seq ?_
      refine sc_draw rfl (by kernel_rfl) (by kernel_rfl) ?_
      refine qq_y (OpY.s (y_move RF)) rfl ?_
      refine qq_y (OpY.s (y_move RF)) rfl ?_
      refine qq_y (OpY.s IA38) rfl ?_
      refine qq_y (OpY.s (by first | exact y_load_ca Try.underlying24 rfl Try.sizeOf24 RF MM hc1 rfl | exact LD24)) rfl ?_
      refine qq_y (OpY.s (y_move RF)) rfl ?_
      refine qq_y (OpY.s (y_move RF)) rfl ?_
      refine qq_y (OpY.s IA38) rfl ?_
      refine qq_y (OpY.s (by first | exact y_load_ca Try.underlying24 rfl Try.sizeOf24 RF MM hc22 rfl | exact LD24)) rfl ?_
      refine qq_y (OpY.s (y_neqs (by kernel_rfl) RF RF (neq24 _ _ _ _))) rfl ?_
      refine qq_nil ?_
      refine sx_then ?_
      refine scp (fun hc2 => ?_) (fun hc2 => ?_)
      ·
        refine sc_seq ?_
        refine sc_region ?_
        refine qs (y_assign RF) ?_
        refine sq_nil ?_
        refine sx_then ?_
        refine sc_ret ?_
        refine sx_blk_ret ?_
        refine sx_then_ret ?_
        refine sx_round_ret ?_
        refine sx_blk_ret ?_
        refine sx_then_ret ?_
        refine sx_ret1 (.inl rfl) rfl Try.results20 RF ?_
        intro w' hw'
        refine ⟨?_, hw'.below MM⟩
        congr 2; symm; rw [decide_eq_false_iff_not]; intro h; rw [h, hy] at hx; cases hx; simp at hc2
      ·
        refine sc_skip ?_
        refine sx_blk ?_
        refine sx_then ?_
        refine sc_region ?_
        refine qs (y_move RF) ?_
        refine qs (y_add RF RF (by omega)) ?_
        refine qs (y_assign RF) ?_
        refine sq_nil ?_
        refine sx_round (k + 1) ?_ ?_ SU SE
        · refine ⟨by omega, fun j hj => ?_⟩
          rcases Nat.lt_succ_iff_lt_or_eq.1 hj with h | rfl
          · exact hsame j h
          · rw [hx, hy]; congr 1; cases x; cases y; simp at hc2; simp [hc2]
        · omega
    ·
      refine sc_exit ?_
      refine sx_then_exit ?_
      refine sx_round_exit ?_
      refine sx_blk_hit ?_
      refine sx_then ?_
      refine sc_seq ?_
      refine sc_region ?_
      refine qs (y_assign RF) ?_
      refine sq_nil ?_
      refine sx_then ?_
      refine sc_ret ?_
      refine sx_ret1 (.inl rfl) rfl Try.results20 RF ?_
      intro w' hw'
      refine ⟨?_, hw'.below MM⟩
      congr 2; symm; rw [decide_eq_true_eq]
      exact List.ext_getElem? fun j => by
        rcases Nat.lt_or_ge j k with h | h
        · exact hsame j h
        · rw [List.getElem?_eq_none (by omega), List.getElem?_eq_none (by omega)]
theorem ints27 (w : World) (a b : Option Addr) (ca cb : Nat) (l1 l2 : List Int) (h1 : RowsA iRow 1 0 w a l1) (h2 : RowsA iRow 1 0 w b l2) : Calls Try.prog 27 #[.slice a l1.length ca, .slice b l2.length cb] w fun e w' => e = .returned (.bool (decide (l1 = l2))) ∧ Below w.heap.size w w' := by
  have hn1 := h1.len
  have hn2 := h2.len
  refine calls_of_SC (args := [.slice a l1.length ca, .slice b l2.length cb]) Try.func27 rfl Try.ntmps27 rfl ?_
  simp only [argL, Nat.zero_add]
  refine sc_seq ?_
  refine sc_region ?_
  refine qs (y_assign RF) ?_
  refine sq_nil ?_
  refine sx_then ?_
  refine sc_seq ?_
  refine sc_seq ?_
  refine sc_region ?_
  refine qs (y_move RF) ?_
  refine qs (y_len Try.underlying27 RF) ?_
  refine qs (y_move RF) ?_
  refine qs (y_len Try.underlying27 RF) ?_
  refine qs (y_neq RF RF) ?_
  refine sq_nil ?_
  refine sx_then ?_
  refine scp (fun hc0 => ?_) (fun hc0 => ?_)
  ·
    refine sc_seq ?_
    refine sc_region ?_
    refine qs (y_assign RF) ?_
    refine sq_nil ?_
    refine sx_then ?_
    refine sc_ret ?_
    refine sx_then_ret ?_
    refine sx_ret1 (.inl rfl) rfl Try.results27 RF ?_
    intro w' hw'
    refine ⟨?_, hw'.below MM⟩
    congr 2; symm; rw [decide_eq_false_iff_not]; intro h; rw [h] at hc0; exact hc0 rfl
  ·
    refine sc_skip ?_
    refine sx_then ?_
    refine sc_seq ?_
    refine sc_seq ?_
    have hll : l1.length = l2.length := by omega
    refine sc_region ?_
    refine qs (y_assign RF) ?_
    refine sq_nil ?_
    refine sx_then ?_
    refine sc_block ?_
    refine sc_loop (σ := Nat)
      (fun s => [(0, .slice a l1.length ca), (1, .slice b l2.length cb), (5, .int .i64 s)])
      (fun s => [.reg 0 w])
      (fun s => s ≤ l1.length ∧ ∀ j, j < s → l1[j]? = l2[j]?)
      (fun s => l1.length - s)
      (0) ?_ SU SE ?_
    · exact ⟨Nat.zero_le _, fun j hj => absurd hj (Nat.not_lt_zero j)⟩
    rintro k ⟨hk, hsame⟩
    refine sc_seq ?_
    refine sc_seq ?_
    refine sc_region ?_
    refine qs (y_move RF) ?_
    refine qs (y_move RF) ?_
    refine qs (y_len Try.underlying27 RF) ?_
    refine qs (y_lss RF RF) ?_
    refine sq_nil ?_
    refine sx_then ?_
    refine scp (fun hc1 => ?_) (fun hc1 => ?_)
    ·
      have hk' : k < l1.length := by omega
      obtain ⟨x, hx⟩ : ∃ x, l1[k]? = some x := ⟨_, List.getElem?_eq_getElem hk'⟩
      obtain ⟨y, hy⟩ : ∃ y, l2[k]? = some y := ⟨_, List.getElem?_eq_getElem (by omega)⟩
      have hs1 := (h1.el k x hx).1
      have hc1 := (h1.el k x hx).2
      have hs2 := (h2.el k y hy).1
      have hc22 := (h2.el k y hy).2
      refine sc_skip ?_
      refine sx_then ?_
      refine sc_seq ?_
      refine sc_block ?_
      refine sc_seq ?_
      refine sc_draw rfl (by kernel_rfl) (by kernel_rfl) ?_
      refine qq_y (OpY.s (y_move RF)) rfl ?_
      refine qq_y (OpY.s (y_move RF)) rfl ?_
      refine qq_y (OpY.s IA27) rfl ?_
      refine qq_y (OpY.s (by first | exact y_load_ca0 Try.underlying3 rfl RF MM hc1 rfl | exact LD3)) rfl ?_
      refine qq_y (OpY.s (y_move RF)) rfl ?_
      refine qq_y (OpY.s (y_move RF)) rfl ?_
      refine qq_y (OpY.s IA27) rfl ?_
      refine qq_y (OpY.s (by first | exact y_load_ca0 Try.underlying3 rfl RF MM hc22 rfl | exact LD3)) rfl ?_
      refine qq_y (OpY.s (y_neq RF RF)) rfl ?_
      refine qq_nil ?_
      refine sx_then ?_
      refine scp (fun hc2 => ?_) (fun hc2 => ?_)
      ·
        refine sc_seq ?_
        refine sc_region ?_
        refine qs (y_assign RF) ?_
        refine sq_nil ?_
        refine sx_then ?_
        refine sc_ret ?_
        refine sx_blk_ret ?_
        refine sx_then_ret ?_
        refine sx_round_ret ?_
        refine sx_blk_ret ?_
        refine sx_then_ret ?_
        refine sx_ret1 (.inl rfl) rfl Try.results27 RF ?_
        intro w' hw'
        refine ⟨?_, hw'.below MM⟩
        congr 2; symm; rw [decide_eq_false_iff_not]; intro h; rw [h, hy] at hx; cases hx; simp at hc2
      ·
        refine sc_skip ?_
        refine sx_blk ?_
        refine sx_then ?_
        refine sc_region ?_
        refine qs (y_move RF) ?_
        refine qs (y_add RF RF (by omega)) ?_
        refine qs (y_assign RF) ?_
        refine sq_nil ?_
        refine sx_round (k + 1) ?_ ?_ SU SE
        · refine ⟨by omega, fun j hj => ?_⟩
          rcases Nat.lt_succ_iff_lt_or_eq.1 hj with h | rfl
          · exact hsame j h
          · rw [hx, hy]; exact congrArg some (by simpa using hc2)
        · omega
    ·
      refine sc_exit ?_
      refine sx_then_exit ?_
      refine sx_round_exit ?_
      refine sx_blk_hit ?_
      refine sx_then ?_
      refine sc_seq ?_
      refine sc_region ?_
      refine qs (y_assign RF) ?_
      refine sq_nil ?_
      refine sx_then ?_
      refine sc_ret ?_
      refine sx_ret1 (.inl rfl) rfl Try.results27 RF ?_
      intro w' hw'
      refine ⟨?_, hw'.below MM⟩
      congr 2; symm; rw [decide_eq_true_eq]
      exact List.ext_getElem? fun j => by
        rcases Nat.lt_or_ge j k with h | h
        · exact hsame j h
        · rw [List.getElem?_eq_none (by omega), List.getElem?_eq_none (by omega)]
theorem leftR_len (b : Bx) (ls : List Rd) : (leftR b ls).length ≤ b.kinds.length := by
  unfold leftR; split
  · rw [leftS_len]; exact Nat.le_refl _
  · exact Nat.zero_le _
theorem left18s (w : World) (b : Bx) (a : Option Addr) (c : Nat) (hB : RowsA kdRow 3 0 w a b.kinds) (al : Option Addr) (cl : Nat) (ls : List Rd) (hl : RowsA rdRow 8 0 w al ls) : Calls Try.prog 18 #[.agg (bxRow b a c).toArray, .slice al ls.length cl] w fun e w' => ∃ z : Option Addr × Nat, e = .returned (.tuple #[.slice z.1 (leftR b ls).length z.2, .int .i64 (openE b ls [])]) ∧ Below w.heap.size w w' ∧ RowsA spRow 2 w.heap.size w' z.1 (leftR b ls) :=
  (left18 w b a c hB al cl ls hl).mono fun e w' ⟨v, he, hb, ho⟩ => by
    obtain ⟨a2, c2, rfl, _, hr⟩ := own_rowsA (row := spRow) (fun _ => rfl) ho rfl (by have := leftR_len b ls; have := hB.len; omega)
    exact ⟨(a2, c2), he, hb, hr⟩
theorem left19s (w : World) (b : Bx) (a : Option Addr) (c : Nat) (hB : RowsA kdRow 3 0 w a b.kinds) (al : Option Addr) (cl : Nat) (ls : List Rd) (hl : RowsA rdRow 8 0 w al ls) : Calls Try.prog 19 #[.agg (bxRow b a c).toArray, .slice al ls.length cl] w fun e w' => ∃ z : Option Addr × Nat, e = .returned (.tuple #[.slice z.1 (leftR b ls).length z.2, .int .i64 (openE b ls [])]) ∧ Below w.heap.size w w' ∧ RowsA spRow 2 w.heap.size w' z.1 (leftR b ls) :=
  (left19 w b a c hB al cl ls hl).mono fun e w' ⟨v, he, hb, ho⟩ => by
    obtain ⟨a2, c2, rfl, _, hr⟩ := own_rowsA (row := spRow) (fun _ => rfl) ho rfl (by have := leftR_len b ls; have := hB.len; omega)
    exact ⟨(a2, c2), he, hb, hr⟩
theorem smp_bx : bxB smpB = true := by decide +kernel
theorem smp_fine : teB smpB fineT = true := by decide +kernel
theorem smp_can : canV smpB [-1, 0] = true := by decide +kernel
theorem smp_read : readV smpB fineT [-1, 0] = ⟨109450, 109739⟩ := by decide +kernel
theorem smp_open : openE smpB [⟨cameraT, 98⟩] [] = 0 := by decide +kernel
theorem smp_judge : judgeV (fitL smpB [⟨cameraT, 98⟩]) = 1 := by decide +kernel
theorem smp_left : leftR smpB [⟨cameraT, 98⟩] = [⟨-1, 1⟩, ⟨-1, 1⟩] := by decide +kernel
theorem smp_slip : slipR smpB [cameraT, roughT] = ([-1, 0], 0) := by decide +kernel
theorem smp_enough : enoughR smpB [cameraT, roughT, fineT] = (4, 10, 0) := by decide +kernel
theorem smp_next : nextR smpB [⟨cameraT, 98⟩] [cameraT, roughT, fineT] = (2, 0) := by decide +kernel
theorem reads14s (w : World) (a : Option Addr) (c : Nat) (hB : RowsA kdRow 3 0 w a smpB.kinds) (al : Option Addr) (cl : Nat) (hl : RowsA iRow 1 0 w al [-1, 0]) : Calls Try.prog 14 #[.agg (bxRow smpB a c).toArray, .slice al 2 cl, .agg (teRow fineT).toArray] w fun e w' => e = .returned (.tuple #[.agg (spRow ⟨109450, 109739⟩).toArray, .int .i64 0]) ∧ Below w.heap.size w w' :=
  (reads14 w smpB a c hB al cl [-1, 0] hl fineT).mono fun e w' ⟨he, hb⟩ => ⟨by rw [he]; unfold readAns; rw [if_pos ⟨smp_bx, smp_fine⟩, if_pos smp_can, smp_read], hb⟩
theorem judge16s (w : World) (a : Option Addr) (c : Nat) (hB : RowsA kdRow 3 0 w a smpB.kinds) (al : Option Addr) (cl : Nat) (hl : RowsA rdRow 8 0 w al [⟨cameraT, 98⟩]) : Calls Try.prog 16 #[.agg (bxRow smpB a c).toArray, .slice al 1 cl] w fun e w' => e = .returned (.tuple #[.int .i64 1, .int .i64 0]) ∧ Below w.heap.size w w' :=
  (judge16 w smpB a c hB al cl [⟨cameraT, 98⟩] hl).mono fun e w' ⟨he, hb⟩ => ⟨by rw [he]; unfold judgeAns; rw [if_pos smp_open, smp_judge], hb⟩
theorem left18p (w : World) (a : Option Addr) (c : Nat) (hB : RowsA kdRow 3 0 w a smpB.kinds) (al : Option Addr) (cl : Nat) (hl : RowsA rdRow 8 0 w al [⟨cameraT, 98⟩]) : Calls Try.prog 18 #[.agg (bxRow smpB a c).toArray, .slice al 1 cl] w fun e w' => ∃ z : Option Addr × Nat, e = .returned (.tuple #[.slice z.1 2 z.2, .int .i64 0]) ∧ Below w.heap.size w w' ∧ RowsA spRow 2 w.heap.size w' z.1 [⟨-1, 1⟩, ⟨-1, 1⟩] :=
  (left18s w smpB a c hB al cl [⟨cameraT, 98⟩] hl).mono fun e w' ⟨z, he, hb, hr⟩ => by
    rw [smp_left] at he hr; rw [smp_open] at he; exact ⟨z, he, hb, hr⟩
theorem slips21s (w : World) (a : Option Addr) (c : Nat) (hB : RowsA kdRow 3 0 w a smpB.kinds) (at_ : Option Addr) (ct : Nat) (ht : RowsA teRow 7 0 w at_ [cameraT, roughT]) : Calls Try.prog 21 #[.agg (bxRow smpB a c).toArray, .slice at_ 2 ct] w fun e w' => ∃ z : Option Addr × Nat, e = .returned (.tuple #[.slice z.1 2 z.2, .int .i64 0]) ∧ Below w.heap.size w w' ∧ RowsA iRow 1 w.heap.size w' z.1 [-1, 0] :=
  (slips21 w smpB a c hB at_ ct [cameraT, roughT] ht).mono fun e w' ⟨z, he, hb, hr⟩ => by
    rw [smp_slip] at he hr; exact ⟨z, he, hb, hr⟩
theorem enough23s (w : World) (a : Option Addr) (c : Nat) (hB : RowsA kdRow 3 0 w a smpB.kinds) (at_ : Option Addr) (ct : Nat) (ht : RowsA teRow 7 0 w at_ [cameraT, roughT, fineT]) : Calls Try.prog 23 #[.agg (bxRow smpB a c).toArray, .slice at_ 3 ct] w fun e w' => e = .returned (.tuple #[.int .i64 4, .int .i64 10, .int .i64 0]) ∧ Below w.heap.size w w' :=
  (enough23 w smpB a c hB at_ ct [cameraT, roughT, fineT] ht).mono fun e w' ⟨he, hb⟩ => ⟨by rw [he, smp_enough], hb⟩
theorem next25s (w : World) (a : Option Addr) (c : Nat) (hB : RowsA kdRow 3 0 w a smpB.kinds) (al : Option Addr) (cl : Nat) (hl : RowsA rdRow 8 0 w al [⟨cameraT, 98⟩]) (at_ : Option Addr) (ct : Nat) (ht : RowsA teRow 7 0 w at_ [cameraT, roughT, fineT]) : Calls Try.prog 25 #[.agg (bxRow smpB a c).toArray, .slice al 1 cl, .slice at_ 3 ct] w fun e w' => e = .returned (.tuple #[.int .i64 2, .int .i64 0]) ∧ Below w.heap.size w w' :=
  (next25 w smpB a c hB al cl [⟨cameraT, 98⟩] hl at_ ct [cameraT, roughT, fineT] ht).mono fun e w' ⟨he, hb⟩ => ⟨by rw [he, smp_next], hb⟩
theorem alive13 (w : World) : Calls Try.prog 13 #[] w fun e w' => e = .returned (.bool true) ∧ Below w.heap.size w w' := by
  refine calls_of_SC (args := []) Try.func13 rfl Try.ntmps13 rfl ?_
  simp only [argL]
  refine sc_seq ?_
  refine sc_region ?_
  refine qs (y_assign RF) ?_
  refine sq_nil ?_
  refine sx_then ?_
  refine sc_seq ?_
  refine sc_region ?_
  refine sq_call_new (first := []) (caps := []) (Z := Option Addr × Nat) (fun z => .agg (bxRow smpB z.1 z.2).toArray) (fun lo w' z => RowsA kdRow 3 lo w' z.1 smpB.kinds) RF Try.call28 EvL.nil (fun w1 _ => (sample28 w1).mono (fun e w' ⟨a, c, he, hb, hr⟩ => ⟨(a, c), he, hb, hr⟩)) rfl (fun ls1 ws1 zs1 hs1 => ?_)
  refine sq_bs Try.underlying27 ei3 (EvI.cons RF (EvI.cons RF EvI.nil)) (by first | (simp [Value.cells]; done) | (simp [Value.cells]; rfl) | (simp [Value.cells]; and_intros <;> rfl)) rfl rfl rfl (fun b16 => ?_)
  refine qy (yc Try.call29 E0 (fun w1 _ => fine29 w1)) ?_
  refine qy (yc Try.call14 E3 (fun w1 hw1 => reads14s w1 _ _ (hs1.at hw1 MM) _ _ (lit_rowsA (row := iRow) (l := [-1, 0]) (fun _ => rfl) hw1 MM rfl (by decide)))) ?_
  refine qs (y_move RF) ?_
  refine qs (y_extract RF RF) ?_
  refine qs (y_extract RF RF) ?_
  refine sq_alloc Try.zeroValue24 rfl (fun b1 => ?_)
  refine sq_store_all Try.sizeOf24 RF RF rfl RM rfl rfl ?_
  refine qs (y_assign RF) ?_
  refine sq_nil ?_
  refine sx_then ?_
  refine sc_seq ?_
  refine sc_region ?_
  refine sq_call_new (first := []) (caps := []) (Z := Option Addr × Nat) (fun z => .agg (bxRow smpB z.1 z.2).toArray) (fun lo w' z => RowsA kdRow 3 lo w' z.1 smpB.kinds) RF Try.call28 EvL.nil (fun w1 _ => (sample28 w1).mono (fun e w' ⟨a, c, he, hb, hr⟩ => ⟨(a, c), he, hb, hr⟩)) rfl (fun ls2 ws2 zs2 hs2 => ?_)
  refine qy (yc Try.call30 E0 (fun w1 _ => camera30 w1)) ?_
  refine qs (y_build (cells := (rdRow ⟨cameraT, 98⟩).toArray) bt54 (EvP.cons RF (EvP.cons RF EvP.nil)) (by kernel_rfl)) ?_
  refine sq_bs Try.underlying30 ei54 (EvI.cons RF EvI.nil) (by first | (simp [Value.cells]; done) | (simp [Value.cells]; rfl) | (simp [Value.cells]; and_intros <;> rfl)) rfl rfl rfl (fun b25 => ?_)
  refine qy (yc Try.call16 E2 (fun w1 hw1 => judge16s w1 _ _ (hs2.at hw1 MM) _ _ (lit_rowsA (row := rdRow) (l := [⟨cameraT, 98⟩]) (fun _ => rfl) hw1 MM rfl (by decide)))) ?_
  refine qs (y_move RF) ?_
  refine qs (y_extract RF RF) ?_
  refine qs (y_extract RF RF) ?_
  refine qs (y_assign RF) ?_
  refine qs (y_assign RF) ?_
  refine sq_nil ?_
  refine sx_then ?_
  refine sc_seq ?_
  refine sc_region ?_
  refine sq_call_new (first := []) (caps := []) (Z := Option Addr × Nat) (fun z => .agg (bxRow smpB z.1 z.2).toArray) (fun lo w' z => RowsA kdRow 3 lo w' z.1 smpB.kinds) RF Try.call28 EvL.nil (fun w1 _ => (sample28 w1).mono (fun e w' ⟨a, c, he, hb, hr⟩ => ⟨(a, c), he, hb, hr⟩)) rfl (fun ls3 ws3 zs3 hs3 => ?_)
  refine qy (yc Try.call30 E0 (fun w1 _ => camera30 w1)) ?_
  refine qs (y_build (cells := (rdRow ⟨cameraT, 98⟩).toArray) bt54 (EvP.cons RF (EvP.cons RF EvP.nil)) (by kernel_rfl)) ?_
  refine sq_bs Try.underlying30 ei54 (EvI.cons RF EvI.nil) (by first | (simp [Value.cells]; done) | (simp [Value.cells]; rfl) | (simp [Value.cells]; and_intros <;> rfl)) rfl rfl rfl (fun b33 => ?_)
  refine sq_call_new (first := []) (caps := []) (Z := Option Addr × Nat) (fun z => .tuple #[.slice z.1 2 z.2, .int .i64 0]) (fun lo w' z => RowsA spRow 2 lo w' z.1 [⟨-1, 1⟩, ⟨-1, 1⟩]) RF Try.call18 (EvL.cons RF (EvL.cons RF EvL.nil)) (fun w1 hw1 => left18p w1 _ _ (hs3.at hw1 MM) _ _ (lit_rowsA (row := rdRow) (l := [⟨cameraT, 98⟩]) (fun _ => rfl) hw1 MM rfl (by decide))) rfl (fun ll wl zl hl => ?_)
  refine qs (y_move RF) ?_
  refine qs (y_extract RF RF) ?_
  refine qs (y_extract RF RF) ?_
  refine qs (y_assign RF) ?_
  refine qs (y_assign RF) ?_
  refine sq_nil ?_
  refine sx_then ?_
  refine sc_seq ?_
  refine sc_region ?_
  refine sq_call_new (first := []) (caps := []) (Z := Option Addr × Nat) (fun z => .agg (bxRow smpB z.1 z.2).toArray) (fun lo w' z => RowsA kdRow 3 lo w' z.1 smpB.kinds) RF Try.call28 EvL.nil (fun w1 _ => (sample28 w1).mono (fun e w' ⟨a, c, he, hb, hr⟩ => ⟨(a, c), he, hb, hr⟩)) rfl (fun ls4 ws4 zs4 hs4 => ?_)
  refine qy (yc Try.call30 E0 (fun w1 _ => camera30 w1)) ?_
  refine qy (yc Try.call42 E0 (fun w1 _ => rough42 w1)) ?_
  refine sq_bs Try.underlying43 ei29 (EvI.cons RF (EvI.cons RF EvI.nil)) (by first | (simp [Value.cells]; done) | (simp [Value.cells]; rfl) | (simp [Value.cells]; and_intros <;> rfl)) rfl rfl rfl (fun b41 => ?_)
  refine sq_call_new (first := []) (caps := []) (Z := Option Addr × Nat) (fun z => .tuple #[.slice z.1 2 z.2, .int .i64 0]) (fun lo w' z => RowsA iRow 1 lo w' z.1 [-1, 0]) RF Try.call21 (EvL.cons RF (EvL.cons RF EvL.nil)) (fun w1 hw1 => slips21s w1 _ _ (hs4.at hw1 MM) _ _ (lit_rowsA (row := teRow) (l := [cameraT, roughT]) (fun _ => rfl) hw1 MM rfl (by decide))) rfl (fun lp wp zp hp => ?_)
  refine qs (y_move RF) ?_
  refine qs (y_extract RF RF) ?_
  refine qs (y_extract RF RF) ?_
  refine qs (y_assign RF) ?_
  refine qs (y_assign RF) ?_
  refine sq_nil ?_
  refine sx_then ?_
  refine sc_seq ?_
  refine sc_region ?_
  refine sq_call_new (first := []) (caps := []) (Z := Option Addr × Nat) (fun z => .agg (bxRow smpB z.1 z.2).toArray) (fun lo w' z => RowsA kdRow 3 lo w' z.1 smpB.kinds) RF Try.call28 EvL.nil (fun w1 _ => (sample28 w1).mono (fun e w' ⟨a, c, he, hb, hr⟩ => ⟨(a, c), he, hb, hr⟩)) rfl (fun ls5 ws5 zs5 hs5 => ?_)
  refine qy (yc Try.call30 E0 (fun w1 _ => camera30 w1)) ?_
  refine qy (yc Try.call42 E0 (fun w1 _ => rough42 w1)) ?_
  refine qy (yc Try.call29 E0 (fun w1 _ => fine29 w1)) ?_
  refine sq_bs Try.underlying43 ei29 (EvI.cons RF (EvI.cons RF (EvI.cons RF EvI.nil))) (by first | (simp [Value.cells]; done) | (simp [Value.cells]; rfl) | (simp [Value.cells]; and_intros <;> rfl)) rfl rfl rfl (fun b50 => ?_)
  refine qy (yc Try.call23 E2 (fun w1 hw1 => enough23s w1 _ _ (hs5.at hw1 MM) _ _ (lit_rowsA (row := teRow) (l := [cameraT, roughT, fineT]) (fun _ => rfl) hw1 MM rfl (by decide)))) ?_
  refine qs (y_move RF) ?_
  refine qs (y_extract RF RF) ?_
  refine qs (y_extract RF RF) ?_
  refine qs (y_extract RF RF) ?_
  refine qs (y_assign RF) ?_
  refine qs (y_assign RF) ?_
  refine qs (y_assign RF) ?_
  refine sq_nil ?_
  refine sx_then ?_
  refine sc_seq ?_
  refine sc_region ?_
  refine sq_call_new (first := []) (caps := []) (Z := Option Addr × Nat) (fun z => .agg (bxRow smpB z.1 z.2).toArray) (fun lo w' z => RowsA kdRow 3 lo w' z.1 smpB.kinds) RF Try.call28 EvL.nil (fun w1 _ => (sample28 w1).mono (fun e w' ⟨a, c, he, hb, hr⟩ => ⟨(a, c), he, hb, hr⟩)) rfl (fun ls6 ws6 zs6 hs6 => ?_)
  refine qy (yc Try.call30 E0 (fun w1 _ => camera30 w1)) ?_
  refine qs (y_build (cells := (rdRow ⟨cameraT, 98⟩).toArray) bt54 (EvP.cons RF (EvP.cons RF EvP.nil)) (by kernel_rfl)) ?_
  refine sq_bs Try.underlying30 ei54 (EvI.cons RF EvI.nil) (by first | (simp [Value.cells]; done) | (simp [Value.cells]; rfl) | (simp [Value.cells]; and_intros <;> rfl)) rfl rfl rfl (fun b59 => ?_)
  refine qy (yc Try.call30 E0 (fun w1 _ => camera30 w1)) ?_
  refine qy (yc Try.call42 E0 (fun w1 _ => rough42 w1)) ?_
  refine qy (yc Try.call29 E0 (fun w1 _ => fine29 w1)) ?_
  refine sq_bs Try.underlying43 ei29 (EvI.cons RF (EvI.cons RF (EvI.cons RF EvI.nil))) (by first | (simp [Value.cells]; done) | (simp [Value.cells]; rfl) | (simp [Value.cells]; and_intros <;> rfl)) rfl rfl rfl (fun b63 => ?_)
  refine qy (yc Try.call25 E3 (fun w1 hw1 => next25s w1 _ _ (hs6.at hw1 MM) _ _ (lit_rowsA (row := rdRow) (l := [⟨cameraT, 98⟩]) (fun _ => rfl) hw1 MM rfl (by decide)) _ _ (lit_rowsA (row := teRow) (l := [cameraT, roughT, fineT]) (fun _ => rfl) hw1 MM rfl (by decide)))) ?_
  refine qs (y_move RF) ?_
  refine qs (y_extract RF RF) ?_
  refine qs (y_extract RF RF) ?_
  refine qs (y_assign RF) ?_
  refine qs (y_assign RF) ?_
  refine sq_nil ?_
  refine sx_then ?_
  refine sc_seq ?_
  refine sc_seq ?_
  refine sc_drawX ([.blk b1 (.cells (spRow ⟨109450, 109739⟩).toArray 24 (0, 0)), .reg 0 w]) (by kernel_rfl) ?_
  refine xj_s 0 RF (by kernel_rfl) SR LD24 rfl ?_
  refine xj_one 1 RF (by kernel_rfl) ?_
  refine qy (yc Try.call31 E2 (fun w1 _ => span31 w1 _ _)) ?_
  refine sq_nil ?_
  refine sx_xp SR ?_
  refine xj_s 2 RF (by kernel_rfl) SR (y_neqs (by kernel_rfl) RF RF (neq24 _ _ _ _)) rfl ?_
  refine xj_s 3 RF (by kernel_rfl) SR (y_move RF) rfl ?_
  refine xj_known (tt := 70) (b' := false) RF (by first | rfl | decide) ?_
  refine xj_gt 4 RF RF RF (by kernel_rfl) SR (y_move RF) rfl ?_
  refine xj_gt 5 RF RF RF (by kernel_rfl) SR (y_neq RF RF) rfl ?_
  refine xj_s 6 RF (by kernel_rfl) SR (y_pick_f RF RF) rfl ?_
  refine xj_s 7 RF (by kernel_rfl) SR (y_move RF) rfl ?_
  refine xj_known (tt := 74) (b' := false) RF (by first | rfl | decide) ?_
  refine xj_gt 8 RF RF RF (by kernel_rfl) SR (y_move RF) rfl ?_
  refine xj_gt 9 RF RF RF (by kernel_rfl) SR (y_neq RF RF) rfl ?_
  refine xj_s 10 RF (by kernel_rfl) SR (y_pick_f RF RF) rfl ?_
  refine xj_s 11 RF (by kernel_rfl) SR (y_move RF) rfl ?_
  refine xj_known (tt := 78) (b' := false) RF (by first | rfl | decide) ?_
  refine xj_gt 12 RF RF RF (by kernel_rfl) SR (y_move RF) rfl ?_
  refine xj_gt 13 RF RF RF (by kernel_rfl) SR (y_neq RF RF) rfl ?_
  refine xj_s 14 RF (by kernel_rfl) SR (y_pick_f RF RF) rfl ?_
  refine xj_s 15 RF (by kernel_rfl) SR (y_move RF) rfl ?_
  refine xj_known (tt := 82) (b' := false) RF (by first | rfl | decide) ?_
  refine xj_gt 16 RF RF RF (by kernel_rfl) SR (y_move RF) rfl ?_
  refine xj_one 17 RF (by kernel_rfl) ?_
  refine sq_gt RF RF (y_call (first := []) (caps := []) RF Try.call31 (EvL.cons RF (EvL.cons RF EvL.nil)) (fun w1 _ => span31 w1 _ _)) rfl ?_
  refine sq_nil ?_
  refine sx_xp SR ?_
  refine xj_one 18 RF (by kernel_rfl) ?_
  refine sq_gt RF RF (y_call (first := []) (caps := []) RF Try.call31 (EvL.cons RF (EvL.cons RF EvL.nil)) (fun w1 _ => span31 w1 _ _)) rfl ?_
  refine sq_nil ?_
  refine sx_xp SR ?_
  refine xj_one 19 RF (by kernel_rfl) ?_
  refine sq_guard RF RF ?_
  refine sq_bs Try.underlying38 ei24 (EvI.cons RF (EvI.cons RF EvI.nil)) (by first | (simp [Value.cells]; done) | (simp [Value.cells]; rfl) | (simp [Value.cells]; and_intros <;> rfl)) rfl rfl rfl (fun b86 => ?_)
  refine sq_nil ?_
  refine sx_xp SR ?_
  refine xj_one 20 RF (by kernel_rfl) ?_
  refine sq_gt RF RF (y_call (first := []) (caps := []) RF Try.call20 (EvL.cons RF (EvL.cons RF EvL.nil)) (fun w1 hw1 => spans20 w1 zl.1 (some ⟨b86, 0, none⟩) zl.2 2 [⟨-1, 1⟩, ⟨-1, 1⟩] [⟨-1, 1⟩, ⟨-1, 1⟩] (hl.at hw1 MM) (lit_rowsA (row := spRow) (l := [⟨-1, 1⟩, ⟨-1, 1⟩]) (fun _ => rfl) hw1 MM rfl (by decide)))) rfl ?_
  refine sq_nil ?_
  refine sx_xp SR ?_
  refine xj_gt 21 RF RF RF (by kernel_rfl) SR (y_not RF) rfl ?_
  refine xj_s 22 RF (by kernel_rfl) SR (y_pick_f RF RF) rfl ?_
  refine xj_s 23 RF (by kernel_rfl) SR (y_move RF) rfl ?_
  refine xj_known (tt := 90) (b' := false) RF (by first | rfl | decide) ?_
  refine xj_gt 24 RF RF RF (by kernel_rfl) SR (y_move RF) rfl ?_
  refine xj_gt 25 RF RF RF (by kernel_rfl) SR (y_neq RF RF) rfl ?_
  refine xj_s 26 RF (by kernel_rfl) SR (y_pick_f RF RF) rfl ?_
  refine xj_done (by kernel_rfl) ?_
  refine sx_then ?_
  refine sc_f (lk_bool rfl (by first | rfl | decide)) ?_
  refine sc_skip ?_
  refine sx_then ?_
  refine sc_seq ?_
  refine sc_region ?_
  refine qs (y_move RF) ?_
  refine sq_bs Try.underlying27 ei3 (EvI.cons RF (EvI.cons RF EvI.nil)) (by first | (simp [Value.cells]; done) | (simp [Value.cells]; rfl) | (simp [Value.cells]; and_intros <;> rfl)) rfl rfl rfl (fun b95 => ?_)
  refine qy (yc Try.call27 E2 (fun w1 hw1 => ints27 w1 zp.1 (some ⟨b95, 0, none⟩) zp.2 2 [-1, 0] [-1, 0] (hp.at hw1 MM) (lit_rowsA (row := iRow) (l := [-1, 0]) (fun _ => rfl) hw1 MM rfl (by decide)))) ?_
  refine qs (y_move RF) ?_
  refine sq_known (tt := 97) (b' := true) RF (by first | rfl | decide) ?_
  refine qg (y_move RF) ?_
  refine qg (y_eql RF RF) ?_
  refine qs (y_pick_t RF RF) ?_
  refine qs (y_move RF) ?_
  refine sq_known (tt := 101) (b' := true) RF (by first | rfl | decide) ?_
  refine qg (y_move RF) ?_
  refine qg (y_eql RF RF) ?_
  refine qs (y_pick_t RF RF) ?_
  refine qs (y_move RF) ?_
  refine sq_known (tt := 105) (b' := true) RF (by first | rfl | decide) ?_
  refine qg (y_move RF) ?_
  refine qg (y_eql RF RF) ?_
  refine qs (y_pick_t RF RF) ?_
  refine qs (y_move RF) ?_
  refine sq_known (tt := 109) (b' := true) RF (by first | rfl | decide) ?_
  refine qg (y_move RF) ?_
  refine qg (y_eql RF RF) ?_
  refine qs (y_pick_t RF RF) ?_
  refine qs (y_move RF) ?_
  refine sq_known (tt := 113) (b' := true) RF (by first | rfl | decide) ?_
  refine qg (y_move RF) ?_
  refine qg (y_eql RF RF) ?_
  refine qs (y_pick_t RF RF) ?_
  refine qs (y_move RF) ?_
  refine sq_known (tt := 117) (b' := true) RF (by first | rfl | decide) ?_
  refine qg (y_move RF) ?_
  refine qg (y_eql RF RF) ?_
  refine qs (y_pick_t RF RF) ?_
  refine qs (y_assign RF) ?_
  refine sq_nil ?_
  refine sx_then ?_
  refine sc_ret ?_
  refine sx_ret1 (.inl rfl) rfl Try.results13 RF ?_
  intro w' hw'
  exact ⟨rfl, hw'.below MM⟩
end Go.Proofs.Ytofjipmheckmjaa
