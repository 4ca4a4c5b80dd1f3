/- The walks of what compares lists, and of what looks for a number. -/
import Derived.Test.YtjlbpmcacopbpaaWalk8
namespace Go.Proofs.Ytjlbpmcacopbpaa
open Go Go.Eng Go.RowKit Go.Proofs
set_option maxRecDepth 100000

theorem spans26 (w : World) (a b : Option Addr) (ca cb : Nat) (l1 l2 : List Sp) (h1 : RowsA spRow 2 0 w a l1) (h2 : RowsA spRow 2 0 w b l2) : Calls Try.prog 26 #[.slice a l1.length ca, .slice b l2.length cb] w fun e w' => e = .returned (.bool (decide (l1 = l2))) ∧ Below w.heap.size w w' := by
  have hn1 := h1.len
  have hn2 := h2.len
  refine calls_of_SC (args := [.slice a l1.length ca, .slice b l2.length cb]) Try.func26 rfl Try.ntmps26 rfl ?_
  simp only [argL, Nat.zero_add]
  refine sc_seq ?_
  refine sc_region ?_
  refine qs (y_assign RF) ?_
  refine sq_nil ?_
  refine sx_then ?_
  refine sc_seq ?_
  refine sc_seq ?_
  refine sc_region ?_
  refine qs (y_move RF) ?_
  refine qs (y_len Try.underlying36 RF) ?_
  refine qs (y_move RF) ?_
  refine qs (y_len Try.underlying36 RF) ?_
  refine qs (y_neq RF RF) ?_
  refine sq_nil ?_
  refine sx_then ?_
  refine scp (fun hc0 => ?_) (fun hc0 => ?_)
  ·
    refine sc_seq ?_
    refine sc_region ?_
    refine qs (y_assign RF) ?_
    refine sq_nil ?_
    refine sx_then ?_
    refine sc_ret ?_
    refine sx_then_ret ?_
    refine sx_ret1 (.inl rfl) rfl Try.results26 RF ?_
    intro w' hw'
    refine ⟨?_, hw'.below MM⟩
    congr 2; symm; rw [decide_eq_false_iff_not]; intro h; rw [h] at hc0; exact hc0 rfl
  ·
    refine sc_skip ?_
    refine sx_then ?_
    refine sc_seq ?_
    refine sc_seq ?_
    have hll : l1.length = l2.length := by omega
    refine sc_region ?_
    refine qs (y_assign RF) ?_
    refine sq_nil ?_
    refine sx_then ?_
    refine sc_block ?_
    refine sc_loop (σ := Nat)
      (fun s => [(0, .slice a l1.length ca), (1, .slice b l2.length cb), (5, .int .i64 s)])
      (fun s => [.reg 0 w])
      (fun s => s ≤ l1.length ∧ ∀ j, j < s → l1[j]? = l2[j]?)
      (fun s => l1.length - s)
      (0) ?_ SU SE ?_
    · exact ⟨Nat.zero_le _, fun j hj => absurd hj (Nat.not_lt_zero j)⟩
    rintro k ⟨hk, hsame⟩
    refine sc_seq ?_
    refine sc_seq ?_
    refine sc_region ?_
    refine qs (y_move RF) ?_
    refine qs (y_move RF) ?_
    refine qs (y_len Try.underlying36 RF) ?_
    refine qs (y_lss RF RF) ?_
    refine sq_nil ?_
    refine sx_then ?_
    refine scp (fun hc1 => ?_) (fun hc1 => ?_)
    ·
      have hk' : k < l1.length := by omega
      obtain ⟨x, hx⟩ : ∃ x, l1[k]? = some x := ⟨_, List.getElem?_eq_getElem hk'⟩
      obtain ⟨y, hy⟩ : ∃ y, l2[k]? = some y := ⟨_, List.getElem?_eq_getElem (by omega)⟩
      have hs1 := (h1.el k x hx).1
      have hc1 := (h1.el k x hx).2
      have hs2 := (h2.el k y hy).1
      have hc22 := (h2.el k y hy).2
      refine sc_skip ?_
      refine sx_then ?_
      refine sc_seq ?_
      refine sc_block ?_
      refine sc_seq ?_
      refine sc_draw rfl (by kernel_rfl) (by kernel_rfl) ?_
      refine qq_y (OpY.s (y_move RF)) rfl ?_
      refine qq_y (OpY.s (y_move RF)) rfl ?_
      refine qq_y (OpY.s IA36) rfl ?_
      refine qq_y (OpY.s (by first | exact y_load_ca Try.underlying24 rfl Try.sizeOf24 RF MM hc1 rfl | exact LD24)) rfl ?_
      refine qq_y (OpY.s (y_move RF)) rfl ?_
      refine qq_y (OpY.s (y_move RF)) rfl ?_
      refine qq_y (OpY.s IA36) rfl ?_
      refine qq_y (OpY.s (by first | exact y_load_ca Try.underlying24 rfl Try.sizeOf24 RF MM hc22 rfl | exact LD24)) rfl ?_
      refine qq_y (OpY.s (y_neqs (by kernel_rfl) RF RF (neq24 _ _ _ _))) rfl ?_
      refine qq_nil ?_
      refine sx_then ?_
      refine scp (fun hc2 => ?_) (fun hc2 => ?_)
      ·
        refine sc_seq ?_
        refine sc_region ?_
        refine qs (y_assign RF) ?_
        refine sq_nil ?_
        refine sx_then ?_
        refine sc_ret ?_
        refine sx_blk_ret ?_
        refine sx_then_ret ?_
        refine sx_round_ret ?_
        refine sx_blk_ret ?_
        refine sx_then_ret ?_
        refine sx_ret1 (.inl rfl) rfl Try.results26 RF ?_
        intro w' hw'
        refine ⟨?_, hw'.below MM⟩
        congr 2; symm; rw [decide_eq_false_iff_not]; intro h; rw [h, hy] at hx; cases hx; simp at hc2
      ·
        refine sc_skip ?_
        refine sx_blk ?_
        refine sx_then ?_
        refine sc_region ?_
        refine qs (y_move RF) ?_
        refine qs (y_add RF RF (by omega)) ?_
        refine qs (y_assign RF) ?_
        refine sq_nil ?_
        refine sx_round (k + 1) ?_ ?_ SU SE
        · refine ⟨by omega, fun j hj => ?_⟩
          rcases Nat.lt_succ_iff_lt_or_eq.1 hj with h | rfl
          · exact hsame j h
          · rw [hx, hy]; congr 1; cases x; cases y; simp at hc2; simp [hc2]
        · omega
    ·
      refine sc_exit ?_
      refine sx_then_exit ?_
      refine sx_round_exit ?_
      refine sx_blk_hit ?_
      refine sx_then ?_
      refine sc_seq ?_
      refine sc_region ?_
      refine qs (y_assign RF) ?_
      refine sq_nil ?_
      refine sx_then ?_
      refine sc_ret ?_
      refine sx_ret1 (.inl rfl) rfl Try.results26 RF ?_
      intro w' hw'
      refine ⟨?_, hw'.below MM⟩
      congr 2; symm; rw [decide_eq_true_eq]
      exact List.ext_getElem? fun j => by
        rcases Nat.lt_or_ge j k with h | h
        · exact hsame j h
        · rw [List.getElem?_eq_none (by omega), List.getElem?_eq_none (by omega)]
theorem ints29 (w : World) (a b : Option Addr) (ca cb : Nat) (l1 l2 : List Int) (h1 : RowsA iRow 1 0 w a l1) (h2 : RowsA iRow 1 0 w b l2) : Calls Try.prog 29 #[.slice a l1.length ca, .slice b l2.length cb] w fun e w' => e = .returned (.bool (decide (l1 = l2))) ∧ Below w.heap.size w w' := by
  have hn1 := h1.len
  have hn2 := h2.len
  refine calls_of_SC (args := [.slice a l1.length ca, .slice b l2.length cb]) Try.func29 rfl Try.ntmps29 rfl ?_
  simp only [argL, Nat.zero_add]
  refine sc_seq ?_
  refine sc_region ?_
  refine qs (y_assign RF) ?_
  refine sq_nil ?_
  refine sx_then ?_
  refine sc_seq ?_
  refine sc_seq ?_
  refine sc_region ?_
  refine qs (y_move RF) ?_
  refine qs (y_len Try.underlying35 RF) ?_
  refine qs (y_move RF) ?_
  refine qs (y_len Try.underlying35 RF) ?_
  refine qs (y_neq RF RF) ?_
  refine sq_nil ?_
  refine sx_then ?_
  refine scp (fun hc0 => ?_) (fun hc0 => ?_)
  ·
    refine sc_seq ?_
    refine sc_region ?_
    refine qs (y_assign RF) ?_
    refine sq_nil ?_
    refine sx_then ?_
    refine sc_ret ?_
    refine sx_then_ret ?_
    refine sx_ret1 (.inl rfl) rfl Try.results29 RF ?_
    intro w' hw'
    refine ⟨?_, hw'.below MM⟩
    congr 2; symm; rw [decide_eq_false_iff_not]; intro h; rw [h] at hc0; exact hc0 rfl
  ·
    refine sc_skip ?_
    refine sx_then ?_
    refine sc_seq ?_
    refine sc_seq ?_
    have hll : l1.length = l2.length := by omega
    refine sc_region ?_
    refine qs (y_assign RF) ?_
    refine sq_nil ?_
    refine sx_then ?_
    refine sc_block ?_
    refine sc_loop (σ := Nat)
      (fun s => [(0, .slice a l1.length ca), (1, .slice b l2.length cb), (5, .int .i64 s)])
      (fun s => [.reg 0 w])
      (fun s => s ≤ l1.length ∧ ∀ j, j < s → l1[j]? = l2[j]?)
      (fun s => l1.length - s)
      (0) ?_ SU SE ?_
    · exact ⟨Nat.zero_le _, fun j hj => absurd hj (Nat.not_lt_zero j)⟩
    rintro k ⟨hk, hsame⟩
    refine sc_seq ?_
    refine sc_seq ?_
    refine sc_region ?_
    refine qs (y_move RF) ?_
    refine qs (y_move RF) ?_
    refine qs (y_len Try.underlying35 RF) ?_
    refine qs (y_lss RF RF) ?_
    refine sq_nil ?_
    refine sx_then ?_
    refine scp (fun hc1 => ?_) (fun hc1 => ?_)
    ·
      have hk' : k < l1.length := by omega
      obtain ⟨x, hx⟩ : ∃ x, l1[k]? = some x := ⟨_, List.getElem?_eq_getElem hk'⟩
      obtain ⟨y, hy⟩ : ∃ y, l2[k]? = some y := ⟨_, List.getElem?_eq_getElem (by omega)⟩
      have hs1 := (h1.el k x hx).1
      have hc1 := (h1.el k x hx).2
      have hs2 := (h2.el k y hy).1
      have hc22 := (h2.el k y hy).2
      refine sc_skip ?_
      refine sx_then ?_
      refine sc_seq ?_
      refine sc_block ?_
      refine sc_seq ?_
      refine sc_draw rfl (by kernel_rfl) (by kernel_rfl) ?_
      refine qq_y (OpY.s (y_move RF)) rfl ?_
      refine qq_y (OpY.s (y_move RF)) rfl ?_
      refine qq_y (OpY.s IA35) rfl ?_
      refine qq_y (OpY.s (by first | exact y_load_ca0 Try.underlying3 rfl RF MM hc1 rfl | exact LD3)) rfl ?_
      refine qq_y (OpY.s (y_move RF)) rfl ?_
      refine qq_y (OpY.s (y_move RF)) rfl ?_
      refine qq_y (OpY.s IA35) rfl ?_
      refine qq_y (OpY.s (by first | exact y_load_ca0 Try.underlying3 rfl RF MM hc22 rfl | exact LD3)) rfl ?_
      refine qq_y (OpY.s (y_neq RF RF)) rfl ?_
      refine qq_nil ?_
      refine sx_then ?_
      refine scp (fun hc2 => ?_) (fun hc2 => ?_)
      ·
        refine sc_seq ?_
        refine sc_region ?_
        refine qs (y_assign RF) ?_
        refine sq_nil ?_
        refine sx_then ?_
        refine sc_ret ?_
        refine sx_blk_ret ?_
        refine sx_then_ret ?_
        refine sx_round_ret ?_
        refine sx_blk_ret ?_
        refine sx_then_ret ?_
        refine sx_ret1 (.inl rfl) rfl Try.results29 RF ?_
        intro w' hw'
        refine ⟨?_, hw'.below MM⟩
        congr 2; symm; rw [decide_eq_false_iff_not]; intro h; rw [h, hy] at hx; cases hx; simp at hc2
      ·
        refine sc_skip ?_
        refine sx_blk ?_
        refine sx_then ?_
        refine sc_region ?_
        refine qs (y_move RF) ?_
        refine qs (y_add RF RF (by omega)) ?_
        refine qs (y_assign RF) ?_
        refine sq_nil ?_
        refine sx_round (k + 1) ?_ ?_ SU SE
        · refine ⟨by omega, fun j hj => ?_⟩
          rcases Nat.lt_succ_iff_lt_or_eq.1 hj with h | rfl
          · exact hsame j h
          · rw [hx, hy]; exact congrArg some (by simpa using hc2)
        · omega
    ·
      refine sc_exit ?_
      refine sx_then_exit ?_
      refine sx_round_exit ?_
      refine sx_blk_hit ?_
      refine sx_then ?_
      refine sc_seq ?_
      refine sc_region ?_
      refine qs (y_assign RF) ?_
      refine sq_nil ?_
      refine sx_then ?_
      refine sc_ret ?_
      refine sx_ret1 (.inl rfl) rfl Try.results29 RF ?_
      intro w' hw'
      refine ⟨?_, hw'.below MM⟩
      congr 2; symm; rw [decide_eq_true_eq]
      exact List.ext_getElem? fun j => by
        rcases Nat.lt_or_ge j k with h | h
        · exact hsame j h
        · rw [List.getElem?_eq_none (by omega), List.getElem?_eq_none (by omega)]
def hasB (l : List Int) (n : Int) : Bool := decide (n ∈ l)
theorem has78 (w : World) (a : Option Addr) (c : Nat) (l : List Int) (hl : RowsA iRow 1 0 w a l) (n : Int) : Calls Try.prog 78 #[.slice a l.length c, .int .i64 n] w fun e w' => e = .returned (.bool (hasB l n)) ∧ Below w.heap.size w w' := by
  have hlen := hl.len
  refine calls_of_SC (args := [.slice a l.length c, .int .i64 n]) Try.func78 rfl Try.ntmps78 rfl ?_
  simp only [argL, Nat.zero_add]
  refine sc_seq ?_
  refine sc_region ?_
  refine qs (y_assign RF) ?_
  refine sq_nil ?_
  refine sx_then ?_
  refine sc_seq ?_
  refine sc_seq ?_
  refine sc_region ?_
  refine qs (y_assign RF) ?_
  refine sq_nil ?_
  refine sx_then ?_
  refine sc_block ?_
  refine sc_loop (σ := Nat)
    (fun s => [(0, .slice a l.length c), (1, .int .i64 n), (5, .int .i64 s)])
    (fun s => [.reg 0 w])
    (fun s => s ≤ l.length ∧ ∀ i, i < s → l.getD i 0 ≠ n)
    (fun s => l.length - s)
    (0) ?_ SU SR ?_
  · exact ⟨Nat.zero_le _, fun i hi => absurd hi (Nat.not_lt_zero i)⟩
  rintro k ⟨hk, hno⟩
  refine sc_seq ?_
  refine sc_seq ?_
  refine sc_region ?_
  refine qs (y_move RF) ?_
  refine qs (y_move RF) ?_
  refine qs (y_len Try.underlying35 RF) ?_
  refine qs (y_lss RF RF) ?_
  refine sq_nil ?_
  refine sx_then ?_
  refine scp (fun hc0 => ?_) (fun hc0 => ?_)
  ·
    have hk' : k < l.length := by omega
    have hsm := (hl.get 0 hk').1
    have hca := (hl.get 0 hk').2
    refine sc_skip ?_
    refine sx_then ?_
    refine sc_seq ?_
    refine sc_block ?_
    refine sc_seq ?_
    refine sc_region ?_
    refine qs (y_move RF) ?_
    refine qs (y_move RF) ?_
    refine qs IA35 ?_
    refine qs LD3 ?_
    refine qs (y_move RF) ?_
    refine qs (y_eql RF RF) ?_
    refine sq_nil ?_
    refine sx_then ?_
    refine scp (fun hc1 => ?_) (fun hc1 => ?_)
    ·
      refine sc_seq ?_
      refine sc_region ?_
      refine qs (y_assign RF) ?_
      refine sq_nil ?_
      refine sx_then ?_
      refine sc_ret ?_
      refine sx_blk_ret ?_
      refine sx_then_ret ?_
      refine sx_round_ret ?_
      refine sx_blk_ret ?_
      refine sx_then_ret ?_
      refine sx_ret1 (.inl rfl) rfl Try.results78 RF ?_
      intro w' hw'
      refine ⟨?_, hw'.below MM⟩
      have : hasB l n = true := decide_eq_true (by rw [← hc1]; exact List.mem_of_getElem? (get_of_lt 0 hk'))
      rw [this]
    ·
      refine sc_skip ?_
      refine sx_blk ?_
      refine sx_then ?_
      refine sc_region ?_
      refine qs (y_move RF) ?_
      refine qs (y_add RF RF (by omega)) ?_
      refine qs (y_assign RF) ?_
      refine sq_nil ?_
      refine sx_round (k + 1) ?_ ?_ SU SR
      · refine ⟨by omega, fun i hi => ?_⟩
        rcases Nat.lt_succ_iff_lt_or_eq.1 hi with h | rfl
        · exact hno i h
        · exact hc1
      · omega
  ·
    refine sc_exit ?_
    refine sx_then_exit ?_
    refine sx_round_exit ?_
    refine sx_blk_hit ?_
    refine sx_then ?_
    refine sc_seq ?_
    refine sc_region ?_
    refine qs (y_assign RF) ?_
    refine sq_nil ?_
    refine sx_then ?_
    refine sc_ret ?_
    refine sx_ret1 (.inl rfl) rfl Try.results78 RF ?_
    intro w' hw'
    refine ⟨?_, hw'.below MM⟩
    have : hasB l n = false := decide_eq_false fun h => by
      obtain ⟨i, hi, rfl⟩ := List.getElem_of_mem h
      exact hno i (by omega) (by rw [List.getD_eq_getElem?_getD, List.getElem?_eq_getElem hi]; rfl)
    rw [this]
end Go.Proofs.Ytjlbpmcacopbpaa
