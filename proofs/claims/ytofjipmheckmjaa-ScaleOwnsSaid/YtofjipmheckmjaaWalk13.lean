/- The walk of the best choice. -/
import Derived.Test.YtofjipmheckmjaaWalk12
namespace Go.Proofs.Ytofjipmheckmjaa
open Go Go.Eng Go.RowKit Go.Proofs
set_option maxRecDepth 100000
structure Ch where
  at_ : Int
  cost : Int
def ch0 : Ch := ⟨0, 0⟩
def chRow (x : Ch) : List Value := [.int .i64 x.at_, .int .i64 x.cost]
def cmpV (x y : Int) : Int := if x < y then -1 else if y < x then 1 else 0
/-- the first of those that cost least -/
def bestK (l : List Ch) : Nat → Ch
  | 0 => l.getD 0 ch0
  | k + 1 => if (l.getD (k + 1) ch0).cost < (bestK l k).cost then l.getD (k + 1) ch0 else bestK l k
def bestC (l : List Ch) : Ch := bestK l (l.length - 1)
theorem cmp_neg (x y : Int) : cmpV x y < 0 ↔ x < y := by
  unfold cmpV
  split
  · simp [*]
  · split <;> simp <;> omega

theorem isNaN96 (w : World) (n : Int) : Calls Try.prog 96 #[.int .i64 n] w fun e w' => e = .returned (.bool false) ∧ Below w.heap.size w w' := by
  refine calls_of_SC (args := [.int .i64 n]) Try.func96 rfl Try.ntmps96 rfl ?_
  simp only [argL]
  refine sc_seq ?_
  refine sc_region ?_
  refine qs (y_assign RF) ?_
  refine sq_nil ?_
  refine sx_then ?_
  refine sc_seq ?_
  refine sc_region ?_
  refine qs (y_move RF) ?_
  refine qs (y_move RF) ?_
  refine qs (y_neq RF RF) ?_
  refine qs (y_assign RF) ?_
  refine sq_nil ?_
  refine sx_then ?_
  refine sc_ret ?_
  refine sx_ret1 (.inl rfl) rfl Try.results96 RF ?_
  intro w' hw'
  refine ⟨?_, hw'.below MM⟩
  simp
theorem compare89 (w : World) (x y : Int) : Calls Try.prog 89 #[.int .i64 x, .int .i64 y] w fun e w' => e = .returned (.int .i64 (cmpV x y)) ∧ Below w.heap.size w w' := by
  refine calls_of_SC (args := [.int .i64 x, .int .i64 y]) Try.func89 rfl Try.ntmps89 rfl ?_
  simp only [argL, Nat.zero_add]
  refine sc_seq ?_
  refine sc_region ?_
  refine qs (y_assign RF) ?_
  refine sq_nil ?_
  refine sx_then ?_
  refine sc_seq ?_
  refine sc_region ?_
  refine qs (y_move RF) ?_
  refine qy (yc Try.call96 E1 (fun w1 _ => isNaN96 w1 x)) ?_
  refine qs (y_assign RF) ?_
  refine sq_nil ?_
  refine sx_then ?_
  refine sc_seq ?_
  refine sc_region ?_
  refine qs (y_move RF) ?_
  refine qy (yc Try.call96 E1 (fun w1 _ => isNaN96 w1 y)) ?_
  refine qs (y_assign RF) ?_
  refine sq_nil ?_
  refine sx_then ?_
  refine sc_seq ?_
  refine sc_seq ?_
  refine sc_region ?_
  refine qs (y_move RF) ?_
  refine sq_nil ?_
  refine sx_then ?_
  refine sc_f (lk_bool rfl (rfl)) ?_
  refine sc_skip ?_
  refine sx_then ?_
  refine sc_seq ?_
  refine sc_seq ?_
  refine sc_region ?_
  refine qs (y_move RF) ?_
  refine sq_nil ?_
  refine sx_then ?_
  refine sc_f (lk_bool rfl (rfl)) ?_
  refine sc_skip ?_
  refine sx_then ?_
  refine sc_seq ?_
  refine sc_seq ?_
  refine sc_region ?_
  refine qs (y_move RF) ?_
  refine qs (y_move RF) ?_
  refine qs (y_lss RF RF) ?_
  refine sq_nil ?_
  refine sx_then ?_
  refine scp (fun hc3 => ?_) (fun hc3 => ?_)
  ·
    refine sc_seq ?_
    refine sc_region ?_
    refine qs (y_assign RF) ?_
    refine sq_nil ?_
    refine sx_then ?_
    refine sc_ret ?_
    refine sx_then_ret ?_
    refine sx_ret1 (.inl rfl) rfl Try.results89 RF ?_
    intro w' hw'
    refine ⟨?_, hw'.below MM⟩
    unfold cmpV; rw [if_pos hc3]
  ·
    refine sc_skip ?_
    refine sx_then ?_
    refine sc_seq ?_
    refine sc_seq ?_
    refine sc_region ?_
    refine qs (y_move RF) ?_
    refine qs (y_move RF) ?_
    refine qs (y_gtr RF RF) ?_
    refine sq_nil ?_
    refine sx_then ?_
    refine scp (fun hc4 => ?_) (fun hc4 => ?_)
    ·
      refine sc_seq ?_
      refine sc_region ?_
      refine qs (y_assign RF) ?_
      refine sq_nil ?_
      refine sx_then ?_
      refine sc_ret ?_
      refine sx_then_ret ?_
      refine sx_ret1 (.inl rfl) rfl Try.results89 RF ?_
      intro w' hw'
      refine ⟨?_, hw'.below MM⟩
      unfold cmpV; rw [if_neg (by omega), if_pos (by omega)]
    ·
      refine sc_skip ?_
      refine sx_then ?_
      refine sc_seq ?_
      refine sc_region ?_
      refine qs (y_assign RF) ?_
      refine sq_nil ?_
      refine sx_then ?_
      refine sc_ret ?_
      refine sx_ret1 (.inl rfl) rfl Try.results89 RF ?_
      intro w' hw'
      refine ⟨?_, hw'.below MM⟩
      unfold cmpV; rw [if_neg (by omega), if_neg (by omega)]
theorem best88 (w : World) (x y : Ch) : Calls Try.prog 88 #[.agg (chRow x).toArray, .agg (chRow y).toArray] w fun e w' => e = .returned (.int .i64 (cmpV x.cost y.cost)) ∧ Below w.heap.size w w' := by
  refine calls_of_SC (args := [.agg (chRow x).toArray, .agg (chRow y).toArray]) Try.func88 rfl Try.ntmps88 rfl ?_
  simp only [argL, Nat.zero_add]
  refine sc_seq ?_
  refine sc_region ?_
  refine sq_box RF rfl (fun b2 => ?_)
  refine sq_box RF rfl (fun b3 => ?_)
  refine qs (y_assign RF) ?_
  refine sq_nil ?_
  refine sx_then ?_
  refine sc_seq ?_
  refine sc_region ?_
  refine qs FA99_3 ?_
  refine qs LD3 ?_
  refine qs FA99_3 ?_
  refine qs LD3 ?_
  refine qy (yc Try.call89 E2 (fun w1 _ => compare89 w1 x.cost y.cost)) ?_
  refine qs (y_assign RF) ?_
  refine sq_nil ?_
  refine sx_then ?_
  refine sc_ret ?_
  refine sx_ret1 (.inl rfl) rfl Try.results88 RF ?_
  intro w' hw'
  exact ⟨rfl, hw'.below MM⟩
theorem minFunc87 (w : World) (a : Option Addr) (c : Nat) (l : List Ch) (hl : RowsA chRow 2 0 w a l) (h0 : 0 < l.length) : Calls Try.prog 87 #[.slice a l.length c, .func (.func 88) #[] #[]] w fun e w' => e = .returned (.agg (chRow (bestC l)).toArray) ∧ Below w.heap.size w w' := by
  have hlen := hl.len
  have hsm0 := (hl.get ch0 h0).1
  have hca0 := (hl.get ch0 h0).2
  refine calls_of_SC (args := [.slice a l.length c, .func (.func 88) #[] #[]]) Try.func87 rfl Try.ntmps87 rfl ?_
  simp only [argL, Nat.zero_add]
  refine sc_seq ?_
  refine sc_region ?_
  refine sq_alloc Try.zeroValue99 rfl (fun b4 => ?_)
  refine sq_nil ?_
  refine sx_then ?_
  refine sc_seq ?_
  refine sc_seq ?_
  refine sc_region ?_
  refine qs (y_move RF) ?_
  refine qs (y_len Try.underlying97 RF) ?_
  refine qs (y_lss RF RF) ?_
  refine sq_nil ?_
  refine sx_then ?_
  refine scp (fun hc0 => ?_) (fun hc0 => ?_)
  ·
    omega
  ·
    refine sc_skip ?_
    refine sx_then ?_
    refine sc_seq ?_
    refine sc_region ?_
    refine qs (y_move RF) ?_
    refine qs (by first | exact y_ia_blk Try.underlying97 Try.sizeOf99 RF (show _ = some (Value.int .i64 ((0 : Nat) : Int)) from rfl) (by omega) | exact y_ia_el Try.underlying97 Try.sizeOf99 RF (show _ = some (Value.int .i64 ((0 : Nat) : Int)) from rfl) (by omega) (by first | assumption | simp)) ?_
    refine qs (by first | exact y_load_ca Try.underlying99 rfl Try.sizeOf99 RF MM hca0 rfl | exact LD99) ?_
    refine sq_alloc Try.zeroValue99 rfl (fun b5 => ?_)
    refine sq_store_all Try.sizeOf99 RF RF rfl RM rfl rfl ?_
    refine sq_nil ?_
    refine sx_then ?_
    refine sc_seq ?_
    refine sc_seq ?_
    refine sc_region ?_
    refine qs (y_assign RF) ?_
    refine sq_nil ?_
    refine sx_then ?_
    refine sc_block ?_
    refine sc_loop (σ := Nat × Ch)
      (fun s => [(0, .slice a l.length c), (1, .func (.func 88) #[] #[]), (4, .pointer (some ⟨b4, 0, none⟩)), (5, .pointer (some ⟨b5, 0, none⟩)), (6, .int .i64 ((s.1 + 1 : Nat) : Int))])
      (fun s => [.blk b5 (.cells (chRow s.2).toArray 99 (0, 0)), .blk b4 (.cells (chRow ch0).toArray 99 (0, 0)), .reg 0 w])
      (fun s => s.1 + 1 ≤ l.length ∧ s.2 = bestK l s.1)
      (fun s => l.length - s.1)
      ((0, l.getD 0 ch0)) ?_ SU SR ?_
    · exact ⟨h0, rfl⟩
    rintro ⟨j, x⟩ ⟨hj, hx⟩
    obtain ⟨k, hk⟩ : ∃ k, k = j + 1 := ⟨_, rfl⟩
    dsimp only at hj hx ⊢
    rw [← hk] at hj ⊢
    refine sc_seq ?_
    refine sc_seq ?_
    refine sc_region ?_
    refine qs (y_move RF) ?_
    refine qs (y_move RF) ?_
    refine qs (y_len Try.underlying97 RF) ?_
    refine qs (y_lss RF RF) ?_
    refine sq_nil ?_
    refine sx_then ?_
    refine scp (fun hc1 => ?_) (fun hc1 => ?_)
    ·
      have hk' : k < l.length := by omega
      have hsm := (hl.get ch0 hk').1
      have hca := (hl.get ch0 hk').2
      refine sc_skip ?_
      refine sx_then ?_
      refine sc_seq ?_
      refine sc_block ?_
      refine sc_seq ?_
      refine sc_draw rfl (by kernel_rfl) (by kernel_rfl) ?_
      refine qq_y (OpY.s (y_move RF)) rfl ?_
      refine qq_y (OpY.s (y_move RF)) rfl ?_
      refine qq_y (OpY.s (y_move RF)) rfl ?_
      refine qq_y (OpY.s IA97) rfl ?_
      refine qq_y (OpY.s (by first | exact y_load_ca Try.underlying99 rfl Try.sizeOf99 RF MM hca rfl | exact LD99)) rfl ?_
      refine qq_y (OpY.s LD99) rfl ?_
      refine qq_y (y_call (first := []) (caps := []) RF Try.call88 (EvL.cons RF (EvL.cons RF EvL.nil)) (fun w1 _ => best88 w1 _ _)) rfl ?_
      refine qq_y (OpY.s (y_lss RF RF)) rfl ?_
      refine qq_nil ?_
      refine sx_then ?_
      refine scp (fun hc2 => ?_) (fun hc2 => ?_)
      ·
        refine sc_region ?_
        refine qs (y_move RF) ?_
        refine qs (y_move RF) ?_
        refine qs IA97 ?_
        refine qs (by first | exact y_load_ca Try.underlying99 rfl Try.sizeOf99 RF MM hca rfl | exact LD99) ?_
        refine sq_store_all Try.sizeOf99 RF RF rfl RM rfl rfl ?_
        rw [hk]
        refine sq_nil ?_
        refine sx_blk ?_
        refine sx_then ?_
        refine sc_region ?_
        refine qs (y_move RF) ?_
        refine qs (y_add RF RF (by omega)) ?_
        refine qs (y_assign RF) ?_
        refine sq_nil ?_
        refine sx_round ((j + 1, l.getD (j + 1) ch0)) ?_ ?_ (by repeat (first | exact SubL.nil | refine SubL.cons (by first | exact rfl | exact lk_int rfl (by omega) | (subst hk; exact rfl)) ?_)) SR
        · refine ⟨by omega, ?_⟩
          dsimp only
          subst hk
          rw [cmp_neg, hx] at hc2
          unfold bestK; rw [if_pos hc2]
        · omega
      ·
        refine sc_skip ?_
        refine sx_blk ?_
        refine sx_then ?_
        refine sc_region ?_
        refine qs (y_move RF) ?_
        refine qs (y_add RF RF (by omega)) ?_
        refine qs (y_assign RF) ?_
        refine sq_nil ?_
        refine sx_round ((j + 1, x)) ?_ ?_ (by repeat (first | exact SubL.nil | refine SubL.cons (by first | exact rfl | exact lk_int rfl (by omega) | (subst hk; exact rfl)) ?_)) SR
        · refine ⟨by omega, ?_⟩
          dsimp only
          subst hk
          rw [cmp_neg, hx] at hc2
          unfold bestK; rw [if_neg hc2]; exact hx
        · omega
    ·
      refine sc_exit ?_
      refine sx_then_exit ?_
      refine sx_round_exit ?_
      refine sx_blk_hit ?_
      refine sx_then ?_
      refine sc_seq ?_
      refine sc_region ?_
      refine qs LD99 ?_
      refine sq_store_all Try.sizeOf99 RF RF rfl RM rfl rfl ?_
      refine sq_nil ?_
      refine sx_then ?_
      refine sc_ret ?_
      refine sx_retc (.inl rfl) rfl Try.results87 Try.underlying99 rfl Try.sizeOf99 RF MM rfl ?_
      intro w' hw'
      refine ⟨?_, hw'.below MM⟩
      have hjk : l.length = j + 1 := by omega
      unfold bestC; rw [hjk, Nat.add_sub_cancel, hx]
theorem best58 (w : World) (a : Option Addr) (c : Nat) (l : List Ch) (hl : RowsA chRow 2 0 w a l) : Calls Try.prog 58 #[.slice a l.length c] w fun e w' => e = .returned (.tuple #[.agg (chRow (if l.length = 0 then ch0 else bestC l)).toArray, .bool (decide (0 < l.length))]) ∧ Below w.heap.size w w' := by
  refine calls_of_SC (args := [.slice a l.length c]) Try.func58 rfl Try.ntmps58 rfl ?_
  simp only [argL]
  refine sc_seq ?_
  refine sc_region ?_
  refine sq_alloc Try.zeroValue99 rfl (fun b2 => ?_)
  refine qs (y_assign RF) ?_
  refine sq_nil ?_
  refine sx_then ?_
  refine sc_seq ?_
  refine sc_seq ?_
  refine sc_region ?_
  refine qs (y_move RF) ?_
  refine qs (y_len Try.underlying97 RF) ?_
  refine qs (y_eql RF RF) ?_
  refine sq_nil ?_
  refine sx_then ?_
  refine scp (fun hc0 => ?_) (fun hc0 => ?_)
  ·
    refine sc_seq ?_
    refine sc_region ?_
    refine qs (y_build bt99 EvP.nil RF) ?_
    refine sq_store_all Try.sizeOf99 RF RF rfl RM rfl rfl ?_
    refine qs (y_assign RF) ?_
    refine sq_nil ?_
    refine sx_then ?_
    refine sc_ret ?_
    refine sx_then_ret ?_
    refine sx_retct (.inl rfl) rfl Try.results58 Try.underlying99 rfl Try.sizeOf99 RF MM rfl RF ?_
    intro w' hw'
    refine ⟨?_, hw'.below MM⟩
    rw [if_pos (by omega), decide_eq_false (by omega)]; rfl
  ·
    refine sc_skip ?_
    refine sx_then ?_
    refine sc_seq ?_
    refine sc_region ?_
    refine qs (y_move RF) ?_
    refine qy (yc Try.call87 E2 (fun w1 hw1 => minFunc87 w1 a c l (hl.at hw1 MM) (by omega))) ?_
    refine sq_store_all Try.sizeOf99 RF RF rfl RM rfl rfl ?_
    refine qs (y_assign RF) ?_
    refine sq_nil ?_
    refine sx_then ?_
    refine sc_ret ?_
    refine sx_retct (.inl rfl) rfl Try.results58 Try.underlying99 rfl Try.sizeOf99 RF MM rfl RF ?_
    intro w' hw'
    refine ⟨?_, hw'.below MM⟩
    rw [if_neg (by omega), decide_eq_true (by omega)]
end Go.Proofs.Ytofjipmheckmjaa
