/- The walks of what tests read. -/
import Derived.Test.YtfceajkofpafpaaSW1
namespace Go.Proofs.Ytfceajkofpafpaa.Sc
open Go Go.Eng Go.RowKit Go.Proofs
set_option maxRecDepth 100000
theorem bxB_parts {b : Bx} (h : bxB b = true) : (1 ≤ b.kinds.length ∧ b.kinds.length ≤ 4) ∧ (0 ≤ b.lost ∧ b.lost ≤ 4) ∧ (0 ≤ b.extra ∧ b.extra ≤ 3) ∧ (0 ≤ b.bag.lo ∧ b.bag.lo ≤ b.bag.hi ∧ b.bag.hi ≤ 100000) ∧ ∀ k, k ∈ b.kinds → (0 ≤ k.many ∧ k.many ≤ 2000) ∧ 0 ≤ k.wt.lo ∧ k.wt.lo ≤ k.wt.hi ∧ k.wt.hi ≤ 100000 := by
  simp only [bxB, inB, spB, kdB, Bool.and_eq_true, decide_eq_true_eq, List.all_eq_true] at h
  exact ⟨by omega, h.1.1.1.2, h.1.1.2, h.1.2, h.2⟩
theorem teB_parts {b : Bx} {t : Te} (h : teB b t = true) : (t.how = 0 ∨ (t.how = 1 ∧ 0 ≤ t.set ∧ t.set ≤ (pw2 b.kinds.length : Nat) - 1)) ∧ (-1000000 ≤ t.err.lo ∧ t.err.lo ≤ t.err.hi ∧ t.err.hi ≤ 1000000) ∧ t.pass.lo ≤ t.pass.hi ∧ 0 ≤ t.cost ∧ t.cost ≤ 10000 := by
  simp only [teB, inB, spB, Bool.and_eq_true, Bool.or_eq_true, decide_eq_true_eq] at h
  exact ⟨h.1.1.1, h.1.1.2, h.1.2, h.2⟩
/-- a list that a box can have, or nearly -/
structure HasOk (b : Bx) (has : List Int) : Prop where
  len : has.length = b.kinds.length
  bd : ∀ i, i < has.length → 0 ≤ (b.kinds.getD i kd0).many + has.getD i 0 ∧ (b.kinds.getD i kd0).many + has.getD i 0 ≤ 2003
theorem kd_bd {b : Bx} (h : bxB b = true) {i : Nat} (hi : i < b.kinds.length) : (0 ≤ (b.kinds.getD i kd0).many ∧ (b.kinds.getD i kd0).many ≤ 2000) ∧ 0 ≤ (b.kinds.getD i kd0).wt.lo ∧ (b.kinds.getD i kd0).wt.lo ≤ (b.kinds.getD i kd0).wt.hi ∧ (b.kinds.getD i kd0).wt.hi ≤ 100000 :=
  (bxB_parts h).2.2.2.2 _ (List.mem_of_getElem? (get_of_lt kd0 hi))
theorem of_bd {b : Bx} (h : bxB b = true) {t : Te} {i : Nat} (hi : i < b.kinds.length) {m : Int} (hm : 0 ≤ m ∧ m ≤ 2003) : (0 ≤ (ofV b t i m).lo ∧ (ofV b t i m).lo ≤ 200300000) ∧ 0 ≤ (ofV b t i m).hi ∧ (ofV b t i m).hi ≤ 200300000 := by
  have hk := kd_bd h hi
  have m1 := mul_bd (b := (b.kinds.getD i kd0).wt.lo) hm (show 0 ≤ (b.kinds.getD i kd0).wt.lo ∧ (b.kinds.getD i kd0).wt.lo ≤ 100000 by omega)
  have m2 := mul_bd (b := (b.kinds.getD i kd0).wt.hi) hm (show 0 ≤ (b.kinds.getD i kd0).wt.hi ∧ (b.kinds.getD i kd0).wt.hi ≤ 100000 by omega)
  unfold ofV
  split
  · dsimp only; omega
  · split
    · dsimp only; omega
    · simp [sp0]
theorem bes_bd {b : Bx} (h : bxB b = true) {t : Te} (ht : teB b t = true) : (-1000000 ≤ (besV b t).lo ∧ (besV b t).lo ≤ 1100000) ∧ -1000000 ≤ (besV b t).hi ∧ (besV b t).hi ≤ 1100000 := by
  have h1 := bxB_parts h
  have h2 := (teB_parts ht).2.1
  unfold besV
  split
  · dsimp only; omega
  · omega
theorem readK_bd {b : Bx} (h : bxB b = true) {t : Te} (ht : teB b t = true) {has : List Int} (hh : HasOk b has) : ∀ k, k ≤ has.length → (-1000000 ≤ (readK b t has k).lo ∧ (readK b t has k).lo ≤ 1100000 + k * 200300000) ∧ -1000000 ≤ (readK b t has k).hi ∧ (readK b t has k).hi ≤ 1100000 + k * 200300000
  | 0, _ => by have := bes_bd h ht; unfold readK; omega
  | k + 1, hk => by
    have h1 := readK_bd h ht hh k (by omega)
    have h2 := of_bd (t := t) h (show k < b.kinds.length by rw [← hh.len]; omega) (hh.bd k (by omega))
    unfold readK plusV
    dsimp only; omega

theorem plus75 (w : World) (s o : Sp) (h1 : -9223372036854775808 ≤ s.lo + o.lo ∧ s.lo + o.lo ≤ 9223372036854775807) (h2 : -9223372036854775808 ≤ s.hi + o.hi ∧ s.hi + o.hi ≤ 9223372036854775807) : Calls Try.prog 70 #[.agg (spRow s).toArray, .agg (spRow o).toArray] w fun e w' => e = .returned (.agg (spRow (plusV s o)).toArray) ∧ Below w.heap.size w w' := by
  refine calls_of_SC (args := [.agg (spRow s).toArray, .agg (spRow o).toArray]) Try.func70 rfl Try.ntmps70 rfl ?_
  simp only [argL, Nat.zero_add]
  refine sc_seq ?_
  refine sc_region ?_
  refine sq_box RF rfl (fun b2 => ?_)
  refine sq_box RF rfl (fun b3 => ?_)
  refine sq_alloc Try.zeroValue113 rfl (fun b4 => ?_)
  refine sq_nil ?_
  refine sx_then ?_
  refine sc_seq ?_
  refine sc_region ?_
  refine qs FA81_3 ?_
  refine qs LD3 ?_
  refine qs FA81_3 ?_
  refine qs LD3 ?_
  refine qs (y_add RF RF (by omega)) ?_
  refine qs FA81_3 ?_
  refine qs LD3 ?_
  refine qs FA81_3 ?_
  refine qs LD3 ?_
  refine qs (y_add RF RF (by omega)) ?_
  refine qs (y_build bt81 (EvP.cons RF (EvP.cons RF EvP.nil)) RF) ?_
  refine sq_store_all Try.sizeOf113 RF RF rfl RM rfl rfl ?_
  refine sq_nil ?_
  refine sx_then ?_
  refine sc_ret ?_
  refine sx_retc (.inl rfl) rfl Try.results70 Try.underlying113 rfl Try.sizeOf113 RF MM rfl ?_
  intro w' hw'
  exact ⟨rfl, hw'.below MM⟩
theorem meets84 (w : World) (s o : Sp) : Calls Try.prog 101 #[.agg (spRow s).toArray, .agg (spRow o).toArray] w fun e w' => e = .returned (.bool (meetsV s o)) ∧ Below w.heap.size w w' := by
  refine calls_of_SC (args := [.agg (spRow s).toArray, .agg (spRow o).toArray]) Try.func101 rfl Try.ntmps101 rfl ?_
  simp only [argL, Nat.zero_add]
  refine sc_seq ?_
  refine sc_region ?_
  refine sq_box RF rfl (fun b2 => ?_)
  refine sq_box RF rfl (fun b3 => ?_)
  refine qs (y_assign RF) ?_
  refine sq_nil ?_
  refine sx_then ?_
  refine sc_seq ?_
  refine sc_region ?_
  refine qs FA81_3 ?_
  refine qs LD3 ?_
  refine qs FA81_3 ?_
  refine qs LD3 ?_
  refine qs (y_leq RF RF) ?_
  refine qs (y_move RF) ?_
  refine sp 10 (fun hg1_5 => ?_) (fun hg1_5 => ?_)
  ·
    refine qg FA81_3 ?_
    refine qg LD3 ?_
    refine qg FA81_3 ?_
    refine qg LD3 ?_
    refine qg (y_leq RF RF) ?_
    refine qs (y_pick_t RF RF) ?_
    refine qs (y_assign RF) ?_
    refine sq_nil ?_
    refine sx_then ?_
    refine sc_ret ?_
    refine sx_ret1 (.inl rfl) rfl Try.results101 RF ?_
    intro w' hw'
    refine ⟨?_, hw'.below MM⟩
    unfold meetsV; simp [*]
  ·
    refine qf ?_
    refine qf ?_
    refine qf ?_
    refine qf ?_
    refine qf ?_
    refine qs (y_pick_f RF RF) ?_
    refine qs (y_assign RF) ?_
    refine sq_nil ?_
    refine sx_then ?_
    refine sc_ret ?_
    refine sx_ret1 (.inl rfl) rfl Try.results101 RF ?_
    intro w' hw'
    refine ⟨?_, hw'.below MM⟩
    unfold meetsV; simp [*]
theorem besides112 (w : World) (b : Bx) (a : Option Addr) (c : Nat) (hok : bxB b = true) (t : Te) (ht : teB b t = true) (h0 : t.how = 0) : Calls Try.prog 155 #[.agg (bxRow b a c ++ teRow t).toArray] w fun e w' => e = .returned (.agg (spRow (besV b t)).toArray) ∧ Below w.heap.size w w' := by
  have h1 := bxB_parts hok
  have h2 := (teB_parts ht).2.1
  refine calls_of_SC (args := [.agg (bxRow b a c ++ teRow t).toArray]) Try.func155 rfl Try.ntmps155 rfl ?_
  simp only [argL]
  refine sc_seq ?_
  refine sc_region ?_
  refine sq_box RF rfl (fun b1 => ?_)
  refine sq_alloc Try.zeroValue113 rfl (fun b2 => ?_)
  refine sq_nil ?_
  refine sx_then ?_
  refine sc_seq ?_
  refine sc_region ?_
  refine qs FA134_29 ?_
  refine qs FA29_24 ?_
  refine qs LD24 ?_
  refine qs FA134_26 ?_
  refine qs FA26_24 ?_
  refine qs LD24 ?_
  refine qy (yc Try.call70 E2 (fun w1 _ => plus75 w1 t.err b.bag (by omega) (by omega))) ?_
  refine sq_store_all Try.sizeOf113 RF RF rfl RM rfl rfl ?_
  refine sq_nil ?_
  refine sx_then ?_
  refine sc_ret ?_
  refine sx_retc (.inl rfl) rfl Try.results155 Try.underlying113 rfl Try.sizeOf113 RF MM rfl ?_
  intro w' hw'
  refine ⟨?_, hw'.below MM⟩
  unfold besV; rw [if_pos h0]; rfl
theorem of113 (w : World) (b : Bx) (a : Option Addr) (c : Nat) (hB : RowsA kdRow 3 0 w a b.kinds) (hok : bxB b = true) (t : Te) (h0 : t.how = 0) (i : Nat) (hi : i < b.kinds.length) (m : Int) (hm : 0 ≤ m ∧ m ≤ 2003) : Calls Try.prog 156 #[.agg (bxRow b a c ++ teRow t).toArray, .int .i64 i, .int .i64 m] w fun e w' => e = .returned (.agg (spRow (ofV b t i m)).toArray) ∧ Below w.heap.size w w' := by
  have hk := kd_bd hok hi
  have m1 := mul_bd (b := (b.kinds.getD i kd0).wt.lo) hm (show 0 ≤ (b.kinds.getD i kd0).wt.lo ∧ (b.kinds.getD i kd0).wt.lo ≤ 100000 by omega)
  have m2 := mul_bd (b := (b.kinds.getD i kd0).wt.hi) hm (show 0 ≤ (b.kinds.getD i kd0).wt.hi ∧ (b.kinds.getD i kd0).wt.hi ≤ 100000 by omega)
  have hsm := (hB.get kd0 hi).1
  have hca := (hB.get kd0 hi).2
  refine calls_of_SC (args := [.agg (bxRow b a c ++ teRow t).toArray, .int .i64 i, .int .i64 m]) Try.func156 rfl Try.ntmps156 rfl ?_
  simp only [argL, Nat.reduceAdd, Nat.zero_add]
  refine sc_seq ?_
  refine sc_region ?_
  refine sq_box RF rfl (fun b3 => ?_)
  refine sq_alloc Try.zeroValue113 rfl (fun b6 => ?_)
  refine sq_nil ?_
  refine sx_then ?_
  refine sc_seq ?_
  refine sc_region ?_
  refine qs FA134_26 ?_
  refine qs FA26_22 ?_
  refine qs LD22 ?_
  refine qs (y_move RF) ?_
  refine qs IA22 ?_
  refine qs FA74_24 ?_
  refine qs LD24 ?_
  refine sq_alloc Try.zeroValue38 rfl (fun b7 => ?_)
  refine sq_store_all Try.sizeOf38 RF RF rfl RM rfl rfl ?_
  refine sq_nil ?_
  refine sx_then ?_
  refine sc_seq ?_
  refine sc_region ?_
  refine qs (y_move RF) ?_
  refine qs FA24_3 ?_
  refine qs LD3 ?_
  refine qs (y_mul RF RF (by omega)) ?_
  refine qs (y_move RF) ?_
  refine qs FA24_3 ?_
  refine qs LD3 ?_
  refine qs (y_mul RF RF (by omega)) ?_
  refine qs (y_build bt81 (EvP.cons RF (EvP.cons RF EvP.nil)) RF) ?_
  refine sq_store_all Try.sizeOf113 RF RF rfl RM rfl rfl ?_
  refine sq_nil ?_
  refine sx_then ?_
  refine sc_ret ?_
  refine sx_retc (.inl rfl) rfl Try.results156 Try.underlying113 rfl Try.sizeOf113 RF MM rfl ?_
  intro w' hw'
  refine ⟨?_, hw'.below MM⟩
  unfold ofV; rw [if_pos h0]; rfl
theorem besides114 (w : World) (b : Bx) (t : Te) (h0 : ¬ t.how = 0) : Calls Try.prog 157 #[.agg (teRow t).toArray] w fun e w' => e = .returned (.agg (spRow (besV b t)).toArray) ∧ Below w.heap.size w w' := by
  refine calls_of_SC (args := [.agg (teRow t).toArray]) Try.func157 rfl Try.ntmps157 rfl ?_
  simp only [argL]
  refine sc_seq ?_
  refine sc_region ?_
  refine sq_box RF rfl (fun b1 => ?_)
  refine sq_alloc Try.zeroValue113 rfl (fun b2 => ?_)
  refine sq_nil ?_
  refine sx_then ?_
  refine sc_seq ?_
  refine sc_region ?_
  refine qs FA136_29 ?_
  refine qs FA29_24 ?_
  refine qs LD24 ?_
  refine sq_store_all Try.sizeOf113 RF RF rfl RM rfl rfl ?_
  refine sq_nil ?_
  refine sx_then ?_
  refine sc_ret ?_
  refine sx_retc (.inl rfl) rfl Try.results157 Try.underlying113 rfl Try.sizeOf113 RF MM rfl ?_
  intro w' hw'
  refine ⟨?_, hw'.below MM⟩
  unfold besV; rw [if_neg h0]; rfl
theorem inS_bit (x n : Nat) : inS x n = x.testBit n := by
  unfold inS
  rw [show ((x : Int) / (pw2 n : Nat) % 2) = ((x / 2 ^ n % 2 : Nat) : Int) from rfl, Nat.testBit_eq_decide_div_mod_eq]
  congr 1
  rw [eq_iff_iff]; omega
theorem bit_zero (x t : Nat) : decide (((((x : Int) / 2 ^ ((t : Nat) : Int).toNat).toNat &&& ((1 : Int)).toNat : Nat) : Int) = 0) = !inS x t := by
  have h1 : ((x : Int) / 2 ^ ((t : Nat) : Int).toNat).toNat = x / 2 ^ t := by
    rw [Int.toNat_natCast, show ((2 : Int) ^ t) = ((2 ^ t : Nat) : Int) by simp, ← Int.natCast_ediv, Int.toNat_natCast]
  rw [h1, show ((1 : Int)).toNat = 1 from rfl, Nat.and_one_is_mod, inS_bit, Nat.testBit_eq_decide_div_mod_eq]
  rcases Nat.mod_two_eq_zero_or_one (x / 2 ^ t) with h | h <;> rw [h] <;> rfl
theorem bit_one (x t : Nat) : decide (((((x : Int) / 2 ^ ((t : Nat) : Int).toNat).toNat &&& ((1 : Int)).toNat : Nat) : Int) = 1) = inS x t := by
  have h1 : ((x : Int) / 2 ^ ((t : Nat) : Int).toNat).toNat = x / 2 ^ t := by
    rw [Int.toNat_natCast, show ((2 : Int) ^ t) = ((2 ^ t : Nat) : Int) by simp, ← Int.natCast_ediv, Int.toNat_natCast]
  rw [h1, show ((1 : Int)).toNat = 1 from rfl, Nat.and_one_is_mod, inS_bit, Nat.testBit_eq_decide_div_mod_eq]
  rcases Nat.mod_two_eq_zero_or_one (x / 2 ^ t) with h | h <;> rw [h] <;> rfl
theorem shr_bd {x : Nat} (h : (x : Int) ≤ 1048576) (t : Nat) : 0 ≤ (x : Int) / 2 ^ ((t : Nat) : Int).toNat ∧ (x : Int) / 2 ^ ((t : Nat) : Int).toNat ≤ 9223372036854775807 := by
  rw [Int.toNat_natCast, show ((2 : Int) ^ t) = ((2 ^ t : Nat) : Int) by simp]
  have h1 : 0 ≤ (x : Int) / ((2 ^ t : Nat) : Int) := Int.ediv_nonneg (by omega) (Int.natCast_nonneg _)
  have h2 : (x : Int) / ((2 ^ t : Nat) : Int) ≤ x := Int.ediv_le_self _ (by omega)
  omega
theorem of115 (w : World) (b : Bx) (t : Te) (h0 : ¬ t.how = 0) (st : Nat) (hst : t.set = st) (hs : st ≤ 1048576) (i : Nat) (hi : i ≤ 20) (m : Int) : Calls Try.prog 158 #[.agg (teRow t).toArray, .int .i64 i, .int .i64 m] w fun e w' => e = .returned (.agg (spRow (ofV b t i m)).toArray) ∧ Below w.heap.size w w' := by
  have hsb : ((st : Nat) : Int) ≤ 1048576 := by omega
  refine calls_of_SC (args := [.agg (teRow t).toArray, .int .i64 i, .int .i64 m]) Try.func158 rfl Try.ntmps158 rfl ?_
  simp only [argL, Nat.reduceAdd, Nat.zero_add]
  refine sc_seq ?_
  refine sc_region ?_
  refine sq_box RF rfl (fun b3 => ?_)
  refine sq_alloc Try.zeroValue113 rfl (fun b6 => ?_)
  refine sq_nil ?_
  refine sx_then ?_
  refine sc_seq ?_
  refine sc_seq ?_
  refine sc_region ?_
  refine qs FA136_29 ?_
  refine qs FA29_3 ?_
  refine qs (by first | exact y_load_blk (v := .int .i64 st) Try.underlying3 rfl RF MM (by rw [← hst]; rfl) | exact LD3) ?_
  refine qs (y_move RF) ?_
  refine qs (y_shr RF RF (by simp [IntKind.bits]; omega)) ?_
  refine qs (y_and RF RF (shr_bd hsb i) (by omega)) ?_
  refine qs (y_eql RF RF) ?_
  rw [bit_zero]
  refine sq_nil ?_
  refine sx_then ?_
  refine scp (fun hc0 => ?_) (fun hc0 => ?_)
  ·
    refine sc_seq ?_
    refine sc_region ?_
    refine qs (y_build bt81 EvP.nil RF) ?_
    refine sq_store_all Try.sizeOf113 RF RF rfl RM rfl rfl ?_
    refine sq_nil ?_
    refine sx_then ?_
    refine sc_ret ?_
    refine sx_then_ret ?_
    refine sx_retc (.inl rfl) rfl Try.results158 Try.underlying113 rfl Try.sizeOf113 RF MM rfl ?_
    intro w' hw'
    refine ⟨?_, hw'.below MM⟩
    have hx : inS t.set i = false := by rw [hst]; simpa [inS] using hc0
    unfold ofV; rw [if_neg h0, if_neg (by simp [hx])]; rfl
  ·
    refine sc_skip ?_
    refine sx_then ?_
    refine sc_seq ?_
    refine sc_region ?_
    refine qs (y_move RF) ?_
    refine qs (y_move RF) ?_
    refine qs (y_build bt81 (EvP.cons RF (EvP.cons RF EvP.nil)) RF) ?_
    refine sq_store_all Try.sizeOf113 RF RF rfl RM rfl rfl ?_
    refine sq_nil ?_
    refine sx_then ?_
    refine sc_ret ?_
    refine sx_retc (.inl rfl) rfl Try.results158 Try.underlying113 rfl Try.sizeOf113 RF MM rfl ?_
    intro w' hw'
    refine ⟨?_, hw'.below MM⟩
    have hx : inS t.set i = true := by rw [hst]; simpa [inS] using hc0
    unfold ofV; rw [if_neg h0, if_pos hx]; rfl
def testerV (b : Bx) (a : Option Addr) (c : Nat) (t : Te) : Value := if t.how = 0 then .iface 201 (.agg (bxRow b a c ++ teRow t).toArray) else .iface 203 (.agg (teRow t).toArray)
theorem newTester72 (w : World) (b : Bx) (a : Option Addr) (c : Nat) (t : Te) : Calls Try.prog 67 #[.agg (bxRow b a c).toArray, .agg (teRow t).toArray] w fun e w' => e = .returned (testerV b a c t) ∧ Below w.heap.size w w' := by
  refine calls_of_SC (args := [.agg (bxRow b a c).toArray, .agg (teRow t).toArray]) Try.func67 rfl Try.ntmps67 rfl ?_
  simp only [argL, Nat.zero_add]
  refine sc_seq ?_
  refine sc_region ?_
  refine sq_box RF rfl (fun b2 => ?_)
  refine sq_box RF rfl (fun b3 => ?_)
  refine qs (y_assign RF) ?_
  refine sq_nil ?_
  refine sx_then ?_
  refine sc_seq ?_
  refine sc_seq ?_
  refine sc_region ?_
  refine qs FA29_3 ?_
  refine qs LD3 ?_
  refine qs (y_eql RF RF) ?_
  refine sq_nil ?_
  refine sx_then ?_
  refine scp (fun hc0 => ?_) (fun hc0 => ?_)
  ·
    refine sc_seq ?_
    refine sc_region ?_
    refine qs LD26 ?_
    refine qs LD29 ?_
    refine qs (y_build (cells := (bxRow b a c ++ teRow t).toArray) bt134 (EvP.cons RF (EvP.cons RF EvP.nil)) (by kernel_rfl)) ?_
    refine qs (y_makeIface Try.underlying201 (fun _ h => by cases h) RF) ?_
    refine qs (y_assign RF) ?_
    refine sq_nil ?_
    refine sx_then ?_
    refine sc_ret ?_
    refine sx_then_ret ?_
    refine sx_ret1 (.inl rfl) rfl Try.results67 RF ?_
    intro w' hw'
    refine ⟨?_, hw'.below MM⟩
    unfold testerV; rw [if_pos hc0]
  ·
    refine sc_skip ?_
    refine sx_then ?_
    refine sc_seq ?_
    refine sc_region ?_
    refine qs LD29 ?_
    refine qs (y_build (cells := (teRow t).toArray) bt136 (EvP.cons RF EvP.nil) (by kernel_rfl)) ?_
    refine qs (y_makeIface Try.underlying203 (fun _ h => by cases h) RF) ?_
    refine qs (y_assign RF) ?_
    refine sq_nil ?_
    refine sx_then ?_
    refine sc_ret ?_
    refine sx_ret1 (.inl rfl) rfl Try.results67 RF ?_
    intro w' hw'
    refine ⟨?_, hw'.below MM⟩
    unfold testerV; rw [if_neg hc0]
end Go.Proofs.Ytfceajkofpafpaa.Sc
