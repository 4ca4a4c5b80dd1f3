/- The walks of Late. -/
import Derived.Test.YtjlbpmcacopbpaaWalk9
namespace Go.Proofs.Ytjlbpmcacopbpaa
open Go Go.Eng Go.RowKit Go.Proofs
set_option maxRecDepth 100000
/-- a set of numbers, as bits -/
def lateN (f : Nat → Bool) : Nat → Nat
  | 0 => 0
  | k + 1 => lateN f k + (if f k = true then 2 ^ k else 0)
theorem lateN_lt (f : Nat → Bool) : ∀ k, lateN f k < 2 ^ k
  | 0 => by unfold lateN; simp
  | k + 1 => by unfold lateN; have := lateN_lt f k; rw [Nat.pow_succ]; split <;> omega
theorem lateN_or {f : Nat → Bool} {k : Nat} (h : f k = true) : lateN f k ||| 2 ^ k = lateN f (k + 1) := by
  have h1 := Nat.two_pow_add_eq_or_of_lt (lateN_lt f k) 1
  rw [Nat.mul_one] at h1
  conv => { rhs; unfold lateN }
  rw [if_pos h, Nat.or_comm, ← h1, Nat.add_comm]
theorem or_step {f : Nat → Bool} {k : Nat} (h : f k = true) : (((((lateN f k : Nat) : Int).toNat ||| (1 * 2 ^ ((k : Nat) : Int).toNat : Int).toNat : Nat)) : Int) = ((lateN f (k + 1) : Nat) : Int) := by
  rw [Int.toNat_natCast, Int.toNat_natCast, Int.one_mul, show (2 ^ k : Int).toNat = 2 ^ k from by rw [show (2 ^ k : Int) = ((2 ^ k : Nat) : Int) from by simp, Int.toNat_natCast], lateN_or h]
theorem add_step {f : Nat → Bool} {k : Nat} (h : f k = true) : ((lateN f k : Nat) : Int) + powN k = ((lateN f (k + 1) : Nat) : Int) := by
  conv => { rhs; unfold lateN }
  rw [if_pos h]; unfold powN; rw [Int.natCast_add]
theorem no_step {f : Nat → Bool} {k : Nat} (h : f k = false) : lateN f k = lateN f (k + 1) := by
  conv => { rhs; unfold lateN }
  rw [if_neg (by simp [h])]; rfl
theorem lateN_bit (f : Nat → Bool) : ∀ (k i : Nat), (lateN f k).testBit i = (decide (i < k) && f i)
  | 0, i => by unfold lateN; simp
  | k + 1, i => by
    have ih := lateN_bit f k i
    cases h : f k
    · rw [← no_step h, ih]
      by_cases hi : i = k
      · subst hi; rw [h]; simp
      · have : decide (i < k + 1) = decide (i < k) := by rw [decide_eq_decide]; omega
        rw [this]
    · rw [← lateN_or h, Nat.testBit_or, ih, Nat.testBit_two_pow]
      by_cases hi : i = k
      · subst hi; rw [h]; simp
      · have : decide (i < k + 1) = decide (i < k) := by rw [decide_eq_decide]; omega
        rw [this, decide_eq_false (by omega : ¬ k = i), Bool.or_false]
def sureF (l : List Jb) (o : List Int) (k : Nat) : Bool := decide ((l.getD k jb0).due < (spanK l o k).lo)
def canF (l : List Jb) (o : List Int) (k : Nat) : Bool := decide ((l.getD k jb0).due < (spanK l o k).hi)
def lateR (l : List Jb) (o : List Int) : Int × Int × Int := if chkV l o ≠ 0 then (0, 0, chkV l o) else ((lateN (sureF l o) l.length : Nat), (lateN (canF l o) l.length : Nat), 0)
theorem runR_snd (l : List Jb) (o : List Int) : (runR l o).2 = chkV l o := by
  unfold runR; split
  · rfl
  · rename_i h; simp at h; exact h.symm
theorem shl_bd {k : Nat} (h : k < 7) : -9223372036854775808 ≤ (1 : Int) * 2 ^ ((k : Nat) : Int).toNat ∧ (1 : Int) * 2 ^ ((k : Nat) : Int).toNat ≤ 9223372036854775807 ∧ 0 ≤ (1 : Int) * 2 ^ ((k : Nat) : Int).toNat := by
  rw [Int.toNat_natCast, Int.one_mul]
  have : (2 : Int) ^ k = ((2 ^ k : Nat) : Int) := by simp
  rw [this]
  have h2 : 2 ^ k ≤ 2 ^ 7 := Nat.pow_le_pow_right (by omega) (by omega)
  obtain ⟨q, hq⟩ : ∃ q : Nat, 2 ^ k = q := ⟨_, rfl⟩
  rw [hq] at h2 ⊢
  omega
theorem late_bd {f : Nat → Bool} {k : Nat} (h : k ≤ 7) : 0 ≤ ((lateN f k : Nat) : Int) ∧ ((lateN f k : Nat) : Int) ≤ 128 := by
  have h1 := lateN_lt f k
  have h2 : 2 ^ k ≤ 2 ^ 7 := Nat.pow_le_pow_right (by omega) h
  omega

theorem late22 (w : World) (a : Option Addr) (c : Nat) (l : List Jb) (hl : RowsA jbRow 5 0 w a l) (ao : Option Addr) (co : Nat) (o : List Int) (ho : RowsA iRow 1 0 w ao o) (h1000 : o.length ≤ 1000) : Calls Try.prog 22 #[.slice a l.length c, .slice ao o.length co] w fun e w' => e = .returned (.tuple #[.int .i64 (lateR l o).1, .int .i64 (lateR l o).2.1, .int .i64 (lateR l o).2.2]) ∧ Below w.heap.size w w' := by
  have hlen := hl.len
  refine calls_of_SC (args := [.slice a l.length c, .slice ao o.length co]) Try.func22 rfl Try.ntmps22 rfl ?_
  simp only [argL, Nat.zero_add]
  refine sc_seq ?_
  refine sc_region ?_
  refine qs (y_assign RF) ?_
  refine qs (y_assign RF) ?_
  refine qs (y_assign RF) ?_
  refine sq_nil ?_
  refine sx_then ?_
  refine sc_seq ?_
  refine sc_region ?_
  refine qs (y_move RF) ?_
  refine qs (y_move RF) ?_
  refine sq_call_own (first := []) (caps := []) (e := 24) (sz := 2) (n := (runR l o).1.length) (Z := Value) (fun x => .tuple #[x, .int .i64 (runR l o).2]) (fun x => x) (fun _ => (runR l o).1.flatMap spRow) (fun x => x.oneCell' = true) RF Try.call20 E2 (fun w1 hw1 => (run20 w1 a c l (hl.at hw1 MM) ao co o (ho.at hw1 MM) h1000).mono (fun e w' ⟨x, h1, h2, h3, h4⟩ => ⟨x, h1, h2, h3, h4⟩)) rfl (fun v13 ho13 => ?_)
  refine qs (y_move RF) ?_
  refine qs (y_extract RF RF) ?_
  refine qs (y_extract RF RF) ?_
  refine qs (y_assign RF) ?_
  refine qs (y_assign RF) ?_
  refine sq_nil ?_
  refine sx_then ?_
  refine sc_seq ?_
  refine sc_seq ?_
  refine sc_region ?_
  refine qs (y_move RF) ?_
  refine qs (y_neq RF RF) ?_
  refine sq_nil ?_
  refine sx_then ?_
  refine scp (fun hc0 => ?_) (fun hc0 => ?_)
  ·
    refine sc_seq ?_
    refine sc_region ?_
    refine qs (y_move RF) ?_
    refine qs (y_assign RF) ?_
    refine qs (y_assign RF) ?_
    refine qs (y_assign RF) ?_
    refine sq_nil ?_
    refine sx_then ?_
    refine sc_ret ?_
    refine sx_then_ret ?_
    refine sx_ret3 (.inl rfl) rfl Try.results22 RF RF RF ?_
    intro w' hw'
    refine ⟨?_, hw'.below MM⟩
    have h9 : chkV l o ≠ 0 := by rw [← runR_snd]; exact hc0
    unfold lateR; rw [if_pos h9, ← runR_snd]; rfl
  ·
    refine sc_skip ?_
    refine sx_then ?_
    refine sc_seq ?_
    refine sc_seq ?_
    have hck : chkV l o = 0 := by rw [← runR_snd]; simpa using hc0
    have hrun : runR l o = (spansV l o, 0) := by unfold runR; rw [if_neg (by simp [hck])]
    obtain ⟨hj, hob⟩ := chkV_ok hck
    have h7 := (jobsB_parts hj).1
    rw [hrun]
    dsimp only
    rw [spansV_len]
    refine sc_region ?_
    refine qs (y_move RF) ?_
    refine qs (y_len Try.underlying34 RF) ?_
    refine qs (y_move RF) ?_
    refine sq_nil ?_
    refine sx_then ?_
    refine sc_block ?_
    refine sc_loop (σ := Nat)
      (fun s => [(4, .int .i64 ((lateN (sureF l o) s : Nat) : Int)), (5, .int .i64 ((lateN (canF l o) s : Nat) : Int)), (7, v13), (19, .slice a l.length c), (20, .int .i64 l.length), (21, .int .i64 s)])
      (fun s => [.own v13 24 2 l.length ((spansV l o).flatMap spRow), .reg 0 w])
      (fun s => s ≤ l.length)
      (fun s => l.length - s)
      (0) ?_ SU SR ?_
    · exact Nat.zero_le _
    rintro k hk
    refine sc_seq ?_
    refine sc_region ?_
    refine qs (y_lss RF RF) ?_
    refine sq_nil ?_
    refine sx_then ?_
    refine sc_seq ?_
    refine scp (fun hc1 => ?_) (fun hc1 => ?_)
    ·
      have hk' : k < l.length := by omega
      have hsm := (hl.get jb0 hk').1
      have hca := (hl.get jb0 hk').2
      have hsh := shl_bd (k := k) (by omega)
      have hb1 := late_bd (f := sureF l o) (k := k) (by omega)
      have hb2 := late_bd (f := canF l o) (k := k) (by omega)
      have hpw := powN_le (n := k) (by omega)
      refine sc_skip ?_
      refine sx_then ?_
      refine sc_seq ?_
      refine sc_block ?_
      refine sc_seq ?_
      refine sc_region ?_
      refine qs (y_move RF) ?_
      refine qs IA34 ?_
      refine qs (by first | exact y_load_ca Try.underlying58 rfl Try.sizeOf58 RF MM hca rfl | exact LD58) ?_
      refine sq_alloc Try.zeroValue58 rfl (fun b9 => ?_)
      refine qs (y_assign RF) ?_
      refine sq_store_all Try.sizeOf58 RF RF rfl RM rfl rfl ?_
      refine sq_nil ?_
      refine sx_then ?_
      refine sc_seq ?_
      refine sc_seq ?_
      refine sc_drawX ([.own v13 24 2 l.length ((spansV l o).flatMap spRow), .blk b9 (.cells (jbRow (l.getD k jb0)).toArray 58 (0, 0))]) (by kernel_rfl) ?_
      refine xj_s 0 RF (by kernel_rfl) SR (y_move RF) rfl ?_
      refine xj_s 1 RF (by kernel_rfl) SR (y_move RF) rfl ?_
      refine xj_s 2 RF (by kernel_rfl) SR (y_ia_own Try.underlying36 Try.sizeOf24 RF MM RF hk') rfl ?_
      refine xj_s 3 RF (by kernel_rfl) SR FA24_3 rfl ?_
      refine xj_s 4 RF (by kernel_rfl) SR (by first | exact y_load_ownj (j := 0) (u := .int .i64 (spanK l o k).lo) Try.underlying3 rfl RF MM hk' (flat_get (row := spRow) (fun _ => rfl) _ k _ (spansV_get hk') 0 _ rfl) | exact LD3) rfl ?_
      refine xj_s 5 RF (by kernel_rfl) SR FA58_3 rfl ?_
      refine xj_s 6 RF (by kernel_rfl) SR LD3 rfl ?_
      refine xj_s 7 RF (by kernel_rfl) SR (y_gtr RF RF) rfl ?_
      refine xj_done (by kernel_rfl) ?_
      refine sx_then ?_
      refine sc_midE (Z := {x : Int // x = ((lateN (sureF l o) (k + 1) : Nat) : Int)}) (fun x => [(8, .int .i64 k), (9, .pointer (some ⟨b9, 0, none⟩)), (4, .int .i64 x.1), (5, .int .i64 ((lateN (canF l o) k : Nat) : Int)), (7, v13), (19, .slice a l.length c), (20, .int .i64 l.length), (21, .int .i64 k)]) (fun _ => [.blk b9 (.cells (jbRow (l.getD k jb0)).toArray 58 (0, 0)), .own v13 24 2 l.length ((spansV l o).flatMap spRow), .reg 0 w]) ?_ ?_
      ·
        refine scp (fun hc2 => ?_) (fun hc2 => ?_)
        ·
          refine sc_region ?_
          refine qs (y_move RF) ?_
          refine qs (y_move RF) ?_
          refine qs (y_shl RF RF (by omega) ⟨hsh.1, hsh.2.1⟩) ?_
          refine qs (y_or RF RF (by omega) ⟨hsh.2.2, hsh.2.1⟩) ?_
          refine qs (y_assign RF) ?_
          refine sq_nil ?_
          exact sx_midE (⟨_, or_step (f := sureF l o) (decide_eq_true hc2)⟩) SU SR
        ·
          refine sc_skip ?_
          exact sx_midE (⟨((lateN (sureF l o) k : Nat) : Int), by rw [no_step (f := sureF l o) (decide_eq_false hc2)]⟩) SU SR
      rintro ⟨x, hx⟩
      try dsimp only
      refine sx_then ?_
      refine sc_seq ?_
      refine sc_drawX ([.own v13 24 2 l.length ((spansV l o).flatMap spRow), .blk b9 (.cells (jbRow (l.getD k jb0)).toArray 58 (0, 0))]) (by kernel_rfl) ?_
      refine xj_s 0 RF (by kernel_rfl) SR (y_move RF) rfl ?_
      refine xj_s 1 RF (by kernel_rfl) SR (y_move RF) rfl ?_
      refine xj_s 2 RF (by kernel_rfl) SR (y_ia_own Try.underlying36 Try.sizeOf24 RF MM RF hk') rfl ?_
      refine xj_s 3 RF (by kernel_rfl) SR FA24_3 rfl ?_
      refine xj_s 4 RF (by kernel_rfl) SR (by first | exact y_load_ownj (j := 1) (u := .int .i64 (spanK l o k).hi) Try.underlying3 rfl RF MM hk' (flat_get (row := spRow) (fun _ => rfl) _ k _ (spansV_get hk') 1 _ rfl) | exact LD3) rfl ?_
      refine xj_s 5 RF (by kernel_rfl) SR FA58_3 rfl ?_
      refine xj_s 6 RF (by kernel_rfl) SR LD3 rfl ?_
      refine xj_s 7 RF (by kernel_rfl) SR (y_gtr RF RF) rfl ?_
      refine xj_done (by kernel_rfl) ?_
      refine sx_then ?_
      refine scp (fun hc3 => ?_) (fun hc3 => ?_)
      ·
        have hg : canF l o k = true := decide_eq_true hc3
        subst hx
        refine sc_region ?_
        refine qs (y_move RF) ?_
        refine qs (y_move RF) ?_
        refine qs (y_shl RF RF (by omega) ⟨hsh.1, hsh.2.1⟩) ?_
        refine qs (y_or RF RF (by omega) ⟨hsh.2.2, hsh.2.1⟩) ?_
        rw [or_step hg]
        refine qs (y_assign RF) ?_
        refine sq_nil ?_
        refine sx_blk ?_
        refine sx_then ?_
        refine sc_region ?_
        refine qs (y_add RF RF (by omega)) ?_
        refine qs (y_move RF) ?_
        refine sq_nil ?_
        refine sx_round (k + 1) ?_ ?_ SU SR
        · omega
        · omega
      ·
        have hg : canF l o k = false := decide_eq_false hc3
        rw [no_step hg]
        subst hx
        refine sc_skip ?_
        refine sx_blk ?_
        refine sx_then ?_
        refine sc_region ?_
        refine qs (y_add RF RF (by omega)) ?_
        refine qs (y_move RF) ?_
        refine sq_nil ?_
        refine sx_round (k + 1) ?_ ?_ SU SR
        · omega
        · omega
    ·
      refine sc_exit ?_
      refine sx_then_exit ?_
      refine sx_round_exit ?_
      refine sx_blk_hit ?_
      refine sx_then ?_
      refine sc_seq ?_
      refine sc_region ?_
      refine qs (y_move RF) ?_
      refine qs (y_move RF) ?_
      refine qs (y_assign RF) ?_
      refine qs (y_assign RF) ?_
      refine qs (y_assign RF) ?_
      refine sq_nil ?_
      refine sx_then ?_
      refine sc_ret ?_
      refine sx_ret3 (.inl rfl) rfl Try.results22 RF RF RF ?_
      intro w' hw'
      refine ⟨?_, hw'.below MM⟩
      have hkn : k = l.length := by omega
      subst hkn
      unfold lateR; rw [if_neg (by simp [hck])]
theorem late23 (w : World) (a : Option Addr) (c : Nat) (l : List Jb) (hl : RowsA jbRow 5 0 w a l) (ao : Option Addr) (co : Nat) (o : List Int) (ho : RowsA iRow 1 0 w ao o) (h1000 : o.length ≤ 1000) : Calls Try.prog 23 #[.slice a l.length c, .slice ao o.length co] w fun e w' => e = .returned (.tuple #[.int .i64 (lateR l o).1, .int .i64 (lateR l o).2.1, .int .i64 (lateR l o).2.2]) ∧ Below w.heap.size w w' := by
  have hlen := hl.len
  refine calls_of_SC (args := [.slice a l.length c, .slice ao o.length co]) Try.func23 rfl Try.ntmps23 rfl ?_
  simp only [argL, Nat.zero_add]
  refine sc_seq ?_
  refine sc_region ?_
  refine qs (y_assign RF) ?_
  refine qs (y_assign RF) ?_
  refine qs (y_assign RF) ?_
  refine sq_nil ?_
  refine sx_then ?_
  refine sc_seq ?_
  refine sc_region ?_
  refine qs (y_move RF) ?_
  refine qs (y_move RF) ?_
  refine sq_call_own (first := []) (caps := []) (e := 24) (sz := 2) (n := (runR l o).1.length) (Z := Value) (fun x => .tuple #[x, .int .i64 (runR l o).2]) (fun x => x) (fun _ => (runR l o).1.flatMap spRow) (fun x => x.oneCell' = true) RF Try.call21 E2 (fun w1 hw1 => (run21 w1 a c l (hl.at hw1 MM) ao co o (ho.at hw1 MM) h1000).mono (fun e w' ⟨x, h1, h2, h3, h4⟩ => ⟨x, h1, h2, h3, h4⟩)) rfl (fun v15 ho15 => ?_)
  refine qs (y_move RF) ?_
  refine qs (y_extract RF RF) ?_
  refine qs (y_extract RF RF) ?_
  refine qs (y_assign RF) ?_
  refine qs (y_assign RF) ?_
  refine sq_nil ?_
  refine sx_then ?_
  refine sc_seq ?_
  refine sc_seq ?_
  refine sc_region ?_
  refine qs (y_move RF) ?_
  refine qs (y_neq RF RF) ?_
  refine sq_nil ?_
  refine sx_then ?_
  refine scp (fun hc0 => ?_) (fun hc0 => ?_)
  ·
    refine sc_seq ?_
    refine sc_region ?_
    refine qs (y_move RF) ?_
    refine qs (y_assign RF) ?_
    refine qs (y_assign RF) ?_
    refine qs (y_assign RF) ?_
    refine sq_nil ?_
    refine sx_then ?_
    refine sc_ret ?_
    refine sx_then_ret ?_
    refine sx_ret3 (.inl rfl) rfl Try.results23 RF RF RF ?_
    intro w' hw'
    refine ⟨?_, hw'.below MM⟩
    have h9 : chkV l o ≠ 0 := by rw [← runR_snd]; exact hc0
    unfold lateR; rw [if_pos h9, ← runR_snd]; rfl
  ·
    refine sc_skip ?_
    refine sx_then ?_
    refine sc_seq ?_
    have hck : chkV l o = 0 := by rw [← runR_snd]; simpa using hc0
    have hrun : runR l o = (spansV l o, 0) := by unfold runR; rw [if_neg (by simp [hck])]
    obtain ⟨hj, hob⟩ := chkV_ok hck
    have h7 := (jobsB_parts hj).1
    rw [hrun]
    dsimp only
    rw [spansV_len]
    refine sc_region ?_
    refine qs (y_assign RF) ?_
    refine qs (y_assign RF) ?_
    refine sq_nil ?_
    refine sx_then ?_
    refine sc_seq ?_
    refine sc_seq ?_
    refine sc_region ?_
    refine qs (y_assign RF) ?_
    refine sq_nil ?_
    refine sx_then ?_
    refine sc_block ?_
    refine sc_loop (σ := Nat)
      (fun s => [(0, .slice a l.length c), (7, v15), (9, .int .i64 ((lateN (sureF l o) s : Nat) : Int)), (10, .int .i64 ((lateN (canF l o) s : Nat) : Int)), (11, .int .i64 s)])
      (fun s => [.own v15 24 2 l.length ((spansV l o).flatMap spRow), .reg 0 w])
      (fun s => s ≤ l.length)
      (fun s => l.length - s)
      (0) ?_ SU SR ?_
    · exact Nat.zero_le _
    rintro k hk
    refine sc_seq ?_
    refine sc_seq ?_
    refine sc_region ?_
    refine qs (y_move RF) ?_
    refine qs (y_move RF) ?_
    refine qs (y_len Try.underlying34 RF) ?_
    refine qs (y_lss RF RF) ?_
    refine sq_nil ?_
    refine sx_then ?_
    refine scp (fun hc1 => ?_) (fun hc1 => ?_)
    ·
      have hk' : k < l.length := by omega
      have hsm := (hl.get jb0 hk').1
      have hca := (hl.get jb0 hk').2
      have hsh := shl_bd (k := k) (by omega)
      have hb1 := late_bd (f := sureF l o) (k := k) (by omega)
      have hb2 := late_bd (f := canF l o) (k := k) (by omega)
      have hpw := powN_le (n := k) (by omega)
      refine sc_skip ?_
      refine sx_then ?_
      refine sc_seq ?_
      refine sc_block ?_
      refine sc_seq ?_
      refine sc_seq ?_
      refine sc_drawX ([.own v15 24 2 l.length ((spansV l o).flatMap spRow), .reg 0 w]) (by kernel_rfl) ?_
      refine xj_s 0 RF (by kernel_rfl) SR (y_move RF) rfl ?_
      refine xj_s 1 RF (by kernel_rfl) SR (y_move RF) rfl ?_
      refine xj_s 2 RF (by kernel_rfl) SR (y_ia_own Try.underlying36 Try.sizeOf24 RF MM RF hk') rfl ?_
      refine xj_s 3 RF (by kernel_rfl) SR FA24_3 rfl ?_
      refine xj_s 4 RF (by kernel_rfl) SR (by first | exact y_load_ownj (j := 0) (u := .int .i64 (spanK l o k).lo) Try.underlying3 rfl RF MM hk' (flat_get (row := spRow) (fun _ => rfl) _ k _ (spansV_get hk') 0 _ rfl) | exact LD3) rfl ?_
      refine xj_s 5 RF (by kernel_rfl) SR (y_move RF) rfl ?_
      refine xj_s 6 RF (by kernel_rfl) SR (y_move RF) rfl ?_
      refine xj_s 7 RF (by kernel_rfl) SR IA34 rfl ?_
      refine xj_s 8 RF (by kernel_rfl) SR FA58_3 rfl ?_
      refine xj_s 9 RF (by kernel_rfl) SR (by first | exact y_load_caj (j := 4) Try.underlying3 rfl RF MM hca rfl | exact LD3) rfl ?_
      refine xj_s 10 RF (by kernel_rfl) SR (y_gtr RF RF) rfl ?_
      refine xj_done (by kernel_rfl) ?_
      refine sx_then ?_
      refine sc_midE (Z := {x : Int // x = ((lateN (sureF l o) (k + 1) : Nat) : Int)}) (fun x => [(0, .slice a l.length c), (7, v15), (9, .int .i64 x.1), (10, .int .i64 ((lateN (canF l o) k : Nat) : Int)), (11, .int .i64 k)]) (fun _ => [.own v15 24 2 l.length ((spansV l o).flatMap spRow), .reg 0 w]) ?_ ?_
      ·
        refine scp (fun hc2 => ?_) (fun hc2 => ?_)
        ·
          refine sc_region ?_
          refine qs (y_move RF) ?_
          refine qs (y_move RF) ?_
          refine qy (yc Try.call61 E1 (fun w1 _ => power61 w1 k (by omega))) ?_
          refine qs (y_add RF RF (by omega)) ?_
          refine qs (y_assign RF) ?_
          refine sq_nil ?_
          exact sx_midE (⟨_, add_step (f := sureF l o) (decide_eq_true hc2)⟩) SU SR
        ·
          refine sc_skip ?_
          exact sx_midE (⟨((lateN (sureF l o) k : Nat) : Int), by rw [no_step (f := sureF l o) (decide_eq_false hc2)]⟩) SU SR
      rintro ⟨x, hx⟩
      try dsimp only
      refine sx_then ?_
      refine sc_seq ?_
      refine sc_drawX ([.own v15 24 2 l.length ((spansV l o).flatMap spRow), .reg 0 w]) (by kernel_rfl) ?_
      refine xj_s 0 RF (by kernel_rfl) SR (y_move RF) rfl ?_
      refine xj_s 1 RF (by kernel_rfl) SR (y_move RF) rfl ?_
      refine xj_s 2 RF (by kernel_rfl) SR (y_ia_own Try.underlying36 Try.sizeOf24 RF MM RF hk') rfl ?_
      refine xj_s 3 RF (by kernel_rfl) SR FA24_3 rfl ?_
      refine xj_s 4 RF (by kernel_rfl) SR (by first | exact y_load_ownj (j := 1) (u := .int .i64 (spanK l o k).hi) Try.underlying3 rfl RF MM hk' (flat_get (row := spRow) (fun _ => rfl) _ k _ (spansV_get hk') 1 _ rfl) | exact LD3) rfl ?_
      refine xj_s 5 RF (by kernel_rfl) SR (y_move RF) rfl ?_
      refine xj_s 6 RF (by kernel_rfl) SR (y_move RF) rfl ?_
      refine xj_s 7 RF (by kernel_rfl) SR IA34 rfl ?_
      refine xj_s 8 RF (by kernel_rfl) SR FA58_3 rfl ?_
      refine xj_s 9 RF (by kernel_rfl) SR (by first | exact y_load_caj (j := 4) Try.underlying3 rfl RF MM hca rfl | exact LD3) rfl ?_
      refine xj_s 10 RF (by kernel_rfl) SR (y_gtr RF RF) rfl ?_
      refine xj_done (by kernel_rfl) ?_
      refine sx_then ?_
      refine scp (fun hc3 => ?_) (fun hc3 => ?_)
      ·
        have hg : canF l o k = true := decide_eq_true hc3
        subst hx
        refine sc_region ?_
        refine qs (y_move RF) ?_
        refine qs (y_move RF) ?_
        refine qy (yc Try.call61 E1 (fun w1 _ => power61 w1 k (by omega))) ?_
        refine qs (y_add RF RF (by omega)) ?_
        rw [add_step hg]
        refine qs (y_assign RF) ?_
        refine sq_nil ?_
        refine sx_blk ?_
        refine sx_then ?_
        refine sc_region ?_
        refine qs (y_move RF) ?_
        refine qs (y_add RF RF (by omega)) ?_
        refine qs (y_assign RF) ?_
        refine sq_nil ?_
        refine sx_round (k + 1) ?_ ?_ SU SR
        · omega
        · omega
      ·
        have hg : canF l o k = false := decide_eq_false hc3
        rw [no_step hg]
        subst hx
        refine sc_skip ?_
        refine sx_blk ?_
        refine sx_then ?_
        refine sc_region ?_
        refine qs (y_move RF) ?_
        refine qs (y_add RF RF (by omega)) ?_
        refine qs (y_assign RF) ?_
        refine sq_nil ?_
        refine sx_round (k + 1) ?_ ?_ SU SR
        · omega
        · omega
    ·
      refine sc_exit ?_
      refine sx_then_exit ?_
      refine sx_round_exit ?_
      refine sx_blk_hit ?_
      refine sx_then ?_
      refine sc_seq ?_
      refine sc_region ?_
      refine qs (y_move RF) ?_
      refine qs (y_move RF) ?_
      refine qs (y_assign RF) ?_
      refine qs (y_assign RF) ?_
      refine qs (y_assign RF) ?_
      refine sq_nil ?_
      refine sx_then ?_
      refine sc_ret ?_
      refine sx_ret3 (.inl rfl) rfl Try.results23 RF RF RF ?_
      intro w' hw'
      refine ⟨?_, hw'.below MM⟩
      have hkn : k = l.length := by omega
      subst hkn
      unfold lateR; rw [if_neg (by simp [hck])]
end Go.Proofs.Ytjlbpmcacopbpaa
