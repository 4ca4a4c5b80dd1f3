/- The walks of the document's Cut and Cells, and of the results that the document fixes. -/
import Derived.Test.YtfceajkofpafpaaHW8
namespace Go.Proofs.Ytfceajkofpafpaa
open Go Go.Eng Go.RowKit Go.Proofs
open Go.Proofs.Ytfceajkofpafpaa.Sc (iRow spRow sp0 Sp Kd Bx Te Rd kdRow bxRow rdRow teRow getD_of get_of_lt any_range_get all_not_any all_getD judge16 judgeAns reads14 readAns left18 leftR openE judgeV fitL)
set_option maxRecDepth 100000
/-- Sides' answer, to be read -/
def SidesF (c : Ct) (piece : Int) (lo : Nat) (w' : World) (y : Value × Int) : Prop := (y.2 = 0 → Good c piece ∧ ∃ sa cs, y.1 = .slice sa (sdN c piece (nP c + 1)).length cs ∧ RowsA sdRow 2 lo w' sa (sdN c piece (nP c + 1))) ∧ (y.2 ≠ 0 → ¬ Good c piece)
theorem sides9r (w : World) (c : Ct) (a : Option Addr) (cp : Nat) (hp : RowsA iRow 1 0 w a c.piece) (piece : Int) : Calls Try.prog 9 #[.agg (ctV c a cp).toArray, .int .i64 piece] w fun e w' => ∃ y : Value × Int, e = .returned (.tuple #[y.1, .int .i64 y.2]) ∧ Below w.heap.size w w' ∧ SidesF c piece w.heap.size w' y :=
  (sides9 w c a cp hp piece).mono fun e w' ⟨y, h1, h2, h3, h4⟩ => ⟨y, h1, h2, fun h => by
    obtain ⟨hg, ho⟩ := h3 h
    have hl := sdN_le c piece (nP c + 1)
    have hn := (nP_eq hg.1.ok).2.2
    obtain ⟨sa, cs, h5, _, h6⟩ := own_rowsA (row := sdRow) sdRow_len ho rfl (by omega)
    exact ⟨hg, sa, cs, h5, h6⟩, h4⟩
/-- a way from cell to cell -/
def walkP (p : Int × Int) : List Nat → Int × Int
  | [] => p
  | i :: is => walkP (nb p i) is
def wayB (c : Ct) (p : Int × Int) : List Nat → Bool
  | [] => true
  | i :: is => decide (i < 4) && decide (atC c (nb p i) = atC c p) && wayB c (nb p i) is
theorem conn_way {c : Ct} : ∀ (is : List Nat) (p : Int × Int), wayB c p is = true → Conn c p (walkP p is)
  | [], p, _ => .refl
  | i :: is, p, h => by
    unfold wayB at h
    simp only [Bool.and_eq_true, decide_eq_true_eq] at h
    exact (Conn.one h.1.1 h.1.2).trans (conn_way is _ h.2)
/-- the document's cut -/
def ctA : Ct := ⟨4, 3, [0, 0, 1, 1, 0, 2, 2, 1, 3, 3, 3, 3]⟩
def rootA (k : Int) : Int × Int := if k = 0 then (0, 0) else if k = 1 then (2, 0) else if k = 2 then (1, 1) else (0, 2)
def wayA (i : Nat) : List Nat := ([[], [1], [], [1], [3], [], [1], [1, 3], [], [1], [1, 1], [1, 1, 1]] : List (List Nat)).getD i []
theorem wayA_ok : ∀ i, i < 12 → wayB ctA (rootA (ctA.piece.getD i 0)) (wayA i) = true ∧ walkP (rootA (ctA.piece.getD i 0)) (wayA i) = cellAt ctA i := by decide +kernel
theorem ctA_F : CtF ctA := ctF.1 (by decide +kernel)
theorem ctA_nP : nP ctA = 4 := by decide +kernel
theorem ctA_good : CutOk ctA (nP ctA) where
  ok := ctA_F
  some := fun k hk => by
    rw [ctA_nP] at hk
    have h : ∀ k, k < 4 → inC ctA (rootA (k : Nat)) ∧ atC ctA (rootA (k : Nat)) = ((k : Nat) : Int) := by decide +kernel
    exact ⟨_, h k hk⟩
  all := nP_all ctA_F
  conn := fun p q hp hq he => by
    obtain ⟨h1, h2⟩ := cell_idx ctA_F hp
    obtain ⟨h3, h4⟩ := cell_idx ctA_F hq
    obtain ⟨h5, h6⟩ := wayA_ok _ h1
    obtain ⟨h7, h8⟩ := wayA_ok _ h3
    have e1 : atC ctA p = ctA.piece.getD (idx ctA p) 0 := by unfold atC; rw [if_pos hp]
    have e2 : atC ctA q = ctA.piece.getD (idx ctA q) 0 := by unfold atC; rw [if_pos hq]
    have c1 := conn_way _ _ h5
    have c2 := conn_way _ _ h7
    rw [h6, h2, ← e1] at c1
    rw [h8, h4, ← e2, ← he] at c2
    exact c1.symm.trans c2
theorem ctA_sides : sdN ctA 0 (nP ctA + 1) = [(-1, 4), (1, 1), (2, 2), (3, 1)] := by rw [ctA_nP]; decide +kernel
def bxA : Bx := ⟨[⟨90, ⟨1000, 1001⟩⟩, ⟨10, ⟨2000, 2000⟩⟩], ⟨500, 600⟩, 1, 1⟩
def rdA : Rd := ⟨⟨1, 3, ⟨-2, 0⟩, ⟨0, 0⟩, 0⟩, 101⟩
theorem judgeA : judgeAns bxA [rdA] = .tuple #[.int .i64 2, .int .i64 0] := by
  unfold judgeAns
  rw [if_pos (by decide +kernel), show judgeV (fitL bxA [rdA]) = 2 by decide +kernel]

theorem ei40 : EI Try.prog 40 (.agg #[.int .i64 0, .int .i64 0, .int .i64 0]) 3 24 := by unfold EI; kernel_rfl
theorem ei52 : EI Try.prog 52 (.agg #[.int .i64 0, .int .i64 0, .int .i64 0, .int .i64 0, .int .i64 0, .int .i64 0, .int .i64 0, .int .i64 0]) 8 64 := by unfold EI; kernel_rfl
theorem bt38 : BT Try.prog 38 [(0, 1), (1, 1)] (.agg #[.int .i64 0, .int .i64 0]) := BT.of Try.underlying38 (by kernel_rfl) (by kernel_rfl)
theorem bt40 : BT Try.prog 40 [(0, 1), (1, 2)] (.agg #[.int .i64 0, .int .i64 0, .int .i64 0]) := BT.of Try.underlying40 (by kernel_rfl) (by kernel_rfl)
theorem bt45 : BT Try.prog 45 [(0, 1), (1, 2), (3, 1), (4, 1)] (.agg #[.slice none 0 0, .int .i64 0, .int .i64 0, .int .i64 0, .int .i64 0]) := BT.of Try.underlying45 (by kernel_rfl) (by kernel_rfl)
theorem bt47 : BT Try.prog 47 [(0, 1), (1, 1), (2, 2), (4, 2), (6, 1)] (.agg #[.int .i64 0, .int .i64 0, .int .i64 0, .int .i64 0, .int .i64 0, .int .i64 0, .int .i64 0]) := BT.of Try.underlying47 (by kernel_rfl) (by kernel_rfl)
theorem bt52 : BT Try.prog 52 [(0, 7), (7, 1)] (.agg #[.int .i64 0, .int .i64 0, .int .i64 0, .int .i64 0, .int .i64 0, .int .i64 0, .int .i64 0, .int .i64 0]) := BT.of Try.underlying52 (by kernel_rfl) (by kernel_rfl)
theorem eql42 (a b c d : Int) : ∀ w, (binOp .eql 42 (.agg #[.int .i64 a, .int .i64 b]) (.agg #[.int .i64 c, .int .i64 d])).run Try.prog w = .ok (.bool (decide (a = c ∧ b = d))) w := fun w => by
  have h1 := Try.underlying42
  have h2 := Try.underlying3
  have h3 : Try.prog.stoodInHeld 42 = false := by kernel_rfl
  have hf : Try.prog.fieldsOf 42 = #[⟨"Piece", 3, 0, false, "", "", 0⟩, ⟨"Edges", 3, 1, false, "", "", 8⟩] := by kernel_rfl
  have h4 : Try.prog.underlying 42 = some (.struct (Try.prog.fieldsOf 42)) := by rw [hf]; exact h1
  rw [run_eql_struct, run_equalIn_struct w 9999 42 _ _ h4 h3, hf]
  by_cases e1 : a = c <;> by_cases e2 : b = d <;> simp [Op.eqFields, part, run_isAgg_scal h2 rfl, run_equalIn_int w _ 3 .i64 .i64 _ _ h2, e1, e2]
theorem neq42 (a b c d : Int) : ∀ w, (binOp .neq 42 (.agg #[.int .i64 a, .int .i64 b]) (.agg #[.int .i64 c, .int .i64 d])).run Try.prog w = .ok (.bool (!decide (a = c ∧ b = d))) w := fun w => by
  have h := eql42 a b c d w
  rw [run_eql_struct] at h
  rw [run_neq_struct]
  cases hr : (Op.equalIn 10000 42 (.agg #[.int .i64 a, .int .i64 b]) (.agg #[.int .i64 c, .int .i64 d])).run Try.prog w with
  | ok x w1 => rw [hr] at h; simp at h; obtain ⟨h5, h6⟩ := h; subst h6; simp [h5]
  | halt x w1 => rw [hr] at h; simp at h
theorem cut8 (w : World) (c : Ct) (a : Option Addr) (cp : Nat) (hp : RowsA iRow 1 0 w a c.piece) : Calls Try.prog 8 #[.agg (ctV c a cp).toArray] w fun e w' => e = .returned (.bool (ctB c)) ∧ Below w.heap.size w w' := by
  have hlen := hp.len
  unfold ctV
  refine calls_of_SC (args := [.agg #[.int .i64 c.wide, .int .i64 c.high, .slice a c.piece.length cp]]) Try.func8 rfl Try.ntmps8 rfl ?_
  simp only [argL]
  refine sc_seq ?_
  refine sc_region ?_
  refine sq_box RF rfl (fun b1 => ?_)
  refine qs (y_assign RF) ?_
  refine sq_nil ?_
  refine sx_then ?_
  refine sc_seq ?_
  refine sc_seq ?_
  refine sc_region ?_
  refine qs FA24_3 ?_
  refine qs LD3 ?_
  refine qy (yc Try.call32 E3 (fun w1 _ => in32 _ _ _ w1)) ?_
  refine qs (y_not RF) ?_
  refine qs (y_move RF) ?_
  refine sp 8 (fun hg1_4 => ?_) (fun hg1_4 => ?_)
  ·
    refine qf ?_
    refine qf ?_
    refine qf ?_
    refine qf ?_
    refine qs (y_pick_t RF RF) ?_
    refine qs (y_move RF) ?_
    refine qf ?_
    refine qf ?_
    refine qf ?_
    refine qf ?_
    refine qf ?_
    refine qf ?_
    refine qf ?_
    refine qf ?_
    refine qf ?_
    refine qs (y_pick_t RF RF) ?_
    refine sq_nil ?_
    refine sx_then ?_
    refine sc_t RF ?_
    refine sc_seq ?_
    refine sc_region ?_
    refine qs (y_assign RF) ?_
    refine sq_nil ?_
    refine sx_then ?_
    refine sc_ret ?_
    refine sx_then_ret ?_
    refine sx_ret1 (.inl rfl) rfl Try.results8 RF ?_
    intro w' hw'
    refine ⟨?_, hw'.below MM⟩
    first
      | (have hall := all_getD c.piece 0 (fun k => hIn k 0 39) (fun j hj => hno j (by omega)); unfold ctB; rw [hall]; unfold hIn; simp [*]; done)
      | (have hf : (c.piece.all fun k => hIn k 0 39) = false := List.all_eq_false.2 ⟨_, getD_in hk', by unfold hIn; rw [decide_eq_false hc2]; decide⟩; unfold ctB; rw [hf, Bool.and_false]; done)
      | (unfold ctB hIn; simp [*]; done)
  ·
    refine qg FA24_3 ?_
    refine qg LD3 ?_
    refine sq_gt RF RF (y_call (first := []) (caps := []) RF Try.call32 (EvL.cons RF (EvL.cons RF (EvL.cons RF EvL.nil))) (fun w1 _ => in32 _ _ _ w1)) rfl ?_
    refine qg (y_not RF) ?_
    refine qs (y_pick_f RF RF) ?_
    refine qs (y_move RF) ?_
    refine sp 14 (fun hg1_10 => ?_) (fun hg1_10 => ?_)
    ·
      refine qf ?_
      refine qf ?_
      refine qf ?_
      refine qf ?_
      refine qf ?_
      refine qf ?_
      refine qf ?_
      refine qf ?_
      refine qf ?_
      refine qs (y_pick_t RF RF) ?_
      refine sq_nil ?_
      refine sx_then ?_
      refine sc_t RF ?_
      refine sc_seq ?_
      refine sc_region ?_
      refine qs (y_assign RF) ?_
      refine sq_nil ?_
      refine sx_then ?_
      refine sc_ret ?_
      refine sx_then_ret ?_
      refine sx_ret1 (.inl rfl) rfl Try.results8 RF ?_
      intro w' hw'
      refine ⟨?_, hw'.below MM⟩
      first
        | (have hall := all_getD c.piece 0 (fun k => hIn k 0 39) (fun j hj => hno j (by omega)); unfold ctB; rw [hall]; unfold hIn; simp [*]; done)
        | (have hf : (c.piece.all fun k => hIn k 0 39) = false := List.all_eq_false.2 ⟨_, getD_in hk', by unfold hIn; rw [decide_eq_false hc2]; decide⟩; unfold ctB; rw [hf, Bool.and_false]; done)
        | (unfold ctB hIn; simp [*]; done)
    ·
      refine qg FA24_22 ?_
      refine qg LD22 ?_
      refine qg (y_len Try.underlying22 RF) ?_
      refine qg FA24_3 ?_
      refine qg LD3 ?_
      refine qg FA24_3 ?_
      refine qg LD3 ?_
      refine qg (y_mul RF RF (by have h1 : (1 : Int) * 1 ≤ c.wide * c.high := Int.mul_le_mul hg1_4.1 hg1_10.1 (by decide) (by omega); have h2 : c.wide * c.high ≤ 12 * 12 := Int.mul_le_mul hg1_4.2 hg1_10.2 (by omega) (by decide); exact ⟨by omega, by omega⟩)) ?_
      refine qg (y_neq RF RF) ?_
      refine qs (y_pick_f RF RF) ?_
      refine sq_nil ?_
      refine sx_then ?_
      refine scp (fun hc0 => ?_) (fun hc0 => ?_)
      ·
        refine sc_seq ?_
        refine sc_region ?_
        refine qs (y_assign RF) ?_
        refine sq_nil ?_
        refine sx_then ?_
        refine sc_ret ?_
        refine sx_then_ret ?_
        refine sx_ret1 (.inl rfl) rfl Try.results8 RF ?_
        intro w' hw'
        refine ⟨?_, hw'.below MM⟩
        first
          | (have hall := all_getD c.piece 0 (fun k => hIn k 0 39) (fun j hj => hno j (by omega)); unfold ctB; rw [hall]; unfold hIn; simp [*]; done)
          | (have hf : (c.piece.all fun k => hIn k 0 39) = false := List.all_eq_false.2 ⟨_, getD_in hk', by unfold hIn; rw [decide_eq_false hc2]; decide⟩; unfold ctB; rw [hf, Bool.and_false]; done)
          | (unfold ctB hIn; simp [*]; done)
      ·
        refine sc_skip ?_
        refine sx_then ?_
        refine sc_seq ?_
        refine sc_seq ?_
        refine sc_region ?_
        refine qs (y_assign RF) ?_
        refine sq_nil ?_
        refine sx_then ?_
        refine sc_block ?_
        refine sc_loop (σ := Nat)
          (fun s => [(1, .pointer (some ⟨b1, 0, none⟩)), (3, .int .i64 s)])
          (fun s => [.blk b1 (.cells #[.int .i64 c.wide, .int .i64 c.high, .slice a c.piece.length cp] 24 (0, 0)), .reg 0 w])
          (fun s => s ≤ c.piece.length ∧ ∀ j, j < s → hIn (c.piece.getD j 0) 0 39 = true)
          (fun s => c.piece.length - s)
          (0) ?_ SU SR ?_
        · exact ⟨Nat.zero_le _, fun j hj => absurd hj (Nat.not_lt_zero j)⟩
        rintro k ⟨hk, hno⟩
        refine sc_seq ?_
        refine sc_seq ?_
        refine sc_region ?_
        refine qs (y_move RF) ?_
        refine qs FA24_22 ?_
        refine qs LD22 ?_
        refine qs (y_len Try.underlying22 RF) ?_
        refine qs (y_lss RF RF) ?_
        refine sq_nil ?_
        refine sx_then ?_
        refine scp (fun hc1 => ?_) (fun hc1 => ?_)
        ·
          have hk' : k < c.piece.length := by omega
          have hsk := (hp.get 0 hk').1
          have hck := (hp.get 0 hk').2
          refine sc_skip ?_
          refine sx_then ?_
          refine sc_seq ?_
          refine sc_block ?_
          refine sc_seq ?_
          refine sc_region ?_
          refine qs FA24_22 ?_
          refine qs LD22 ?_
          refine qs (y_move RF) ?_
          refine qs IA22 ?_
          refine qs (by first | exact y_load_ca0 Try.underlying3 rfl RF MM hck rfl | exact LD3) ?_
          refine qy (yc Try.call32 E3 (fun w1 _ => in32 _ _ _ w1)) ?_
          refine qs (y_not RF) ?_
          refine sq_nil ?_
          refine sx_then ?_
          refine scp (fun hc2 => ?_) (fun hc2 => ?_)
          ·
            refine sc_seq ?_
            refine sc_region ?_
            refine qs (y_assign RF) ?_
            refine sq_nil ?_
            refine sx_then ?_
            refine sc_ret ?_
            refine sx_blk_ret ?_
            refine sx_then_ret ?_
            refine sx_round_ret ?_
            refine sx_blk_ret ?_
            refine sx_then_ret ?_
            refine sx_ret1 (.inl rfl) rfl Try.results8 RF ?_
            intro w' hw'
            refine ⟨?_, hw'.below MM⟩
            first
              | (have hall := all_getD c.piece 0 (fun k => hIn k 0 39) (fun j hj => hno j (by omega)); unfold ctB; rw [hall]; unfold hIn; simp [*]; done)
              | (have hf : (c.piece.all fun k => hIn k 0 39) = false := List.all_eq_false.2 ⟨_, getD_in hk', by unfold hIn; rw [decide_eq_false hc2]; decide⟩; unfold ctB; rw [hf, Bool.and_false]; done)
              | (unfold ctB hIn; simp [*]; done)
          ·
            refine sc_skip ?_
            refine sx_blk ?_
            refine sx_then ?_
            refine sc_region ?_
            refine qs (y_move RF) ?_
            refine qs (y_add RF RF (by omega)) ?_
            refine qs (y_assign RF) ?_
            refine sq_nil ?_
            refine sx_round (k + 1) ?_ ?_ SU SR
            · refine ⟨by omega, fun j hj => ?_⟩
              rcases Nat.lt_succ_iff_lt_or_eq.1 hj with h | rfl
              · exact hno j h
              · unfold hIn; exact decide_eq_true (by omega)
            · omega
        ·
          refine sc_exit ?_
          refine sx_then_exit ?_
          refine sx_round_exit ?_
          refine sx_blk_hit ?_
          refine sx_then ?_
          refine sc_seq ?_
          refine sc_region ?_
          refine qs (y_assign RF) ?_
          refine sq_nil ?_
          refine sx_then ?_
          refine sc_ret ?_
          refine sx_ret1 (.inl rfl) rfl Try.results8 RF ?_
          intro w' hw'
          refine ⟨?_, hw'.below MM⟩
          first
            | (have hall := all_getD c.piece 0 (fun k => hIn k 0 39) (fun j hj => hno j (by omega)); unfold ctB; rw [hall]; unfold hIn; simp [*]; done)
            | (have hf : (c.piece.all fun k => hIn k 0 39) = false := List.all_eq_false.2 ⟨_, getD_in hk', by unfold hIn; rw [decide_eq_false hc2]; decide⟩; unfold ctB; rw [hf, Bool.and_false]; done)
            | (unfold ctB hIn; simp [*]; done)
/-- how many of the first cells a piece has -/
def cntK (c : Ct) (p : Int) : Nat → Nat
  | 0 => 0
  | n + 1 => cntK c p n + if c.piece.getD n 0 = p then 1 else 0
theorem cntK_le (c : Ct) (p : Int) : ∀ n, cntK c p n ≤ n
  | 0 => Nat.le_refl _
  | n + 1 => by
    have := cntK_le c p n
    show cntK c p n + _ ≤ _
    split <;> omega
theorem cells10 (w : World) (c : Ct) (a : Option Addr) (cp : Nat) (hp : RowsA iRow 1 0 w a c.piece) (p : Int) : Calls Try.prog 10 #[.agg (ctV c a cp).toArray, .int .i64 p] w fun e w' => e = .returned (.int .i64 ((cntK c p c.piece.length : Nat) : Int)) ∧ Below w.heap.size w w' := by
  have hlen := hp.len
  unfold ctV
  refine calls_of_SC (args := [.agg #[.int .i64 c.wide, .int .i64 c.high, .slice a c.piece.length cp], .int .i64 p]) Try.func10 rfl Try.ntmps10 rfl ?_
  simp only [argL, Nat.zero_add]
  refine sc_seq ?_
  refine sc_region ?_
  refine sq_box RF rfl (fun b2 => ?_)
  refine qs (y_assign RF) ?_
  refine sq_nil ?_
  refine sx_then ?_
  refine sc_seq ?_
  refine sc_region ?_
  refine qs (y_assign RF) ?_
  refine sq_nil ?_
  refine sx_then ?_
  refine sc_seq ?_
  refine sc_seq ?_
  refine sc_region ?_
  refine qs (y_assign RF) ?_
  refine sq_nil ?_
  refine sx_then ?_
  refine sc_block ?_
  refine sc_loop (σ := Nat)
    (fun s => [(1, .int .i64 p), (2, .pointer (some ⟨b2, 0, none⟩)), (5, .int .i64 ((cntK c p s : Nat) : Int)), (6, .int .i64 s)])
    (fun s => [.blk b2 (.cells #[.int .i64 c.wide, .int .i64 c.high, .slice a c.piece.length cp] 24 (0, 0)), .reg 0 w])
    (fun s => s ≤ c.piece.length)
    (fun s => c.piece.length - s)
    (0) ?_ SU SR ?_
  · exact Nat.zero_le _
  rintro k hk
  have hkl := cntK_le c p k
  refine sc_seq ?_
  refine sc_seq ?_
  refine sc_region ?_
  refine qs (y_move RF) ?_
  refine qs FA24_22 ?_
  refine qs LD22 ?_
  refine qs (y_len Try.underlying22 RF) ?_
  refine qs (y_lss RF RF) ?_
  refine sq_nil ?_
  refine sx_then ?_
  refine scp (fun hc0 => ?_) (fun hc0 => ?_)
  ·
    have hk' : k < c.piece.length := by omega
    have hsk := (hp.get 0 hk').1
    have hck := (hp.get 0 hk').2
    refine sc_skip ?_
    refine sx_then ?_
    refine sc_seq ?_
    refine sc_block ?_
    refine sc_seq ?_
    refine sc_region ?_
    refine qs FA24_22 ?_
    refine qs LD22 ?_
    refine qs (y_move RF) ?_
    refine qs IA22 ?_
    refine qs (by first | exact y_load_ca0 Try.underlying3 rfl RF MM hck rfl | exact LD3) ?_
    refine qs (y_move RF) ?_
    refine qs (y_eql RF RF) ?_
    refine sq_nil ?_
    refine sx_then ?_
    refine scp (fun hc1 => ?_) (fun hc1 => ?_)
    ·
      refine sc_region ?_
      refine qs (y_move RF) ?_
      refine qs (y_add RF RF (by omega)) ?_
      refine qs (y_assign RF) ?_
      refine sq_nil ?_
      refine sx_blk ?_
      refine sx_then ?_
      refine sc_region ?_
      refine qs (y_move RF) ?_
      refine qs (y_add RF RF (by omega)) ?_
      refine qs (y_assign RF) ?_
      refine sq_nil ?_
      rw [show ((cntK c p k : Nat) : Int) + 1 = ((cntK c p (k + 1) : Nat) : Int) from by show _ = ((cntK c p k + _ : Nat) : Int); rw [if_pos hc1]; rfl]
      refine sx_round (k + 1) ?_ ?_ SU SR
      · omega
      · omega
    ·
      refine sc_skip ?_
      refine sx_blk ?_
      refine sx_then ?_
      refine sc_region ?_
      refine qs (y_move RF) ?_
      refine qs (y_add RF RF (by omega)) ?_
      refine qs (y_assign RF) ?_
      refine sq_nil ?_
      rw [show cntK c p k = cntK c p (k + 1) from by show _ = cntK c p k + _; rw [if_neg hc1]; rfl]
      refine sx_round (k + 1) ?_ ?_ SU SR
      · omega
      · omega
  ·
    have hkn : k = c.piece.length := by omega
    subst hkn
    refine sc_exit ?_
    refine sx_then_exit ?_
    refine sx_round_exit ?_
    refine sx_blk_hit ?_
    refine sx_then ?_
    refine sc_seq ?_
    refine sc_region ?_
    refine qs (y_move RF) ?_
    refine qs (y_assign RF) ?_
    refine sq_nil ?_
    refine sx_then ?_
    refine sc_ret ?_
    refine sx_ret1 (.inl rfl) rfl Try.results10 RF ?_
    intro w' hw'
    exact ⟨rfl, hw'.below MM⟩
theorem awake5 (w : World) : Calls Try.prog 5 #[] w fun e w' => e = .returned (.bool true) ∧ Below w.heap.size w w' := by
  refine calls_of_SC (args := []) Try.func5 rfl Try.ntmps5 rfl ?_
  simp only [argL]
  refine sc_seq ?_
  refine sc_region ?_
  refine qs (y_assign RF) ?_
  refine sq_nil ?_
  refine sx_then ?_
  refine sc_seq ?_
  refine sc_region ?_
  refine sq_bs Try.underlying22 ei3 (EvI.cons RF (EvI.cons RF (EvI.cons RF (EvI.cons RF (EvI.cons RF (EvI.cons RF (EvI.cons RF (EvI.cons RF (EvI.cons RF (EvI.cons RF (EvI.cons RF (EvI.cons RF EvI.nil)))))))))))) (by first | (simp [Value.cells]; done) | (simp [Value.cells]; rfl) | (simp [Value.cells]; and_intros <;> rfl)) rfl rfl rfl (fun b7 => ?_)
  refine qs (y_build bt24 (EvP.cons RF (EvP.cons RF (EvP.cons RF EvP.nil))) RF) ?_
  refine sq_call_new (first := []) (caps := []) (Z := Value × Int) (fun y => .tuple #[y.1, .int .i64 y.2]) (fun lo w' y => SidesF ctA 0 lo w' y) RF Try.call9 (EvL.cons RF (EvL.cons RF EvL.nil)) (fun w1 hw1 => sides9r w1 ctA (some ⟨b7, 0, none⟩) 12 (lit_rowsA (row := iRow) (l := ctA.piece) iRow_len hw1 MM rfl (by decide)) 0) rfl (fun lo1 wr1 y hy => ?_)
  have hgd : Good ctA 0 := ⟨ctA_good, by decide, by rw [ctA_nP]; decide⟩
  have hy0 : y.2 = 0 := Classical.byContradiction fun h => hy.2 h hgd
  obtain ⟨sa, cs, hy1, hrow⟩ := (hy.1 hy0).2
  obtain ⟨y1, y2⟩ := y
  dsimp only at hy0 hy1
  subst hy0
  subst hy1
  rw [ctA_sides] at hrow ⊢
  have hs0 := (hrow.get (0, 0) (show 0 < 4 by decide)).1
  have hc00 := (hrow.get (0, 0) (show 0 < 4 by decide)).2
  refine qs (y_move RF) ?_
  refine qs (y_extract RF RF) ?_
  refine qs (y_extract RF RF) ?_
  refine qs (y_assign RF) ?_
  refine qs (y_assign RF) ?_
  refine sq_nil ?_
  refine sx_then ?_
  refine sc_seq ?_
  refine sc_region ?_
  refine qs (y_build bt38 (EvP.cons RF (EvP.cons RF EvP.nil)) RF) ?_
  refine qs (y_build bt40 (EvP.cons RF (EvP.cons RF EvP.nil)) RF) ?_
  refine qs (y_build bt38 (EvP.cons RF (EvP.cons RF EvP.nil)) RF) ?_
  refine qs (y_build bt40 (EvP.cons RF (EvP.cons RF EvP.nil)) RF) ?_
  refine sq_bs Try.underlying32 ei40 (EvI.cons RF (EvI.cons RF EvI.nil)) (by first | (simp [Value.cells]; done) | (simp [Value.cells]; rfl) | (simp [Value.cells]; and_intros <;> rfl)) rfl rfl rfl (fun b16 => ?_)
  refine qs (y_build bt38 (EvP.cons RF (EvP.cons RF EvP.nil)) RF) ?_
  refine qs (y_build bt45 (EvP.cons RF (EvP.cons RF (EvP.cons RF (EvP.cons RF EvP.nil)))) RF) ?_
  refine sq_alloc Try.zeroValue45 rfl (fun b3 => ?_)
  refine sq_store_all Try.sizeOf45 RF RF rfl RM rfl rfl ?_
  refine sq_nil ?_
  refine sx_then ?_
  refine sc_seq ?_
  refine sc_region ?_
  refine qs LD45 ?_
  refine qs (y_build bt38 (EvP.cons RF EvP.nil) RF) ?_
  refine qs (y_build bt47 (EvP.cons RF (EvP.cons RF (EvP.cons RF EvP.nil))) RF) ?_
  refine qs (y_build bt52 (EvP.cons RF (EvP.cons RF EvP.nil)) RF) ?_
  refine sq_bs Try.underlying53 ei52 (EvI.cons RF EvI.nil) (by first | (simp [Value.cells]; done) | (simp [Value.cells]; rfl) | (simp [Value.cells]; and_intros <;> rfl)) rfl rfl rfl (fun b24 => ?_)
  refine qy (yc Try.call12 E2 (fun w1 hw1 => judge16 w1 bxA (some ⟨b16, 0, none⟩) 2 (lit_rowsA (row := kdRow) (l := bxA.kinds) (fun _ => rfl) hw1 MM rfl (by decide)) (some ⟨b24, 0, none⟩) 1 [rdA] (lit_rowsA (row := rdRow) (l := [rdA]) (fun _ => rfl) hw1 MM rfl (by decide)))) ?_
  rw [judgeA]
  refine qs (y_move RF) ?_
  refine qs (y_extract RF RF) ?_
  refine qs (y_extract RF RF) ?_
  refine qs (y_assign RF) ?_
  refine qs (y_assign RF) ?_
  refine sq_nil ?_
  refine sx_then ?_
  refine sc_seq ?_
  refine sc_region ?_
  refine qs (y_move RF) ?_
  refine qs (y_len Try.underlying33 RF) ?_
  refine qs (y_eql RF RF) ?_
  refine qs (y_move RF) ?_
  refine sq_known (tt := 31) (b' := true) RF (by decide) ?_
  refine qg (y_move RF) ?_
  refine qg (y_ia_el (i := 0) Try.underlying33 Try.sizeOf42 RF RF (by decide) hs0) ?_
  refine qg (by first | exact y_load_ca Try.underlying42 rfl Try.sizeOf42 RF MM hc00 rfl | exact LD42) ?_
  refine qg (y_build bt42 (EvP.cons RF (EvP.cons RF EvP.nil)) RF) ?_
  refine qg (y_eqls (by kernel_rfl) RF RF (eql42 _ _ _ _)) ?_
  refine qs (y_pick_t RF RF) ?_
  refine qs (y_move RF) ?_
  refine sq_known (tt := 38) (b' := true) RF (by decide) ?_
  refine qg (y_move RF) ?_
  refine qg (y_eql RF RF) ?_
  refine qs (y_pick_t RF RF) ?_
  refine qs (y_move RF) ?_
  refine sq_known (tt := 42) (b' := true) RF (decide_eq_true rfl) ?_
  refine qg (y_move RF) ?_
  refine qg (y_eql RF RF) ?_
  refine qs (y_pick_t RF RF) ?_
  refine qs (y_move RF) ?_
  refine sq_known (tt := 46) (b' := true) RF (by decide) ?_
  refine qg (y_move RF) ?_
  refine qg (y_eql RF RF) ?_
  refine qs (y_pick_t RF RF) ?_
  refine qs (y_assign RF) ?_
  refine sq_nil ?_
  refine sx_then ?_
  refine sc_ret ?_
  refine sx_ret1 (.inl rfl) rfl Try.results5 RF ?_
  intro w' hw'
  exact ⟨rfl, hw'.below MM⟩
end Go.Proofs.Ytfceajkofpafpaa
