/- The walk of what matches rows with slots: how many rows are given one. -/
import Derived.Test.YtpijahglojichaaDoorWalkL4
namespace Go.Proofs.YtpijahglojichaaDoor
open Go Go.Eng Go.RowKit Go.Proofs
set_option maxRecDepth 100000

theorem giveAll (w0 : World) (R : List (List Int)) (n : Nat) (ra : Option Addr) (rc : Nat) (f : Nat → Option Addr) (cf : Nat → Nat) (hR : LsA 0 w0 ra f cf R) (hn : n ≤ 16) (b2 b7 b5 b8 bs bt : Nat) : ∀ k d, n - d < k → GiveAt w0 R n ra rc b2 b7 b5 b8 bs bt d
  | 0, _, h => absurd h (Nat.not_lt_zero _)
  | k + 1, d, _ => give106 w0 R n ra rc f cf hR hn b2 b7 b5 b8 bs bt d fun hd => giveAll w0 R n ra rc f cf hR hn b2 b7 b5 b8 bs bt k (d + 1) (by omega)
theorem give106e (w0 : World) (R : List (List Int)) (n : Nat) (ra : Option Addr) (rc : Nat) (f : Nat → Option Addr) (cf : Nat → Nat) (hR : LsA 0 w0 ra f cf R) (_hn : n ≤ 16) (b2 b7 b5 b8 bs bt : Nat) (T : List Int) (r : Nat) (F : List Res) (w : World) (hr : r < R.length) (hf : R.getD r [] = []) (hw : Hp w0 (.blk b2 (.cells #[.slice ra R.length rc] 22 (0, 0)) :: .blk b7 (.cells #[.slice (some ⟨bs, 0, none⟩) n n] 153 (0, 0)) :: .blk b5 (.cells #[.slice (some ⟨bt, 0, none⟩) n n] 25 (0, 0)) :: .blk b8 (.cells #[.func (.func 106) #[] #[.pointer (some ⟨b2, 0, none⟩), .pointer (some ⟨b7, 0, none⟩), .pointer (some ⟨b5, 0, none⟩), .pointer (some ⟨b8, 0, none⟩)]] 80 (0, 0)) :: .own (.slice (some ⟨bs, 0, none⟩) n n) 4 1 n (seenD n 0) :: .own (.slice (some ⟨bt, 0, none⟩) n n) 3 1 n (T.flatMap iRow) :: .reg 0 w0 :: F) w) : Calls Tryd.prog 106 #[.int .i64 (r : Int), .pointer (some ⟨b2, 0, none⟩), .pointer (some ⟨b7, 0, none⟩), .pointer (some ⟨b5, 0, none⟩), .pointer (some ⟨b8, 0, none⟩)] w fun e w' => e = .returned (.bool false) ∧ Hp w0 (.blk b2 (.cells #[.slice ra R.length rc] 22 (0, 0)) :: .blk b7 (.cells #[.slice (some ⟨bs, 0, none⟩) n n] 153 (0, 0)) :: .blk b5 (.cells #[.slice (some ⟨bt, 0, none⟩) n n] 25 (0, 0)) :: .blk b8 (.cells #[.func (.func 106) #[] #[.pointer (some ⟨b2, 0, none⟩), .pointer (some ⟨b7, 0, none⟩), .pointer (some ⟨b5, 0, none⟩), .pointer (some ⟨b8, 0, none⟩)]] 80 (0, 0)) :: .own (.slice (some ⟨bs, 0, none⟩) n n) 4 1 n (seenD n 0) :: .own (.slice (some ⟨bt, 0, none⟩) n n) 3 1 n (T.flatMap iRow) :: .reg 0 w0 :: F) w' := by
  have hls := hR.get hr
  rw [hf] at hls
  have hrs := hls.1
  refine calls_of_SCr (args := [.int .i64 (r : Int), .pointer (some ⟨b2, 0, none⟩), .pointer (some ⟨b7, 0, none⟩), .pointer (some ⟨b5, 0, none⟩), .pointer (some ⟨b8, 0, none⟩)]) Tryd.func106 rfl Tryd.ntmps106 rfl hw ?_
  simp only [argL, Nat.reduceAdd, Nat.zero_add]
  refine sc_seq ?_
  refine sc_region ?_
  refine qs (y_assign RF) ?_
  refine sq_nil ?_
  refine sx_then ?_
  refine sc_seq ?_
  refine sc_seq ?_
  refine sc_region ?_
  refine qs LD22 ?_
  refine qs (y_move RF) ?_
  refine qs IA22 ?_
  refine qs (by first | exact y_load_ca0 Tryd.underlying25 rfl RF MM hls.2.1 rfl | exact LD25) ?_
  refine qs (y_len Tryd.underlying25 RF) ?_
  refine qs (y_move RF) ?_
  refine sq_nil ?_
  refine sx_then ?_
  refine sc_block ?_
  refine sc_loop (σ := Nat)
    (fun s_ => [(0, .int .i64 (r : Int)), (12, .slice (f r) (List.length ([] : List Int)) (cf r)), (13, .int .i64 (List.length ([] : List Int) : Nat)), (14, .int .i64 (0 : Nat))])
    (fun s_ => (.blk b2 (.cells #[.slice ra R.length rc] 22 (0, 0)) :: .blk b7 (.cells #[.slice (some ⟨bs, 0, none⟩) n n] 153 (0, 0)) :: .blk b5 (.cells #[.slice (some ⟨bt, 0, none⟩) n n] 25 (0, 0)) :: .blk b8 (.cells #[.func (.func 106) #[] #[.pointer (some ⟨b2, 0, none⟩), .pointer (some ⟨b7, 0, none⟩), .pointer (some ⟨b5, 0, none⟩), .pointer (some ⟨b8, 0, none⟩)]] 80 (0, 0)) :: .own (.slice (some ⟨bs, 0, none⟩) n n) 4 1 n (seenD n 0) :: .own (.slice (some ⟨bt, 0, none⟩) n n) 3 1 n (T.flatMap iRow) :: .reg 0 w0 :: F))
    (fun s_ => True)
    (fun s_ => 0)
    (0) ?_ SU SR ?_
  · trivial
  rintro s _
  refine sc_seq ?_
  refine sc_region ?_
  refine qs (y_lss RF RF) ?_
  refine sq_nil ?_
  refine sx_then ?_
  refine sc_seq ?_
  refine scp (fun hc0 => ?_) (fun hc0 => ?_)
  ·
    simp at hc0
  ·
    refine sc_exit ?_
    refine sx_then_exit ?_
    refine sx_round_exit ?_
    refine sx_blk_hit ?_
    refine sx_then ?_
    refine sc_seq ?_
    refine sc_region ?_
    refine qs (y_assign RF) ?_
    refine sq_nil ?_
    refine sx_then ?_
    refine sc_ret ?_
    refine sx_ret1 (.inl rfl) rfl Tryd.results106 RF ?_
    intro w' hw'
    exact ⟨rfl, hw'.sel SR⟩
    
/-- how many rows are given a slot -/
def cntM (R : List (List Int)) (n : Nat) : Nat → Nat
  | 0 => 0
  | i + 1 => if 0 < (R.getD i []).length ∧ cntM R n i < n then cntM R n i + 1 else cntM R n i
theorem cntM_le (R : List (List Int)) (n : Nat) : ∀ i, cntM R n i ≤ n ∧ cntM R n i ≤ i
  | 0 => ⟨Nat.zero_le _, Nat.le_refl _⟩
  | i + 1 => by
    have := cntM_le R n i
    unfold cntM
    split <;> omega
def repT (n i : Nat) : List Int := List.replicate i (-1) ++ List.replicate (n - i) 0
theorem repT_len {n i : Nat} (h : i ≤ n) : (repT n i).length = n := by unfold repT; rw [List.length_append, List.length_replicate, List.length_replicate]; omega
theorem repT_set {n i : Nat} (h : i < n) : (repT n i).set i (-1) = repT n (i + 1) := by
  unfold repT
  rw [show n - i = (n - (i + 1)) + 1 by omega, List.replicate_succ, List.set_append]
  rw [List.length_replicate, if_neg (by omega), Nat.sub_self, List.set_cons_zero, List.replicate_succ', List.append_assoc]; rfl
theorem takF0 (R : List (List Int)) (n : Nat) : TakF R n (repT n n) 0 := by
  refine ⟨repT_len (Nat.le_refl _), fun i h => absurd h (Nat.not_lt_zero _), fun i _ h => ?_⟩
  unfold repT
  rw [Nat.sub_self, List.replicate_zero, List.append_nil, List.getD_eq_getElem?_getD, List.getElem?_replicate, if_pos h]; rfl

theorem matched97 (w : World) (R : List (List Int)) (n : Nat) (ra : Option Addr) (rc : Nat) (f : Nat → Option Addr) (cf : Nat → Nat) (hR : LsA 0 w ra f cf R) (hn : n ≤ 16) (hF : FullR R n) : Calls Tryd.prog 97 #[.slice ra R.length rc, .int .i64 (n : Int)] w fun e w' => e = .returned (.int .i64 (cntM R n R.length : Int)) ∧ Below w.heap.size w w' := by
  have hRl := hR.len
  refine calls_of_SC (args := [.slice ra R.length rc, .int .i64 (n : Int)]) Tryd.func97 rfl Tryd.ntmps97 rfl ?_
  simp only [argL, Nat.zero_add]
  refine sc_seq ?_
  refine sc_region ?_
  refine sq_box RF rfl (fun b2 => ?_)
  refine qs (y_assign RF) ?_
  refine sq_nil ?_
  refine sx_then ?_
  refine sc_seq ?_
  refine sc_region ?_
  refine qs (y_move RF) ?_
  refine sq_make Tryd.underlying25 ei3 RF RF (by omega) (by omega) (by omega) rfl (fun bt => ?_)
  rw [irep, show List.replicate n (0 : Int) = repT n 0 from by unfold repT; simp]
  refine sq_blk_own (n := n) (sz := 1) (xs := (repT n 0).flatMap iRow) RM (by rw [iflat_len, repT_len (Nat.zero_le _), Nat.mul_one]) (by unfold maxLen; omega) ?_
  refine sq_alloc Tryd.zeroValue25 rfl (fun b5 => ?_)
  refine sq_store Tryd.sizeOf25 RF RF (by first | rfl | assumption) RM (by first | exact Nat.le_of_ble_eq_true rfl | simp | omega) ?_
  refine sq_nil ?_
  refine sx_then ?_
  refine sc_seq ?_
  refine sc_seq ?_
  refine sc_region ?_
  refine qs LD25 ?_
  refine qs (y_len Tryd.underlying25 RF) ?_
  refine qs (y_move RF) ?_
  refine sq_nil ?_
  refine sx_then ?_
  refine sc_block ?_
  refine sc_loop (σ := Nat)
    (fun s_ => [(1, .int .i64 (n : Int)), (2, .pointer (some ⟨b2, 0, none⟩)), (4, .int .i64 0), (5, .pointer (some ⟨b5, 0, none⟩)), (13, .int .i64 n), (14, .int .i64 s_)])
    (fun s_ => [.blk b2 (.cells #[.slice ra R.length rc] 22 (0, 0)), .blk b5 (.cells #[.slice (some ⟨bt, 0, none⟩) n n] 25 (0, 0)), .own (.slice (some ⟨bt, 0, none⟩) n n) 3 1 n ((repT n s_).flatMap iRow), .reg 0 w])
    (fun s_ => s_ ≤ n)
    (fun s_ => n - s_)
    (0) ?_ SU SR ?_
  · exact Nat.zero_le _
  rintro i hi
  refine sc_seq ?_
  refine sc_region ?_
  refine qs (y_lss RF RF) ?_
  refine sq_nil ?_
  refine sx_then ?_
  refine sc_seq ?_
  refine scp (fun hc0 => ?_) (fun hc0 => ?_)
  ·
    have hi' : i < n := by omega
    refine sc_skip ?_
    refine sx_then ?_
    refine sc_seq ?_
    refine sc_block ?_
    refine sc_seq ?_
    refine sc_region ?_
    refine qs (y_move RF) ?_
    refine qs (y_assign RF) ?_
    refine sq_nil ?_
    refine sx_then ?_
    refine sc_region ?_
    refine qs LD25 ?_
    refine qs (y_move RF) ?_
    refine qs (y_ia_own (v := .slice (some ⟨bt, 0, none⟩) n n) (i := i) Tryd.underlying25 Tryd.sizeOf3 RF MM RF hi') ?_
    refine sq_store_own (v := .slice (some ⟨bt, 0, none⟩) n n) (i := i) (j := 0) (sz := 1) Tryd.sizeOf3 RF RF rfl RM hi' (by decide) ?_
    rw [iset, repT_set hi']
    refine sq_nil ?_
    refine sx_blk ?_
    refine sx_then ?_
    refine sc_region ?_
    refine qs (y_add RF RF (by omega)) ?_
    refine qs (y_move RF) ?_
    refine sq_nil ?_
    refine sx_round (i + 1) ?_ ?_ SU SR
    · omega
    · omega
  ·
    have hin : n = i := by omega
    subst hin
    refine sc_exit ?_
    refine sx_then_exit ?_
    refine sx_round_exit ?_
    refine sx_blk_hit ?_
    refine sx_then ?_
    refine sc_seq ?_
    refine sc_region ?_
    refine sq_alloc Tryd.zeroValue153 rfl (fun b7 => ?_)
    refine sq_nil ?_
    refine sx_then ?_
    refine sc_seq ?_
    refine sc_region ?_
    refine sq_alloc Tryd.zeroValue80 rfl (fun b8 => ?_)
    refine sq_nil ?_
    refine sx_then ?_
    refine sc_seq ?_
    refine sc_region ?_
    refine qs (y_makeFunc EvL.nil (EvL.cons RF (EvL.cons RF (EvL.cons RF (EvL.cons RF EvL.nil))))) ?_
    refine sq_store Tryd.sizeOf80 RF RF (by first | rfl | assumption) RM (by first | exact Nat.le_of_ble_eq_true rfl | simp | omega) ?_
    refine sq_nil ?_
    refine sx_then ?_
    refine sc_seq ?_
    refine sc_seq ?_
    refine sc_region ?_
    refine qs LD22 ?_
    refine qs (y_len Tryd.underlying22 RF) ?_
    refine qs (y_move RF) ?_
    refine sq_nil ?_
    refine sx_then ?_
    refine sc_block ?_
    refine sc_loop (σ := Nat × Value × List Int)
      (fun s_ => [(1, .int .i64 (n : Int)), (2, .pointer (some ⟨b2, 0, none⟩)), (4, .int .i64 (cntM R n s_.1 : Int)), (5, .pointer (some ⟨b5, 0, none⟩)), (7, .pointer (some ⟨b7, 0, none⟩)), (8, .pointer (some ⟨b8, 0, none⟩)), (23, .int .i64 R.length), (24, .int .i64 s_.1)])
      (fun s_ => [.blk b2 (.cells #[.slice ra R.length rc] 22 (0, 0)), .blk b7 (.cells #[s_.2.1] 153 (0, 0)), .blk b5 (.cells #[.slice (some ⟨bt, 0, none⟩) n n] 25 (0, 0)), .blk b8 (.cells #[.func (.func 106) #[] #[.pointer (some ⟨b2, 0, none⟩), .pointer (some ⟨b7, 0, none⟩), .pointer (some ⟨b5, 0, none⟩), .pointer (some ⟨b8, 0, none⟩)]] 80 (0, 0)), .own (.slice (some ⟨bt, 0, none⟩) n n) 3 1 n (s_.2.2.flatMap iRow), .reg 0 w])
      (fun s_ => s_.1 ≤ R.length ∧ s_.2.1.oneCell' = true ∧ TakF R n s_.2.2 (cntM R n s_.1))
      (fun s_ => R.length - s_.1)
      ((0, .slice none 0 0, repT n n)) ?_ SU SR ?_
    · exact ⟨Nat.zero_le _, rfl, takF0 R n⟩
    rintro ⟨i, x, T⟩ ⟨hi, hx, hT⟩
    dsimp only at hi hx hT ⊢
    refine sc_seq ?_
    refine sc_region ?_
    refine qs (y_lss RF RF) ?_
    refine sq_nil ?_
    refine sx_then ?_
    refine sc_seq ?_
    refine scp (fun hc1 => ?_) (fun hc1 => ?_)
    ·
      have hi' : i < R.length := by omega
      have hcl := cntM_le R n i
      refine sc_skip ?_
      refine sx_then ?_
      refine sc_seq ?_
      refine sc_block ?_
      refine sc_seq ?_
      refine sc_region ?_
      refine qs (y_move RF) ?_
      refine qs (y_assign RF) ?_
      refine sq_nil ?_
      refine sx_then ?_
      refine sc_seq ?_
      refine sc_region ?_
      refine qs (y_move RF) ?_
      refine sq_make Tryd.underlying153 ei4 RF RF (by omega) (by omega) (by omega) rfl (fun bs => ?_)
      rw [seenD_zero]
      refine sq_blk_own (n := n) (sz := 1) (xs := seenD n 0) RM (by rw [seenD_len, Nat.mul_one]) (by unfold maxLen; omega) ?_
      refine sq_store Tryd.sizeOf153 RF RF (by first | rfl | assumption) RM (by first | exact Nat.le_of_ble_eq_true rfl | simp | omega) ?_
      refine sq_nil ?_
      refine sx_then ?_
      refine sc_seq ?_
      refine sc_region ?_
      refine qs LD80 ?_
      refine qs (y_move RF) ?_
      refine sq_call_fr (first := []) (caps := [.pointer (some ⟨b2, 0, none⟩), .pointer (some ⟨b7, 0, none⟩), .pointer (some ⟨b5, 0, none⟩), .pointer (some ⟨b8, 0, none⟩)]) (vs := [.int .i64 (i : Int)]) (rs1 := .blk b2 (.cells #[.slice ra R.length rc] 22 (0, 0)) :: .blk b7 (.cells #[.slice (some ⟨bs, 0, none⟩) n n] 153 (0, 0)) :: .blk b5 (.cells #[.slice (some ⟨bt, 0, none⟩) n n] 25 (0, 0)) :: .blk b8 (.cells #[.func (.func 106) #[] #[.pointer (some ⟨b2, 0, none⟩), .pointer (some ⟨b7, 0, none⟩), .pointer (some ⟨b5, 0, none⟩), .pointer (some ⟨b8, 0, none⟩)]] 80 (0, 0)) :: .own (.slice (some ⟨bs, 0, none⟩) n n) 4 1 n (seenD n 0) :: .own (.slice (some ⟨bt, 0, none⟩) n n) 3 1 n (T.flatMap iRow) :: .reg 0 w :: []) (Z := List Int × Nat) (fun q => .bool (decide (cntM R n i < q.2))) (fun q => .blk b2 (.cells #[.slice ra R.length rc] 22 (0, 0)) :: .blk b7 (.cells #[.slice (some ⟨bs, 0, none⟩) n n] 153 (0, 0)) :: .blk b5 (.cells #[.slice (some ⟨bt, 0, none⟩) n n] 25 (0, 0)) :: .blk b8 (.cells #[.func (.func 106) #[] #[.pointer (some ⟨b2, 0, none⟩), .pointer (some ⟨b7, 0, none⟩), .pointer (some ⟨b5, 0, none⟩), .pointer (some ⟨b8, 0, none⟩)]] 80 (0, 0)) :: .own (.slice (some ⟨bs, 0, none⟩) n n) 4 1 n (seenD n (if 0 < (R.getD i []).length then min n (cntM R n i + 1) else 0)) :: .own (.slice (some ⟨bt, 0, none⟩) n n) 3 1 n (q.1.flatMap iRow) :: .reg 0 w :: []) (fun q => q.2 = (if 0 < (R.getD i []).length then n else 0) ∧ TakF R n q.1 (cntM R n (i + 1))) RF Tryd.call106 E1 (by repeat (first | exact Rems.nil | apply Rems.cons (by repeat (first | exact Rem.here | apply Rem.there)))) (fun w1 hw1 => ?_) rfl (fun q hq => ?_)
      ·
        rcases hF i hi' with he | he
        · refine (give106e w R n ra rc f cf hR hn b2 b7 b5 b8 bs bt T i _ w1 hi' he hw1).mono (fun e w' ⟨h1, h2⟩ => ⟨(T, 0), ⟨by rw [he]; rfl, ?_⟩, by rw [h1, decide_eq_false (Nat.not_lt_zero _)], ?_⟩)
          · show TakF R n T (cntM R n (i + 1))
            rw [show cntM R n (i + 1) = cntM R n i from if_neg (by rw [he]; simp)]; exact hT
          · rw [he]; exact h2
        · by_cases hn0 : 0 < n
          · have hlen : (R.getD i []).length = n := by rw [he, rngI_len]
            refine (giveAll w R n ra rc f cf hR hn b2 b7 b5 b8 bs bt (n + 1) 0 (by omega) (cntM R n i) T i _ w1 (Nat.zero_le _) (cntM_le R n i).1 hT hi' he hw1).mono (fun e w' ⟨T', h0, h1, h2⟩ => ⟨(T', n), ⟨by rw [hlen, if_pos hn0], ?_⟩, h1, ?_⟩)
            · show TakF R n T' (cntM R n (i + 1))
              have hle := (cntM_le R n i).1
              have : cntM R n (i + 1) = min n (cntM R n i + 1) := by
                show (if 0 < (R.getD i []).length ∧ cntM R n i < n then cntM R n i + 1 else cntM R n i) = _
                rw [hlen]
                split <;> omega
              rw [this]; exact h0
            · rw [hlen, if_pos hn0]; exact h2
          · have hz : n = 0 := by omega
            have he2 : R.getD i [] = [] := by rw [he, hz]; rfl
            refine (give106e w R n ra rc f cf hR hn b2 b7 b5 b8 bs bt T i _ w1 hi' he2 hw1).mono (fun e w' ⟨h1, h2⟩ => ⟨(T, 0), ⟨by rw [he2]; rfl, ?_⟩, by rw [h1, decide_eq_false (Nat.not_lt_zero _)], ?_⟩)
            · show TakF R n T (cntM R n (i + 1))
              rw [show cntM R n (i + 1) = cntM R n i from if_neg (by rw [he2]; simp)]; exact hT
            · rw [he2]; exact h2
      obtain ⟨T2, m2⟩ := q
      obtain ⟨hm2, hT2⟩ := hq
      dsimp only at hm2 hT2 ⊢
      refine sq_nil ?_
      refine sx_then ?_
      refine scp (fun hc2 => ?_) (fun hc2 => ?_)
      ·
        have hsuc : cntM R n (i + 1) = cntM R n i + 1 := by
          by_cases h0 : 0 < (R.getD i []).length
          · rw [if_pos h0] at hm2; exact if_pos ⟨h0, by omega⟩
          · rw [if_neg h0] at hm2; omega
        refine sc_region ?_
        refine qs (y_move RF) ?_
        refine qs (y_add RF RF (by omega)) ?_
        refine qs (y_assign RF) ?_
        refine sq_nil ?_
        refine sx_blk ?_
        refine sx_then ?_
        refine sc_region ?_
        refine qs (y_add RF RF (by omega)) ?_
        refine qs (y_move RF) ?_
        refine sq_nil ?_
        rw [show ((cntM R n i : Nat) : Int) + 1 = ((cntM R n (i + 1) : Nat) : Int) by omega]
        exact sx_round (i + 1, .slice (some ⟨bs, 0, none⟩) n n, T2) (by exact ⟨by dsimp only; omega, rfl, hT2⟩) (by dsimp only; omega) SU SR
      ·
        have hsuc : cntM R n (i + 1) = cntM R n i := by
          by_cases h0 : 0 < (R.getD i []).length
          · rw [if_pos h0] at hm2; exact if_neg (fun h => by omega)
          · exact if_neg (fun h => h0 h.1)
        refine sc_skip ?_
        refine sx_blk ?_
        refine sx_then ?_
        refine sc_region ?_
        refine qs (y_add RF RF (by omega)) ?_
        refine qs (y_move RF) ?_
        refine sq_nil ?_
        rw [← hsuc]
        exact sx_round (i + 1, .slice (some ⟨bs, 0, none⟩) n n, T2) (by exact ⟨by dsimp only; omega, rfl, hT2⟩) (by dsimp only; omega) SU SR
    ·
      have hin : i = R.length := by omega
      subst hin
      refine sc_exit ?_
      refine sx_then_exit ?_
      refine sx_round_exit ?_
      refine sx_blk_hit ?_
      refine sx_then ?_
      refine sc_seq ?_
      refine sc_region ?_
      refine qs (y_move RF) ?_
      refine qs (y_assign RF) ?_
      refine sq_nil ?_
      refine sx_then ?_
      refine sc_ret ?_
      refine sx_ret1 (.inl rfl) rfl Tryd.results97 RF ?_
      intro w' hw'
      exact ⟨rfl, hw'.below MM⟩
end Go.Proofs.YtpijahglojichaaDoor
