/- The walk of the law RingBest. -/
import Derived.Test.YtpijahglojichaaDoorWalk20
import Derived.Test.YtpijahglojichaaDoorLawM
namespace Go.Proofs.YtpijahglojichaaDoor
open Go Go.Eng Go.RowKit Go.Proofs
set_option maxRecDepth 100000
theorem cmpL_at : ∀ (a b : List Int) (i : Nat), i < a.length → i < b.length → (∀ j, j < i → a.getD j 0 = b.getD j 0) → a.getD i 0 ≠ b.getD i 0 → cmpL a b < 0 → a.getD i 0 < b.getD i 0
  | [], _, _, h, _, _, _, _ => by simp at h
  | _ :: _, [], _, _, h, _, _, _ => by simp at h
  | x :: a, y :: b, 0, _, _, _, hne, hc => by
    have hne : x ≠ y := hne
    show x < y
    unfold cmpL at hc
    by_cases h1 : x < y
    · exact h1
    · rw [if_neg h1] at hc
      by_cases h2 : y < x
      · rw [if_pos h2] at hc; omega
      · omega
  | x :: a, y :: b, i + 1, h1, h2, hj, hne, hc => by
    have h0 : x = y := hj 0 (by omega)
    subst h0
    unfold cmpL at hc
    rw [if_neg (Int.lt_irrefl _), if_neg (Int.lt_irrefl _)] at hc
    exact cmpL_at a b i (by simpa using h1) (by simpa using h2) (fun j h => hj (j + 1) (by omega)) hne hc
theorem best_first {m : Mt} {t : Td} (B : BestF m t) {o : List Int} (ho : ordB o m.length = true) (hf : fairI m o < 0) (hw : t.worth ≤ worthL m o) {i : Nat} (hi : i < m.length) (hj : ∀ j, j < i → t.gets.getD j 0 = o.getD j 0) (hne : t.gets.getD i 0 ≠ o.getD i 0) : t.gets.getD i 0 < o.getD i 0 := by
  have h1 := ord_len B.ord
  have h2 := ord_len ho
  rcases B.top o ho hf with h | h
  · exact absurd (by rw [← h]) hne
  · rcases (better_iff _ _).1 h with h3 | ⟨_, h3⟩
    · exact absurd h3 (by dsimp only; omega)
    · exact cmpL_at _ _ i (by omega) (by omega) hj hne h3
theorem gives_best {m : Mt} (h : mkB m = true) {o : List Int} (ho : ordB o m.length = true) (hf : fairI m o < 0) : givesR m o = (worthL m o, 0, 0) := by
  unfold givesR
  rw [if_neg (by simp [h]), if_neg (by simp [ho]), if_neg (by omega)]
theorem Gives16n (w : World) (z : MA) (m : Mt) (hz : MtA 0 w z m) (a : Option Addr) (c : Nat) (o : List Int) (ho : RowsA iRow 1 0 w a o) (h1000 : o.length ≤ 1000) {n : Nat} (hn : o.length = n) : Calls Tryd.prog 16 #[.agg (mV z m).toArray, .slice a n c] w fun e w' => e = .returned (.tuple #[.int .i64 (givesR m o).1, .int .i64 (givesR m o).2.1, .int .i64 (givesR m o).2.2]) ∧ Below w.heap.size w w' := by
  have h := Gives16 w z m hz a c o ho h1000
  rw [hn] at h; exact h
theorem worth34n (w : World) (z : MA) (m : Mt) (hz : MtA 0 w z m) (hm : MkF m) (a : Option Addr) (c : Nat) (o : List Int) (ho : RowsA iRow 1 0 w a o) (hv : ordB o m.length = true) : Calls Tryd.prog 34 #[.agg (mV z m).toArray, .slice a m.length c] w fun e w' => e = .returned (.int .i64 (worthL m o)) ∧ Below w.heap.size w w' := by
  have h := worth34 w z m hz hm a c o ho hv
  rw [ord_len hv] at h; exact h

theorem best6 (w : World) (z : MA) (m : Mt) (hz : MtA 0 w z m) (hT : TabAt w) (ab : Option Addr) (cb : Nat) (by_ : List Nat) (hb : RowsA uRow 1 0 w ab by_) (hby : ∀ x, x ∈ by_ → x ≤ 255) : Calls Tryd.prog 6 #[.agg (mV z m).toArray, .slice ab by_.length cb] w fun e w' => e = .returned (.bool true) ∧ Below w.heap.size w w' := by
  refine calls_of_SC (args := [.agg (mV z m).toArray, .slice ab by_.length cb]) Tryd.func6 rfl Tryd.ntmps6 rfl ?_
  simp only [argL, Nat.zero_add]
  refine sc_seq ?_
  refine sc_region ?_
  refine sq_box RF rfl (fun b2 => ?_)
  refine qs (y_assign RF) ?_
  refine sq_nil ?_
  refine sx_then ?_
  refine sc_seq ?_
  refine sc_seq ?_
  refine sc_region ?_
  refine qs LD24 ?_
  refine qy (yc Tryd.call14 E1 (fun w1 hw1 => far14 w1 z m (hz.at hw1 MM))) ?_
  refine sq_nil ?_
  refine sx_then ?_
  refine scp (fun hc0 => ?_) (fun hc0 => ?_)
  ·
    refine sc_seq ?_
    refine sc_region ?_
    refine qy (yc Tryd.call15 E0 (fun w1 hw1 => awake15 w1 (CA.at hT hw1 MM))) ?_
    refine qs (y_assign RF) ?_
    refine sq_nil ?_
    refine sx_then ?_
    refine sc_ret ?_
    refine sx_then_ret ?_
    refine sx_ret1 (.inl rfl) rfl Tryd.results6 RF ?_
    intro w' hw'
    exact ⟨rfl, hw'.below MM⟩
  ·
    refine sc_skip ?_
    refine sx_then ?_
    refine sc_seq ?_
    refine sc_region ?_
    refine qs LD24 ?_
    refine sq_call_new (first := []) (caps := []) (Z := Option Addr × Nat) (fun q => .tuple #[.slice q.1 (bestA m).1.length q.2, .int .i64 (bestA m).2.1, .int .i64 (bestA m).2.2]) (fun lo w' q => RowsA iRow 1 lo w' q.1 (bestA m).1) RF Tryd.call23 (EvL.cons RF EvL.nil) (fun w1 hw1 => Best23 w1 z m (hz.at hw1 MM) (CA.at hT hw1 MM)) rfl (fun lo3 wr3 y3 hy3 => ?_)
    refine qs (y_move RF) ?_
    refine qs (y_extract RF RF) ?_
    refine qs (y_extract RF RF) ?_
    refine qs (y_extract RF RF) ?_
    refine qs (y_assign RF) ?_
    refine qs (y_assign RF) ?_
    refine qs (y_assign RF) ?_
    refine sq_nil ?_
    refine sx_then ?_
    refine sc_seq ?_
    refine sc_seq ?_
    have hE : (bestA m).2.2 ≠ 0 → bestA m = ([], 0, 1) ∧ mkB m = false := fun h => by
      cases hb : mkB m with
      | true => rw [bestA_ok hb] at h; exact absurd rfl h
      | false => exact ⟨bestA_no hb, rfl⟩
    have hO : (bestA m).2.2 = 0 → mkB m = true := fun h => by
      cases hb : mkB m with
      | true => rfl
      | false => rw [bestA_no hb] at h; cases h
    refine sc_region ?_
    refine qs (y_move RF) ?_
    refine qs (y_neq RF RF) ?_
    refine sq_nil ?_
    refine sx_then ?_
    refine scp (fun hc1 => ?_) (fun hc1 => ?_)
    ·
      refine sc_seq ?_
      obtain ⟨hEq, hmf⟩ := hE hc1
      rw [hEq]
      refine sc_region ?_
      refine qs (y_move RF) ?_
      refine qs (y_len Tryd.underlying25 RF) ?_
      refine qs (y_eql RF RF) ?_
      refine qs (y_move RF) ?_
      refine sq_known (tt := 30) (b' := true) RF (rfl) ?_
      refine qg (y_move RF) ?_
      refine qg (y_eql RF RF) ?_
      refine qs (y_pick_t RF RF) ?_
      refine qs (y_move RF) ?_
      refine sq_known (tt := 34) (b' := true) RF (rfl) ?_
      refine qg (y_move RF) ?_
      refine qg (y_eql RF RF) ?_
      refine qs (y_pick_t RF RF) ?_
      refine qs (y_move RF) ?_
      refine sq_known (tt := 38) (b' := true) RF (rfl) ?_
      refine qg LD24 ?_
      refine sq_gt RF RF (y_call (first := []) (caps := []) RF Tryd.call30 (EvL.cons RF EvL.nil) (fun w1 hw1 => market30 w1 z m (hz.at hw1 MM))) rfl ?_
      refine qg (y_not RF) ?_
      refine qs (y_pick_t RF RF) ?_
      refine qs (y_move RF) ?_
      refine sq_known (tt := 43) (b' := true) RF (by rw [hmf]; rfl) ?_
      refine sq_gt RF RF (y_call (first := []) (caps := []) RF Tryd.call15 EvL.nil (fun w1 hw1 => awake15 w1 (CA.at hT hw1 MM))) rfl ?_
      refine qs (y_pick_t RF RF) ?_
      refine qs (y_assign RF) ?_
      refine sq_nil ?_
      refine sx_then ?_
      refine sc_ret ?_
      refine sx_then_ret ?_
      refine sx_ret1 (.inl rfl) rfl Tryd.results6 RF ?_
      intro w' hw'
      exact ⟨rfl, hw'.below MM⟩
    ·
      refine sc_skip ?_
      refine sx_then ?_
      refine sc_seq ?_
      have hmk := hO (by omega)
      have hm := mkF hmk
      have hn7 := hm.n7
      have B : BestF m (bestM m) := bestX_F hm
      have hgl := ord_len B.ord
      rw [bestA_ok hmk] at hy3 ⊢
      replace hy3 : RowsA iRow 1 lo3 wr3 y3.1 (bestM m).gets := hy3
      refine sc_region ?_
      refine qs LD24 ?_
      refine qs (y_move RF) ?_
      refine qy (yc Tryd.call16 E2 (fun w1 hw1 => Gives16n w1 z m (hz.at hw1 MM) y3.1 y3.2 (bestM m).gets (hy3.at hw1 MM) (by omega) rfl)) ?_
      refine qs (y_move RF) ?_
      refine qs (y_extract RF RF) ?_
      refine qs (y_extract RF RF) ?_
      refine qs (y_extract RF RF) ?_
      refine qs (y_assign RF) ?_
      refine qs (y_assign RF) ?_
      refine qs (y_assign RF) ?_
      refine sq_nil ?_
      refine sx_then ?_
      refine sc_seq ?_
      refine sc_seq ?_
      rw [gives_best hmk B.ord B.fair]
      refine sc_region ?_
      refine qs LD24 ?_
      refine qy (yc Tryd.call30 E1 (fun w1 hw1 => market30 w1 z m (hz.at hw1 MM))) ?_
      refine qs (y_not RF) ?_
      refine qs (y_move RF) ?_
      refine sq_known (tt := 56) (b' := false) RF (by rw [hmk]; rfl) ?_
      refine qg (y_move RF) ?_
      refine qg (y_neq RF RF) ?_
      refine qs (y_pick_f RF RF) ?_
      refine qs (y_move RF) ?_
      refine sq_known (tt := 60) (b' := false) RF (rfl) ?_
      refine qg (y_move RF) ?_
      refine qg (y_move RF) ?_
      refine qg (y_neq RF RF) ?_
      refine qs (y_pick_f RF RF) ?_
      refine qs (y_move RF) ?_
      refine sq_known (tt := 65) (b' := false) RF (by simp [B.worth]) ?_
      refine qg (y_move RF) ?_
      refine qg FA24_22 ?_
      refine qg LD22 ?_
      refine qg (y_len Tryd.underlying22 RF) ?_
      refine sq_gt RF RF (y_call (first := []) (caps := []) RF Tryd.call31 (EvL.cons RF (EvL.cons RF EvL.nil)) (fun w1 hw1 => exchange31 w1 y3.1 y3.2 (bestM m).gets (hy3.at hw1 MM) m.length (by omega))) rfl ?_
      refine qg (y_not RF) ?_
      refine qs (y_pick_f RF RF) ?_
      refine qs (y_move RF) ?_
      refine sq_known (tt := 73) (b' := false) RF (by rw [B.ord]; rfl) ?_
      refine qg LD24 ?_
      refine qg (y_move RF) ?_
      refine sq_gt RF RF (y_call (first := []) (caps := []) RF Tryd.call32 (EvL.cons RF (EvL.cons RF EvL.nil)) (fun w1 hw1 => fair32 w1 z m (hz.at hw1 MM) hm y3.1 y3.2 (bestM m).gets (hy3.at hw1 MM) B.ord)) rfl ?_
      refine qg (y_geq RF RF) ?_
      refine qs (y_pick_f RF RF) ?_
      refine sq_nil ?_
      refine sx_then ?_
      refine scp (fun hc2 => ?_) (fun hc2 => ?_)
      ·
        have := B.fair
        omega
      ·
        refine sc_skip ?_
        refine sx_then ?_
        refine sc_seq ?_
        refine sc_region ?_
        refine qs LD24 ?_
        refine qs (y_move RF) ?_
        refine sq_call_new (first := []) (caps := []) (Z := (Option Addr × Nat) × List Int) (fun r => .slice r.1.1 m.length r.1.2) (fun lo w' r => RowsA iRow 1 lo w' r.1.1 r.2 ∧ ordB r.2 m.length = true ∧ (true = true → fairI m r.2 < 0)) RF Tryd.call33 (EvL.cons RF (EvL.cons RF (EvL.cons RF EvL.nil))) (fun w1 hw1 => shuffled33 w1 z m (hz.at hw1 MM) hm true ab cb by_ (hb.at hw1 MM) hby) rfl (fun lo9 wr9 r9 hr9 => ?_)
        refine qs (y_assign RF) ?_
        refine sq_nil ?_
        refine sx_then ?_
        refine sc_seq ?_
        have hol := ord_len hr9.2.1
        have htop := (B.top r9.2 hr9.2.1 (hr9.2.2 rfl)).worth
        dsimp only at htop
        refine sc_region ?_
        refine qs LD24 ?_
        refine qs (y_move RF) ?_
        refine qy (yc Tryd.call16 E2 (fun w1 hw1 => Gives16n w1 z m (hz.at hw1 MM) r9.1.1 r9.1.2 r9.2 (hr9.1.at hw1 MM) (by omega) hol)) ?_
        refine qs (y_move RF) ?_
        refine qs (y_extract RF RF) ?_
        refine qs (y_extract RF RF) ?_
        refine qs (y_extract RF RF) ?_
        refine qs (y_assign RF) ?_
        refine qs (y_assign RF) ?_
        refine qs (y_assign RF) ?_
        refine sq_nil ?_
        refine sx_then ?_
        refine sc_seq ?_
        refine sc_seq ?_
        rw [gives_best hmk hr9.2.1 (hr9.2.2 rfl)]
        refine sc_region ?_
        refine qs (y_move RF) ?_
        refine qs (y_neq RF RF) ?_
        refine qs (y_move RF) ?_
        refine sq_known (tt := 91) (b' := false) RF (rfl) ?_
        refine qg (y_move RF) ?_
        refine qg (y_move RF) ?_
        refine qg (y_gtr RF RF) ?_
        refine qs (y_pick_f RF RF) ?_
        refine qs (y_move RF) ?_
        refine sq_known (tt := 96) (b' := false) RF (decide_eq_false (by dsimp only; omega)) ?_
        refine qg (y_move RF) ?_
        refine qg LD24 ?_
        refine qg (y_move RF) ?_
        refine sq_gt RF RF (y_call (first := []) (caps := []) RF Tryd.call34 (EvL.cons RF (EvL.cons RF EvL.nil)) (fun w1 hw1 => worth34n w1 z m (hz.at hw1 MM) hm r9.1.1 r9.1.2 r9.2 (hr9.1.at hw1 MM) hr9.2.1)) rfl ?_
        refine qg (y_neq RF RF) ?_
        refine qs (y_pick_f RF RF) ?_
        refine sq_nil ?_
        refine sx_then ?_
        refine scp (fun hc3 => ?_) (fun hc3 => ?_)
        ·
          exact absurd rfl hc3
        ·
          refine sc_skip ?_
          refine sx_then ?_
          refine sc_seq ?_
          refine sc_seq ?_
          refine sc_region ?_
          refine qs (y_move RF) ?_
          refine qs (y_move RF) ?_
          refine qs (y_lss RF RF) ?_
          refine sq_nil ?_
          refine sx_then ?_
          refine scp (fun hc4 => ?_) (fun hc4 => ?_)
          ·
            refine sc_seq ?_
            refine sc_region ?_
            refine qy (yc Tryd.call15 E0 (fun w1 hw1 => awake15 w1 (CA.at hT hw1 MM))) ?_
            refine qs (y_assign RF) ?_
            refine sq_nil ?_
            refine sx_then ?_
            refine sc_ret ?_
            refine sx_then_ret ?_
            refine sx_ret1 (.inl rfl) rfl Tryd.results6 RF ?_
            intro w' hw'
            exact ⟨rfl, hw'.below MM⟩
          ·
            refine sc_skip ?_
            refine sx_then ?_
            refine sc_seq ?_
            refine sc_seq ?_
            have hwe : (bestM m).worth ≤ worthL m r9.2 := by dsimp only at hc4; omega
            refine sc_region ?_
            refine qs (y_assign RF) ?_
            refine sq_nil ?_
            refine sx_then ?_
            refine sc_block ?_
            refine sc_loop (σ := Nat)
              (fun s => [(5, .slice y3.1 (bestM m).gets.length y3.2), (11, .slice r9.1.1 m.length r9.1.2), (15, .int .i64 s)])
              (fun s => [.reg lo9 wr9, .reg lo3 wr3, .reg 0 w])
              (fun s => s ≤ m.length ∧ ∀ j, j < s → (bestM m).gets.getD j 0 = r9.2.getD j 0)
              (fun s => m.length - s)
              (0) ?_ SU SR ?_
            · exact ⟨Nat.zero_le _, fun j h => absurd h (Nat.not_lt_zero j)⟩
            rintro i ⟨hi, hsame⟩
            refine sc_seq ?_
            refine sc_seq ?_
            refine sc_region ?_
            refine qs (y_move RF) ?_
            refine qs (y_move RF) ?_
            refine qs (y_len Tryd.underlying25 RF) ?_
            refine qs (y_lss RF RF) ?_
            refine sq_nil ?_
            refine sx_then ?_
            refine scp (fun hc5 => ?_) (fun hc5 => ?_)
            ·
              have hi' : i < m.length := by omega
              have hsg := (hy3.get 0 (show i < (bestM m).gets.length by omega)).1
              have hcg := (hy3.get 0 (show i < (bestM m).gets.length by omega)).2
              have hso := (hr9.1.get 0 (show i < r9.2.length by omega)).1
              have hco := (hr9.1.get 0 (show i < r9.2.length by omega)).2
              refine sc_skip ?_
              refine sx_then ?_
              refine sc_seq ?_
              refine sc_block ?_
              refine sc_seq ?_
              refine sc_drawX ([.reg lo9 wr9, .reg lo3 wr3]) (by kernel_rfl) ?_
              refine xj_s 0 RF (by kernel_rfl) SR (y_move RF) rfl ?_
              refine xj_s 1 RF (by kernel_rfl) SR (y_move RF) rfl ?_
              refine xj_s 2 RF (by kernel_rfl) SR IA25 rfl ?_
              refine xj_s 3 RF (by kernel_rfl) SR (by first | exact y_load_ca0 Tryd.underlying3 rfl RF MM hcg rfl | exact LD3) rfl ?_
              refine xj_s 4 RF (by kernel_rfl) SR (y_move RF) rfl ?_
              refine xj_s 5 RF (by kernel_rfl) SR (y_move RF) rfl ?_
              refine xj_s 6 RF (by kernel_rfl) SR IA25 rfl ?_
              refine xj_s 7 RF (by kernel_rfl) SR (by first | exact y_load_ca0 Tryd.underlying3 rfl RF MM hco rfl | exact LD3) rfl ?_
              refine xj_s 8 RF (by kernel_rfl) SR (y_neq RF RF) rfl ?_
              refine xj_done (by kernel_rfl) ?_
              refine sx_then ?_
              refine scp (fun hc6 => ?_) (fun hc6 => ?_)
              ·
                refine sc_seq ?_
                refine sc_drawX ([.reg lo9 wr9, .reg lo3 wr3, .reg 0 w]) (by kernel_rfl) ?_
                refine xj_s 0 RF (by kernel_rfl) SR (y_move RF) rfl ?_
                refine xj_s 1 RF (by kernel_rfl) SR (y_move RF) rfl ?_
                refine xj_s 2 RF (by kernel_rfl) SR IA25 rfl ?_
                refine xj_s 3 RF (by kernel_rfl) SR (by first | exact y_load_ca0 Tryd.underlying3 rfl RF MM hcg rfl | exact LD3) rfl ?_
                refine xj_s 4 RF (by kernel_rfl) SR (y_move RF) rfl ?_
                refine xj_s 5 RF (by kernel_rfl) SR (y_move RF) rfl ?_
                refine xj_s 6 RF (by kernel_rfl) SR IA25 rfl ?_
                refine xj_s 7 RF (by kernel_rfl) SR (by first | exact y_load_ca0 Tryd.underlying3 rfl RF MM hco rfl | exact LD3) rfl ?_
                refine xj_s 8 RF (by kernel_rfl) SR (y_lss RF RF) rfl ?_
                refine xj_s 9 RF (by kernel_rfl) SR (y_move RF) rfl ?_
                refine xj_known (tt := 131) (b' := true) RF (decide_eq_true (best_first B hr9.2.1 (hr9.2.2 rfl) hwe hi' hsame hc6)) ?_
                refine xj_one 10 RF (by kernel_rfl) ?_
                refine sq_gt RF RF (y_call (first := []) (caps := []) RF Tryd.call15 EvL.nil (fun w1 hw1 => awake15 w1 (CA.at hT hw1 MM))) rfl ?_
                refine sq_nil ?_
                refine sx_xp SR ?_
                refine xj_s 11 RF (by kernel_rfl) SR (y_pick_t RF RF) rfl ?_
                refine xj_s 12 RF (by kernel_rfl) SR (y_assign RF) rfl ?_
                refine xj_done (by kernel_rfl) ?_
                refine sx_then ?_
                refine sc_ret ?_
                refine sx_blk_ret ?_
                refine sx_then_ret ?_
                refine sx_round_ret ?_
                refine sx_blk_ret ?_
                refine sx_then_ret ?_
                refine sx_ret1 (.inl rfl) rfl Tryd.results6 RF ?_
                intro w' hw'
                exact ⟨rfl, hw'.below MM⟩
              ·
                refine sc_skip ?_
                refine sx_blk ?_
                refine sx_then ?_
                refine sc_region ?_
                refine qs (y_move RF) ?_
                refine qs (y_add RF RF (by omega)) ?_
                refine qs (y_assign RF) ?_
                refine sq_nil ?_
                refine sx_round (i + 1) ?_ ?_ SU SR
                · refine ⟨by omega, fun j hj => ?_⟩
                  rcases Nat.lt_or_ge j i with h | h
                  · exact hsame j h
                  · have : j = i := by omega
                    rw [this]; omega
                · omega
            ·
              refine sc_exit ?_
              refine sx_then_exit ?_
              refine sx_round_exit ?_
              refine sx_blk_hit ?_
              refine sx_then ?_
              refine sc_seq ?_
              refine sc_region ?_
              refine qy (yc Tryd.call15 E0 (fun w1 hw1 => awake15 w1 (CA.at hT hw1 MM))) ?_
              refine qs (y_assign RF) ?_
              refine sq_nil ?_
              refine sx_then ?_
              refine sc_ret ?_
              refine sx_ret1 (.inl rfl) rfl Tryd.results6 RF ?_
              intro w' hw'
              exact ⟨rfl, hw'.below MM⟩
end Go.Proofs.YtpijahglojichaaDoor
