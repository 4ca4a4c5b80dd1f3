/- The walk of the law RingProof. -/
import Derived.Test.YtpijahglojichaaDoorWalk20
import Derived.Test.YtpijahglojichaaDoorLawT
namespace Go.Proofs.YtpijahglojichaaDoor
open Go Go.Eng Go.RowKit Go.Proofs
set_option maxRecDepth 100000
theorem Envies20n (w : World) (z : MA) (m : Mt) (hz : MtA 0 w z m) (a : Option Addr) (c : Nat) (o : List Int) (ho : RowsA iRow 1 0 w a o) (h1000 : o.length ≤ 1000) (ap : Option Addr) (cp n : Nat) (p : List Int) (hn : p.length = n) (hp : RowsA iRow 1 0 w ap p) : Calls Tryd.prog 20 #[.agg (mV z m).toArray, .slice a o.length c, .slice ap n cp] w fun e w' => e = .returned (.tuple #[.int .i64 (envR m o p).1, .int .i64 (envR m o p).2.1, .int .i64 (envR m o p).2.2]) ∧ Below w.heap.size w w' := by
  have h := Envies20 w z m hz a c o ho h1000 ap cp p hp
  rw [hn] at h; exact h
theorem worth34p (w : World) (z : MA) (m : Mt) (hz : MtA 0 w z m) (hm : MkF m) (a : Option Addr) (c : Nat) (o : List Int) (ho : RowsA iRow 1 0 w a o) (hv : ordB o m.length = true) : Calls Tryd.prog 34 #[.agg (mV z m).toArray, .slice a m.length c] w fun e w' => e = .returned (.int .i64 (worthL m o)) ∧ Below w.heap.size w w' := by
  have h := worth34 w z m hz hm a c o ho hv
  rw [ord_len hv] at h; exact h
theorem lowL_at {n : Nat} (p : List Int) (less : Int) (i : Nat) {k : Nat} (h : k < n) : (lowL n p less i k)[k]? = some (p.getD k 0) := by
  rw [get_of_lt 0 (by rw [lowL_len]; exact h), lowL_get p less i k h, if_neg (fun e => Nat.lt_irrefl _ e.1)]

theorem proof7 (w : World) (z : MA) (m : Mt) (hz : MtA 0 w z m) (hT : TabAt w) (ab : Option Addr) (cb : Nat) (by_ : List Nat) (hb : RowsA uRow 1 0 w ab by_) (hby : ∀ x, x ∈ by_ → x ≤ 255) (less : Nat) (hless : less ≤ 65535) : Calls Tryd.prog 7 #[.agg (mV z m).toArray, .slice ab by_.length cb, .int .u16 (less : Int)] w fun e w' => e = .returned (.bool true) ∧ Below w.heap.size w w' := by
  refine calls_of_SC (args := [.agg (mV z m).toArray, .slice ab by_.length cb, .int .u16 (less : Int)]) Tryd.func7 rfl Tryd.ntmps7 rfl ?_
  simp only [argL, Nat.reduceAdd, Nat.zero_add]
  refine sc_seq ?_
  refine sc_region ?_
  refine sq_box RF rfl (fun b3 => ?_)
  refine qs (y_assign RF) ?_
  refine sq_nil ?_
  refine sx_then ?_
  refine sc_seq ?_
  refine sc_seq ?_
  refine sc_region ?_
  refine qs LD24 ?_
  refine qy (yc Tryd.call14 E1 (fun w1 hw1 => far14 w1 z m (hz.at hw1 MM))) ?_
  refine sq_nil ?_
  refine sx_then ?_
  refine scp (fun hc0 => ?_) (fun hc0 => ?_)
  ·
    refine sc_seq ?_
    refine sc_region ?_
    refine qy (yc Tryd.call15 E0 (fun w1 hw1 => awake15 w1 (CA.at hT hw1 MM))) ?_
    refine qs (y_assign RF) ?_
    refine sq_nil ?_
    refine sx_then ?_
    refine sc_ret ?_
    refine sx_then_ret ?_
    refine sx_ret1 (.inl rfl) rfl Tryd.results7 RF ?_
    intro w' hw'
    exact ⟨rfl, hw'.below MM⟩
  ·
    refine sc_skip ?_
    refine sx_then ?_
    refine sc_seq ?_
    refine sc_region ?_
    refine qs LD24 ?_
    refine sq_call_new (first := []) (caps := []) (Z := Option Addr × Nat) (fun q => .tuple #[.slice q.1 (bestA m).1.length q.2, .int .i64 (bestA m).2.1, .int .i64 (bestA m).2.2]) (fun lo w' q => RowsA iRow 1 lo w' q.1 (bestA m).1) RF Tryd.call23 (EvL.cons RF EvL.nil) (fun w1 hw1 => Best23 w1 z m (hz.at hw1 MM) (CA.at hT hw1 MM)) rfl (fun lo3 wr3 y3 hy3 => ?_)
    refine qs (y_move RF) ?_
    refine qs (y_extract RF RF) ?_
    refine qs (y_extract RF RF) ?_
    refine qs (y_extract RF RF) ?_
    refine qs (y_assign RF) ?_
    refine qs (y_assign RF) ?_
    refine qs (y_assign RF) ?_
    refine sq_nil ?_
    refine sx_then ?_
    refine sc_seq ?_
    refine sc_region ?_
    refine qs LD24 ?_
    refine sq_call_new (first := []) (caps := []) (Z := Option Addr × Nat) (fun q => .tuple #[.slice q.1 (priceA m).1.length q.2, .int .i64 (priceA m).2]) (fun lo w' q => RowsA iRow 1 lo w' q.1 (priceA m).1) RF Tryd.call25 (EvL.cons RF EvL.nil) (fun w1 hw1 => Prices25 w1 z m (hz.at hw1 MM) (CA.at hT hw1 MM)) rfl (fun lo4 wr4 y4 hy4 => ?_)
    refine qs (y_move RF) ?_
    refine qs (y_extract RF RF) ?_
    refine qs (y_extract RF RF) ?_
    refine qs (y_assign RF) ?_
    refine qs (y_assign RF) ?_
    refine sq_nil ?_
    refine sx_then ?_
    refine sc_seq ?_
    refine sc_seq ?_
    have hE : (bestA m).2.2 ≠ 0 → mkB m = false := fun h => by
      cases hb : mkB m with
      | true => rw [bestA_ok hb] at h; exact absurd rfl h
      | false => rfl
    have hO : (bestA m).2.2 = 0 → mkB m = true := fun h => by
      cases hb : mkB m with
      | true => rfl
      | false => rw [bestA_no hb] at h; cases h
    refine sc_region ?_
    refine qs (y_move RF) ?_
    refine qs (y_neq RF RF) ?_
    refine qs (y_move RF) ?_
    refine sp 47 (fun hg5_2 => ?_) (fun hg5_2 => ?_)
    ·
      refine qf ?_
      refine qf ?_
      refine qs (y_pick_t RF RF) ?_
      refine sq_nil ?_
      refine sx_then ?_
      refine sc_t RF ?_
      refine sc_seq ?_
      have hmf := hE (by omega)
      rw [bestA_no hmf, priceA_no hmf]
      refine sc_region ?_
      refine qs (y_move RF) ?_
      refine qs (y_move RF) ?_
      refine qs (y_eql RF RF) ?_
      refine qs (y_move RF) ?_
      refine sq_known (tt := 54) (b' := true) RF (rfl) ?_
      refine qg (y_move RF) ?_
      refine qg (y_eql RF RF) ?_
      refine qs (y_pick_t RF RF) ?_
      refine qs (y_move RF) ?_
      refine sq_known (tt := 58) (b' := true) RF (rfl) ?_
      refine qg (y_move RF) ?_
      refine qg (y_len Tryd.underlying25 RF) ?_
      refine qg (y_eql RF RF) ?_
      refine qs (y_pick_t RF RF) ?_
      refine qs (y_move RF) ?_
      refine sq_known (tt := 63) (b' := true) RF (rfl) ?_
      refine sq_gt RF RF (y_call (first := []) (caps := []) RF Tryd.call15 EvL.nil (fun w1 hw1 => awake15 w1 (CA.at hT hw1 MM))) rfl ?_
      refine qs (y_pick_t RF RF) ?_
      refine qs (y_assign RF) ?_
      refine sq_nil ?_
      refine sx_then ?_
      refine sc_ret ?_
      refine sx_then_ret ?_
      refine sx_ret1 (.inl rfl) rfl Tryd.results7 RF ?_
      intro w' hw'
      exact ⟨rfl, hw'.below MM⟩
    ·
      refine qg (y_move RF) ?_
      refine qg (y_neq RF RF) ?_
      refine qs (y_pick_f RF RF) ?_
      refine sq_nil ?_
      refine sx_then ?_
      refine scp (fun hc1 => ?_) (fun hc1 => ?_)
      ·
        have hmk := hO (by omega)
        rw [priceA_ok hmk] at hc1
        exact absurd rfl hc1
      ·
        refine sc_skip ?_
        refine sx_then ?_
        refine sc_seq ?_
        have hmk := hO (by omega)
        have hm := mkF hmk
        have hn7 := hm.n7
        have B : BestF m (bestM m) := bestX_F hm
        have hgl := ord_len B.ord
        obtain ⟨p, hpA, hF⟩ : ∃ p, priceA m = (p, 0) ∧ PriceF m (bestM m).gets p := ⟨_, priceA_ok hmk, price_F hm B⟩
        rw [bestA_ok hmk] at hy3 ⊢
        rw [hpA] at hy4 ⊢
        replace hy3 : RowsA iRow 1 lo3 wr3 y3.1 (bestM m).gets := hy3
        replace hy4 : RowsA iRow 1 lo4 wr4 y4.1 p := hy4
        have hpl := hF.len
        refine sc_region ?_
        refine qs FA24_22 ?_
        refine qs LD22 ?_
        refine qs (y_len Tryd.underlying22 RF) ?_
        refine qs (y_assign RF) ?_
        refine sq_nil ?_
        refine sx_then ?_
        refine sc_seq ?_
        refine sc_seq ?_
        refine sc_region ?_
        refine qs LD24 ?_
        refine qy (yc Tryd.call30 E1 (fun w1 hw1 => market30 w1 z m (hz.at hw1 MM))) ?_
        refine qs (y_not RF) ?_
        refine qs (y_move RF) ?_
        refine sq_known (tt := 72) (b' := false) RF (by rw [hmk]; rfl) ?_
        refine qg (y_move RF) ?_
        refine qg (y_len Tryd.underlying25 RF) ?_
        refine qg (y_move RF) ?_
        refine qg (y_neq RF RF) ?_
        refine qs (y_pick_f RF RF) ?_
        refine qs (y_move RF) ?_
        refine sq_known (tt := 78) (b' := false) RF (by simp [hpl]) ?_
        refine qg (y_move RF) ?_
        refine qg (y_move RF) ?_
        refine sq_gt RF RF (y_call (first := []) (caps := []) RF Tryd.call31 (EvL.cons RF (EvL.cons RF EvL.nil)) (fun w1 hw1 => exchange31 w1 y3.1 y3.2 (bestM m).gets (hy3.at hw1 MM) m.length (by omega))) rfl ?_
        refine qg (y_not RF) ?_
        refine qs (y_pick_f RF RF) ?_
        refine sq_nil ?_
        refine sx_then ?_
        refine scp (fun hc2 => ?_) (fun hc2 => ?_)
        ·
          rw [B.ord] at hc2
          cases hc2
        ·
          refine sc_skip ?_
          refine sx_then ?_
          refine sc_seq ?_
          refine sc_seq ?_
          refine sc_region ?_
          refine qs (y_move RF) ?_
          refine qs (y_len Tryd.underlying25 RF) ?_
          refine qs (y_move RF) ?_
          refine sq_nil ?_
          refine sx_then ?_
          refine sc_block ?_
          refine sc_loop (σ := Nat)
            (fun s => [(1, .slice ab by_.length cb), (8, .int .i64 (bestM m).worth), (2, .int .u16 (less : Int)), (3, .pointer (some ⟨b3, 0, none⟩)), (7, .slice y3.1 (bestM m).gets.length y3.2), (10, .slice y4.1 p.length y4.2), (12, .int .i64 m.length), (84, .slice y4.1 p.length y4.2), (85, .int .i64 p.length), (86, .int .i64 s)])
            (fun s => [.reg lo4 wr4, .reg lo3 wr3, .blk b3 (.cells (mV z m).toArray 24 (0, 0)), .reg 0 w])
            (fun s => s ≤ m.length)
            (fun s => m.length - s)
            (0) ?_ SU SR ?_
          · exact Nat.zero_le _
          rintro k hk
          refine sc_seq ?_
          refine sc_region ?_
          refine qs (y_lss RF RF) ?_
          refine sq_nil ?_
          refine sx_then ?_
          refine sc_seq ?_
          refine scp (fun hc3 => ?_) (fun hc3 => ?_)
          ·
            have hk' : k < m.length := by omega
            have hsp := (hy4.get 0 (show k < p.length by omega)).1
            have hcp := (hy4.get 0 (show k < p.length by omega)).2
            refine sc_skip ?_
            refine sx_then ?_
            refine sc_seq ?_
            refine sc_block ?_
            refine sc_seq ?_
            refine sc_region ?_
            refine qs IA25 ?_
            refine qs (by first | exact y_load_ca0 Tryd.underlying3 rfl RF MM hcp rfl | exact LD3) ?_
            refine qs (y_assign RF) ?_
            refine sq_nil ?_
            refine sx_then ?_
            refine sc_seq ?_
            refine sc_region ?_
            refine qs (y_move RF) ?_
            refine qs (y_lss RF RF) ?_
            refine qs (y_move RF) ?_
            refine sq_known (tt := 92) (b' := false) RF (decide_eq_false (by have := hF.lo k; omega)) ?_
            refine qg (y_move RF) ?_
            refine qg (y_gtr RF RF) ?_
            refine qs (y_pick_f RF RF) ?_
            refine sq_nil ?_
            refine sx_then ?_
            refine scp (fun hc4 => ?_) (fun hc4 => ?_)
            ·
              have := hF.hi k
              omega
            ·
              refine sc_skip ?_
              refine sx_blk ?_
              refine sx_then ?_
              refine sc_region ?_
              refine qs (y_add RF RF (by omega)) ?_
              refine qs (y_move RF) ?_
              refine sq_nil ?_
              refine sx_round (k + 1) ?_ ?_ SU SR
              · omega
              · omega
          ·
            refine sc_exit ?_
            refine sx_then_exit ?_
            refine sx_round_exit ?_
            refine sx_blk_hit ?_
            refine sx_then ?_
            refine sc_seq ?_
            refine sc_region ?_
            refine qs LD24 ?_
            refine qs (y_move RF) ?_
            refine qs (y_move RF) ?_
            refine qy (yc Tryd.call20 E3 (fun w1 hw1 => Envies20 w1 z m (hz.at hw1 MM) y3.1 y3.2 (bestM m).gets (hy3.at hw1 MM) (by omega) y4.1 y4.2 p (hy4.at hw1 MM))) ?_
            refine qs (y_move RF) ?_
            refine qs (y_extract RF RF) ?_
            refine qs (y_extract RF RF) ?_
            refine qs (y_extract RF RF) ?_
            refine qs (y_assign RF) ?_
            refine qs (y_assign RF) ?_
            refine qs (y_assign RF) ?_
            refine sq_nil ?_
            refine sx_then ?_
            refine sc_seq ?_
            refine sc_seq ?_
            rw [env_price hmk B.ord B.fair hF]
            refine sc_region ?_
            refine qs (y_move RF) ?_
            refine qs (y_neq RF RF) ?_
            refine sq_nil ?_
            refine sx_then ?_
            refine scp (fun hc5 => ?_) (fun hc5 => ?_)
            ·
              exact absurd rfl hc5
            ·
              refine sc_skip ?_
              refine sx_then ?_
              refine sc_seq ?_
              refine sc_region ?_
              refine qs LD24 ?_
              refine qs (y_move RF) ?_
              refine sq_call_new (first := []) (caps := []) (Z := (Option Addr × Nat) × List Int) (fun r => .slice r.1.1 m.length r.1.2) (fun lo w' r => RowsA iRow 1 lo w' r.1.1 r.2 ∧ ordB r.2 m.length = true ∧ (true = true → fairI m r.2 < 0)) RF Tryd.call33 (EvL.cons RF (EvL.cons RF (EvL.cons RF EvL.nil))) (fun w1 hw1 => shuffled33 w1 z m (hz.at hw1 MM) hm true ab cb by_ (hb.at hw1 MM) hby) rfl (fun lo19 wr19 r19 hr19 => ?_)
              refine qs (y_assign RF) ?_
              refine sq_nil ?_
              refine sx_then ?_
              refine sc_seq ?_
              have hol := ord_len hr19.2.1
              have htop := (B.top r19.2 hr19.2.1 (hr19.2.2 rfl)).worth
              dsimp only at htop
              refine sc_region ?_
              refine qs (y_assign RF) ?_
              refine qs (y_assign RF) ?_
              refine sq_nil ?_
              refine sx_then ?_
              refine sc_seq ?_
              refine sc_seq ?_
              refine sc_region ?_
              refine qs (y_assign RF) ?_
              refine sq_nil ?_
              refine sx_then ?_
              refine sc_block ?_
              refine sc_loop (σ := Nat)
                (fun s => [(1, .slice ab by_.length cb), (8, .int .i64 (bestM m).worth), (2, .int .u16 (less : Int)), (3, .pointer (some ⟨b3, 0, none⟩)), (7, .slice y3.1 (bestM m).gets.length y3.2), (10, .slice y4.1 p.length y4.2), (12, .int .i64 m.length), (18, .slice r19.1.1 m.length r19.1.2), (19, .int .i64 (gainN m p (bestM m).gets s)), (20, .int .i64 (gainN m p r19.2 s)), (21, .int .i64 s)])
                (fun s => [.reg lo19 wr19, .reg lo4 wr4, .reg lo3 wr3, .blk b3 (.cells (mV z m).toArray 24 (0, 0)), .reg 0 w])
                (fun s => s ≤ m.length)
                (fun s => m.length - s)
                (0) ?_ SU SR ?_
              · exact Nat.zero_le _
              rintro i hi
              refine sc_seq ?_
              refine sc_seq ?_
              refine sc_region ?_
              refine qs (y_move RF) ?_
              refine qs (y_move RF) ?_
              refine qs (y_lss RF RF) ?_
              refine sq_nil ?_
              refine sx_then ?_
              refine scp (fun hc6 => ?_) (fun hc6 => ?_)
              ·
                have hi' : i < m.length := by omega
                obtain ⟨hs1, hr1, hrow⟩ := hz.row hi'
                have hrl := hm.row i hi'
                obtain ⟨hge, hgl2⟩ := ord_get B.ord hi'
                obtain ⟨hoe, hol2⟩ := ord_get hr19.2.1 hi'
                obtain ⟨_, _, hs2, hwg⟩ := hz.cell hi' (show getN (bestM m).gets i < (m.getD i []).length by omega)
                obtain ⟨_, _, _, hwo⟩ := hz.cell hi' (show getN r19.2 i < (m.getD i []).length by omega)
                have hs3 := (hy3.get 0 (show i < (bestM m).gets.length by omega)).1
                have hcg := (hy3.get 0 (show i < (bestM m).gets.length by omega)).2
                rw [hge] at hcg
                have hs4 := (hr19.1.get 0 (show i < r19.2.length by omega)).1
                have hco := (hr19.1.get 0 (show i < r19.2.length by omega)).2
                rw [hoe] at hco
                have hs5 := (hy4.get 0 (show i < p.length by omega)).1
                have hpi := (hy4.get 0 (show i < p.length by omega)).2
                have hpg := (hy4.get 0 (show getN (bestM m).gets i < p.length by omega)).2
                have hpo := (hy4.get 0 (show getN r19.2 i < p.length by omega)).2
                have hb1 := hm.bd i (getN (bestM m).gets i)
                have hb2 := hm.bd i (getN r19.2 i)
                have hb3 := hF.lo i
                have hb4 := hF.hi i
                have hb5 := hF.lo (getN (bestM m).gets i)
                have hb6 := hF.hi (getN (bestM m).gets i)
                have hb7 := hF.lo (getN r19.2 i)
                have hb8 := hF.hi (getN r19.2 i)
                have hg1 := gainN_bd hm hF (bestM m).gets i
                have hg2 := gainN_bd hm hF r19.2 i
                have hg3 := gain_bd hm hF (bestM m).gets i
                have hg4 := gain_bd hm hF r19.2 i
                refine sc_skip ?_
                refine sx_then ?_
                refine sc_seq ?_
                refine sc_block ?_
                refine sc_seq ?_
                refine sc_drawX ([.reg lo19 wr19, .reg lo4 wr4, .reg lo3 wr3, .blk b3 (.cells (mV z m).toArray 24 (0, 0)), .reg 0 w]) (by kernel_rfl) ?_
                refine xj_s 0 RF (by kernel_rfl) SR FA24_22 rfl ?_
                refine xj_s 1 RF (by kernel_rfl) SR LD22 rfl ?_
                refine xj_s 2 RF (by kernel_rfl) SR (y_move RF) rfl ?_
                refine xj_s 3 RF (by kernel_rfl) SR IA22 rfl ?_
                refine xj_s 4 RF (by kernel_rfl) SR (by first | exact y_load_ca0 Tryd.underlying25 rfl RF MM hr1 rfl | exact LD25) rfl ?_
                refine xj_s 5 RF (by kernel_rfl) SR (y_move RF) rfl ?_
                refine xj_s 6 RF (by kernel_rfl) SR (y_move RF) rfl ?_
                refine xj_s 7 RF (by kernel_rfl) SR IA25 rfl ?_
                refine xj_s 8 RF (by kernel_rfl) SR (by first | exact y_load_ca0 Tryd.underlying3 rfl RF MM hcg rfl | exact LD3) rfl ?_
                refine xj_s 9 RF (by kernel_rfl) SR IA25 rfl ?_
                refine xj_s 10 RF (by kernel_rfl) SR (by first | exact y_load_ca0 Tryd.underlying3 rfl RF MM hwg rfl | exact LD3) rfl ?_
                refine xj_s 11 RF (by kernel_rfl) SR (y_move RF) rfl ?_
                refine xj_s 12 RF (by kernel_rfl) SR (y_move RF) rfl ?_
                refine xj_s 13 RF (by kernel_rfl) SR (y_move RF) rfl ?_
                refine xj_s 14 RF (by kernel_rfl) SR IA25 rfl ?_
                refine xj_s 15 RF (by kernel_rfl) SR (by first | exact y_load_ca0 Tryd.underlying3 rfl RF MM hcg rfl | exact LD3) rfl ?_
                refine xj_s 16 RF (by kernel_rfl) SR IA25 rfl ?_
                refine xj_s 17 RF (by kernel_rfl) SR (by first | exact y_load_ca0 Tryd.underlying3 rfl RF MM hpg rfl | exact LD3) rfl ?_
                refine xj_s 18 RF (by kernel_rfl) SR (y_sub RF RF (by omega)) rfl ?_
                refine xj_s 19 RF (by kernel_rfl) SR (y_move RF) rfl ?_
                refine xj_s 20 RF (by kernel_rfl) SR (y_move RF) rfl ?_
                refine xj_s 21 RF (by kernel_rfl) SR IA25 rfl ?_
                refine xj_s 22 RF (by kernel_rfl) SR (by first | exact y_load_ca0 Tryd.underlying3 rfl RF MM hpi rfl | exact LD3) rfl ?_
                refine xj_s 23 RF (by kernel_rfl) SR (y_add RF RF (by omega)) rfl ?_
                rw [show wv m i (getN (bestM m).gets i) - p.getD (getN (bestM m).gets i) 0 + p.getD i 0 = gainI m p (bestM m).gets i from rfl]
                refine xj_s 24 RF (by kernel_rfl) SR (y_assign RF) rfl ?_
                refine xj_done (by kernel_rfl) ?_
                refine sx_then ?_
                refine sc_seq ?_
                refine sc_drawX ([.reg lo19 wr19, .reg lo4 wr4, .reg lo3 wr3, .blk b3 (.cells (mV z m).toArray 24 (0, 0)), .reg 0 w]) (by kernel_rfl) ?_
                refine xj_s 0 RF (by kernel_rfl) SR FA24_22 rfl ?_
                refine xj_s 1 RF (by kernel_rfl) SR LD22 rfl ?_
                refine xj_s 2 RF (by kernel_rfl) SR (y_move RF) rfl ?_
                refine xj_s 3 RF (by kernel_rfl) SR IA22 rfl ?_
                refine xj_s 4 RF (by kernel_rfl) SR (by first | exact y_load_ca0 Tryd.underlying25 rfl RF MM hr1 rfl | exact LD25) rfl ?_
                refine xj_s 5 RF (by kernel_rfl) SR (y_move RF) rfl ?_
                refine xj_s 6 RF (by kernel_rfl) SR (y_move RF) rfl ?_
                refine xj_s 7 RF (by kernel_rfl) SR IA25 rfl ?_
                refine xj_s 8 RF (by kernel_rfl) SR (by first | exact y_load_ca0 Tryd.underlying3 rfl RF MM hco rfl | exact LD3) rfl ?_
                refine xj_s 9 RF (by kernel_rfl) SR IA25 rfl ?_
                refine xj_s 10 RF (by kernel_rfl) SR (by first | exact y_load_ca0 Tryd.underlying3 rfl RF MM hwo rfl | exact LD3) rfl ?_
                refine xj_s 11 RF (by kernel_rfl) SR (y_move RF) rfl ?_
                refine xj_s 12 RF (by kernel_rfl) SR (y_move RF) rfl ?_
                refine xj_s 13 RF (by kernel_rfl) SR (y_move RF) rfl ?_
                refine xj_s 14 RF (by kernel_rfl) SR IA25 rfl ?_
                refine xj_s 15 RF (by kernel_rfl) SR (by first | exact y_load_ca0 Tryd.underlying3 rfl RF MM hco rfl | exact LD3) rfl ?_
                refine xj_s 16 RF (by kernel_rfl) SR IA25 rfl ?_
                refine xj_s 17 RF (by kernel_rfl) SR (by first | exact y_load_ca0 Tryd.underlying3 rfl RF MM hpo rfl | exact LD3) rfl ?_
                refine xj_s 18 RF (by kernel_rfl) SR (y_sub RF RF (by omega)) rfl ?_
                refine xj_s 19 RF (by kernel_rfl) SR (y_move RF) rfl ?_
                refine xj_s 20 RF (by kernel_rfl) SR (y_move RF) rfl ?_
                refine xj_s 21 RF (by kernel_rfl) SR IA25 rfl ?_
                refine xj_s 22 RF (by kernel_rfl) SR (by first | exact y_load_ca0 Tryd.underlying3 rfl RF MM hpi rfl | exact LD3) rfl ?_
                refine xj_s 23 RF (by kernel_rfl) SR (y_add RF RF (by omega)) rfl ?_
                rw [show wv m i (getN r19.2 i) - p.getD (getN r19.2 i) 0 + p.getD i 0 = gainI m p r19.2 i from rfl]
                refine xj_s 24 RF (by kernel_rfl) SR (y_assign RF) rfl ?_
                refine xj_done (by kernel_rfl) ?_
                refine sx_then ?_
                refine sc_seq ?_
                refine sc_seq ?_
                refine sc_region ?_
                refine qs (y_move RF) ?_
                refine qs (y_lss RF RF) ?_
                refine qs (y_move RF) ?_
                refine sq_known (tt := 165) (b' := false) RF (decide_eq_false (by have := gain_lo hm hF hi'; omega)) ?_
                refine qg (y_move RF) ?_
                refine qg (y_move RF) ?_
                refine qg (y_gtr RF RF) ?_
                refine qs (y_pick_f RF RF) ?_
                refine sq_nil ?_
                refine sx_then ?_
                refine scp (fun hc7 => ?_) (fun hc7 => ?_)
                ·
                  have := gain_le hF hr19.2.1 (hr19.2.2 rfl) hi'
                  omega
                ·
                  refine sc_skip ?_
                  refine sx_then ?_
                  refine sc_seq ?_
                  refine sc_region ?_
                  refine qs (y_move RF) ?_
                  refine qs (y_move RF) ?_
                  refine qs (y_add RF RF (by omega)) ?_
                  rw [show gainN m p (bestM m).gets i + gainI m p (bestM m).gets i = gainN m p (bestM m).gets (i + 1) from rfl]
                  refine qs (y_assign RF) ?_
                  refine sq_nil ?_
                  refine sx_then ?_
                  refine sc_region ?_
                  refine qs (y_move RF) ?_
                  refine qs (y_move RF) ?_
                  refine qs (y_add RF RF (by omega)) ?_
                  rw [show gainN m p r19.2 i + gainI m p r19.2 i = gainN m p r19.2 (i + 1) from rfl]
                  refine qs (y_assign RF) ?_
                  refine sq_nil ?_
                  refine sx_blk ?_
                  refine sx_then ?_
                  refine sc_region ?_
                  refine qs (y_move RF) ?_
                  refine qs (y_add RF RF (by omega)) ?_
                  refine qs (y_assign RF) ?_
                  refine sq_nil ?_
                  refine sx_round (i + 1) ?_ ?_ SU SR
                  · omega
                  · omega
              ·
                have hin : i = m.length := by omega
                subst hin
                rw [gain_sum B.ord, gain_sum hr19.2.1, ← B.worth]
                refine sc_exit ?_
                refine sx_then_exit ?_
                refine sx_round_exit ?_
                refine sx_blk_hit ?_
                refine sx_then ?_
                refine sc_seq ?_
                refine sc_seq ?_
                refine sc_region ?_
                refine qs (y_move RF) ?_
                refine qs (y_move RF) ?_
                refine qs (y_neq RF RF) ?_
                refine qs (y_move RF) ?_
                refine sq_known (tt := 179) (b' := false) RF (by simp) ?_
                refine qg (y_move RF) ?_
                refine qg LD24 ?_
                refine qg (y_move RF) ?_
                refine sq_gt RF RF (y_call (first := []) (caps := []) RF Tryd.call34 (EvL.cons RF (EvL.cons RF EvL.nil)) (fun w1 hw1 => worth34p w1 z m (hz.at hw1 MM) hm r19.1.1 r19.1.2 r19.2 (hr19.1.at hw1 MM) hr19.2.1)) rfl ?_
                refine qg (y_neq RF RF) ?_
                refine qs (y_pick_f RF RF) ?_
                refine qs (y_move RF) ?_
                refine sq_known (tt := 186) (b' := false) RF (by simp) ?_
                refine qg (y_move RF) ?_
                refine qg (y_move RF) ?_
                refine qg (y_gtr RF RF) ?_
                refine qs (y_pick_f RF RF) ?_
                refine sq_nil ?_
                refine sx_then ?_
                refine scp (fun hc8 => ?_) (fun hc8 => ?_)
                ·
                  omega
                ·
                  refine sc_skip ?_
                  refine sx_then ?_
                  refine sc_seq ?_
                  refine sc_seq ?_
                  refine sc_region ?_
                  refine qs (y_assign RF) ?_
                  refine sq_nil ?_
                  refine sx_then ?_
                  refine sc_block ?_
                  refine sc_loop (σ := Nat)
                    (fun s => [(2, .int .u16 (less : Int)), (3, .pointer (some ⟨b3, 0, none⟩)), (7, .slice y3.1 (bestM m).gets.length y3.2), (10, .slice y4.1 p.length y4.2), (12, .int .i64 m.length), (24, .int .i64 s)])
                    (fun s => [.reg lo4 wr4, .reg lo3 wr3, .blk b3 (.cells (mV z m).toArray 24 (0, 0)), .reg 0 w])
                    (fun s => s ≤ m.length + 1)
                    (fun s => m.length + 1 - s)
                    (0) ?_ SU SR ?_
                  · exact Nat.zero_le _
                  rintro i hi
                  refine sc_seq ?_
                  refine sc_seq ?_
                  refine sc_region ?_
                  refine qs (y_move RF) ?_
                  refine qs (y_move RF) ?_
                  refine qs (y_leq RF RF) ?_
                  refine sq_nil ?_
                  refine sx_then ?_
                  refine scp (fun hc9 => ?_) (fun hc9 => ?_)
                  ·
                    have hi2 : i ≤ m.length := by omega
                    refine sc_skip ?_
                    refine sx_then ?_
                    refine sc_seq ?_
                    refine sc_block ?_
                    refine sc_seq ?_
                    refine sc_region ?_
                    refine sq_bs Tryd.underlying25 ei3 (EvI.nil) (by simp) rfl rfl rfl (fun b196 => ?_)
                    refine sq_blk_own0 (sz := 1) (c := 0) RM rfl (Nat.zero_le _) ?_
                    refine qs (y_move RF) ?_
                    refine sq_append_rows (news := p.flatMap iRow) Tryd.underlying25 ei3 Tryd.sizeOf3 rfl (by decide) RF RM RF hy4.noa (by rw [iflat_len, Nat.mul_one]) (fun ad had w1 hw1 => RowsA.cells (row := iRow) iRow_len (by decide) (by rw [← had]; exact hy4.at hw1 MM)) (iflat_one _) (by omega) rfl (fun v198 ho198 => ?_)
                    rw [Nat.zero_add p.length, List.nil_append]
                    refine sq_own_dest (v := v198) (e := 3) (sz := 1) (m := p.length) (xs := p.flatMap iRow) MM (fun a198 c198 hv198 hmc198 hn198 => ?_)
                    subst hv198
                    rw [show p.flatMap iRow = (lowL m.length p (less : Int) i 0).flatMap iRow by rw [lowL_zero hF.len]]
                    refine qs (y_assign RF) ?_
                    refine sq_nil ?_
                    refine sx_then ?_
                    refine sc_seq ?_
                    refine sc_region ?_
                    refine qs (y_assign RF) ?_
                    refine sq_nil ?_
                    refine sx_then ?_
                    refine sc_seq ?_
                    refine sc_seq ?_
                    refine sc_region ?_
                    refine qs (y_assign RF) ?_
                    refine sq_nil ?_
                    refine sx_then ?_
                    refine sc_block ?_
                    refine sc_loop (σ := Nat)
                      (fun s => [(2, .int .u16 (less : Int)), (3, .pointer (some ⟨b3, 0, none⟩)), (7, .slice y3.1 (bestM m).gets.length y3.2), (10, .slice y4.1 p.length y4.2), (12, .int .i64 m.length), (24, .int .i64 i), (25, .slice a198 p.length c198), (26, .bool (lowC m.length p i s)), (27, .int .i64 s)])
                      (fun s => [.own (.slice a198 p.length c198) 3 1 p.length ((lowL m.length p (less : Int) i s).flatMap iRow), .reg lo4 wr4, .reg lo3 wr3, .blk b3 (.cells (mV z m).toArray 24 (0, 0)), .reg 0 w])
                      (fun s => s ≤ m.length)
                      (fun s => m.length - s)
                      (0) ?_ SU SR ?_
                    · exact Nat.zero_le _
                    rintro k hk
                    refine sc_seq ?_
                    refine sc_seq ?_
                    refine sc_region ?_
                    refine qs (y_move RF) ?_
                    refine qs (y_move RF) ?_
                    refine qs (y_lss RF RF) ?_
                    refine sq_nil ?_
                    refine sx_then ?_
                    refine scp (fun hc10 => ?_) (fun hc10 => ?_)
                    ·
                      have hk' : k < m.length := by omega
                      have h198 : a198.isSome = true := by
                        cases a198 with
                        | none => have := hn198 rfl; omega
                        | some _ => rfl
                      have hb3 := hF.lo k
                      have hb4 := hF.hi k
                      refine sc_skip ?_
                      refine sx_then ?_
                      refine sc_seq ?_
                      refine sc_block ?_
                      refine sc_seq ?_
                      refine sc_midE (Z := {v : Bool // v = lowB m.length p i k}) (fun v => [(2, .int .u16 (less : Int)), (3, .pointer (some ⟨b3, 0, none⟩)), (7, .slice y3.1 (bestM m).gets.length y3.2), (10, .slice y4.1 p.length y4.2), (12, .int .i64 m.length), (24, .int .i64 i), (25, .slice a198 p.length c198), (26, .bool (lowC m.length p i k)), (27, .int .i64 k), (218, .bool v.1)]) (fun _ => [.own (.slice a198 p.length c198) 3 1 p.length ((lowL m.length p (less : Int) i k).flatMap iRow), .reg lo4 wr4, .reg lo3 wr3, .blk b3 (.cells (mV z m).toArray 24 (0, 0)), .reg 0 w]) ?_ ?_
                      ·
                        refine sc_region ?_
                        refine qs (y_move RF) ?_
                        refine qs (y_move RF) ?_
                        refine qs (y_eql RF RF) ?_
                        refine qs (y_move RF) ?_
                        refine sp 207 (fun hg40_3 => ?_) (fun hg40_3 => ?_)
                        ·
                          refine qf ?_
                          refine qf ?_
                          refine qf ?_
                          refine qs (y_pick_t RF RF) ?_
                          refine qs (y_move RF) ?_
                          refine qg (y_move RF) ?_
                          refine qg (y_move RF) ?_
                          refine qg (y_ia_el (i := k) Tryd.underlying25 Tryd.sizeOf3 RF RF (by omega) h198) ?_
                          refine qg (by first | exact y_load_own0 (v := .slice a198 p.length c198) (u := .int .i64 (p.getD k 0)) Tryd.underlying3 rfl RF MM (by omega) (flat_iget (lowL_at p _ i hk')) | exact LD3) ?_
                          refine qg (y_gtr RF RF) ?_
                          refine qs (y_pick_t RF RF) ?_
                          refine sq_nil ?_
                          exact sx_midE (⟨decide (0 < p.getD k 0), by unfold lowB; rw [decide_eq_true (show i = k by omega), Bool.true_or, Bool.true_and]⟩) SU SR
                        ·
                          refine qg (y_move RF) ?_
                          refine qg (y_move RF) ?_
                          refine qg (y_eql RF RF) ?_
                          refine qs (y_pick_f RF RF) ?_
                          refine qs (y_move RF) ?_
                          refine sp 212 (fun hg40_8 => ?_) (fun hg40_8 => ?_)
                          ·
                            refine qg (y_move RF) ?_
                            refine qg (y_move RF) ?_
                            refine qg (y_ia_el (i := k) Tryd.underlying25 Tryd.sizeOf3 RF RF (by omega) h198) ?_
                            refine qg (by first | exact y_load_own0 (v := .slice a198 p.length c198) (u := .int .i64 (p.getD k 0)) Tryd.underlying3 rfl RF MM (by omega) (flat_iget (lowL_at p _ i hk')) | exact LD3) ?_
                            refine qg (y_gtr RF RF) ?_
                            refine qs (y_pick_t RF RF) ?_
                            refine sq_nil ?_
                            exact sx_midE (⟨decide (0 < p.getD k 0), by unfold lowB; rw [decide_eq_true (show i = m.length by omega), Bool.or_true, Bool.true_and]⟩) SU SR
                          ·
                            refine qf ?_
                            refine qf ?_
                            refine qf ?_
                            refine qf ?_
                            refine qf ?_
                            refine qs (y_pick_f RF RF) ?_
                            refine sq_nil ?_
                            exact sx_midE (⟨false, by unfold lowB; rw [decide_eq_false (show ¬ i = k by omega), decide_eq_false (show ¬ i = m.length by omega)]; rfl⟩) SU SR
                      rintro ⟨vb, hvb⟩
                      try dsimp only
                      refine sx_then ?_
                      refine scp (fun hc11 => ?_) (fun hc11 => ?_)
                      ·
                        have hb1 : lowB m.length p i k = true := by rw [← hvb]; exact hc11
                        have hpk : 0 < p.getD k 0 := by
                          have h := hb1
                          unfold lowB at h
                          rw [Bool.and_eq_true, decide_eq_true_eq] at h; exact h.2
                        have hem1 := Int.emod_nonneg (less : Int) (show p.getD k 0 ≠ 0 by omega)
                        have hem2 := Int.emod_lt_of_pos (less : Int) hpk
                        refine sc_seq ?_
                        refine sc_drawX ([.own (.slice a198 p.length c198) 3 1 p.length ((lowL m.length p (less : Int) i k).flatMap iRow)]) (by kernel_rfl) ?_
                        refine xj_s 0 RF (by kernel_rfl) SR (y_move RF) rfl ?_
                        refine xj_s 1 RF (by kernel_rfl) SR (y_move RF) rfl ?_
                        refine xj_s 2 RF (by kernel_rfl) SR (y_move RF) rfl ?_
                        refine xj_s 3 RF (by kernel_rfl) SR (y_move RF) rfl ?_
                        refine xj_s 4 RF (by kernel_rfl) SR (y_ia_el (i := k) Tryd.underlying25 Tryd.sizeOf3 RF RF (by omega) h198) rfl ?_
                        refine xj_s 5 RF (by kernel_rfl) SR (by first | exact y_load_own0 (v := .slice a198 p.length c198) (u := .int .i64 (p.getD k 0)) Tryd.underlying3 rfl RF MM (by omega) (flat_iget (lowL_at p _ i hk')) | exact LD3) rfl ?_
                        refine xj_s 6 RF (by kernel_rfl) SR (y_sub RF RF (by omega)) rfl ?_
                        refine xj_s 7 RF (by kernel_rfl) SR (y_move RF) rfl ?_
                        refine xj_s 8 RF (by kernel_rfl) SR (y_conv Tryd.underlying48 Tryd.underlying3 RF (wrap64_in (by omega) (by omega))) rfl ?_
                        refine xj_s 9 RF (by kernel_rfl) SR (y_move RF) rfl ?_
                        refine xj_s 10 RF (by kernel_rfl) SR (y_move RF) rfl ?_
                        refine xj_s 11 RF (by kernel_rfl) SR (y_ia_el (i := k) Tryd.underlying25 Tryd.sizeOf3 RF RF (by omega) h198) rfl ?_
                        refine xj_s 12 RF (by kernel_rfl) SR (by first | exact y_load_own0 (v := .slice a198 p.length c198) (u := .int .i64 (p.getD k 0)) Tryd.underlying3 rfl RF MM (by omega) (flat_iget (lowL_at p _ i hk')) | exact LD3) rfl ?_
                        refine xj_s 13 RF (by kernel_rfl) SR (y_rem RF RF (by omega) (by omega)) rfl ?_
                        refine xj_s 14 RF (by kernel_rfl) SR (y_sub RF RF (by omega)) rfl ?_
                        refine xj_s 15 RF (by kernel_rfl) SR (y_ia_el (i := k) Tryd.underlying25 Tryd.sizeOf3 RF RF (by omega) h198) rfl ?_
                        refine xj_one 16 RF (by kernel_rfl) ?_
                        refine sq_store_own (v := .slice a198 p.length c198) (i := k) (j := 0) (sz := 1) Tryd.sizeOf3 RF RF rfl RM (by omega) (by decide) ?_
                        rw [iset, show p.getD k 0 - 1 - (less : Int) % p.getD k 0 = lowI p (less : Int) k from rfl, lowL_set p (less : Int) i hk' hb1]
                        refine sq_nil ?_
                        refine sx_xpl (by kernel_rfl) ?_
                        refine xj_done (by kernel_rfl) ?_
                        refine sx_then ?_
                        refine sc_region ?_
                        refine qs (y_assign RF) ?_
                        refine sq_nil ?_
                        refine sx_blk ?_
                        refine sx_then ?_
                        refine sc_region ?_
                        refine qs (y_move RF) ?_
                        refine qs (y_add RF RF (by omega)) ?_
                        refine qs (y_assign RF) ?_
                        refine sq_nil ?_
                        refine sx_round (k + 1) ?_ ?_ (by refine SubL.cons rfl (SubL.cons rfl (SubL.cons rfl (SubL.cons rfl (SubL.cons rfl (SubL.cons rfl (SubL.cons rfl (SubL.cons (lk_bool rfl (by rw [lowC_succ, hb1, Bool.or_true])) (SubL.cons (lk_int rfl (by omega)) SubL.nil))))))))) SR
                        · omega
                        · omega
                      ·
                        have hb0 : lowB m.length p i k = false := by rw [← hvb]; exact hc11
                        rw [lowL_skip p (less : Int) i hb0]
                        refine sc_skip ?_
                        refine sx_blk ?_
                        refine sx_then ?_
                        refine sc_region ?_
                        refine qs (y_move RF) ?_
                        refine qs (y_add RF RF (by omega)) ?_
                        refine qs (y_assign RF) ?_
                        refine sq_nil ?_
                        refine sx_round (k + 1) ?_ ?_ (by refine SubL.cons rfl (SubL.cons rfl (SubL.cons rfl (SubL.cons rfl (SubL.cons rfl (SubL.cons rfl (SubL.cons rfl (SubL.cons (lk_bool rfl (by rw [lowC_succ, hb0, Bool.or_false])) (SubL.cons (lk_int rfl (by omega)) SubL.nil))))))))) SR
                        · omega
                        · omega
                    ·
                      have hkn : k = m.length := by omega
                      subst hkn
                      refine sc_exit ?_
                      refine sx_then_exit ?_
                      refine sx_round_exit ?_
                      refine sx_blk_hit ?_
                      refine sx_then ?_
                      refine sc_seq ?_
                      refine sc_region ?_
                      refine qs LD24 ?_
                      refine qs (y_move RF) ?_
                      refine qs (y_move RF) ?_
                      refine qy (yc Tryd.call20 E3 (fun w1 hw1 => Envies20n w1 z m (hz.at hw1 MM) y3.1 y3.2 (bestM m).gets (hy3.at hw1 MM) (by omega) a198 c198 p.length (lowL m.length p (less : Int) i m.length) (by rw [lowL_len, hF.len]) (own_at (n := p.length) (c := c198) (e := 3) hw1 (by rw [lowL_len]; exact hpl.symm) MM (by omega)))) ?_
                      refine qs (y_move RF) ?_
                      refine qs (y_extract RF RF) ?_
                      refine qs (y_extract RF RF) ?_
                      refine qs (y_extract RF RF) ?_
                      refine qs (y_assign RF) ?_
                      refine qs (y_assign RF) ?_
                      refine qs (y_assign RF) ?_
                      refine sq_nil ?_
                      refine sx_then ?_
                      refine sc_seq ?_
                      refine sc_region ?_
                      refine qs (y_move RF) ?_
                      refine qs (y_move RF) ?_
                      refine sp 244 (fun hg44_1 => ?_) (fun hg44_1 => ?_)
                      ·
                        refine qg (y_move RF) ?_
                        refine qg (y_neq RF RF) ?_
                        refine qs (y_pick_t RF RF) ?_
                        refine sq_nil ?_
                        refine sx_then ?_
                        refine scp (fun hc12 => ?_) (fun hc12 => ?_)
                        ·
                          exact absurd (low_law hmk B.ord B.fair hF (less : Int) i hg44_1) hc12
                        ·
                          refine sc_skip ?_
                          refine sx_blk ?_
                          refine sx_then ?_
                          refine sc_region ?_
                          refine qs (y_move RF) ?_
                          refine qs (y_add RF RF (by omega)) ?_
                          refine qs (y_assign RF) ?_
                          refine sq_nil ?_
                          refine sx_round (i + 1) ?_ ?_ SU SR
                          · omega
                          · omega
                      ·
                        refine qf ?_
                        refine qf ?_
                        refine qs (y_pick_f RF RF) ?_
                        refine sq_nil ?_
                        refine sx_then ?_
                        refine sc_f RF ?_
                        refine sc_skip ?_
                        refine sx_blk ?_
                        refine sx_then ?_
                        refine sc_region ?_
                        refine qs (y_move RF) ?_
                        refine qs (y_add RF RF (by omega)) ?_
                        refine qs (y_assign RF) ?_
                        refine sq_nil ?_
                        refine sx_round (i + 1) ?_ ?_ SU SR
                        · omega
                        · omega
                  ·
                    refine sc_exit ?_
                    refine sx_then_exit ?_
                    refine sx_round_exit ?_
                    refine sx_blk_hit ?_
                    refine sx_then ?_
                    refine sc_seq ?_
                    refine sc_region ?_
                    refine qy (yc Tryd.call15 E0 (fun w1 hw1 => awake15 w1 (CA.at hT hw1 MM))) ?_
                    refine qs (y_assign RF) ?_
                    refine sq_nil ?_
                    refine sx_then ?_
                    refine sc_ret ?_
                    refine sx_ret1 (.inl rfl) rfl Tryd.results7 RF ?_
                    intro w' hw'
                    exact ⟨rfl, hw'.below MM⟩
end Go.Proofs.YtpijahglojichaaDoor
