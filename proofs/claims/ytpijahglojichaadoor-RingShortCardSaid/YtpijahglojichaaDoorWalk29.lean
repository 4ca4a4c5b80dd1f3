/- The walk of the law RingShort. -/
import Derived.Test.YtpijahglojichaaDoorWalk21
import Derived.Test.YtpijahglojichaaDoorWalk15
import Derived.Test.YtpijahglojichaaDoorLawK
namespace Go.Proofs.YtpijahglojichaaDoor
open Go Go.Eng Go.RowKit Go.Proofs
set_option maxRecDepth 100000
theorem Rings18n (w : World) (a : Option Addr) (c : Nat) (o : List Int) (ho : RowsA iRow 1 0 w a o) (h1000 : o.length ≤ 1000) {n : Nat} (hn : o.length = n) : Calls Tryd.prog 18 #[.slice a n c] w fun e w' => ∃ q : (Option Addr × Nat) × (Nat → Option Addr) × (Nat → Nat), e = .returned (.tuple #[.slice q.1.1 (ringsR o).1.length q.1.2, .int .i64 (ringsR o).2]) ∧ Below w.heap.size w w' ∧ LsA w.heap.size w' q.1.1 q.2.1 q.2.2 (ringsR o).1 := by
  have h := Rings18 w a c o ho h1000
  rw [hn] at h; exact h
theorem rings_of {o : List Int} (h7 : o.length ≤ 7) (ho : ordB o o.length = true) : ringsR o = (ringsN (getN o) o.length o.length, 0) := if_pos ⟨h7, ho⟩

theorem short10 (w : World) (z : MA) (m : Mt) (hz : MtA 0 w z m) (hT : TabAt w) (long : Int) (ab : Option Addr) (cb : Nat) (by_ : List Nat) (hb : RowsA uRow 1 0 w ab by_) (hby : ∀ x, x ∈ by_ → x ≤ 255) : Calls Tryd.prog 10 #[.agg (mV z m).toArray, .int .i64 long, .slice ab by_.length cb] w fun e w' => e = .returned (.bool true) ∧ Below w.heap.size w w' := by
  refine calls_of_SC (args := [.agg (mV z m).toArray, .int .i64 long, .slice ab by_.length cb]) Tryd.func10 rfl Tryd.ntmps10 rfl ?_
  simp only [argL, Nat.reduceAdd, Nat.zero_add]
  refine sc_seq ?_
  refine sc_region ?_
  refine sq_box RF rfl (fun b3 => ?_)
  refine qs (y_assign RF) ?_
  refine sq_nil ?_
  refine sx_then ?_
  refine sc_seq ?_
  refine sc_seq ?_
  refine sc_region ?_
  refine qs LD24 ?_
  refine qy (yc Tryd.call14 E1 (fun w1 hw1 => far14 w1 z m (hz.at hw1 MM))) ?_
  refine sq_nil ?_
  refine sx_then ?_
  refine scp (fun hc0 => ?_) (fun hc0 => ?_)
  ·
    refine sc_seq ?_
    refine sc_region ?_
    refine qy (yc Tryd.call15 E0 (fun w1 hw1 => awake15 w1 (CA.at hT hw1 MM))) ?_
    refine qs (y_assign RF) ?_
    refine sq_nil ?_
    refine sx_then ?_
    refine sc_ret ?_
    refine sx_then_ret ?_
    refine sx_ret1 (.inl rfl) rfl Tryd.results10 RF ?_
    intro w' hw'
    exact ⟨rfl, hw'.below MM⟩
  ·
    refine sc_skip ?_
    refine sx_then ?_
    refine sc_seq ?_
    refine sc_region ?_
    refine qs LD24 ?_
    refine qs (y_move RF) ?_
    refine sq_call_new (first := []) (caps := []) (Z := Option Addr × Nat) (fun q => .tuple #[.slice q.1 (shortA m long).1.length q.2, .int .i64 (shortA m long).2.1, .int .i64 (shortA m long).2.2]) (fun lo w' q => RowsA iRow 1 lo w' q.1 (shortA m long).1) RF Tryd.call28 (EvL.cons RF (EvL.cons RF EvL.nil)) (fun w1 hw1 => Short28 w1 z m (hz.at hw1 MM) (CA.at hT hw1 MM) long) rfl (fun lo3 wr3 y3 hy3 => ?_)
    refine qs (y_move RF) ?_
    refine qs (y_extract RF RF) ?_
    refine qs (y_extract RF RF) ?_
    refine qs (y_extract RF RF) ?_
    refine qs (y_assign RF) ?_
    refine qs (y_assign RF) ?_
    refine qs (y_assign RF) ?_
    refine sq_nil ?_
    refine sx_then ?_
    refine sc_seq ?_
    refine sc_seq ?_
    have hlen := hz.len
    have hE : (shortA m long).2.2 ≠ 0 → (shortA m long).1.length = 0 ∧ (shortA m long).2.1 = 0 ∧ (decide ((shortA m long).2.2 = 1) = !mkB m) ∧ ((shortA m long).2.2 = 1 ∨ long < 2 ∨ 7 < long) := fun h => by
      cases hb : mkB m with
      | false => rw [shortA_no hb]; exact ⟨rfl, rfl, rfl, .inl rfl⟩
      | true =>
        cases h2 : inB long 2 7 with
        | true => rw [shortA_ok hb h2] at h; exact absurd rfl h
        | false => rw [shortA_far hb h2]; exact ⟨rfl, rfl, rfl, .inr (by unfold inB at h2; rw [decide_eq_false_iff_not] at h2; omega)⟩
    have hO : (shortA m long).2.2 = 0 → mkB m = true ∧ inB long 2 7 = true := fun h => by
      cases hb : mkB m with
      | false => rw [shortA_no hb] at h; cases h
      | true =>
        cases h2 : inB long 2 7 with
        | true => exact ⟨rfl, rfl⟩
        | false => rw [shortA_far hb h2] at h; cases h
    refine sc_region ?_
    refine qs (y_move RF) ?_
    refine qs (y_neq RF RF) ?_
    refine sq_nil ?_
    refine sx_then ?_
    refine scp (fun hc1 => ?_) (fun hc1 => ?_)
    ·
      refine sc_seq ?_
      obtain ⟨hE1, hE2, hE3, hE4⟩ := hE hc1
      refine sc_region ?_
      refine qs (y_move RF) ?_
      refine qs (y_len Tryd.underlying25 RF) ?_
      refine qs (y_eql RF RF) ?_
      refine qs (y_move RF) ?_
      refine sq_known (tt := 46) (b' := true) RF (decide_eq_true (by omega)) ?_
      refine qg (y_move RF) ?_
      refine qg (y_eql RF RF) ?_
      refine qs (y_pick_t RF RF) ?_
      refine qs (y_move RF) ?_
      refine sq_known (tt := 50) (b' := true) RF (decide_eq_true hE2) ?_
      refine qg (y_move RF) ?_
      refine qg (y_eql RF RF) ?_
      refine qg LD24 ?_
      refine sq_gt RF RF (y_call (first := []) (caps := []) RF Tryd.call30 (EvL.cons RF EvL.nil) (fun w1 hw1 => market30 w1 z m (hz.at hw1 MM))) rfl ?_
      refine qg (y_not RF) ?_
      refine qg (y_eqlb Tryd.underlying4 RF RF) ?_
      refine qs (y_pick_t RF RF) ?_
      refine qs (y_move RF) ?_
      refine sq_known (tt := 58) (b' := true) RF (by rw [hE3]; simp) ?_
      refine qg (y_move RF) ?_
      refine qg (y_eql RF RF) ?_
      refine qg (y_move RF) ?_
      refine sp 61 (fun hg5_18 => ?_) (fun hg5_18 => ?_)
      ·
        refine qf ?_
        refine qf ?_
        refine qg (y_pick_t RF RF) ?_
        refine qg (y_move RF) ?_
        refine qf ?_
        refine qf ?_
        refine qg (y_pick_t RF RF) ?_
        refine qs (y_pick_t RF RF) ?_
        refine qs (y_move RF) ?_
        refine sq_gt RF RF (y_call (first := []) (caps := []) RF Tryd.call15 EvL.nil (fun w1 hw1 => awake15 w1 (CA.at hT hw1 MM))) rfl ?_
        refine qs (y_pick_t RF RF) ?_
        refine qs (y_assign RF) ?_
        refine sq_nil ?_
        refine sx_then ?_
        refine sc_ret ?_
        refine sx_then_ret ?_
        refine sx_ret1 (.inl rfl) rfl Tryd.results10 RF ?_
        intro w' hw'
        exact ⟨rfl, hw'.below MM⟩
      ·
        refine qg (y_move RF) ?_
        refine qg (y_lss RF RF) ?_
        refine qg (y_pick_f RF RF) ?_
        refine qg (y_move RF) ?_
        refine sp 65 (fun hg5_22 => ?_) (fun hg5_22 => ?_)
        ·
          refine qf ?_
          refine qf ?_
          refine qg (y_pick_t RF RF) ?_
          refine qs (y_pick_t RF RF) ?_
          refine qs (y_move RF) ?_
          refine sq_gt RF RF (y_call (first := []) (caps := []) RF Tryd.call15 EvL.nil (fun w1 hw1 => awake15 w1 (CA.at hT hw1 MM))) rfl ?_
          refine qs (y_pick_t RF RF) ?_
          refine qs (y_assign RF) ?_
          refine sq_nil ?_
          refine sx_then ?_
          refine sc_ret ?_
          refine sx_then_ret ?_
          refine sx_ret1 (.inl rfl) rfl Tryd.results10 RF ?_
          intro w' hw'
          exact ⟨rfl, hw'.below MM⟩
        ·
          refine qg (y_move RF) ?_
          refine qg (y_gtr RF RF) ?_
          refine qg (y_pick_f RF RF) ?_
          refine qs (y_pick_t RF RF) ?_
          refine qs (y_move RF) ?_
          refine sq_known (tt := 70) (b' := true) RF (by first | rfl | exact decide_eq_true (by omega)) ?_
          refine sq_gt RF RF (y_call (first := []) (caps := []) RF Tryd.call15 EvL.nil (fun w1 hw1 => awake15 w1 (CA.at hT hw1 MM))) rfl ?_
          refine qs (y_pick_t RF RF) ?_
          refine qs (y_assign RF) ?_
          refine sq_nil ?_
          refine sx_then ?_
          refine sc_ret ?_
          refine sx_then_ret ?_
          refine sx_ret1 (.inl rfl) rfl Tryd.results10 RF ?_
          intro w' hw'
          exact ⟨rfl, hw'.below MM⟩
    ·
      refine sc_skip ?_
      refine sx_then ?_
      refine sc_seq ?_
      refine sc_seq ?_
      obtain ⟨hmk, hlb⟩ := hO (by omega)
      have hm := mkF hmk
      have hn7 := hm.n7
      have hlg : 2 ≤ long ∧ long ≤ 7 := by unfold inB at hlb; exact of_decide_eq_true hlb
      obtain ⟨ln, rfl⟩ : ∃ ln : Nat, long = (ln : Int) := ⟨long.toNat, by omega⟩
      have S : ShrF m ln (shortM m ln) := short_F hm (by omega)
      have hgl := ord_len S.ord
      rw [shortA_ok hmk hlb, Int.toNat_natCast] at hy3 ⊢
      replace hy3 : RowsA iRow 1 lo3 wr3 y3.1 (shortM m ln).gets := hy3
      refine sc_region ?_
      refine qs LD24 ?_
      refine qy (yc Tryd.call30 E1 (fun w1 hw1 => market30 w1 z m (hz.at hw1 MM))) ?_
      refine qs (y_not RF) ?_
      refine qs (y_move RF) ?_
      refine sq_known (tt := 76) (b' := false) RF (by rw [hmk]; rfl) ?_
      refine qg (y_move RF) ?_
      refine qg (y_lss RF RF) ?_
      refine qs (y_pick_f RF RF) ?_
      refine qs (y_move RF) ?_
      refine sq_known (tt := 80) (b' := false) RF (decide_eq_false (by omega)) ?_
      refine qg (y_move RF) ?_
      refine qg (y_gtr RF RF) ?_
      refine qs (y_pick_f RF RF) ?_
      refine sq_nil ?_
      refine sx_then ?_
      refine scp (fun hc2 => ?_) (fun hc2 => ?_)
      ·
        omega
      ·
        refine sc_skip ?_
        refine sx_then ?_
        refine sc_seq ?_
        refine sc_region ?_
        refine qs LD24 ?_
        refine qs (y_move RF) ?_
        refine qy (yc Tryd.call16 E2 (fun w1 hw1 => Gives16n w1 z m (hz.at hw1 MM) y3.1 y3.2 (shortM m ln).gets (hy3.at hw1 MM) (by omega) rfl)) ?_
        refine qs (y_move RF) ?_
        refine qs (y_extract RF RF) ?_
        refine qs (y_extract RF RF) ?_
        refine qs (y_extract RF RF) ?_
        refine qs (y_assign RF) ?_
        refine qs (y_assign RF) ?_
        refine qs (y_assign RF) ?_
        refine sq_nil ?_
        refine sx_then ?_
        refine sc_seq ?_
        rw [gives_best hmk S.ord S.fair]
        refine sc_region ?_
        refine qs (y_move RF) ?_
        refine sq_call_new (first := []) (caps := []) (Z := (Option Addr × Nat) × (Nat → Option Addr) × (Nat → Nat)) (fun q => .tuple #[.slice q.1.1 (ringsR (shortM m ln).gets).1.length q.1.2, .int .i64 (ringsR (shortM m ln).gets).2]) (fun lo w' q => LsA lo w' q.1.1 q.2.1 q.2.2 (ringsR (shortM m ln).gets).1) RF Tryd.call18 (EvL.cons RF EvL.nil) (fun w1 hw1 => Rings18 w1 y3.1 y3.2 (shortM m ln).gets (hy3.at hw1 MM) (by omega)) rfl (fun lo9 wr9 q9 hq9 => ?_)
        refine qs (y_move RF) ?_
        refine qs (y_extract RF RF) ?_
        refine qs (y_extract RF RF) ?_
        refine qs (y_assign RF) ?_
        refine qs (y_assign RF) ?_
        refine sq_nil ?_
        refine sx_then ?_
        refine sc_seq ?_
        have hgo : ordB (shortM m ln).gets (shortM m ln).gets.length = true := by rw [hgl]; exact S.ord
        obtain ⟨R, hgr, hRl⟩ : ∃ R, ringsR (shortM m ln).gets = (R, 0) ∧ ∀ j, j < R.length → (R.getD j []).length ≤ ln := ⟨_, rings_of (by omega) hgo, fun j hj => rings_len hgo S.short hj⟩
        rw [hgr] at hq9 ⊢
        replace hq9 : LsA lo9 wr9 q9.1.1 q9.2.1 q9.2.2 R := hq9
        have hRlen := hq9.len
        refine sc_region ?_
        refine qs LD24 ?_
        refine sq_call_new (first := []) (caps := []) (Z := Option Addr × Nat) (fun q => .tuple #[.slice q.1 (bestA m).1.length q.2, .int .i64 (bestA m).2.1, .int .i64 (bestA m).2.2]) (fun lo w' q => RowsA iRow 1 lo w' q.1 (bestA m).1) RF Tryd.call23 (EvL.cons RF EvL.nil) (fun w1 hw1 => Best23 w1 z m (hz.at hw1 MM) (CA.at hT hw1 MM)) rfl (fun lo10 wr10 y10 hy10 => ?_)
        refine qs (y_move RF) ?_
        refine qs (y_extract RF RF) ?_
        refine qs (y_extract RF RF) ?_
        refine qs (y_extract RF RF) ?_
        refine qs (y_assign RF) ?_
        refine qs (y_assign RF) ?_
        refine qs (y_assign RF) ?_
        refine sq_nil ?_
        refine sx_then ?_
        refine sc_seq ?_
        have B : BestF m (bestM m) := bestX_F hm
        rw [bestA_ok hmk]
        refine sc_region ?_
        refine qs LD24 ?_
        refine qs (y_move RF) ?_
        refine qs (y_add RF RF (by omega)) ?_
        refine qs (y_min RF RF) ?_
        obtain ⟨lm, hlm, hlm2, hlm7⟩ : ∃ lm : Nat, min (7 : Int) ((ln : Int) + 1) = (lm : Int) ∧ ln ≤ lm ∧ lm ≤ 7 := ⟨min 7 (ln + 1), by omega, by omega, by omega⟩
        have hlb2 : inB (lm : Int) 2 7 = true := decide_eq_true (by omega)
        rw [hlm]
        refine sq_call_new (first := []) (caps := []) (Z := Option Addr × Nat) (fun q => .tuple #[.slice q.1 (shortA m (lm : Int)).1.length q.2, .int .i64 (shortA m (lm : Int)).2.1, .int .i64 (shortA m (lm : Int)).2.2]) (fun lo w' q => RowsA iRow 1 lo w' q.1 (shortA m (lm : Int)).1) RF Tryd.call28 (EvL.cons RF (EvL.cons RF EvL.nil)) (fun w1 hw1 => Short28 w1 z m (hz.at hw1 MM) (CA.at hT hw1 MM) lm) rfl (fun lo11 wr11 y11 hy11 => ?_)
        refine qs (y_move RF) ?_
        refine qs (y_extract RF RF) ?_
        refine qs (y_extract RF RF) ?_
        refine qs (y_extract RF RF) ?_
        refine qs (y_assign RF) ?_
        refine qs (y_assign RF) ?_
        refine qs (y_assign RF) ?_
        refine sq_nil ?_
        refine sx_then ?_
        refine sc_seq ?_
        refine sc_seq ?_
        rw [shortA_ok hmk hlb2, Int.toNat_natCast]
        have S2 : ShrF m lm (shortM m lm) := short_F hm (by omega)
        have hw1 := S.le S2 hlm2
        have hw2 := S.best B
        have hw3 : m.length ≤ ln → (shortM m ln).worth = (bestM m).worth := S.all B
        refine sc_region ?_
        refine qs (y_move RF) ?_
        refine qs (y_neq RF RF) ?_
        refine qs (y_move RF) ?_
        refine sq_known (tt := 113) (b' := false) RF (rfl) ?_
        refine qg (y_move RF) ?_
        refine qg (y_move RF) ?_
        refine qg (y_neq RF RF) ?_
        refine qs (y_pick_f RF RF) ?_
        refine qs (y_move RF) ?_
        refine sq_known (tt := 118) (b' := false) RF (by simp [S.worth]) ?_
        refine qg (y_move RF) ?_
        refine qg (y_neq RF RF) ?_
        refine qs (y_pick_f RF RF) ?_
        refine qs (y_move RF) ?_
        refine sq_known (tt := 122) (b' := false) RF (rfl) ?_
        refine qg (y_move RF) ?_
        refine qg (y_neq RF RF) ?_
        refine qs (y_pick_f RF RF) ?_
        refine qs (y_move RF) ?_
        refine sq_known (tt := 126) (b' := false) RF (rfl) ?_
        refine qg (y_move RF) ?_
        refine qg (y_move RF) ?_
        refine qg (y_gtr RF RF) ?_
        refine qs (y_pick_f RF RF) ?_
        refine qs (y_move RF) ?_
        refine sq_known (tt := 131) (b' := false) RF (decide_eq_false (by dsimp only; omega)) ?_
        refine qg (y_move RF) ?_
        refine qg (y_neq RF RF) ?_
        refine qs (y_pick_f RF RF) ?_
        refine qs (y_move RF) ?_
        refine sq_known (tt := 135) (b' := false) RF (rfl) ?_
        refine qg (y_move RF) ?_
        refine qg (y_move RF) ?_
        refine qg (y_lss RF RF) ?_
        refine qs (y_pick_f RF RF) ?_
        refine qs (y_move RF) ?_
        refine sq_known (tt := 140) (b' := false) RF (decide_eq_false (by dsimp only; omega)) ?_
        refine qg (y_move RF) ?_
        refine qg FA24_22 ?_
        refine qg LD22 ?_
        refine qg (y_len Tryd.underlying22 RF) ?_
        refine qg (y_geq RF RF) ?_
        refine qg (y_move RF) ?_
        refine sp 146 (fun hg12_35 => ?_) (fun hg12_35 => ?_)
        ·
          refine qg (y_move RF) ?_
          refine qg (y_move RF) ?_
          refine qg (y_neq RF RF) ?_
          refine qg (y_pick_t RF RF) ?_
          refine qs (y_pick_f RF RF) ?_
          refine sq_nil ?_
          refine sx_then ?_
          refine sc_f (lk_bool rfl (by first | rfl | (simp [hw3 (by omega)]))) ?_
          refine sc_skip ?_
          refine sx_then ?_
          refine sc_seq ?_
          refine sc_seq ?_
          refine sc_region ?_
          refine qs (y_move RF) ?_
          refine qs (y_len Tryd.underlying22 RF) ?_
          refine qs (y_move RF) ?_
          refine sq_nil ?_
          refine sx_then ?_
          refine sc_block ?_
          refine sc_loop (σ := Nat)
            (fun s => [(1, .int .i64 (ln : Int)), (2, .slice ab by_.length cb), (3, .pointer (some ⟨b3, 0, none⟩)), (8, .int .i64 (shortM m ln).worth), (152, .slice q9.1.1 R.length q9.1.2), (153, .int .i64 R.length), (154, .int .i64 s)])
            (fun s => [.blk b3 (.cells (mV z m).toArray 24 (0, 0)), .reg lo9 wr9, .reg 0 w])
            (fun s => s ≤ R.length)
            (fun s => R.length - s)
            (0) ?_ SU SR ?_
          · exact Nat.zero_le _
          rintro j hj
          refine sc_seq ?_
          refine sc_region ?_
          refine qs (y_lss RF RF) ?_
          refine sq_nil ?_
          refine sx_then ?_
          refine sc_seq ?_
          refine scp (fun hc4 => ?_) (fun hc4 => ?_)
          ·
            have hj' : j < R.length := by omega
            have hls := hq9.get hj'
            have hrs := hls.1
            refine sc_skip ?_
            refine sx_then ?_
            refine sc_seq ?_
            refine sc_block ?_
            refine sc_seq ?_
            refine sc_region ?_
            refine qs IA22 ?_
            refine qs (by first | exact y_load_ca0 Tryd.underlying25 rfl RF MM hls.2.1 rfl | exact LD25) ?_
            refine qs (y_assign RF) ?_
            refine sq_nil ?_
            refine sx_then ?_
            refine sc_seq ?_
            refine sc_region ?_
            refine qs (y_move RF) ?_
            refine qs (y_len Tryd.underlying25 RF) ?_
            refine qs (y_move RF) ?_
            refine qs (y_gtr RF RF) ?_
            refine sq_nil ?_
            refine sx_then ?_
            refine scp (fun hc5 => ?_) (fun hc5 => ?_)
            ·
              have := hRl j hj'
              omega
            ·
              refine sc_skip ?_
              refine sx_blk ?_
              refine sx_then ?_
              refine sc_region ?_
              refine qs (y_add RF RF (by omega)) ?_
              refine qs (y_move RF) ?_
              refine sq_nil ?_
              refine sx_round (j + 1) ?_ ?_ SU SR
              · omega
              · omega
          ·
            refine sc_exit ?_
            refine sx_then_exit ?_
            refine sx_round_exit ?_
            refine sx_blk_hit ?_
            refine sx_then ?_
            refine sc_seq ?_
            refine sc_region ?_
            refine qs LD24 ?_
            refine qs (y_move RF) ?_
            refine sq_call_new (first := []) (caps := []) (Z := (Option Addr × Nat) × List Int) (fun r => .slice r.1.1 m.length r.1.2) (fun lo w' r => RowsA iRow 1 lo w' r.1.1 r.2 ∧ ordB r.2 m.length = true ∧ (true = true → fairI m r.2 < 0)) RF Tryd.call33 (EvL.cons RF (EvL.cons RF (EvL.cons RF EvL.nil))) (fun w1 hw1 => shuffled33 w1 z m (hz.at hw1 MM) hm true ab cb by_ (hb.at hw1 MM) hby) rfl (fun lo20 wr20 r20 hr20 => ?_)
            refine qs (y_assign RF) ?_
            refine sq_nil ?_
            refine sx_then ?_
            refine sc_seq ?_
            have hol := ord_len hr20.2.1
            refine sc_region ?_
            refine qs LD24 ?_
            refine qs (y_move RF) ?_
            refine qy (yc Tryd.call16 E2 (fun w1 hw1 => Gives16n w1 z m (hz.at hw1 MM) r20.1.1 r20.1.2 r20.2 (hr20.1.at hw1 MM) (by omega) hol)) ?_
            refine qs (y_move RF) ?_
            refine qs (y_extract RF RF) ?_
            refine qs (y_extract RF RF) ?_
            refine qs (y_extract RF RF) ?_
            refine qs (y_assign RF) ?_
            refine qs (y_assign RF) ?_
            refine qs (y_assign RF) ?_
            refine sq_nil ?_
            refine sx_then ?_
            refine sc_seq ?_
            rw [gives_best hmk hr20.2.1 (hr20.2.2 rfl)]
            refine sc_region ?_
            refine qs (y_move RF) ?_
            refine sq_call_new (first := []) (caps := []) (Z := (Option Addr × Nat) × (Nat → Option Addr) × (Nat → Nat)) (fun q => .tuple #[.slice q.1.1 (ringsR r20.2).1.length q.1.2, .int .i64 (ringsR r20.2).2]) (fun lo w' q => LsA lo w' q.1.1 q.2.1 q.2.2 (ringsR r20.2).1) RF Tryd.call18 (EvL.cons RF EvL.nil) (fun w1 hw1 => Rings18n w1 r20.1.1 r20.1.2 r20.2 (hr20.1.at hw1 MM) (by omega) hol) rfl (fun lo22 wr22 q22 hq22 => ?_)
            refine qs (y_move RF) ?_
            refine qs (y_extract RF RF) ?_
            refine qs (y_extract RF RF) ?_
            refine qs (y_assign RF) ?_
            refine qs (y_assign RF) ?_
            refine sq_nil ?_
            refine sx_then ?_
            refine sc_seq ?_
            refine sc_seq ?_
            have hoo : ordB r20.2 r20.2.length = true := by rw [hol]; exact hr20.2.1
            obtain ⟨Q, hgq, hQl⟩ : ∃ Q, ringsR r20.2 = (Q, 0) ∧ ((∀ j, j < Q.length → (Q.getD j []).length ≤ ln) → longO r20.2 ≤ (ln : Int)) := ⟨_, rings_of (by omega) hoo, fun h => rings_long hoo (by omega) h⟩
            rw [hgq] at hq22 ⊢
            replace hq22 : LsA lo22 wr22 q22.1.1 q22.2.1 q22.2.2 Q := hq22
            have hQlen := hq22.len
            refine sc_region ?_
            refine qs (y_move RF) ?_
            refine qs (y_neq RF RF) ?_
            refine qs (y_move RF) ?_
            refine sq_known (tt := 180) (b' := false) RF (rfl) ?_
            refine qg (y_move RF) ?_
            refine qg (y_neq RF RF) ?_
            refine qs (y_pick_f RF RF) ?_
            refine sq_nil ?_
            refine sx_then ?_
            refine sc_f (lk_bool rfl (rfl)) ?_
            refine sc_skip ?_
            refine sx_then ?_
            refine sc_seq ?_
            refine sc_seq ?_
            refine sc_region ?_
            refine qs (y_move RF) ?_
            refine qs (y_len Tryd.underlying22 RF) ?_
            refine qs (y_move RF) ?_
            refine sq_nil ?_
            refine sx_then ?_
            refine sc_block ?_
            refine sc_loop (σ := Nat)
              (fun s => [(1, .int .i64 (ln : Int)), (8, .int .i64 (shortM m ln).worth), (24, .int .i64 (worthL m r20.2)), (184, .slice q22.1.1 Q.length q22.1.2), (185, .int .i64 Q.length), (186, .int .i64 s)])
              (fun s => [.reg lo22 wr22, .reg 0 w])
              (fun s => s ≤ Q.length ∧ ∀ j, j < s → (Q.getD j []).length ≤ ln)
              (fun s => Q.length - s)
              (0) ?_ SU SR ?_
            · exact ⟨Nat.zero_le _, fun j h => absurd h (Nat.not_lt_zero j)⟩
            rintro j ⟨hj, hall⟩
            refine sc_seq ?_
            refine sc_region ?_
            refine qs (y_lss RF RF) ?_
            refine sq_nil ?_
            refine sx_then ?_
            refine sc_seq ?_
            refine scp (fun hc7 => ?_) (fun hc7 => ?_)
            ·
              have hj' : j < Q.length := by omega
              have hls := hq22.get hj'
              have hrs := hls.1
              refine sc_skip ?_
              refine sx_then ?_
              refine sc_seq ?_
              refine sc_block ?_
              refine sc_seq ?_
              refine sc_region ?_
              refine qs IA22 ?_
              refine qs (by first | exact y_load_ca0 Tryd.underlying25 rfl RF MM hls.2.1 rfl | exact LD25) ?_
              refine qs (y_assign RF) ?_
              refine sq_nil ?_
              refine sx_then ?_
              refine sc_seq ?_
              refine sc_region ?_
              refine qs (y_move RF) ?_
              refine qs (y_len Tryd.underlying25 RF) ?_
              refine qs (y_move RF) ?_
              refine qs (y_gtr RF RF) ?_
              refine sq_nil ?_
              refine sx_then ?_
              refine scp (fun hc8 => ?_) (fun hc8 => ?_)
              ·
                refine sc_seq ?_
                refine sc_region ?_
                refine qy (yc Tryd.call15 E0 (fun w1 hw1 => awake15 w1 (CA.at hT hw1 MM))) ?_
                refine qs (y_assign RF) ?_
                refine sq_nil ?_
                refine sx_then ?_
                refine sc_ret ?_
                refine sx_blk_ret ?_
                refine sx_then_ret ?_
                refine sx_round_ret ?_
                refine sx_blk_ret ?_
                refine sx_then_ret ?_
                refine sx_ret1 (.inl rfl) rfl Tryd.results10 RF ?_
                intro w' hw'
                exact ⟨rfl, hw'.below MM⟩
              ·
                refine sc_skip ?_
                refine sx_blk ?_
                refine sx_then ?_
                refine sc_region ?_
                refine qs (y_add RF RF (by omega)) ?_
                refine qs (y_move RF) ?_
                refine sq_nil ?_
                refine sx_round (j + 1) ?_ ?_ SU SR
                · refine ⟨by omega, fun i hi => ?_⟩
                  rcases Nat.lt_or_ge i j with h | h
                  · exact hall i h
                  · have : i = j := by omega
                    rw [this]; omega
                · omega
            ·
              have hjn : j = Q.length := by omega
              subst hjn
              have hot : longO r20.2 ≤ (ln : Int) → worthL m r20.2 ≤ (shortM m ln).worth := fun h => (S.top r20.2 hr20.2.1 (hr20.2.2 rfl) h).worth
              refine sc_exit ?_
              refine sx_then_exit ?_
              refine sx_round_exit ?_
              refine sx_blk_hit ?_
              refine sx_then ?_
              refine sc_seq ?_
              refine sc_region ?_
              refine qs (y_move RF) ?_
              refine qs (y_move RF) ?_
              refine qs (y_leq RF RF) ?_
              refine qs (y_move RF) ?_
              refine sq_known (tt := 199) (b' := true) RF (decide_eq_true (hot (hQl hall))) ?_
              refine sq_gt RF RF (y_call (first := []) (caps := []) RF Tryd.call15 EvL.nil (fun w1 hw1 => awake15 w1 (CA.at hT hw1 MM))) rfl ?_
              refine qs (y_pick_t RF RF) ?_
              refine qs (y_assign RF) ?_
              refine sq_nil ?_
              refine sx_then ?_
              refine sc_ret ?_
              refine sx_ret1 (.inl rfl) rfl Tryd.results10 RF ?_
              intro w' hw'
              exact ⟨rfl, hw'.below MM⟩
        ·
          refine qf ?_
          refine qf ?_
          refine qf ?_
          refine qg (y_pick_f RF RF) ?_
          refine qs (y_pick_f RF RF) ?_
          refine sq_nil ?_
          refine sx_then ?_
          refine sc_f RF ?_
          refine sc_skip ?_
          refine sx_then ?_
          refine sc_seq ?_
          refine sc_seq ?_
          refine sc_region ?_
          refine qs (y_move RF) ?_
          refine qs (y_len Tryd.underlying22 RF) ?_
          refine qs (y_move RF) ?_
          refine sq_nil ?_
          refine sx_then ?_
          refine sc_block ?_
          refine sc_loop (σ := Nat)
            (fun s => [(1, .int .i64 (ln : Int)), (2, .slice ab by_.length cb), (3, .pointer (some ⟨b3, 0, none⟩)), (8, .int .i64 (shortM m ln).worth), (152, .slice q9.1.1 R.length q9.1.2), (153, .int .i64 R.length), (154, .int .i64 s)])
            (fun s => [.blk b3 (.cells (mV z m).toArray 24 (0, 0)), .reg lo9 wr9, .reg 0 w])
            (fun s => s ≤ R.length)
            (fun s => R.length - s)
            (0) ?_ SU SR ?_
          · exact Nat.zero_le _
          rintro j hj
          refine sc_seq ?_
          refine sc_region ?_
          refine qs (y_lss RF RF) ?_
          refine sq_nil ?_
          refine sx_then ?_
          refine sc_seq ?_
          refine scp (fun hc4 => ?_) (fun hc4 => ?_)
          ·
            have hj' : j < R.length := by omega
            have hls := hq9.get hj'
            have hrs := hls.1
            refine sc_skip ?_
            refine sx_then ?_
            refine sc_seq ?_
            refine sc_block ?_
            refine sc_seq ?_
            refine sc_region ?_
            refine qs IA22 ?_
            refine qs (by first | exact y_load_ca0 Tryd.underlying25 rfl RF MM hls.2.1 rfl | exact LD25) ?_
            refine qs (y_assign RF) ?_
            refine sq_nil ?_
            refine sx_then ?_
            refine sc_seq ?_
            refine sc_region ?_
            refine qs (y_move RF) ?_
            refine qs (y_len Tryd.underlying25 RF) ?_
            refine qs (y_move RF) ?_
            refine qs (y_gtr RF RF) ?_
            refine sq_nil ?_
            refine sx_then ?_
            refine scp (fun hc5 => ?_) (fun hc5 => ?_)
            ·
              have := hRl j hj'
              omega
            ·
              refine sc_skip ?_
              refine sx_blk ?_
              refine sx_then ?_
              refine sc_region ?_
              refine qs (y_add RF RF (by omega)) ?_
              refine qs (y_move RF) ?_
              refine sq_nil ?_
              refine sx_round (j + 1) ?_ ?_ SU SR
              · omega
              · omega
          ·
            refine sc_exit ?_
            refine sx_then_exit ?_
            refine sx_round_exit ?_
            refine sx_blk_hit ?_
            refine sx_then ?_
            refine sc_seq ?_
            refine sc_region ?_
            refine qs LD24 ?_
            refine qs (y_move RF) ?_
            refine sq_call_new (first := []) (caps := []) (Z := (Option Addr × Nat) × List Int) (fun r => .slice r.1.1 m.length r.1.2) (fun lo w' r => RowsA iRow 1 lo w' r.1.1 r.2 ∧ ordB r.2 m.length = true ∧ (true = true → fairI m r.2 < 0)) RF Tryd.call33 (EvL.cons RF (EvL.cons RF (EvL.cons RF EvL.nil))) (fun w1 hw1 => shuffled33 w1 z m (hz.at hw1 MM) hm true ab cb by_ (hb.at hw1 MM) hby) rfl (fun lo20 wr20 r20 hr20 => ?_)
            refine qs (y_assign RF) ?_
            refine sq_nil ?_
            refine sx_then ?_
            refine sc_seq ?_
            have hol := ord_len hr20.2.1
            refine sc_region ?_
            refine qs LD24 ?_
            refine qs (y_move RF) ?_
            refine qy (yc Tryd.call16 E2 (fun w1 hw1 => Gives16n w1 z m (hz.at hw1 MM) r20.1.1 r20.1.2 r20.2 (hr20.1.at hw1 MM) (by omega) hol)) ?_
            refine qs (y_move RF) ?_
            refine qs (y_extract RF RF) ?_
            refine qs (y_extract RF RF) ?_
            refine qs (y_extract RF RF) ?_
            refine qs (y_assign RF) ?_
            refine qs (y_assign RF) ?_
            refine qs (y_assign RF) ?_
            refine sq_nil ?_
            refine sx_then ?_
            refine sc_seq ?_
            rw [gives_best hmk hr20.2.1 (hr20.2.2 rfl)]
            refine sc_region ?_
            refine qs (y_move RF) ?_
            refine sq_call_new (first := []) (caps := []) (Z := (Option Addr × Nat) × (Nat → Option Addr) × (Nat → Nat)) (fun q => .tuple #[.slice q.1.1 (ringsR r20.2).1.length q.1.2, .int .i64 (ringsR r20.2).2]) (fun lo w' q => LsA lo w' q.1.1 q.2.1 q.2.2 (ringsR r20.2).1) RF Tryd.call18 (EvL.cons RF EvL.nil) (fun w1 hw1 => Rings18n w1 r20.1.1 r20.1.2 r20.2 (hr20.1.at hw1 MM) (by omega) hol) rfl (fun lo22 wr22 q22 hq22 => ?_)
            refine qs (y_move RF) ?_
            refine qs (y_extract RF RF) ?_
            refine qs (y_extract RF RF) ?_
            refine qs (y_assign RF) ?_
            refine qs (y_assign RF) ?_
            refine sq_nil ?_
            refine sx_then ?_
            refine sc_seq ?_
            refine sc_seq ?_
            have hoo : ordB r20.2 r20.2.length = true := by rw [hol]; exact hr20.2.1
            obtain ⟨Q, hgq, hQl⟩ : ∃ Q, ringsR r20.2 = (Q, 0) ∧ ((∀ j, j < Q.length → (Q.getD j []).length ≤ ln) → longO r20.2 ≤ (ln : Int)) := ⟨_, rings_of (by omega) hoo, fun h => rings_long hoo (by omega) h⟩
            rw [hgq] at hq22 ⊢
            replace hq22 : LsA lo22 wr22 q22.1.1 q22.2.1 q22.2.2 Q := hq22
            have hQlen := hq22.len
            refine sc_region ?_
            refine qs (y_move RF) ?_
            refine qs (y_neq RF RF) ?_
            refine qs (y_move RF) ?_
            refine sq_known (tt := 180) (b' := false) RF (rfl) ?_
            refine qg (y_move RF) ?_
            refine qg (y_neq RF RF) ?_
            refine qs (y_pick_f RF RF) ?_
            refine sq_nil ?_
            refine sx_then ?_
            refine sc_f (lk_bool rfl (rfl)) ?_
            refine sc_skip ?_
            refine sx_then ?_
            refine sc_seq ?_
            refine sc_seq ?_
            refine sc_region ?_
            refine qs (y_move RF) ?_
            refine qs (y_len Tryd.underlying22 RF) ?_
            refine qs (y_move RF) ?_
            refine sq_nil ?_
            refine sx_then ?_
            refine sc_block ?_
            refine sc_loop (σ := Nat)
              (fun s => [(1, .int .i64 (ln : Int)), (8, .int .i64 (shortM m ln).worth), (24, .int .i64 (worthL m r20.2)), (184, .slice q22.1.1 Q.length q22.1.2), (185, .int .i64 Q.length), (186, .int .i64 s)])
              (fun s => [.reg lo22 wr22, .reg 0 w])
              (fun s => s ≤ Q.length ∧ ∀ j, j < s → (Q.getD j []).length ≤ ln)
              (fun s => Q.length - s)
              (0) ?_ SU SR ?_
            · exact ⟨Nat.zero_le _, fun j h => absurd h (Nat.not_lt_zero j)⟩
            rintro j ⟨hj, hall⟩
            refine sc_seq ?_
            refine sc_region ?_
            refine qs (y_lss RF RF) ?_
            refine sq_nil ?_
            refine sx_then ?_
            refine sc_seq ?_
            refine scp (fun hc7 => ?_) (fun hc7 => ?_)
            ·
              have hj' : j < Q.length := by omega
              have hls := hq22.get hj'
              have hrs := hls.1
              refine sc_skip ?_
              refine sx_then ?_
              refine sc_seq ?_
              refine sc_block ?_
              refine sc_seq ?_
              refine sc_region ?_
              refine qs IA22 ?_
              refine qs (by first | exact y_load_ca0 Tryd.underlying25 rfl RF MM hls.2.1 rfl | exact LD25) ?_
              refine qs (y_assign RF) ?_
              refine sq_nil ?_
              refine sx_then ?_
              refine sc_seq ?_
              refine sc_region ?_
              refine qs (y_move RF) ?_
              refine qs (y_len Tryd.underlying25 RF) ?_
              refine qs (y_move RF) ?_
              refine qs (y_gtr RF RF) ?_
              refine sq_nil ?_
              refine sx_then ?_
              refine scp (fun hc8 => ?_) (fun hc8 => ?_)
              ·
                refine sc_seq ?_
                refine sc_region ?_
                refine qy (yc Tryd.call15 E0 (fun w1 hw1 => awake15 w1 (CA.at hT hw1 MM))) ?_
                refine qs (y_assign RF) ?_
                refine sq_nil ?_
                refine sx_then ?_
                refine sc_ret ?_
                refine sx_blk_ret ?_
                refine sx_then_ret ?_
                refine sx_round_ret ?_
                refine sx_blk_ret ?_
                refine sx_then_ret ?_
                refine sx_ret1 (.inl rfl) rfl Tryd.results10 RF ?_
                intro w' hw'
                exact ⟨rfl, hw'.below MM⟩
              ·
                refine sc_skip ?_
                refine sx_blk ?_
                refine sx_then ?_
                refine sc_region ?_
                refine qs (y_add RF RF (by omega)) ?_
                refine qs (y_move RF) ?_
                refine sq_nil ?_
                refine sx_round (j + 1) ?_ ?_ SU SR
                · refine ⟨by omega, fun i hi => ?_⟩
                  rcases Nat.lt_or_ge i j with h | h
                  · exact hall i h
                  · have : i = j := by omega
                    rw [this]; omega
                · omega
            ·
              have hjn : j = Q.length := by omega
              subst hjn
              have hot : longO r20.2 ≤ (ln : Int) → worthL m r20.2 ≤ (shortM m ln).worth := fun h => (S.top r20.2 hr20.2.1 (hr20.2.2 rfl) h).worth
              refine sc_exit ?_
              refine sx_then_exit ?_
              refine sx_round_exit ?_
              refine sx_blk_hit ?_
              refine sx_then ?_
              refine sc_seq ?_
              refine sc_region ?_
              refine qs (y_move RF) ?_
              refine qs (y_move RF) ?_
              refine qs (y_leq RF RF) ?_
              refine qs (y_move RF) ?_
              refine sq_known (tt := 199) (b' := true) RF (decide_eq_true (hot (hQl hall))) ?_
              refine sq_gt RF RF (y_call (first := []) (caps := []) RF Tryd.call15 EvL.nil (fun w1 hw1 => awake15 w1 (CA.at hT hw1 MM))) rfl ?_
              refine qs (y_pick_t RF RF) ?_
              refine qs (y_assign RF) ?_
              refine sq_nil ?_
              refine sx_then ?_
              refine sc_ret ?_
              refine sx_ret1 (.inl rfl) rfl Tryd.results10 RF ?_
              intro w' hw'
              exact ⟨rfl, hw'.below MM⟩
end Go.Proofs.YtpijahglojichaaDoor
