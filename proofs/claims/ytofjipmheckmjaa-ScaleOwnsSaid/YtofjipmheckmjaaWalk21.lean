/- The walk of the reference's Enough. -/
import Derived.Test.YtofjipmheckmjaaWalk16
import Derived.Test.YtofjipmheckmjaaWalk20
namespace Go.Proofs.Ytofjipmheckmjaa
open Go Go.Eng Go.RowKit Go.Proofs
set_option maxRecDepth 100000
/-- the best of the first sets, what it costs; and is there none? -/
def bS (b : Bx) (ts : List Te) (k : Nat) : Int × Int × Bool := if (gL b ts k).length = 0 then (0, 0, true) else ((bestC (gL b ts k)).at_, (bestC (gL b ts k)).cost, false)
theorem bS_none (b : Bx) (ts : List Te) (k : Nat) : (bS b ts k).2.2 = true ↔ (gL b ts k).length = 0 := by
  unfold bS; split <;> simp [*]
theorem bS_succ (b : Bx) (ts : List Te) (k : Nat) : bS b ts (k + 1) = if goodS b ts k = true ∧ ((bS b ts k).2.2 = true ∨ costK ts k ts.length < (bS b ts k).2.1) then ((k : Int), costK ts k ts.length, false) else bS b ts k := by
  by_cases hg : goodS b ts k = true
  · have h1 : gL b ts (k + 1) = gL b ts k ++ [⟨k, costK ts k ts.length⟩] := by rw [gL_succ, if_pos hg]
    have h2 : bS b ts (k + 1) = ((bestC (gL b ts k ++ [⟨k, costK ts k ts.length⟩])).at_, (bestC (gL b ts k ++ [⟨k, costK ts k ts.length⟩])).cost, false) := by
      unfold bS; rw [h1, if_neg (by simp)]
    rw [h2, bestC_snoc]
    by_cases h0 : (gL b ts k).length = 0
    · rw [if_pos h0, if_pos ⟨hg, .inl ((bS_none b ts k).2 h0)⟩]
    · rw [if_neg h0]
      have h3 : bS b ts k = ((bestC (gL b ts k)).at_, (bestC (gL b ts k)).cost, false) := by unfold bS; rw [if_neg h0]
      rw [h3]
      dsimp only
      by_cases hc : costK ts k ts.length < (bestC (gL b ts k)).cost
      · rw [if_pos hc, if_pos ⟨hg, .inr hc⟩]
      · rw [if_neg hc, if_neg (fun h => h.2.elim (fun h => by cases h) hc)]
  · have h1 : gL b ts (k + 1) = gL b ts k := by rw [gL_succ, if_neg hg]
    rw [if_neg (fun h => hg h.1)]
    unfold bS; rw [h1]
theorem cost_yes {ts : List Te} {s k : Nat} (h : inS s k = true) : costK ts s k + (ts.getD k te0).cost = costK ts s (k + 1) := by
  show _ = costK ts s k + if _ then _ else _
  rw [if_pos h]
theorem cost_no {ts : List Te} {s k : Nat} (h : ¬ inS s k = true) : costK ts s k = costK ts s (k + 1) := by
  show _ = costK ts s k + if _ then _ else _
  rw [if_neg h, Int.add_zero]

theorem enough24 (w : World) (b : Bx) (a : Option Addr) (c : Nat) (hB : RowsA kdRow 3 0 w a b.kinds) (at_ : Option Addr) (ct : Nat) (ts : List Te) (ht : RowsA teRow 7 0 w at_ ts) : Calls Try.prog 24 #[.agg (bxRow b a c).toArray, .slice at_ ts.length ct] w fun e w' => e = .returned (.tuple #[.int .i64 (enoughR b ts).1, .int .i64 (enoughR b ts).2.1, .int .i64 (enoughR b ts).2.2]) ∧ Below w.heap.size w w' := by
  have htlen := ht.len
  refine calls_of_SC (args := [.agg (bxRow b a c).toArray, .slice at_ ts.length ct]) Try.func24 rfl Try.ntmps24 rfl ?_
  simp only [argL, Nat.zero_add]
  refine sc_seq ?_
  refine sc_region ?_
  refine sq_box RF rfl (fun b2 => ?_)
  refine qs (y_assign RF) ?_
  refine qs (y_assign RF) ?_
  refine qs (y_assign RF) ?_
  refine sq_nil ?_
  refine sx_then ?_
  refine sc_seq ?_
  refine sc_region ?_
  refine qs LD26 ?_
  refine qs (y_move RF) ?_
  refine qy (yc Try.call51 E3 (fun w1 hw1 => check51 w1 b a c (hB.at hw1 MM) none 0 [] (RowsA.nil 0 w1) at_ ct ts (ht.at hw1 MM))) ?_
  refine qs (y_assign RF) ?_
  refine sq_nil ?_
  refine sx_then ?_
  refine sc_seq ?_
  refine sc_seq ?_
  refine sc_region ?_
  refine qs (y_move RF) ?_
  refine qs (y_neq RF RF) ?_
  refine sq_nil ?_
  refine sx_then ?_
  refine scp (fun hc0 => ?_) (fun hc0 => ?_)
  ·
    refine sc_seq ?_
    refine sc_region ?_
    refine qs (y_move RF) ?_
    refine qs (y_assign RF) ?_
    refine qs (y_assign RF) ?_
    refine qs (y_assign RF) ?_
    refine sq_nil ?_
    refine sx_then ?_
    refine sc_ret ?_
    refine sx_then_ret ?_
    refine sx_ret3 (.inl rfl) rfl Try.results24 RF RF RF ?_
    intro w' hw'
    refine ⟨?_, hw'.below MM⟩
    unfold enoughR; rw [if_pos (by simpa using hc0)]
  ·
    refine sc_skip ?_
    refine sx_then ?_
    refine sc_seq ?_
    have hz0 : chk b [] ts = 0 := by simpa using hc0
    have hz := chk_zero hz0
    have h8 := hz.2.2.1
    have hpw : pw2 ts.length ≤ 256 := Nat.pow_le_pow_right (n := 2) (by omega) h8
    have hpw1 := pw2_pos ts.length
    refine sc_region ?_
    refine qs (y_assign RF) ?_
    refine qs (y_assign RF) ?_
    refine qs (y_assign RF) ?_
    refine sq_nil ?_
    refine sx_then ?_
    refine sc_seq ?_
    refine sc_seq ?_
    refine sc_region ?_
    refine qs (y_assign RF) ?_
    refine sq_nil ?_
    refine sx_then ?_
    refine sc_block ?_
    refine sc_loop (σ := Nat × Int × Int × Bool)
      (fun s => [(1, .slice at_ ts.length ct), (2, .pointer (some ⟨b2, 0, none⟩)), (8, .int .i64 s.2.1), (9, .int .i64 s.2.2.1), (10, .bool s.2.2.2), (11, .int .i64 s.1)])
      (fun s => [.blk b2 (.cells (bxRow b a c).toArray 26 (0, 0)), .reg 0 w])
      (fun s => s.1 ≤ pw2 ts.length ∧ s.2 = bS b ts s.1)
      (fun s => pw2 ts.length - s.1)
      ((0, 0, 0, true)) ?_ SU SR ?_
    · exact ⟨Nat.zero_le _, rfl⟩
    rintro ⟨k, x, y, z⟩ ⟨hk, hst⟩
    dsimp only at hk hst ⊢
    refine sc_seq ?_
    refine sc_seq ?_
    refine sc_region ?_
    refine qs (y_move RF) ?_
    refine qs (y_move RF) ?_
    refine qs (y_len Try.underlying43 RF) ?_
    refine qy (yc Try.call57 E1 (fun w1 _ => power57 w1 ts.length (by omega))) ?_
    refine qs (y_lss RF RF) ?_
    refine sq_nil ?_
    refine sx_then ?_
    refine scp (fun hc1 => ?_) (fun hc1 => ?_)
    ·
      have hk' : k < pw2 ts.length := by omega
      refine sc_skip ?_
      refine sx_then ?_
      refine sc_seq ?_
      refine sc_block ?_
      refine sc_seq ?_
      refine sc_region ?_
      refine qs (y_assign RF) ?_
      refine sq_nil ?_
      refine sx_then ?_
      refine sc_seq ?_
      refine sc_seq ?_
      refine sc_region ?_
      refine qs (y_assign RF) ?_
      refine sq_nil ?_
      refine sx_then ?_
      refine sc_block ?_
      refine sc_loop (σ := Nat)
        (fun s => [(1, .slice at_ ts.length ct), (2, .pointer (some ⟨b2, 0, none⟩)), (8, .int .i64 x), (9, .int .i64 y), (10, .bool z), (11, .int .i64 k), (12, .int .i64 (costK ts k s)), (13, .int .i64 s)])
        (fun s => [.blk b2 (.cells (bxRow b a c).toArray 26 (0, 0)), .reg 0 w])
        (fun s => s ≤ ts.length)
        (fun s => ts.length - s)
        (0) ?_ SU SR ?_
      · exact Nat.zero_le _
      rintro j hj
      refine sc_seq ?_
      refine sc_seq ?_
      refine sc_region ?_
      refine qs (y_move RF) ?_
      refine qs (y_move RF) ?_
      refine qs (y_len Try.underlying43 RF) ?_
      refine qs (y_lss RF RF) ?_
      refine sq_nil ?_
      refine sx_then ?_
      refine scp (fun hc2 => ?_) (fun hc2 => ?_)
      ·
        have hj' : j < ts.length := by omega
        have hsm := (ht.get te0 hj').1
        have hca := (ht.get te0 hj').2
        refine sc_skip ?_
        refine sx_then ?_
        refine sc_seq ?_
        refine sc_block ?_
        refine sc_seq ?_
        refine sc_region ?_
        refine qs (y_move RF) ?_
        refine qs (y_move RF) ?_
        refine qy (yc Try.call59 E2 (fun w1 _ => in59 w1 k j (by omega) (by omega))) ?_
        refine sq_nil ?_
        refine sx_then ?_
        refine scp (fun hc3 => ?_) (fun hc3 => ?_)
        ·
          have hin : inS (k : Int) j = true := by simpa [inS] using hc3
          refine sc_region ?_
          refine qs (y_move RF) ?_
          refine qs (y_move RF) ?_
          refine qs (y_move RF) ?_
          refine qs IA43 ?_
          refine qs FA29_3 ?_
          refine qs LD3 ?_
          refine qs (y_add RF RF (by have := cost_bd hz.2.2.2.2 k j (by omega); have := (teB_parts (hz.2.2.2.2 _ (List.mem_of_getElem? (get_of_lt te0 hj')))).2.2.2; omega)) ?_
          rw [cost_yes hin]
          refine qs (y_assign RF) ?_
          refine sq_nil ?_
          refine sx_blk ?_
          refine sx_then ?_
          refine sc_region ?_
          refine qs (y_move RF) ?_
          refine qs (y_add RF RF (by omega)) ?_
          refine qs (y_assign RF) ?_
          refine sq_nil ?_
          refine sx_round (j + 1) ?_ ?_ SU SR
          · omega
          · omega
        ·
          have hin : ¬ inS (k : Int) j = true := by simpa [inS] using hc3
          rw [cost_no hin]
          refine sc_skip ?_
          refine sx_blk ?_
          refine sx_then ?_
          refine sc_region ?_
          refine qs (y_move RF) ?_
          refine qs (y_add RF RF (by omega)) ?_
          refine qs (y_assign RF) ?_
          refine sq_nil ?_
          refine sx_round (j + 1) ?_ ?_ SU SR
          · omega
          · omega
      ·
        have hjn : j = ts.length := by omega
        subst hjn
        refine sc_exit ?_
        refine sx_then_exit ?_
        refine sx_round_exit ?_
        refine sx_blk_hit ?_
        refine sx_then ?_
        refine sc_seq ?_
        refine sc_region ?_
        refine qs (y_move RF) ?_
        refine qs (y_move RF) ?_
        refine sp 44 (fun hg14_1 => ?_) (fun hg14_1 => ?_)
        ·
          refine qf ?_
          refine qf ?_
          refine qf ?_
          refine qs (y_pick_t RF RF) ?_
          refine qs (y_move RF) ?_
          refine qg LD26 ?_
          refine qg (y_move RF) ?_
          refine qg (y_move RF) ?_
          refine sq_guard RF RF ?_
          refine sq_call_new (first := []) (caps := []) (Z := Option Addr × Nat) (fun z => .slice z.1 ((slipF b ts k).getD []).length z.2) (fun lo w' z => w.heap.size ≤ lo ∧ RowsA iRow 1 lo w' z.1 ((slipF b ts k).getD []) ∧ z.1.isNone = (slipF b ts k).isNone) RF Try.call56 (EvL.cons RF (EvL.cons RF (EvL.cons RF EvL.nil))) (fun w1 hw1 => (slips56 w1 b a c (hB.at hw1 MM) hz.1 at_ ct ts (ht.at hw1 MM) hz.2.2.2.2 hz.2.2.1 k (by omega)).mono (fun e w' ⟨z, he, hb, hr, hn⟩ => ⟨z, he, hb, hw1.size, hr, hn⟩)) rfl (fun lo wr zs hzs => ?_)
          refine qg (y_eqlnilA Try.underlying27 RF RF) ?_
          refine qs (y_pick_t RF RF) ?_
          refine sq_nil ?_
          refine sx_then ?_
          refine scp (fun hc4 => ?_) (fun hc4 => ?_)
          ·
            have hgd : goodS b ts k = true := by unfold goodS; rw [← hzs.2.2]; simpa using hc4
            refine sc_seq ?_
            refine sc_region ?_
            refine qs (y_move RF) ?_
            refine qs (y_assign RF) ?_
            refine sq_nil ?_
            refine sx_then ?_
            refine sc_seq ?_
            refine sc_region ?_
            refine qs (y_move RF) ?_
            refine qs (y_assign RF) ?_
            refine sq_nil ?_
            refine sx_then ?_
            refine sc_region ?_
            refine qs (y_assign RF) ?_
            refine sq_nil ?_
            refine sx_blk ?_
            refine sx_then ?_
            refine sc_region ?_
            refine qs (y_move RF) ?_
            refine qs (y_add RF RF (by omega)) ?_
            refine qs (y_assign RF) ?_
            refine sq_nil ?_
            refine sx_round ((k + 1, (k : Int), costK ts k ts.length, false)) ?_ ?_ SU SR
            · refine ⟨by omega, ?_⟩
              dsimp only
              rw [bS_succ, if_pos ⟨hgd, .inl (by rw [← hst]; exact hg14_1)⟩]
            · omega
          ·
            have hgd : goodS b ts k = false := by unfold goodS; rw [← hzs.2.2]; simpa using hc4
            refine sc_skip ?_
            refine sx_blk ?_
            refine sx_then ?_
            refine sc_region ?_
            refine qs (y_move RF) ?_
            refine qs (y_add RF RF (by omega)) ?_
            refine qs (y_assign RF) ?_
            refine sq_nil ?_
            refine sx_round ((k + 1, x, y, z)) ?_ ?_ SU SR
            · refine ⟨by omega, ?_⟩
              dsimp only
              rw [bS_succ, if_neg (fun h => by rw [hgd] at h; exact absurd h.1 (by decide)), ← hst]
            · omega
        ·
          refine qg (y_move RF) ?_
          refine qg (y_move RF) ?_
          refine qg (y_lss RF RF) ?_
          refine qs (y_pick_f RF RF) ?_
          refine qs (y_move RF) ?_
          refine sp 49 (fun hg14_6 => ?_) (fun hg14_6 => ?_)
          ·
            refine qg LD26 ?_
            refine qg (y_move RF) ?_
            refine qg (y_move RF) ?_
            refine sq_guard RF RF ?_
            refine sq_call_new (first := []) (caps := []) (Z := Option Addr × Nat) (fun z => .slice z.1 ((slipF b ts k).getD []).length z.2) (fun lo w' z => w.heap.size ≤ lo ∧ RowsA iRow 1 lo w' z.1 ((slipF b ts k).getD []) ∧ z.1.isNone = (slipF b ts k).isNone) RF Try.call56 (EvL.cons RF (EvL.cons RF (EvL.cons RF EvL.nil))) (fun w1 hw1 => (slips56 w1 b a c (hB.at hw1 MM) hz.1 at_ ct ts (ht.at hw1 MM) hz.2.2.2.2 hz.2.2.1 k (by omega)).mono (fun e w' ⟨z, he, hb, hr, hn⟩ => ⟨z, he, hb, hw1.size, hr, hn⟩)) rfl (fun lo wr zs hzs => ?_)
            refine qg (y_eqlnilA Try.underlying27 RF RF) ?_
            refine qs (y_pick_t RF RF) ?_
            refine sq_nil ?_
            refine sx_then ?_
            refine scp (fun hc4 => ?_) (fun hc4 => ?_)
            ·
              have hgd : goodS b ts k = true := by unfold goodS; rw [← hzs.2.2]; simpa using hc4
              refine sc_seq ?_
              refine sc_region ?_
              refine qs (y_move RF) ?_
              refine qs (y_assign RF) ?_
              refine sq_nil ?_
              refine sx_then ?_
              refine sc_seq ?_
              refine sc_region ?_
              refine qs (y_move RF) ?_
              refine qs (y_assign RF) ?_
              refine sq_nil ?_
              refine sx_then ?_
              refine sc_region ?_
              refine qs (y_assign RF) ?_
              refine sq_nil ?_
              refine sx_blk ?_
              refine sx_then ?_
              refine sc_region ?_
              refine qs (y_move RF) ?_
              refine qs (y_add RF RF (by omega)) ?_
              refine qs (y_assign RF) ?_
              refine sq_nil ?_
              refine sx_round ((k + 1, (k : Int), costK ts k ts.length, false)) ?_ ?_ SU SR
              · refine ⟨by omega, ?_⟩
                dsimp only
                rw [bS_succ, if_pos ⟨hgd, .inr (by rw [← hst]; exact hg14_6)⟩]
              · omega
            ·
              have hgd : goodS b ts k = false := by unfold goodS; rw [← hzs.2.2]; simpa using hc4
              refine sc_skip ?_
              refine sx_blk ?_
              refine sx_then ?_
              refine sc_region ?_
              refine qs (y_move RF) ?_
              refine qs (y_add RF RF (by omega)) ?_
              refine qs (y_assign RF) ?_
              refine sq_nil ?_
              refine sx_round ((k + 1, x, y, z)) ?_ ?_ SU SR
              · refine ⟨by omega, ?_⟩
                dsimp only
                rw [bS_succ, if_neg (fun h => by rw [hgd] at h; exact absurd h.1 (by decide)), ← hst]
              · omega
          ·
            refine qf ?_
            refine qf ?_
            refine qf ?_
            refine qf ?_
            refine qf ?_
            refine qs (y_pick_f RF RF) ?_
            refine sq_nil ?_
            refine sx_then ?_
            refine sc_f RF ?_
            refine sc_skip ?_
            refine sx_blk ?_
            refine sx_then ?_
            refine sc_region ?_
            refine qs (y_move RF) ?_
            refine qs (y_add RF RF (by omega)) ?_
            refine qs (y_assign RF) ?_
            refine sq_nil ?_
            refine sx_round ((k + 1, x, y, z)) ?_ ?_ SU SR
            · refine ⟨by omega, ?_⟩
              dsimp only
              rw [bS_succ, if_neg (fun h => by rw [← hst] at h; exact h.2.elim (fun h => by rw [show z = false from hg14_1] at h; cases h) hg14_6), ← hst]
            · omega
    ·
      have hkn : k = pw2 ts.length := by omega
      subst hkn
      refine sc_exit ?_
      refine sx_then_exit ?_
      refine sx_round_exit ?_
      refine sx_blk_hit ?_
      refine sx_then ?_
      refine sc_seq ?_
      refine sc_seq ?_
      refine sc_region ?_
      refine qs (y_move RF) ?_
      refine sq_nil ?_
      refine sx_then ?_
      refine scp (fun hc5 => ?_) (fun hc5 => ?_)
      ·
        refine sc_seq ?_
        refine sc_region ?_
        refine qs (y_assign RF) ?_
        refine qs (y_assign RF) ?_
        refine qs (y_assign RF) ?_
        refine sq_nil ?_
        refine sx_then ?_
        refine sc_ret ?_
        refine sx_then_ret ?_
        refine sx_ret3 (.inl rfl) rfl Try.results24 RF RF RF ?_
        intro w' hw'
        refine ⟨?_, hw'.below MM⟩
        have h0 : (gL b ts (pw2 ts.length)).length = 0 := (bS_none b ts _).1 (by rw [← hst]; exact hc5)
        unfold enoughR; rw [if_neg (by simpa using hz0), if_pos h0]
      ·
        refine sc_skip ?_
        refine sx_then ?_
        refine sc_seq ?_
        refine sc_region ?_
        refine qs (y_move RF) ?_
        refine qs (y_move RF) ?_
        refine qs (y_assign RF) ?_
        refine qs (y_assign RF) ?_
        refine qs (y_assign RF) ?_
        refine sq_nil ?_
        refine sx_then ?_
        refine sc_ret ?_
        refine sx_ret3 (.inl rfl) rfl Try.results24 RF RF RF ?_
        intro w' hw'
        refine ⟨?_, hw'.below MM⟩
        have h0 : ¬ (gL b ts (pw2 ts.length)).length = 0 := fun h => by have := (bS_none b ts _).2 h; rw [← hst] at this; rw [show z = true from this] at hc5; cases hc5
        have hst2 := hst
        unfold bS at hst2; rw [if_neg h0] at hst2; injection hst2 with e1 e2; injection e2 with e2 e3
        unfold enoughR; rw [if_neg (by simpa using hz0), if_neg h0, e1, e2]
end Go.Proofs.Ytofjipmheckmjaa
