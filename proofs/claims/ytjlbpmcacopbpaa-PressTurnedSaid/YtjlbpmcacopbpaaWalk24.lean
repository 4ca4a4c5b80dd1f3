/- The walk of the law PressTurned. -/
import Derived.Test.YtjlbpmcacopbpaaWalk23
namespace Go.Proofs.Ytjlbpmcacopbpaa
open Go Go.Eng Go.RowKit Go.Proofs
set_option maxRecDepth 100000
theorem rev_take {α : Type} (l : List α) (d : α) {k : Nat} (h : k < l.length) : l.reverse.take (k + 1) = l.reverse.take k ++ [l.getD (l.length - 1 - k) d] := by
  rw [List.take_add_one, get_of_lt d (by rw [List.length_reverse]; exact h), getD_rev l d h]; rfl
theorem rev_all {α : Type} (l : List α) {k : Nat} (h : k = l.length) : l.reverse.take k = l.reverse := List.take_of_length_le (by rw [List.length_reverse]; omega)
theorem turn_take {n : Nat} {o : List Int} {k : Nat} (h : k < o.length) : (turnO n o).take (k + 1) = (turnO n o).take k ++ [(n : Int) - 1 - o.getD k 0] := by
  rw [List.take_add_one, get_of_lt 0 (by rw [turnO_len]; exact h), turnO_get h]; rfl

theorem turned12 (w : World) (a : Option Addr) (c : Nat) (l : List Jb) (hl : RowsA jbRow 5 0 w a l) (ao : Option Addr) (co : Nat) (o : List Int) (ho : RowsA iRow 1 0 w ao o) (ah : Option Addr) (ch : Nat) (ls : List Sf) (hs : RowsA sfRow 4 0 w ah ls) : Calls Try.prog 12 #[.slice a l.length c, .slice ao o.length co, .slice ah ls.length ch] w fun e w' => e = .returned (.bool true) ∧ Below w.heap.size w w' := by
  have hlen := hl.len
  have hlens := hs.len
  have hleno := ho.len
  refine calls_of_SC (args := [.slice a l.length c, .slice ao o.length co, .slice ah ls.length ch]) Try.func12 rfl Try.ntmps12 rfl ?_
  simp only [argL, Nat.reduceAdd, Nat.zero_add]
  refine sc_seq ?_
  refine sc_region ?_
  refine qs (y_assign RF) ?_
  refine sq_nil ?_
  refine sx_then ?_
  refine sc_seq ?_
  refine sc_seq ?_
  refine sc_midE (Z := {v : Bool // v = (decide (12 < (l.length : Int)) || (decide (20 < (ls.length : Int)) || decide (12 < (o.length : Int))))}) (fun v => [(0, .slice a l.length c), (1, .slice ao o.length co), (2, .slice ah ls.length ch), (50, .bool v.1)]) (fun _ => [.reg 0 w]) ?_ ?_
  ·
    refine sc_region ?_
    refine qs (y_move RF) ?_
    refine qs (y_len Try.underlying34 RF) ?_
    refine qs (y_gtr RF RF) ?_
    refine qs (y_move RF) ?_
    refine sp 41 (fun hg1_3 => ?_) (fun hg1_3 => ?_)
    ·
      refine qf ?_
      refine qf ?_
      refine qf ?_
      refine qs (y_pick_t RF RF) ?_
      refine qs (y_move RF) ?_
      refine qf ?_
      refine qf ?_
      refine qf ?_
      refine qs (y_pick_t RF RF) ?_
      refine sq_nil ?_
      exact sx_midE (⟨true, by rw [decide_eq_true (show 12 < (l.length : Int) by omega)]; rfl⟩) SU SR
    ·
      refine qg (y_move RF) ?_
      refine qg (y_len Try.underlying22 RF) ?_
      refine qg (y_gtr RF RF) ?_
      refine qs (y_pick_f RF RF) ?_
      refine qs (y_move RF) ?_
      refine sp 46 (fun hg1_8 => ?_) (fun hg1_8 => ?_)
      ·
        refine qf ?_
        refine qf ?_
        refine qf ?_
        refine qs (y_pick_t RF RF) ?_
        refine sq_nil ?_
        exact sx_midE (⟨true, by rw [decide_eq_true (show 20 < (ls.length : Int) by omega)]; simp⟩) SU SR
      ·
        refine qg (y_move RF) ?_
        refine qg (y_len Try.underlying35 RF) ?_
        refine qg (y_gtr RF RF) ?_
        refine qs (y_pick_f RF RF) ?_
        refine sq_nil ?_
        exact sx_midE (⟨_, by rw [decide_eq_false (show ¬ 12 < (l.length : Int) by omega), decide_eq_false (show ¬ 20 < (ls.length : Int) by omega), Bool.false_or, Bool.false_or]⟩) SU SR
  rintro ⟨vb, hvb⟩
  try dsimp only
  refine sx_then ?_
  refine scp (fun hc0 => ?_) (fun hc0 => ?_)
  ·
    refine sc_seq ?_
    refine sc_region ?_
    refine qy (yc Try.call13 E0 (fun w1 _ => awake13 w1)) ?_
    refine qs (y_assign RF) ?_
    refine sq_nil ?_
    refine sx_then ?_
    refine sc_ret ?_
    refine sx_then_ret ?_
    refine sx_ret1 (.inl rfl) rfl Try.results12 RF ?_
    intro w' hw'
    exact ⟨rfl, hw'.below MM⟩
  ·
    have hv2 : vb = false := hc0
    rw [hvb, Bool.or_eq_false_iff, Bool.or_eq_false_iff] at hv2
    have hl12 : l.length ≤ 12 := by have := of_decide_eq_false hv2.1; omega
    have hl20 : ls.length ≤ 20 := by have := of_decide_eq_false hv2.2.1; omega
    have h12 : o.length ≤ 1000 := by have := of_decide_eq_false hv2.2.2; omega
    have hbr := best_rev l
    have hfr := fringe_rev ls
    refine sc_skip ?_
    refine sx_then ?_
    refine sc_seq ?_
    refine sc_nil_own 58 5 ?_
    refine sc_region ?_
    refine qs (y_assign RF) ?_
    refine sq_nil ?_
    refine sx_then ?_
    refine sc_seq ?_
    refine sc_seq ?_
    refine sc_region ?_
    refine qs (y_move RF) ?_
    refine qs (y_len Try.underlying34 RF) ?_
    refine qs (y_sub RF RF (by omega)) ?_
    refine qs (y_assign RF) ?_
    refine sq_nil ?_
    refine sx_then ?_
    refine sc_block ?_
    refine sc_loop (σ := Nat × Value)
      (fun s => [(0, .slice a l.length c), (1, .slice ao o.length co), (2, .slice ah ls.length ch), (7, s.2), (8, .int .i64 ((l.length : Int) - 1 - (s.1 : Int)))])
      (fun s => [.own s.2 58 5 s.1 ((l.reverse.take s.1).flatMap jbRow), .reg 0 w])
      (fun s => s.1 ≤ l.length ∧ s.2.oneCell' = true)
      (fun s => l.length - s.1)
      ((0, .slice none 0 0)) ?_ SU SR ?_
    · exact ⟨Nat.zero_le _, rfl⟩
    rintro ⟨k, v7⟩ ⟨hk, hv7⟩
    dsimp only at hk hv7 ⊢
    refine sc_seq ?_
    refine sc_seq ?_
    refine sc_region ?_
    refine qs (y_move RF) ?_
    refine qs (y_geq RF RF) ?_
    refine sq_nil ?_
    refine sx_then ?_
    refine scp (fun hc1 => ?_) (fun hc1 => ?_)
    ·
      have hk' : k < l.length := by omega
      have hkr : l.length - 1 - k < l.length := by omega
      have hsm := (hl.get jb0 hkr).1
      have hca := (hl.get jb0 hkr).2
      refine sc_skip ?_
      refine sx_then ?_
      refine sc_seq ?_
      refine sc_block ?_
      refine sc_region ?_
      refine qs (y_move RF) ?_
      refine qs (y_move RF) ?_
      refine qs (y_move RF) ?_
      refine qs (by first | exact y_ia_blk Try.underlying34 Try.sizeOf58 RF (by exact lk_int rfl (show (l.length : Int) - 1 - (k : Int) = ((l.length - 1 - k : Nat) : Int) by omega)) (by omega) | exact y_ia_el Try.underlying34 Try.sizeOf58 RF (by exact lk_int rfl (show (l.length : Int) - 1 - (k : Int) = ((l.length - 1 - k : Nat) : Int) by omega)) (by omega) (by first | assumption | simp)) ?_
      refine qs (by first | exact y_load_ca Try.underlying58 rfl Try.sizeOf58 RF MM hca rfl | exact LD58) ?_
      refine sq_bs Try.underlying34 ei58 (EvI.cons RF EvI.nil) (by first | (simp [Value.cells]; done) | (simp [Value.cells]; rfl) | (simp [Value.cells]; and_intros <;> rfl)) rfl rfl rfl (fun b64 => ?_)
      refine sq_append (news := jbRow (l.getD (l.length - 1 - k) jb0)) Try.underlying34 ei58 rfl (by decide) RF RM RF rfl (fun _ hw => news_blk hw MM) (by simp [jbRow, Value.oneCell']) (by omega) rfl (fun v65 ho65 => ?_)
      rw [show (l.reverse.take k).flatMap jbRow ++ jbRow (l.getD (l.length - 1 - k) jb0) = (l.reverse.take (k + 1)).flatMap jbRow from by rw [rev_take l jb0 hk']; simp]
      refine qs (y_assign RF) ?_
      refine sq_nil ?_
      refine sx_blk ?_
      refine sx_then ?_
      refine sc_region ?_
      refine qs (y_move RF) ?_
      refine qs (y_sub RF RF (by omega)) ?_
      refine qs (y_assign RF) ?_
      refine sq_nil ?_
      refine sx_round ((k + 1, v65)) ?_ ?_ (by repeat (first | exact SubL.nil | refine SubL.cons (by first | exact rfl | exact lk_int rfl (by dsimp only; omega)) ?_)) SR
      · exact ⟨by dsimp only; omega, ho65⟩
      · dsimp only; omega
    ·
      have hkn : k = l.length := by omega
      rw [rev_all l hkn, hkn]
      refine sc_own_dest (v := v7) (e := 58) (sz := 5) (m := l.length) (xs := l.reverse.flatMap jbRow) MM (fun a7 c7 hv7' hmc7 hn7 => ?_)
      subst hv7'
      clear hv7
      refine sc_exit ?_
      refine sx_then_exit ?_
      refine sx_round_exit ?_
      refine sx_blk_hit ?_
      refine sx_then ?_
      refine sc_seq ?_
      refine sc_nil_own 51 4 ?_
      refine sc_region ?_
      refine qs (y_assign RF) ?_
      refine sq_nil ?_
      refine sx_then ?_
      refine sc_seq ?_
      refine sc_seq ?_
      refine sc_region ?_
      refine qs (y_move RF) ?_
      refine qs (y_len Try.underlying22 RF) ?_
      refine qs (y_sub RF RF (by omega)) ?_
      refine qs (y_assign RF) ?_
      refine sq_nil ?_
      refine sx_then ?_
      refine sc_block ?_
      refine sc_loop (σ := Nat × Value)
        (fun s => [(0, .slice a l.length c), (1, .slice ao o.length co), (2, .slice ah ls.length ch), (7, .slice a7 l.length c7), (9, s.2), (10, .int .i64 ((ls.length : Int) - 1 - (s.1 : Int)))])
        (fun s => [.own s.2 51 4 s.1 ((ls.reverse.take s.1).flatMap sfRow), .own (.slice a7 l.length c7) 58 5 l.length (l.reverse.flatMap jbRow), .reg 0 w])
        (fun s => s.1 ≤ ls.length ∧ s.2.oneCell' = true)
        (fun s => ls.length - s.1)
        ((0, .slice none 0 0)) ?_ SU SR ?_
      · exact ⟨Nat.zero_le _, rfl⟩
      rintro ⟨k, v9⟩ ⟨hk, hv9⟩
      dsimp only at hk hv9 ⊢
      refine sc_seq ?_
      refine sc_seq ?_
      refine sc_region ?_
      refine qs (y_move RF) ?_
      refine qs (y_geq RF RF) ?_
      refine sq_nil ?_
      refine sx_then ?_
      refine scp (fun hc2 => ?_) (fun hc2 => ?_)
      ·
        have hk' : k < ls.length := by omega
        have hkr : ls.length - 1 - k < ls.length := by omega
        have hsm := (hs.get sf0 hkr).1
        have hca := (hs.get sf0 hkr).2
        refine sc_skip ?_
        refine sx_then ?_
        refine sc_seq ?_
        refine sc_block ?_
        refine sc_region ?_
        refine qs (y_move RF) ?_
        refine qs (y_move RF) ?_
        refine qs (y_move RF) ?_
        refine qs (by first | exact y_ia_blk Try.underlying22 Try.sizeOf51 RF (by exact lk_int rfl (show (ls.length : Int) - 1 - (k : Int) = ((ls.length - 1 - k : Nat) : Int) by omega)) (by omega) | exact y_ia_el Try.underlying22 Try.sizeOf51 RF (by exact lk_int rfl (show (ls.length : Int) - 1 - (k : Int) = ((ls.length - 1 - k : Nat) : Int) by omega)) (by omega) (by first | assumption | simp)) ?_
        refine qs (by first | exact y_load_ca Try.underlying51 rfl Try.sizeOf51 RF MM hca rfl | exact LD51) ?_
        refine sq_bs Try.underlying22 ei51 (EvI.cons RF EvI.nil) (by first | (simp [Value.cells]; done) | (simp [Value.cells]; rfl) | (simp [Value.cells]; and_intros <;> rfl)) rfl rfl rfl (fun b78 => ?_)
        refine sq_append (news := sfRow (ls.getD (ls.length - 1 - k) sf0)) Try.underlying22 ei51 rfl (by decide) RF RM RF rfl (fun _ hw => news_blk hw MM) (by simp [sfRow, Value.oneCell']) (by omega) rfl (fun v79 ho79 => ?_)
        rw [show (ls.reverse.take k).flatMap sfRow ++ sfRow (ls.getD (ls.length - 1 - k) sf0) = (ls.reverse.take (k + 1)).flatMap sfRow from by rw [rev_take ls sf0 hk']; simp]
        refine qs (y_assign RF) ?_
        refine sq_nil ?_
        refine sx_blk ?_
        refine sx_then ?_
        refine sc_region ?_
        refine qs (y_move RF) ?_
        refine qs (y_sub RF RF (by omega)) ?_
        refine qs (y_assign RF) ?_
        refine sq_nil ?_
        refine sx_round ((k + 1, v79)) ?_ ?_ (by repeat (first | exact SubL.nil | refine SubL.cons (by first | exact rfl | exact lk_int rfl (by dsimp only; omega)) ?_)) SR
        · exact ⟨by dsimp only; omega, ho79⟩
        · dsimp only; omega
      ·
        have hkn : k = ls.length := by omega
        rw [rev_all ls hkn, hkn]
        refine sc_own_dest (v := v9) (e := 51) (sz := 4) (m := ls.length) (xs := ls.reverse.flatMap sfRow) MM (fun a9 c9 hv9' hmc9 hn9 => ?_)
        subst hv9'
        clear hv9
        refine sc_exit ?_
        refine sx_then_exit ?_
        refine sx_round_exit ?_
        refine sx_blk_hit ?_
        refine sx_then ?_
        refine sc_seq ?_
        refine sc_region ?_
        refine qs (y_move RF) ?_
        refine qy (yc Try.call14 E1 (fun w1 hw1 => fringe14 w1 ah ch ls (hs.at hw1 MM))) ?_
        refine qs (y_move RF) ?_
        refine qs (y_extract RF RF) ?_
        refine qs (y_extract RF RF) ?_
        refine qs (y_extract RF RF) ?_
        refine sq_alloc Try.zeroValue24 rfl (fun b11 => ?_)
        refine sq_alloc Try.zeroValue24 rfl (fun b12 => ?_)
        refine sq_store_all Try.sizeOf24 RF RF rfl RM rfl rfl ?_
        refine sq_store_all Try.sizeOf24 RF RF rfl RM rfl rfl ?_
        refine qs (y_assign RF) ?_
        refine sq_nil ?_
        refine sx_then ?_
        refine sc_seq ?_
        refine sc_region ?_
        refine qs (y_move RF) ?_
        refine qy (yc Try.call14 E1 (fun w1 hw1 => by have h := fringe14n (n := ls.length) (l := ls.reverse) (by simp) w1 a9 c9 (own_atR (row := sfRow) (fun _ => rfl) hw1 (a := a9) (c := c9) (m := ls.length) (e := 51) (l := ls.reverse) MM (by simp)); rw [hfr] at h; exact h)) ?_
        refine qs (y_move RF) ?_
        refine qs (y_extract RF RF) ?_
        refine qs (y_extract RF RF) ?_
        refine qs (y_extract RF RF) ?_
        refine sq_alloc Try.zeroValue24 rfl (fun b14 => ?_)
        refine sq_alloc Try.zeroValue24 rfl (fun b15 => ?_)
        refine sq_store_all Try.sizeOf24 RF RF rfl RM rfl rfl ?_
        refine sq_store_all Try.sizeOf24 RF RF rfl RM rfl rfl ?_
        refine qs (y_assign RF) ?_
        refine sq_nil ?_
        refine sx_then ?_
        refine sc_seq ?_
        refine sc_region ?_
        refine qs (y_move RF) ?_
        refine sq_call_new (first := []) (caps := []) (Z := Option Addr × Nat) (fun z => .tuple #[.slice z.1 (bestR l).1.length z.2, .int .i64 (bestR l).2.1, .int .i64 (bestR l).2.2]) (fun lo w' z => RowsA iRow 1 lo w' z.1 (bestR l).1) RF Try.call27 (EvL.cons RF EvL.nil) (fun w1 hw1 => best27s w1 a c l (hl.at hw1 MM)) rfl (fun lo15 wr15 z15 hz15 => ?_)
        refine qs (y_move RF) ?_
        refine qs (y_extract RF RF) ?_
        refine qs (y_extract RF RF) ?_
        refine qs (y_extract RF RF) ?_
        refine qs (y_assign RF) ?_
        refine qs (y_assign RF) ?_
        refine qs (y_assign RF) ?_
        refine sq_nil ?_
        refine sx_then ?_
        refine sc_seq ?_
        refine sc_region ?_
        refine qs (y_move RF) ?_
        refine sq_call_new (first := []) (caps := []) (Z := Option Addr × Nat) (fun z => .tuple #[.slice z.1 (bestR l.reverse).1.length z.2, .int .i64 (bestR l).2.1, .int .i64 (bestR l).2.2]) (fun lo w' z => RowsA iRow 1 lo w' z.1 (bestR l.reverse).1) RF Try.call27 (EvL.cons RF EvL.nil) (fun w1 hw1 => by have h := best27n (n := l.length) (l := l.reverse) (by simp) w1 a7 c7 (own_atR (row := jbRow) (fun _ => rfl) hw1 (a := a7) (c := c7) (m := l.length) (e := 58) (l := l.reverse) MM (by simp)); rw [hbr] at h; exact h) rfl (fun lo16 wr16 z16 hz16 => ?_)
        refine qs (y_move RF) ?_
        refine qs (y_extract RF RF) ?_
        refine qs (y_extract RF RF) ?_
        refine qs (y_extract RF RF) ?_
        refine qs (y_assign RF) ?_
        refine qs (y_assign RF) ?_
        refine qs (y_assign RF) ?_
        refine sq_nil ?_
        refine sx_then ?_
        refine sc_seq ?_
        refine sc_seq ?_
        refine sc_region ?_
        refine qs LD24 ?_
        refine qs LD24 ?_
        refine qs (y_neqs (by kernel_rfl) RF RF (neq24 _ _ _ _)) ?_
        refine qs (y_move RF) ?_
        refine sq_known (tt := 107) (b' := false) RF (by simp) ?_
        refine qg LD24 ?_
        refine qg LD24 ?_
        refine qg (y_neqs (by kernel_rfl) RF RF (neq24 _ _ _ _)) ?_
        refine qs (y_pick_f RF RF) ?_
        refine qs (y_move RF) ?_
        refine sq_known (tt := 112) (b' := false) RF (by simp) ?_
        refine qg (y_move RF) ?_
        refine qg (y_move RF) ?_
        refine qg (y_neq RF RF) ?_
        refine qs (y_pick_f RF RF) ?_
        refine qs (y_move RF) ?_
        refine sq_known (tt := 117) (b' := false) RF (by simp) ?_
        refine qg (y_move RF) ?_
        refine qg (y_move RF) ?_
        refine qg (y_neq RF RF) ?_
        refine qs (y_pick_f RF RF) ?_
        refine qs (y_move RF) ?_
        refine sq_known (tt := 122) (b' := false) RF (by simp) ?_
        refine qg (y_move RF) ?_
        refine qg (y_move RF) ?_
        refine qg (y_neq RF RF) ?_
        refine qs (y_pick_f RF RF) ?_
        refine sq_nil ?_
        refine sx_then ?_
        refine sc_f (lk_bool rfl (by simp)) ?_
        refine sc_skip ?_
        refine sx_then ?_
        refine sc_seq ?_
        refine sc_region ?_
        refine qs (y_move RF) ?_
        refine qs (y_move RF) ?_
        refine sq_call_new (first := []) (caps := []) (Z := Option Addr × Nat) (fun z => .tuple #[.slice z.1 (runR l o).1.length z.2, .int .i64 (runR l o).2]) (fun lo w' z => RowsA spRow 2 lo w' z.1 (runR l o).1) RF Try.call20 (EvL.cons RF (EvL.cons RF EvL.nil)) (fun w1 hw1 => run20s w1 a c l (hl.at hw1 MM) ao co o (ho.at hw1 MM) h12) rfl (fun lo19 wr19 z19 hz19 => ?_)
        refine qs (y_move RF) ?_
        refine qs (y_extract RF RF) ?_
        refine qs (y_extract RF RF) ?_
        refine qs (y_assign RF) ?_
        refine qs (y_assign RF) ?_
        refine sq_nil ?_
        refine sx_then ?_
        refine sc_seq ?_
        refine sc_seq ?_
        refine sc_region ?_
        refine qs (y_move RF) ?_
        refine qs (y_neq RF RF) ?_
        refine sq_nil ?_
        refine sx_then ?_
        refine scp (fun hc4 => ?_) (fun hc4 => ?_)
        ·
          have hrl := run_no (l := l) (o := o) (by simpa using hc4)
          refine sc_seq ?_
          refine sc_region ?_
          refine qs (y_move RF) ?_
          refine qs (y_len Try.underlying36 RF) ?_
          refine qs (y_eql RF RF) ?_
          refine qs (y_move RF) ?_
          refine sq_known (tt := 138) (b' := true) RF (by simp [hrl]) ?_
          refine sq_gt RF RF (y_call (first := []) (caps := []) RF Try.call13 EvL.nil (fun w1 _ => awake13 w1)) rfl ?_
          refine qs (y_pick_t RF RF) ?_
          refine qs (y_assign RF) ?_
          refine sq_nil ?_
          refine sx_then ?_
          refine sc_ret ?_
          refine sx_then_ret ?_
          refine sx_ret1 (.inl rfl) rfl Try.results12 RF ?_
          intro w' hw'
          exact ⟨rfl, hw'.below MM⟩
        ·
          have hT := turn_of (run_yes (l := l) (o := o) (by simpa using hc4))
          obtain ⟨hr1, hr2⟩ := run_ok hT.chk
          obtain ⟨hq1, hq2⟩ := run_ok hT.chk2
          have h7 := (jobsB_parts hT.jobs).1
          have hsl : (runR l o).1.length = l.length := by rw [hr1, spansV_len]
          have hsl2 : (runR l.reverse (turnO l.length o)).1.length = l.length := by rw [hq1, spansV_len, List.length_reverse]
          have hob := hT.perm
          refine sc_skip ?_
          refine sx_then ?_
          refine sc_seq ?_
          refine sc_seq ?_
          refine sc_region ?_
          refine qs (y_move RF) ?_
          refine qs (y_len Try.underlying36 RF) ?_
          refine qs (y_move RF) ?_
          refine qs (y_len Try.underlying34 RF) ?_
          refine qs (y_neq RF RF) ?_
          refine sq_nil ?_
          refine sx_then ?_
          refine sc_f (lk_bool rfl (by rw [hsl]; simp)) ?_
          refine sc_skip ?_
          refine sx_then ?_
          refine sc_seq ?_
          refine sc_nil_own 3 1 ?_
          refine sc_region ?_
          refine qs (y_assign RF) ?_
          refine sq_nil ?_
          refine sx_then ?_
          refine sc_seq ?_
          refine sc_seq ?_
          refine sc_region ?_
          refine qs (y_move RF) ?_
          refine qs (y_len Try.underlying35 RF) ?_
          refine qs (y_move RF) ?_
          refine sq_nil ?_
          refine sx_then ?_
          refine sc_block ?_
          refine sc_loop (σ := Nat × Value)
            (fun s => [(0, .slice a l.length c), (1, .slice ao o.length co), (2, .slice ah ls.length ch), (7, .slice a7 l.length c7), (23, .slice z19.1 (runR l o).1.length z19.2), (25, s.2), (146, .slice ao o.length co), (147, .int .i64 o.length), (148, .int .i64 s.1)])
            (fun s => [.own s.2 3 1 s.1 (((turnO l.length o).take s.1).flatMap iRow), .own (.slice a7 l.length c7) 58 5 l.length (l.reverse.flatMap jbRow), .reg lo19 wr19, .reg 0 w])
            (fun s => s.1 ≤ o.length ∧ s.2.oneCell' = true)
            (fun s => o.length - s.1)
            ((0, .slice none 0 0)) ?_ SU SR ?_
          · exact ⟨Nat.zero_le _, rfl⟩
          rintro ⟨k, v25⟩ ⟨hk, hv25⟩
          dsimp only at hk hv25 ⊢
          refine sc_seq ?_
          refine sc_region ?_
          refine qs (y_lss RF RF) ?_
          refine sq_nil ?_
          refine sx_then ?_
          refine sc_seq ?_
          refine scp (fun hc6 => ?_) (fun hc6 => ?_)
          ·
            have hk' : k < o.length := by omega
            have hsm := (ho.get 0 hk').1
            have hca := (ho.get 0 hk').2
            have hin := mem_rngI.1 (hob.mem_iff.1 (getD_mem (d := 0) hk'))
            refine sc_skip ?_
            refine sx_then ?_
            refine sc_seq ?_
            refine sc_block ?_
            refine sc_seq ?_
            refine sc_region ?_
            refine qs IA35 ?_
            refine qs (by first | exact y_load_ca0 Try.underlying3 rfl RF MM hca rfl | exact LD3) ?_
            refine qs (y_assign RF) ?_
            refine sq_nil ?_
            refine sx_then ?_
            refine sc_region ?_
            refine qs (y_move RF) ?_
            refine qs (y_move RF) ?_
            refine qs (y_len Try.underlying34 RF) ?_
            refine qs (y_sub RF RF (by omega)) ?_
            refine qs (y_move RF) ?_
            refine qs (y_sub RF RF (by omega)) ?_
            refine sq_bs Try.underlying35 ei3 (EvI.cons RF EvI.nil) (by first | (simp [Value.cells]; done) | (simp [Value.cells]; rfl) | (simp [Value.cells]; and_intros <;> rfl)) rfl rfl rfl (fun b158 => ?_)
            refine sq_append (news := iRow ((l.length : Int) - 1 - o.getD k 0)) Try.underlying35 ei3 rfl (by decide) RF RM RF rfl (fun _ hw => news_blk hw MM) (by simp [iRow, Value.oneCell']) (by omega) rfl (fun v159 ho159 => ?_)
            rw [show ((turnO l.length o).take k).flatMap iRow ++ iRow ((l.length : Int) - 1 - o.getD k 0) = ((turnO l.length o).take (k + 1)).flatMap iRow from by rw [turn_take hk']; simp]
            refine qs (y_assign RF) ?_
            refine sq_nil ?_
            refine sx_blk ?_
            refine sx_then ?_
            refine sc_region ?_
            refine qs (y_add RF RF (by omega)) ?_
            refine qs (y_move RF) ?_
            refine sq_nil ?_
            refine sx_round ((k + 1, v159)) ?_ ?_ SU SR
            · exact ⟨by dsimp only; omega, ho159⟩
            · dsimp only; omega
          ·
            have hkn : k = o.length := by omega
            rw [show (turnO l.length o).take k = (turnO l.length o) from List.take_of_length_le (by rw [turnO_len]; omega), hkn]
            refine sc_own_dest (v := v25) (e := 3) (sz := 1) (m := o.length) (xs := (turnO l.length o).flatMap iRow) MM (fun a25 c25 hv25' hmc25 hn25 => ?_)
            subst hv25'
            clear hv25
            refine sc_exit ?_
            refine sx_then_exit ?_
            refine sx_round_exit ?_
            refine sx_blk_hit ?_
            refine sx_then ?_
            refine sc_seq ?_
            refine sc_region ?_
            refine qs (y_move RF) ?_
            refine qs (y_move RF) ?_
            refine sq_call_new (first := []) (caps := []) (Z := Option Addr × Nat) (fun z => .tuple #[.slice z.1 (runR l.reverse (turnO l.length o)).1.length z.2, .int .i64 (runR l.reverse (turnO l.length o)).2]) (fun lo w' z => RowsA spRow 2 lo w' z.1 (runR l.reverse (turnO l.length o)).1) RF Try.call20 (EvL.cons RF (EvL.cons RF EvL.nil)) (fun w1 hw1 => run20m (n := l.length) (m := o.length) (l := l.reverse) (o := (turnO l.length o)) (by simp) (turnO_len _ _) w1 a7 c7 (own_atR (row := jbRow) (fun _ => rfl) hw1 (a := a7) (c := c7) (m := l.length) (e := 58) (l := l.reverse) MM (by simp)) a25 c25 (own_atR (row := iRow) (fun _ => rfl) hw1 (a := a25) (c := c25) (m := o.length) (e := 3) (l := (turnO l.length o)) MM (turnO_len _ _)) (by rw [turnO_len]; omega)) rfl (fun lo30 wr30 z30 hz30 => ?_)
            refine qs (y_move RF) ?_
            refine qs (y_extract RF RF) ?_
            refine qs (y_extract RF RF) ?_
            refine qs (y_assign RF) ?_
            refine qs (y_assign RF) ?_
            refine sq_nil ?_
            refine sx_then ?_
            refine sc_seq ?_
            refine sc_region ?_
            refine qs (y_move RF) ?_
            refine qs (y_move RF) ?_
            refine qy (yc Try.call22 E2 (fun w1 hw1 => late22m rfl rfl hT.chk w1 a c (hl.at hw1 MM) ao co (ho.at hw1 MM) h12)) ?_
            refine qs (y_move RF) ?_
            refine qs (y_extract RF RF) ?_
            refine qs (y_extract RF RF) ?_
            refine qs (y_extract RF RF) ?_
            refine qs (y_assign RF) ?_
            refine qs (y_assign RF) ?_
            refine qs (y_assign RF) ?_
            refine sq_nil ?_
            refine sx_then ?_
            refine sc_seq ?_
            refine sc_region ?_
            refine qs (y_move RF) ?_
            refine qs (y_move RF) ?_
            refine qy (yc Try.call22 E2 (fun w1 hw1 => late22m (n := l.length) (m := o.length) (l := l.reverse) (o := (turnO l.length o)) (by simp) (turnO_len _ _) hT.chk2 w1 a7 c7 (own_atR (row := jbRow) (fun _ => rfl) hw1 (a := a7) (c := c7) (m := l.length) (e := 58) (l := l.reverse) MM (by simp)) a25 c25 (own_atR (row := iRow) (fun _ => rfl) hw1 (a := a25) (c := c25) (m := o.length) (e := 3) (l := (turnO l.length o)) MM (turnO_len _ _)) (by rw [turnO_len]; omega))) ?_
            refine qs (y_move RF) ?_
            refine qs (y_extract RF RF) ?_
            refine qs (y_extract RF RF) ?_
            refine qs (y_extract RF RF) ?_
            refine qs (y_assign RF) ?_
            refine qs (y_assign RF) ?_
            refine qs (y_assign RF) ?_
            refine sq_nil ?_
            refine sx_then ?_
            refine sc_seq ?_
            refine sc_seq ?_
            refine sc_region ?_
            refine qs (y_move RF) ?_
            refine qs (y_neq RF RF) ?_
            refine qs (y_move RF) ?_
            refine sq_known (tt := 183) (b' := false) RF (by simp [hq2]) ?_
            refine qg (y_move RF) ?_
            refine qg (y_len Try.underlying36 RF) ?_
            refine qg (y_move RF) ?_
            refine qg (y_len Try.underlying36 RF) ?_
            refine qg (y_neq RF RF) ?_
            refine qs (y_pick_f RF RF) ?_
            refine qs (y_move RF) ?_
            refine sq_known (tt := 190) (b' := false) RF (by rw [hsl, hsl2]; simp) ?_
            refine qg (y_move RF) ?_
            refine qg (y_neq RF RF) ?_
            refine qs (y_pick_f RF RF) ?_
            refine qs (y_move RF) ?_
            refine sq_known (tt := 194) (b' := false) RF (by simp) ?_
            refine qg (y_move RF) ?_
            refine qg (y_neq RF RF) ?_
            refine qs (y_pick_f RF RF) ?_
            refine sq_nil ?_
            refine sx_then ?_
            refine sc_f (lk_bool rfl (by simp)) ?_
            refine sc_skip ?_
            refine sx_then ?_
            refine sc_seq ?_
            refine sc_seq ?_
            refine sc_region ?_
            refine qs (y_assign RF) ?_
            refine sq_nil ?_
            refine sx_then ?_
            refine sc_block ?_
            refine sc_loop (σ := Nat)
              (fun s => [(0, .slice a l.length c), (23, .slice z19.1 (runR l o).1.length z19.2), (28, .slice z30.1 (runR l.reverse (turnO l.length o)).1.length z30.2), (30, .int .i64 ((lateN (sureF l o) l.length : Nat) : Int)), (31, .int .i64 ((lateN (canF l o) l.length : Nat) : Int)), (33, .int .i64 ((lateN (sureF l.reverse (turnO l.length o)) l.length : Nat) : Int)), (34, .int .i64 ((lateN (canF l.reverse (turnO l.length o)) l.length : Nat) : Int)), (36, .int .i64 s)])
              (fun s => [.reg lo30 wr30, .reg lo19 wr19, .reg 0 w])
              (fun s => s ≤ l.length)
              (fun s => l.length - s)
              (0) ?_ SU SR ?_
            · exact Nat.zero_le _
            rintro k hk
            refine sc_seq ?_
            refine sc_seq ?_
            refine sc_region ?_
            refine qs (y_move RF) ?_
            refine qs (y_move RF) ?_
            refine qs (y_len Try.underlying36 RF) ?_
            refine qs (y_lss RF RF) ?_
            refine sq_nil ?_
            refine sx_then ?_
            refine scp (fun hc8 => ?_) (fun hc8 => ?_)
            ·
              have hk' : k < l.length := by omega
              have hz : (l.length : Int) - 1 - (k : Int) = ((l.length - 1 - k : Nat) : Int) := by omega
              have hs1 := (hz19.get sp0 (show k < (runR l o).1.length by omega)).1
              have hca1 := (hz19.get sp0 (show k < (runR l o).1.length by omega)).2
              have hs2 := (hz30.get sp0 (show l.length - 1 - k < (runR l.reverse (turnO l.length o)).1.length by omega)).1
              have hca2 := (hz30.get sp0 (show l.length - 1 - k < (runR l.reverse (turnO l.length o)).1.length by omega)).2
              have hg1 : (runR l o).1.getD k sp0 = spanK l o k := by rw [hr1]; exact spansV_getD hk'
              have hg2 : (runR l.reverse (turnO l.length o)).1.getD (l.length - 1 - k) sp0 = spanK l o k := by rw [hq1, spansV_getD (by rw [List.length_reverse]; omega), span_rev hT hk']
              obtain ⟨hsr, hcr⟩ := sure_rev hT hk'
              have hb1 : (lateN (sureF l o) l.length).testBit k = sureF l o k := by rw [lateN_bit, decide_eq_true hk', Bool.true_and]
              have hb2 : (lateN (canF l o) l.length).testBit k = canF l o k := by rw [lateN_bit, decide_eq_true hk', Bool.true_and]
              have hb3 : (lateN (sureF l.reverse (turnO l.length o)) l.length).testBit (l.length - 1 - k) = sureF l o k := by rw [lateN_bit, decide_eq_true (show l.length - 1 - k < l.length by omega), Bool.true_and, hsr]
              have hb4 : (lateN (canF l.reverse (turnO l.length o)) l.length).testBit (l.length - 1 - k) = canF l o k := by rw [lateN_bit, decide_eq_true (show l.length - 1 - k < l.length by omega), Bool.true_and, hcr]
              refine sc_skip ?_
              refine sx_then ?_
              refine sc_seq ?_
              refine sc_block ?_
              refine sc_seq ?_
              refine sc_region ?_
              refine qs (y_move RF) ?_
              refine qs (y_len Try.underlying34 RF) ?_
              refine qs (y_sub RF RF (by omega)) ?_
              refine qs (y_move RF) ?_
              refine qs (y_sub RF RF (by omega)) ?_
              rw [hz]
              refine qs (y_assign RF) ?_
              refine sq_nil ?_
              refine sx_then ?_
              refine sc_seq ?_
              refine sc_draw rfl (by kernel_rfl) (by kernel_rfl) ?_
              refine qq_y (OpY.s (y_move RF)) rfl ?_
              refine qq_y (OpY.s (y_move RF)) rfl ?_
              refine qq_y (OpY.s IA36) rfl ?_
              refine qq_y (OpY.s (by first | exact y_load_ca Try.underlying24 rfl Try.sizeOf24 RF MM hca1 rfl | exact LD24)) rfl ?_
              refine qq_y (OpY.s (y_move RF)) rfl ?_
              refine qq_y (OpY.s (y_move RF)) rfl ?_
              refine qq_y (OpY.s IA36) rfl ?_
              refine qq_y (OpY.s (by first | exact y_load_ca Try.underlying24 rfl Try.sizeOf24 RF MM hca2 rfl | exact LD24)) rfl ?_
              refine qq_y (OpY.s (y_neqs (by kernel_rfl) RF RF (neq24 _ _ _ _))) rfl ?_
              refine qq_y (OpY.s (y_move RF)) rfl ?_
              refine qq_known (tt := 218) (b' := false) RF (by rw [hg1, hg2]; simp) ?_
              refine qq_gt RF RF (OpY.s (y_move RF)) rfl ?_
              refine qq_gt RF RF (OpY.s (y_move RF)) rfl ?_
              refine qq_gt RF RF (OpY.s (y_shr RF RF (by simp [IntKind.bits]; omega))) rfl ?_
              refine qq_gt RF RF (OpY.s (y_and RF RF (shr_nn _ _ (late_le hT.jobs _)) (by decide))) rfl ?_
              rw [bitV, hb1]
              refine qq_gt RF RF (OpY.s (y_move RF)) rfl ?_
              refine qq_gt RF RF (OpY.s (y_move RF)) rfl ?_
              refine qq_gt RF RF (OpY.s (y_shr RF RF (by simp [IntKind.bits]; omega))) rfl ?_
              refine qq_gt RF RF (OpY.s (y_and RF RF (shr_nn _ _ (late_le hT.jobs _)) (by decide))) rfl ?_
              rw [bitV, hb3]
              refine qq_gt RF RF (OpY.s (y_neq RF RF)) rfl ?_
              refine qq_y (OpY.s (y_pick_f RF RF)) rfl ?_
              refine qq_y (OpY.s (y_move RF)) rfl ?_
              refine qq_known (tt := 229) (b' := false) RF (by simp) ?_
              refine qq_gt RF RF (OpY.s (y_move RF)) rfl ?_
              refine qq_gt RF RF (OpY.s (y_move RF)) rfl ?_
              refine qq_gt RF RF (OpY.s (y_shr RF RF (by simp [IntKind.bits]; omega))) rfl ?_
              refine qq_gt RF RF (OpY.s (y_and RF RF (shr_nn _ _ (late_le hT.jobs _)) (by decide))) rfl ?_
              rw [bitV, hb2]
              refine qq_gt RF RF (OpY.s (y_move RF)) rfl ?_
              refine qq_gt RF RF (OpY.s (y_move RF)) rfl ?_
              refine qq_gt RF RF (OpY.s (y_shr RF RF (by simp [IntKind.bits]; omega))) rfl ?_
              refine qq_gt RF RF (OpY.s (y_and RF RF (shr_nn _ _ (late_le hT.jobs _)) (by decide))) rfl ?_
              rw [bitV, hb4]
              refine qq_gt RF RF (OpY.s (y_neq RF RF)) rfl ?_
              refine qq_y (OpY.s (y_pick_f RF RF)) rfl ?_
              refine qq_nil ?_
              refine sx_then ?_
              refine sc_f (lk_bool rfl (by simp)) ?_
              refine sc_skip ?_
              refine sx_blk ?_
              refine sx_then ?_
              refine sc_region ?_
              refine qs (y_move RF) ?_
              refine qs (y_add RF RF (by omega)) ?_
              refine qs (y_assign RF) ?_
              refine sq_nil ?_
              refine sx_round (k + 1) ?_ ?_ SU SR
              · omega
              · omega
            ·
              refine sc_exit ?_
              refine sx_then_exit ?_
              refine sx_round_exit ?_
              refine sx_blk_hit ?_
              refine sx_then ?_
              refine sc_seq ?_
              refine sc_region ?_
              refine qy (yc Try.call13 E0 (fun w1 _ => awake13 w1)) ?_
              refine qs (y_assign RF) ?_
              refine sq_nil ?_
              refine sx_then ?_
              refine sc_ret ?_
              refine sx_ret1 (.inl rfl) rfl Try.results12 RF ?_
              intro w' hw'
              exact ⟨rfl, hw'.below MM⟩
end Go.Proofs.Ytjlbpmcacopbpaa
