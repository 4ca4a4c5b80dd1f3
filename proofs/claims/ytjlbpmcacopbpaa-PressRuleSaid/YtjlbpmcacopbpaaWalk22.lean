/- The walk of the law PressRule. -/
import Derived.Test.YtjlbpmcacopbpaaLawY
namespace Go.Proofs.Ytjlbpmcacopbpaa
open Go Go.Eng Go.RowKit Go.Proofs
set_option maxRecDepth 100000

theorem run20n {n : Nat} {o : List Int} (hn : o.length = n) (w : World) (a : Option Addr) (c : Nat) (l : List Jb) (hl : RowsA jbRow 5 0 w a l) (ao : Option Addr) (co : Nat) (ho : RowsA iRow 1 0 w ao o) (h1000 : o.length ≤ 1000) : Calls Try.prog 20 #[.slice a l.length c, .slice ao n co] w fun e w' => ∃ z : Option Addr × Nat, e = .returned (.tuple #[.slice z.1 (runR l o).1.length z.2, .int .i64 (runR l o).2]) ∧ Below w.heap.size w w' ∧ RowsA spRow 2 w.heap.size w' z.1 (runR l o).1 := by
  subst hn; exact run20s w a c l hl ao co o ho h1000
theorem own_at {w0 w : World} {rs : List Res} {a : Option Addr} {m c : Nat} {e : TypeId} {l : List Int} (h : Hp w0 rs w) (hm : Res.own (.slice a m c) e 1 m (l.flatMap iRow) ∈ rs) (hl : l.length = m) (h64 : m ≤ 9223372036854775807 := by omega) : RowsA iRow 1 0 w a l := by
  obtain ⟨a2, c2, he, _, hr⟩ := own_rowsA (row := iRow) (fun _ => rfl) (h.ok _ hm : w.ownsRow 0 e 1 (.slice a m c) m (l.flatMap iRow)) hl h64
  injection he with h1 h2 h3
  subst h1; exact hr
theorem atT_get {l : List Jb} {k : Nat} (h : k < l.length) : atT (l.map (timeV true)) (k : Int) = timeV true (l.getD k jb0) := by
  unfold atT
  rw [Int.toNat_natCast, List.getD_eq_getElem?_getD, List.getElem?_map, get_of_lt jb0 h]; rfl
theorem before41 (w : World) (a : Option Addr) (c : Nat) (l : List Jb) (hl : RowsA jbRow 5 0 w a l) (p : Addr) (hp : CA 0 w p [.slice a l.length c]) (i k : Nat) (hi : i < l.length) (hk : k < l.length) : Calls Try.prog 41 #[.int .i64 i, .int .i64 k, .pointer (some p)] w fun e w' => e = .returned (.bool (befB (atT (l.map (timeV true)) (i : Int)) (atT (l.map (timeV true)) (k : Int)))) ∧ Below w.heap.size w w' := by
  rw [atT_get hi, atT_get hk]
  have hsi := (hl.get jb0 hi).1
  have hci := (hl.get jb0 hi).2
  have hsk := (hl.get jb0 hk).1
  have hck := (hl.get jb0 hk).2
  refine calls_of_SC (args := [.int .i64 i, .int .i64 k, .pointer (some p)]) Try.func41 rfl Try.ntmps41 rfl ?_
  simp only [argL, Nat.reduceAdd, Nat.zero_add]
  refine sc_seq ?_
  refine sc_region ?_
  refine qs (y_assign RF) ?_
  refine sq_nil ?_
  refine sx_then ?_
  refine sc_seq ?_
  refine sc_drawX ([.reg 0 w]) (by kernel_rfl) ?_
  refine xj_s 0 RF (by kernel_rfl) SR (by first | exact y_load_ca0 Try.underlying34 rfl RF MM hp rfl | exact LD34) rfl ?_
  refine xj_s 1 RF (by kernel_rfl) SR (y_move RF) rfl ?_
  refine xj_s 2 RF (by kernel_rfl) SR IA34 rfl ?_
  refine xj_s 3 RF (by kernel_rfl) SR FA58_24 rfl ?_
  refine xj_s 4 RF (by kernel_rfl) SR (y_fa Try.underlying24 RF (by exact Try.sizeOf3) RF rfl) rfl ?_
  refine xj_s 5 RF (by kernel_rfl) SR (by first | exact y_load_cajj Try.underlying3 rfl RF MM hci RF | exact LD3) rfl ?_
  refine xj_s 6 RF (by kernel_rfl) SR (by first | exact y_load_ca0 Try.underlying34 rfl RF MM hp rfl | exact LD34) rfl ?_
  refine xj_s 7 RF (by kernel_rfl) SR (y_move RF) rfl ?_
  refine xj_s 8 RF (by kernel_rfl) SR IA34 rfl ?_
  refine xj_s 9 RF (by kernel_rfl) SR FA58_24 rfl ?_
  refine xj_s 10 RF (by kernel_rfl) SR (y_fa Try.underlying24 RF (by exact Try.sizeOf3) RF rfl) rfl ?_
  refine xj_s 11 RF (by kernel_rfl) SR (by first | exact y_load_cajj Try.underlying3 rfl RF MM hci RF | exact LD3) rfl ?_
  refine xj_s 12 RF (by kernel_rfl) SR (y_lss RF RF) rfl ?_
  refine xj_s 13 RF (by kernel_rfl) SR (by first | exact y_load_ca0 Try.underlying34 rfl RF MM hp rfl | exact LD34) rfl ?_
  refine xj_s 14 RF (by kernel_rfl) SR (y_move RF) rfl ?_
  refine xj_s 15 RF (by kernel_rfl) SR IA34 rfl ?_
  refine xj_s 16 RF (by kernel_rfl) SR FA58_24 rfl ?_
  refine xj_s 17 RF (by kernel_rfl) SR (y_fa Try.underlying24 RF (by exact Try.sizeOf3) RF rfl) rfl ?_
  refine xj_s 18 RF (by kernel_rfl) SR (by first | exact y_load_cajj Try.underlying3 rfl RF MM hck RF | exact LD3) rfl ?_
  refine xj_s 19 RF (by kernel_rfl) SR (by first | exact y_load_ca0 Try.underlying34 rfl RF MM hp rfl | exact LD34) rfl ?_
  refine xj_s 20 RF (by kernel_rfl) SR (y_move RF) rfl ?_
  refine xj_s 21 RF (by kernel_rfl) SR IA34 rfl ?_
  refine xj_s 22 RF (by kernel_rfl) SR FA58_24 rfl ?_
  refine xj_s 23 RF (by kernel_rfl) SR (y_fa Try.underlying24 RF (by exact Try.sizeOf3) RF rfl) rfl ?_
  refine xj_s 24 RF (by kernel_rfl) SR (by first | exact y_load_cajj Try.underlying3 rfl RF MM hck RF | exact LD3) rfl ?_
  refine xj_s 25 RF (by kernel_rfl) SR (y_lss RF RF) rfl ?_
  refine xj_s 26 RF (by kernel_rfl) SR (y_assign RF) rfl ?_
  refine xj_s 27 RF (by kernel_rfl) SR (y_assign RF) rfl ?_
  refine xj_done (by kernel_rfl) ?_
  refine sx_then ?_
  refine sc_seq ?_
  refine sc_seq ?_
  refine sc_region ?_
  refine qs (y_move RF) ?_
  refine qs (y_move RF) ?_
  refine qs (y_neqb Try.underlying4 RF RF) ?_
  refine sq_nil ?_
  refine sx_then ?_
  refine scp (fun hc0 => ?_) (fun hc0 => ?_)
  ·
    refine sc_seq ?_
    refine sc_region ?_
    refine qs (y_move RF) ?_
    refine qs (y_assign RF) ?_
    refine sq_nil ?_
    refine sx_then ?_
    refine sc_ret ?_
    refine sx_then_ret ?_
    refine sx_ret1 (.inl rfl) rfl Try.results41 RF ?_
    intro w' hw'
    refine ⟨?_, hw'.below MM⟩
    unfold befB timeV
    simp only [if_true]
    rw [if_pos (by simpa using hc0)]
  ·
    refine sc_skip ?_
    refine sx_then ?_
    refine sc_seq ?_
    refine sc_seq ?_
    refine sc_region ?_
    refine qs (y_move RF) ?_
    refine sq_nil ?_
    refine sx_then ?_
    refine scp (fun hc1 => ?_) (fun hc1 => ?_)
    ·
      refine sc_seq ?_
      refine sc_draw rfl (by kernel_rfl) (by kernel_rfl) ?_
      refine qq_y (OpY.s (by first | exact y_load_ca0 Try.underlying34 rfl RF MM hp rfl | exact LD34)) rfl ?_
      refine qq_y (OpY.s (y_move RF)) rfl ?_
      refine qq_y (OpY.s IA34) rfl ?_
      refine qq_y (OpY.s FA58_24) rfl ?_
      refine qq_y (OpY.s (y_fa Try.underlying24 RF (by exact Try.sizeOf3) RF rfl)) rfl ?_
      refine qq_y (OpY.s (by first | exact y_load_cajj Try.underlying3 rfl RF MM hci RF | exact LD3)) rfl ?_
      refine qq_y (OpY.s (by first | exact y_load_ca0 Try.underlying34 rfl RF MM hp rfl | exact LD34)) rfl ?_
      refine qq_y (OpY.s (y_move RF)) rfl ?_
      refine qq_y (OpY.s IA34) rfl ?_
      refine qq_y (OpY.s FA58_24) rfl ?_
      refine qq_y (OpY.s (y_fa Try.underlying24 RF (by exact Try.sizeOf3) RF rfl)) rfl ?_
      refine qq_y (OpY.s (by first | exact y_load_cajj Try.underlying3 rfl RF MM hck RF | exact LD3)) rfl ?_
      refine qq_y (OpY.s (y_lss RF RF)) rfl ?_
      refine qq_y (OpY.s (y_assign RF)) rfl ?_
      refine qq_nil ?_
      refine sx_then ?_
      refine sc_ret ?_
      refine sx_then_ret ?_
      refine sx_ret1 (.inl rfl) rfl Try.results41 RF ?_
      intro w' hw'
      refine ⟨?_, hw'.below MM⟩
      unfold befB timeV
      simp only [if_true]
      have h0 := hc0
      rw [if_neg (by simpa using h0), if_pos (by simpa using hc1)]
    ·
      refine sc_skip ?_
      refine sx_then ?_
      refine sc_seq ?_
      refine sc_draw rfl (by kernel_rfl) (by kernel_rfl) ?_
      refine qq_y (OpY.s (by first | exact y_load_ca0 Try.underlying34 rfl RF MM hp rfl | exact LD34)) rfl ?_
      refine qq_y (OpY.s (y_move RF)) rfl ?_
      refine qq_y (OpY.s IA34) rfl ?_
      refine qq_y (OpY.s FA58_24) rfl ?_
      refine qq_y (OpY.s (y_fa Try.underlying24 RF (by exact Try.sizeOf3) RF rfl)) rfl ?_
      refine qq_y (OpY.s (by first | exact y_load_cajj Try.underlying3 rfl RF MM hci RF | exact LD3)) rfl ?_
      refine qq_y (OpY.s (by first | exact y_load_ca0 Try.underlying34 rfl RF MM hp rfl | exact LD34)) rfl ?_
      refine qq_y (OpY.s (y_move RF)) rfl ?_
      refine qq_y (OpY.s IA34) rfl ?_
      refine qq_y (OpY.s FA58_24) rfl ?_
      refine qq_y (OpY.s (y_fa Try.underlying24 RF (by exact Try.sizeOf3) RF rfl)) rfl ?_
      refine qq_y (OpY.s (by first | exact y_load_cajj Try.underlying3 rfl RF MM hck RF | exact LD3)) rfl ?_
      refine qq_y (OpY.s (y_gtr RF RF)) rfl ?_
      refine qq_y (OpY.s (y_assign RF)) rfl ?_
      refine qq_nil ?_
      refine sx_then ?_
      refine sc_ret ?_
      refine sx_ret1 (.inl rfl) rfl Try.results41 RF ?_
      intro w' hw'
      refine ⟨?_, hw'.below MM⟩
      unfold befB timeV
      simp only [if_true]
      have h0 := hc0
      rw [if_neg (by simpa using h0), if_neg (by simpa using hc1)]
theorem rule9 (w : World) (a : Option Addr) (c : Nat) (l : List Jb) (hl : RowsA jbRow 5 0 w a l) : Calls Try.prog 9 #[.slice a l.length c] w fun e w' => e = .returned (.bool true) ∧ Below w.heap.size w w' := by
  refine calls_of_SC (args := [.slice a l.length c]) Try.func9 rfl Try.ntmps9 rfl ?_
  simp only [argL]
  refine sc_seq ?_
  refine sc_region ?_
  refine sq_box RF rfl (fun b1 => ?_)
  refine qs (y_assign RF) ?_
  refine sq_nil ?_
  refine sx_then ?_
  refine sc_seq ?_
  refine sc_seq ?_
  refine sc_region ?_
  refine qs LD34 ?_
  refine qs (y_len Try.underlying34 RF) ?_
  refine qs (y_gtr RF RF) ?_
  refine sq_nil ?_
  refine sx_then ?_
  refine scp (fun hc0 => ?_) (fun hc0 => ?_)
  ·
    refine sc_seq ?_
    refine sc_region ?_
    refine qy (yc Try.call13 E0 (fun w1 _ => awake13 w1)) ?_
    refine qs (y_assign RF) ?_
    refine sq_nil ?_
    refine sx_then ?_
    refine sc_ret ?_
    refine sx_then_ret ?_
    refine sx_ret1 (.inl rfl) rfl Try.results9 RF ?_
    intro w' hw'
    exact ⟨rfl, hw'.below MM⟩
  ·
    refine sc_skip ?_
    refine sx_then ?_
    refine sc_seq ?_
    refine sc_region ?_
    refine qs LD34 ?_
    refine sq_call_new (first := []) (caps := []) (Z := Option Addr × Nat) (fun z => .tuple #[.slice z.1 (bestR l).1.length z.2, .int .i64 (bestR l).2.1, .int .i64 (bestR l).2.2]) (fun lo w' z => RowsA iRow 1 lo w' z.1 (bestR l).1) RF Try.call27 (EvL.cons RF EvL.nil) (fun w1 hw1 => best27s w1 a c l (hl.at hw1 MM)) rfl (fun lo3 wr3 z3 hz3 => ?_)
    refine qs (y_move RF) ?_
    refine qs (y_extract RF RF) ?_
    refine qs (y_extract RF RF) ?_
    refine qs (y_extract RF RF) ?_
    refine qs (y_assign RF) ?_
    refine qs (y_assign RF) ?_
    refine qs (y_assign RF) ?_
    refine sq_nil ?_
    refine sx_then ?_
    refine sc_seq ?_
    refine sc_seq ?_
    refine sc_region ?_
    refine qs (y_move RF) ?_
    refine qs (y_neq RF RF) ?_
    refine sq_nil ?_
    refine sx_then ?_
    refine scp (fun hc1 => ?_) (fun hc1 => ?_)
    ·
      obtain ⟨hnj, hno⟩ := best_no (by simpa using hc1)
      refine sc_seq ?_
      refine sc_region ?_
      refine qs LD34 ?_
      refine qy (yc Try.call30 E1 (fun w1 hw1 => jobs30 w1 a c l (hl.at hw1 MM))) ?_
      refine qs (y_not RF) ?_
      refine qs (y_move RF) ?_
      refine sq_known (tt := 30) (b' := true) RF (by simp [hnj]) ?_
      refine qg (y_move RF) ?_
      refine qg (y_eql RF RF) ?_
      refine qs (y_pick_t RF RF) ?_
      refine qs (y_move RF) ?_
      refine sq_known (tt := 34) (b' := true) RF (by simp [hno]) ?_
      refine sq_gt RF RF (y_call (first := []) (caps := []) RF Try.call13 EvL.nil (fun w1 _ => awake13 w1)) rfl ?_
      refine qs (y_pick_t RF RF) ?_
      refine qs (y_assign RF) ?_
      refine sq_nil ?_
      refine sx_then ?_
      refine sc_ret ?_
      refine sx_then_ret ?_
      refine sx_ret1 (.inl rfl) rfl Try.results9 RF ?_
      intro w' hw'
      exact ⟨rfl, hw'.below MM⟩
    ·
      have hF := best_yes (by simpa using hc1)
      have hj := hF.jobs
      have h7 := (jobsB_parts hF.jobs).1
      have hrb := rule_best hF
      have hop := ruleK_perm (l.map (timeV true)) l.length
      have hol := ruleK_len (l.map (timeV true)) l.length
      obtain ⟨hr1, hr2⟩ := run_ok (chk_perm hF.jobs hop)
      have hsl : (runR l (ruleK (l.map (timeV true)) l.length)).1.length = l.length := by rw [hr1, spansV_len]
      refine sc_skip ?_
      refine sx_then ?_
      refine sc_seq ?_
      refine sc_seq ?_
      refine sc_region ?_
      refine qs LD34 ?_
      refine qy (yc Try.call30 E1 (fun w1 hw1 => jobs30 w1 a c l (hl.at hw1 MM))) ?_
      refine qs (y_not RF) ?_
      refine sq_nil ?_
      refine sx_then ?_
      refine sc_f (lk_bool rfl (by simp [hj])) ?_
      refine sc_skip ?_
      refine sx_then ?_
      refine sc_seq ?_
      refine sc_region ?_
      refine qs (y_makeFunc EvL.nil (EvL.cons RF EvL.nil)) ?_
      refine qs (y_assign RF) ?_
      refine sq_nil ?_
      refine sx_then ?_
      refine sc_seq ?_
      refine sc_nil_own 3 1 ?_
      refine sc_region ?_
      refine qs (y_assign RF) ?_
      refine sq_nil ?_
      refine sx_then ?_
      refine sc_seq ?_
      refine sc_seq ?_
      refine sc_region ?_
      refine qs (y_assign RF) ?_
      refine sq_nil ?_
      refine sx_then ?_
      refine sc_block ?_
      refine sc_loop (σ := Nat × Value)
        (fun s => [(1, .pointer (some ⟨b1, 0, none⟩)), (4, .int .i64 (bestR l).2.1), (6, .func (.func 41) #[] #[.pointer (some ⟨b1, 0, none⟩)]), (7, s.2), (8, .int .i64 s.1)])
        (fun s => [.own s.2 3 1 s.1 ((ruleK (l.map (timeV true)) s.1).flatMap iRow), .blk b1 (.cells [Value.slice a l.length c].toArray 34 (0, 0)), .reg 0 w])
        (fun s => s.1 ≤ l.length ∧ s.2.oneCell' = true)
        (fun s => l.length - s.1)
        ((0, .slice none 0 0)) ?_ SU SR ?_
      · exact ⟨Nat.zero_le _, rfl⟩
      rintro ⟨k, v7⟩ ⟨hk, hv7⟩
      dsimp only at hk hv7 ⊢
      refine sc_seq ?_
      refine sc_seq ?_
      refine sc_region ?_
      refine qs (y_move RF) ?_
      refine qs LD34 ?_
      refine qs (y_len Try.underlying34 RF) ?_
      refine qs (y_lss RF RF) ?_
      refine sq_nil ?_
      refine sx_then ?_
      refine scp (fun hc3 => ?_) (fun hc3 => ?_)
      ·
        have hk' : k < l.length := by omega
        have hlX := ruleK_len (l.map (timeV true)) k
        refine sc_skip ?_
        refine sx_then ?_
        refine sc_seq ?_
        refine sc_block ?_
        refine sc_seq ?_
        refine sc_region ?_
        refine qs (y_assign RF) ?_
        refine sq_nil ?_
        refine sx_then ?_
        refine sc_seq ?_
        refine sc_block ?_
        refine sc_loop (σ := Nat)
          (fun s => [(1, .pointer (some ⟨b1, 0, none⟩)), (4, .int .i64 (bestR l).2.1), (6, .func (.func 41) #[] #[.pointer (some ⟨b1, 0, none⟩)]), (7, v7), (8, .int .i64 k), (9, .int .i64 s)])
          (fun s => [.own v7 3 1 k ((ruleK (l.map (timeV true)) k).flatMap iRow), .blk b1 (.cells [Value.slice a l.length c].toArray 34 (0, 0)), .reg 0 w])
          (fun s => s ≤ k ∧ ∀ j, j < s → posQ (l.map (timeV true)) (ruleK (l.map (timeV true)) k) k j = false)
          (fun s => k - s)
          (0) ?_ SU SR ?_
        · exact ⟨Nat.zero_le _, fun j hj => absurd hj (Nat.not_lt_zero j)⟩
        rintro at_ ⟨hat, hbef⟩
        refine sc_seq ?_
        refine sc_seq ?_
        refine sc_midE (Z := {v : Bool // v = (decide ((at_ : Int) < (k : Int)) && !(posQ (l.map (timeV true)) (ruleK (l.map (timeV true)) k) k at_))}) (fun v => [(1, .pointer (some ⟨b1, 0, none⟩)), (4, .int .i64 (bestR l).2.1), (6, .func (.func 41) #[] #[.pointer (some ⟨b1, 0, none⟩)]), (7, v7), (8, .int .i64 k), (9, .int .i64 at_), (60, .bool v.1)]) (fun _ => [.own v7 3 1 k ((ruleK (l.map (timeV true)) k).flatMap iRow), .blk b1 (.cells [Value.slice a l.length c].toArray 34 (0, 0)), .reg 0 w]) ?_ ?_
        ·
          refine sc_region ?_
          refine qs (y_move RF) ?_
          refine qs (y_move RF) ?_
          refine qs (y_len_own Try.underlying35 RF MM) ?_
          refine qs (y_lss RF RF) ?_
          refine qs (y_move RF) ?_
          refine sp 51 (fun hg14_4 => ?_) (fun hg14_4 => ?_)
          ·
            refine qg (y_move RF) ?_
            have hak : at_ < k := by omega
            obtain ⟨K, hK, hKl⟩ : ∃ K : Nat, (ruleK (l.map (timeV true)) k)[at_]? = some (K : Int) ∧ K < l.length := by
              have hg := get_of_lt (0 : Int) (show at_ < (ruleK (l.map (timeV true)) k).length by omega)
              have hm := mem_rngI.1 ((ruleK_perm (l.map (timeV true)) k).mem_iff.1 (List.mem_of_getElem? hg))
              exact ⟨((ruleK (l.map (timeV true)) k).getD at_ 0).toNat, by rw [hg]; congr 1; omega, by omega⟩
            have hbq : posQ (l.map (timeV true)) (ruleK (l.map (timeV true)) k) k at_ = befB (atT (l.map (timeV true)) (k : Int)) (atT (l.map (timeV true)) (K : Int)) := by unfold posQ; rw [getD_of hK]
            refine qg (y_move RF) ?_
            refine qg (y_move RF) ?_
            refine qg (y_move RF) ?_
            refine qg (y_ia_own Try.underlying35 Try.sizeOf3 RF MM RF hak) ?_
            refine qg (by first | exact y_load_own0 (u := .int .i64 (K : Int)) Try.underlying3 rfl RF MM hak (flat_iget hK) | exact LD3) ?_
            refine sq_gt RF RF (y_call (first := []) (caps := [.pointer (some ⟨b1, 0, none⟩)]) RF Try.call41 E2 (fun w1 hw1 => before41 w1 a c l (hl.at hw1 MM) _ (CA.blk (vs := [Value.slice a l.length c]) hw1 MM) k K hk' hKl)) rfl ?_
            rw [← hbq]
            refine qg (y_not RF) ?_
            refine qs (y_pick_t RF RF) ?_
            refine sq_nil ?_
            exact sx_midE (⟨!(posQ (l.map (timeV true)) (ruleK (l.map (timeV true)) k) k at_), by rw [decide_eq_true (show (at_ : Int) < (k : Int) by omega), Bool.true_and]⟩) SU SR
          ·
            refine qf ?_
            refine qf ?_
            refine qf ?_
            refine qf ?_
            refine qf ?_
            refine qf ?_
            refine qf ?_
            refine qf ?_
            refine qs (y_pick_f RF RF) ?_
            refine sq_nil ?_
            exact sx_midE (⟨false, by rw [decide_eq_false (show ¬ (at_ : Int) < (k : Int) by omega), Bool.false_and]⟩) SU SR
        rintro ⟨vb, hvb⟩
        try dsimp only
        refine sx_then ?_
        refine scp (fun hc4 => ?_) (fun hc4 => ?_)
        ·
          have hv2 : vb = true := hc4
          rw [hvb, Bool.and_eq_true] at hv2
          have hak := of_decide_eq_true hv2.1
          have hnb : (posQ (l.map (timeV true)) (ruleK (l.map (timeV true)) k) k at_) = false := by simpa using hv2.2
          refine sc_skip ?_
          refine sx_then ?_
          refine sc_block ?_
          refine sc_region ?_
          refine qs (y_move RF) ?_
          refine qs (y_add RF RF (by omega)) ?_
          refine qs (y_assign RF) ?_
          refine sq_nil ?_
          refine sx_blk ?_
          refine sx_round (at_ + 1) ?_ ?_ SU SR
          · refine ⟨by omega, fun j hj => ?_⟩
            rcases Nat.lt_succ_iff_lt_or_eq.1 hj with h | rfl
            · exact hbef j h
            · exact hnb
          · omega
        ·
          have hv2 : vb = false := hc4
          rw [hvb, Bool.and_eq_false_iff] at hv2
          have hpos : seekN (posQ (l.map (timeV true)) (ruleK (l.map (timeV true)) k) k) k 0 = at_ := by
            rcases hv2 with h | h
            · have hak : at_ = k := by have := of_decide_eq_false h; omega
              subst hak
              have := seekN_no (posQ (l.map (timeV true)) (ruleK (l.map (timeV true)) at_) at_) at_ 0 (fun j _ hj => hbef j (by omega))
              omega
            · exact seekN_eq _ at_ (by simpa using h) k 0 (Nat.zero_le _) (by omega) (fun j _ hj => hbef j hj)
          have hins : insL (ruleK (l.map (timeV true)) k) at_ (k : Int) = (ruleK (l.map (timeV true)) (k + 1)) := by
            conv => { rhs; unfold ruleK }
            rw [hpos]
          refine sc_exit ?_
          refine sx_then_exit ?_
          refine sx_round_exit ?_
          refine sx_blk_hit ?_
          refine sx_then ?_
          refine sc_own_dest (e := 3) (sz := 1) (m := k) (xs := ((ruleK (l.map (timeV true)) k)).flatMap iRow) MM (fun a5 c5 hv5 hmc5 hn5 => ?_)
          subst hv5
          refine sc_drawX ([.own (.slice a5 k c5) 3 1 k ((ruleK (l.map (timeV true)) k).flatMap iRow), .blk b1 (.cells [Value.slice a l.length c].toArray 34 (0, 0)), .reg 0 w]) (by kernel_rfl) ?_
          refine xj_s 1 RF (by kernel_rfl) SR (y_move RF) rfl ?_
          refine xj_s 2 RF (by kernel_rfl) SR (y_move RF) rfl ?_
          refine xj_s 3 RF (by kernel_rfl) SR (y_slice_h (h := at_) Try.underlying35 Try.sizeOf3 RF RF (by omega)) rfl ?_
          refine xj_s 5 RF (by kernel_rfl) SR (y_move RF) rfl ?_
          refine xj_s 8 RF (by kernel_rfl) SR (y_move RF) rfl ?_
          refine xj_s 9 RF (by kernel_rfl) SR (y_move RF) rfl ?_
          refine xj_s 10 RF (by kernel_rfl) SR (y_slice_from (lo := at_) Try.underlying35 Try.sizeOf3 RF RF (by omega)) rfl ?_
          refine xj_all (l := [0, 6]) (by kernel_rfl) (by simp) (Each.cons ⟨_, rfl, ?_⟩ (Each.cons ⟨_, rfl, ?_⟩ Each.nil))
          ·
            refine sq_bs Try.underlying35 ei3 (EvI.nil) (by simp) rfl rfl rfl (fun b63 => ?_)
            refine sq_blk_own0 (sz := 1) (c := 0) RM rfl (Nat.zero_le _) ?_
            refine sq_nil ?_
            refine sx_xp SR ?_
            refine xj_all (l := [4, 6]) (by kernel_rfl) (by simp) (Each.cons ⟨_, rfl, ?_⟩ (Each.cons ⟨_, rfl, ?_⟩ Each.nil))
            ·
              refine sq_append_rows (news := (((ruleK (l.map (timeV true)) k)).flatMap iRow).take (at_ * 1)) Try.underlying35 ei3 Try.sizeOf3 rfl (by decide) RF RM RF (fun h => by have := hn5 h; omega) (by rw [List.length_take, iflat_len, hlX]; omega) (fun ad had w1 hw1 => own_take_news hw1 MM ad had) (fun u hu => iflat_one _ u (List.mem_of_mem_take hu)) (by omega) rfl (fun v67 ho67 => ?_)
              refine sq_nil ?_
              refine sx_xp SR ?_
              refine xj_one 6 RF (by kernel_rfl) ?_
              refine sq_bs Try.underlying35 ei3 (EvI.cons RF EvI.nil) (by first | (simp [Value.cells]; done) | (simp [Value.cells]; rfl) | (simp [Value.cells]; and_intros <;> rfl)) rfl rfl rfl (fun b69 => ?_)
              refine sq_nil ?_
              refine sx_xp SR ?_
              refine xj_one 7 RF (by kernel_rfl) ?_
              refine sq_append (news := [Value.int .i64 ((k : Int))]) Try.underlying35 ei3 rfl (by decide) RF RM RF rfl (fun _ hw => news_blk hw MM) (by simp [Value.oneCell']) (by omega) rfl (fun v70 ho70 => ?_)
              refine sq_nil ?_
              refine sx_xp SR ?_
              refine xj_one 11 RF (by kernel_rfl) ?_
              refine sq_append_rows (news := (((ruleK (l.map (timeV true)) k)).flatMap iRow).drop (at_ * 1)) Try.underlying35 ei3 Try.sizeOf3 rfl (by decide) RF RM RF (fun h => loA_none hn5 h) (by rw [List.length_drop, iflat_len, hlX]; omega) (fun ad had w1 hw1 => own_from_news hw1 MM hmc5 ad had) (fun u hu => iflat_one _ u (List.mem_of_mem_drop hu)) (by omega) rfl (fun v74 ho74 => ?_)
              rw [show 0 + at_ + 1 + (k - at_) = k + 1 by omega, ins_flat]
              refine sq_nil ?_
              refine sx_xp SR ?_
              rw [hins]
              refine xj_s 12 RF (by kernel_rfl) SR (y_assign RF) rfl ?_
              refine xj_done (by kernel_rfl) ?_
              refine sx_blk ?_
              refine sx_then ?_
              refine sc_region ?_
              refine qs (y_move RF) ?_
              refine qs (y_add RF RF (by omega)) ?_
              refine qs (y_assign RF) ?_
              refine sq_nil ?_
              refine sx_round ((k + 1, v74)) ?_ ?_ SU SR
              · exact ⟨by dsimp only; omega, ho74⟩
              · dsimp only; omega
            ·
              refine sq_bs Try.underlying35 ei3 (EvI.cons RF EvI.nil) (by first | (simp [Value.cells]; done) | (simp [Value.cells]; rfl) | (simp [Value.cells]; and_intros <;> rfl)) rfl rfl rfl (fun b69 => ?_)
              refine sq_nil ?_
              refine sx_xp SR ?_
              refine xj_one 4 RF (by kernel_rfl) ?_
              refine sq_append_rows (news := (((ruleK (l.map (timeV true)) k)).flatMap iRow).take (at_ * 1)) Try.underlying35 ei3 Try.sizeOf3 rfl (by decide) RF RM RF (fun h => by have := hn5 h; omega) (by rw [List.length_take, iflat_len, hlX]; omega) (fun ad had w1 hw1 => own_take_news hw1 MM ad had) (fun u hu => iflat_one _ u (List.mem_of_mem_take hu)) (by omega) rfl (fun v67 ho67 => ?_)
              refine sq_nil ?_
              refine sx_xp SR ?_
              refine xj_one 7 RF (by kernel_rfl) ?_
              refine sq_append (news := [Value.int .i64 ((k : Int))]) Try.underlying35 ei3 rfl (by decide) RF RM RF rfl (fun _ hw => news_blk hw MM) (by simp [Value.oneCell']) (by omega) rfl (fun v70 ho70 => ?_)
              refine sq_nil ?_
              refine sx_xp SR ?_
              refine xj_one 11 RF (by kernel_rfl) ?_
              refine sq_append_rows (news := (((ruleK (l.map (timeV true)) k)).flatMap iRow).drop (at_ * 1)) Try.underlying35 ei3 Try.sizeOf3 rfl (by decide) RF RM RF (fun h => loA_none hn5 h) (by rw [List.length_drop, iflat_len, hlX]; omega) (fun ad had w1 hw1 => own_from_news hw1 MM hmc5 ad had) (fun u hu => iflat_one _ u (List.mem_of_mem_drop hu)) (by omega) rfl (fun v74 ho74 => ?_)
              rw [show 0 + at_ + 1 + (k - at_) = k + 1 by omega, ins_flat]
              refine sq_nil ?_
              refine sx_xp SR ?_
              rw [hins]
              refine xj_s 12 RF (by kernel_rfl) SR (y_assign RF) rfl ?_
              refine xj_done (by kernel_rfl) ?_
              refine sx_blk ?_
              refine sx_then ?_
              refine sc_region ?_
              refine qs (y_move RF) ?_
              refine qs (y_add RF RF (by omega)) ?_
              refine qs (y_assign RF) ?_
              refine sq_nil ?_
              refine sx_round ((k + 1, v74)) ?_ ?_ SU SR
              · exact ⟨by dsimp only; omega, ho74⟩
              · dsimp only; omega
          ·
            refine sq_bs Try.underlying35 ei3 (EvI.cons RF EvI.nil) (by first | (simp [Value.cells]; done) | (simp [Value.cells]; rfl) | (simp [Value.cells]; and_intros <;> rfl)) rfl rfl rfl (fun b69 => ?_)
            refine sq_nil ?_
            refine sx_xp SR ?_
            refine xj_one 0 RF (by kernel_rfl) ?_
            refine sq_bs Try.underlying35 ei3 (EvI.nil) (by simp) rfl rfl rfl (fun b63 => ?_)
            refine sq_blk_own0 (sz := 1) (c := 0) RM rfl (Nat.zero_le _) ?_
            refine sq_nil ?_
            refine sx_xp SR ?_
            refine xj_one 4 RF (by kernel_rfl) ?_
            refine sq_append_rows (news := (((ruleK (l.map (timeV true)) k)).flatMap iRow).take (at_ * 1)) Try.underlying35 ei3 Try.sizeOf3 rfl (by decide) RF RM RF (fun h => by have := hn5 h; omega) (by rw [List.length_take, iflat_len, hlX]; omega) (fun ad had w1 hw1 => own_take_news hw1 MM ad had) (fun u hu => iflat_one _ u (List.mem_of_mem_take hu)) (by omega) rfl (fun v67 ho67 => ?_)
            refine sq_nil ?_
            refine sx_xp SR ?_
            refine xj_one 7 RF (by kernel_rfl) ?_
            refine sq_append (news := [Value.int .i64 ((k : Int))]) Try.underlying35 ei3 rfl (by decide) RF RM RF rfl (fun _ hw => news_blk hw MM) (by simp [Value.oneCell']) (by omega) rfl (fun v70 ho70 => ?_)
            refine sq_nil ?_
            refine sx_xp SR ?_
            refine xj_one 11 RF (by kernel_rfl) ?_
            refine sq_append_rows (news := (((ruleK (l.map (timeV true)) k)).flatMap iRow).drop (at_ * 1)) Try.underlying35 ei3 Try.sizeOf3 rfl (by decide) RF RM RF (fun h => loA_none hn5 h) (by rw [List.length_drop, iflat_len, hlX]; omega) (fun ad had w1 hw1 => own_from_news hw1 MM hmc5 ad had) (fun u hu => iflat_one _ u (List.mem_of_mem_drop hu)) (by omega) rfl (fun v74 ho74 => ?_)
            rw [show 0 + at_ + 1 + (k - at_) = k + 1 by omega, ins_flat]
            refine sq_nil ?_
            refine sx_xp SR ?_
            rw [hins]
            refine xj_s 12 RF (by kernel_rfl) SR (y_assign RF) rfl ?_
            refine xj_done (by kernel_rfl) ?_
            refine sx_blk ?_
            refine sx_then ?_
            refine sc_region ?_
            refine qs (y_move RF) ?_
            refine qs (y_add RF RF (by omega)) ?_
            refine qs (y_assign RF) ?_
            refine sq_nil ?_
            refine sx_round ((k + 1, v74)) ?_ ?_ SU SR
            · exact ⟨by dsimp only; omega, ho74⟩
            · dsimp only; omega
      ·
        have hkn : k = l.length := by omega
        subst hkn
        refine sc_exit ?_
        refine sx_then_exit ?_
        refine sx_round_exit ?_
        refine sx_blk_hit ?_
        refine sx_then ?_
        refine sc_seq ?_
        refine sc_own_dest (v := v7) (e := 3) (sz := 1) (m := l.length) (xs := (ruleK (l.map (timeV true)) l.length).flatMap iRow) MM (fun a7 c7 hv7' hmc7 hn7 => ?_)
        subst hv7'
        refine sc_region ?_
        refine qs LD34 ?_
        refine qs (y_move RF) ?_
        refine sq_call_new (first := []) (caps := []) (Z := Option Addr × Nat) (fun z => .tuple #[.slice z.1 (runR l (ruleK (l.map (timeV true)) l.length)).1.length z.2, .int .i64 (runR l (ruleK (l.map (timeV true)) l.length)).2]) (fun lo w' z => RowsA spRow 2 lo w' z.1 (runR l (ruleK (l.map (timeV true)) l.length)).1) RF Try.call20 (EvL.cons RF (EvL.cons RF EvL.nil)) (fun w1 hw1 => run20n hol w1 a c l (hl.at hw1 MM) a7 c7 (own_at hw1 MM hol) (by omega)) rfl (fun lo17 wr17 z17 hz17 => ?_)
        refine qs (y_move RF) ?_
        refine qs (y_extract RF RF) ?_
        refine qs (y_extract RF RF) ?_
        refine qs (y_assign RF) ?_
        refine qs (y_assign RF) ?_
        refine sq_nil ?_
        refine sx_then ?_
        refine sc_seq ?_
        refine sc_region ?_
        refine qs (y_assign RF) ?_
        refine sq_nil ?_
        refine sx_then ?_
        refine sc_seq ?_
        refine sc_seq ?_
        refine sc_region ?_
        refine qs (y_move RF) ?_
        refine qs (y_len Try.underlying36 RF) ?_
        refine qs (y_move RF) ?_
        refine sq_nil ?_
        refine sx_then ?_
        refine sc_block ?_
        refine sc_loop (σ := Nat)
          (fun s => [(1, .pointer (some ⟨b1, 0, none⟩)), (4, .int .i64 (bestR l).2.1), (10, .slice z17.1 (runR l (ruleK (l.map (timeV true)) l.length)).1.length z17.2), (11, .int .i64 0), (81, .slice z17.1 (runR l (ruleK (l.map (timeV true)) l.length)).1.length z17.2), (82, .int .i64 (runR l (ruleK (l.map (timeV true)) l.length)).1.length), (12, .int .i64 (gtV 0 ((endsV (l.map (timeV true)) (ruleK (l.map (timeV true)) l.length)).take s))), (83, .int .i64 s)])
          (fun s => [.blk b1 (.cells [Value.slice a l.length c].toArray 34 (0, 0)), .reg lo17 wr17, .reg 0 w])
          (fun s => s ≤ l.length)
          (fun s => l.length - s)
          (0) ?_ SU SR ?_
        · exact Nat.zero_le _
        rintro k hk
        refine sc_seq ?_
        refine sc_region ?_
        refine qs (y_lss RF RF) ?_
        refine sq_nil ?_
        refine sx_then ?_
        refine sc_seq ?_
        refine scp (fun hc5 => ?_) (fun hc5 => ?_)
        ·
          have hk' : k < l.length := by omega
          have hsm := (hz17.get sp0 (show k < (runR l (ruleK (l.map (timeV true)) l.length)).1.length by omega)).1
          have hca := (hz17.get sp0 (show k < (runR l (ruleK (l.map (timeV true)) l.length)).1.length by omega)).2
          have hgd : (runR l (ruleK (l.map (timeV true)) l.length)).1.getD k sp0 = spanK l (ruleK (l.map (timeV true)) l.length) k := by rw [hr1]; exact spansV_getD hk'
          have hnext := ends_get (o := (ruleK (l.map (timeV true)) l.length)) hk' true
          have hspk : (spanK l (ruleK (l.map (timeV true)) l.length) k).hi = (endsV (l.map (timeV true)) (ruleK (l.map (timeV true)) l.length)).getD k 0 := rfl
          refine sc_skip ?_
          refine sx_then ?_
          refine sc_seq ?_
          refine sc_block ?_
          refine sc_seq ?_
          refine sc_region ?_
          refine qs IA36 ?_
          refine qs (by first | exact y_load_ca Try.underlying24 rfl Try.sizeOf24 RF MM hca rfl | exact LD24) ?_
          refine sq_alloc Try.zeroValue24 rfl (fun b14 => ?_)
          refine sq_store_all Try.sizeOf24 RF RF rfl RM rfl rfl ?_
          refine sq_nil ?_
          refine sx_then ?_
          refine sc_region ?_
          refine qs (y_move RF) ?_
          refine qs FA24_3 ?_
          refine qs LD3 ?_
          refine qs (y_max RF RF) ?_
          rw [hgd, hspk, ← hnext]
          refine qs (y_assign RF) ?_
          refine sq_nil ?_
          refine sx_blk ?_
          refine sx_then ?_
          refine sc_region ?_
          refine qs (y_add RF RF (by omega)) ?_
          refine qs (y_move RF) ?_
          refine sq_nil ?_
          refine sx_round (k + 1) ?_ ?_ SU SR
          · omega
          · omega
        ·
          have hkn : k = l.length := by omega
          have hlast := ends_all (o := (ruleK (l.map (timeV true)) l.length)) hkn true
          rw [hlast]
          refine sc_exit ?_
          refine sx_then_exit ?_
          refine sx_round_exit ?_
          refine sx_blk_hit ?_
          refine sx_then ?_
          refine sc_seq ?_
          refine sc_region ?_
          refine qs (y_move RF) ?_
          refine qs (y_eql RF RF) ?_
          refine qs (y_move RF) ?_
          refine sq_known (tt := 94) (b' := true) RF (by simp) ?_
          refine qg (y_move RF) ?_
          refine qg (y_move RF) ?_
          refine qg (y_eql RF RF) ?_
          refine qs (y_pick_t RF RF) ?_
          refine qs (y_move RF) ?_
          refine sq_known (tt := 99) (b' := true) RF (decide_eq_true (by omega)) ?_
          refine sq_gt RF RF (y_call (first := []) (caps := []) RF Try.call13 EvL.nil (fun w1 _ => awake13 w1)) rfl ?_
          refine qs (y_pick_t RF RF) ?_
          refine qs (y_assign RF) ?_
          refine sq_nil ?_
          refine sx_then ?_
          refine sc_ret ?_
          refine sx_ret1 (.inl rfl) rfl Try.results9 RF ?_
          intro w' hw'
          exact ⟨rfl, hw'.below MM⟩
end Go.Proofs.Ytjlbpmcacopbpaa
