/- The walks of the sample, and of awake. -/
import Derived.Test.YtjlbpmcacopbpaaWalk16
import Derived.Test.YtjlbpmcacopbpaaWalk3
import Derived.Test.YtjlbpmcacopbpaaWalk4
import Derived.Test.YtjlbpmcacopbpaaWalk11
import Derived.Test.YtjlbpmcacopbpaaWalk13
namespace Go.Proofs.Ytjlbpmcacopbpaa
open Go Go.Eng Go.RowKit Go.Proofs
set_option maxRecDepth 100000
def smpS : List Sf := [⟨⟨-2, 3⟩, sp0⟩, ⟨⟨1, 4⟩, sp0⟩, sf0]
def smpJ : List Jb := [⟨⟨3, 4⟩, ⟨2, 3⟩, 9⟩, ⟨⟨1, 2⟩, ⟨4, 6⟩, 8⟩, ⟨⟨5, 5⟩, ⟨1, 1⟩, 14⟩]

theorem sample44 (w : World) : Calls Try.prog 44 #[] w fun e w' => ∃ z : Option Addr × Option Addr, e = .returned (.tuple #[.slice z.1 3 3, .slice z.2 3 3]) ∧ Below w.heap.size w w' ∧ RowsA sfRow 4 w.heap.size w' z.1 smpS ∧ RowsA jbRow 5 w.heap.size w' z.2 smpJ := by
  refine calls_of_SC (args := []) Try.func44 rfl Try.ntmps44 rfl ?_
  simp only [argL]
  refine sc_seq ?_
  refine sc_region ?_
  refine qs (y_assign RF) ?_
  refine qs (y_assign RF) ?_
  refine sq_nil ?_
  refine sx_then ?_
  refine sc_seq ?_
  refine sc_region ?_
  refine qy (yc Try.call33 E2 (fun w1 _ => span33 w1 _ _)) ?_
  refine qs (y_build (cells := (sfRow ⟨⟨-2, 3⟩, sp0⟩).toArray) bt51 (EvP.cons RF EvP.nil) (by kernel_rfl)) ?_
  refine qy (yc Try.call33 E2 (fun w1 _ => span33 w1 _ _)) ?_
  refine qs (y_build (cells := (sfRow ⟨⟨1, 4⟩, sp0⟩).toArray) bt51 (EvP.cons RF EvP.nil) (by kernel_rfl)) ?_
  refine qs (y_build (cells := (sfRow sf0).toArray) bt51 EvP.nil (by kernel_rfl)) ?_
  refine sq_bs Try.underlying22 ei51 (EvI.cons RF (EvI.cons RF (EvI.cons RF EvI.nil))) (by first | (simp [Value.cells]; done) | (simp [Value.cells]; rfl) | (simp [Value.cells]; and_intros <;> rfl)) rfl rfl rfl (fun b7 => ?_)
  refine qy (yc Try.call33 E2 (fun w1 _ => span33 w1 _ _)) ?_
  refine qy (yc Try.call33 E2 (fun w1 _ => span33 w1 _ _)) ?_
  refine qs (y_build (cells := (jbRow ⟨⟨3, 4⟩, ⟨2, 3⟩, 9⟩).toArray) bt58 (EvP.cons RF (EvP.cons RF (EvP.cons RF EvP.nil))) (by kernel_rfl)) ?_
  refine qy (yc Try.call33 E2 (fun w1 _ => span33 w1 _ _)) ?_
  refine qy (yc Try.call33 E2 (fun w1 _ => span33 w1 _ _)) ?_
  refine qs (y_build (cells := (jbRow ⟨⟨1, 2⟩, ⟨4, 6⟩, 8⟩).toArray) bt58 (EvP.cons RF (EvP.cons RF (EvP.cons RF EvP.nil))) (by kernel_rfl)) ?_
  refine qy (yc Try.call33 E2 (fun w1 _ => span33 w1 _ _)) ?_
  refine qy (yc Try.call33 E2 (fun w1 _ => span33 w1 _ _)) ?_
  refine qs (y_build (cells := (jbRow ⟨⟨5, 5⟩, ⟨1, 1⟩, 14⟩).toArray) bt58 (EvP.cons RF (EvP.cons RF (EvP.cons RF EvP.nil))) (by kernel_rfl)) ?_
  refine sq_bs Try.underlying34 ei58 (EvI.cons RF (EvI.cons RF (EvI.cons RF EvI.nil))) (by first | (simp [Value.cells]; done) | (simp [Value.cells]; rfl) | (simp [Value.cells]; and_intros <;> rfl)) rfl rfl rfl (fun b17 => ?_)
  refine qs (y_assign RF) ?_
  refine qs (y_assign RF) ?_
  refine sq_nil ?_
  refine sx_then ?_
  refine sc_ret ?_
  refine sx_ret2 (.inl rfl) rfl Try.results44 RF RF ?_
  intro w' hw'
  have hr1 : RowsA sfRow 4 0 w' (some ⟨b7, 0, none⟩) smpS := lit_rowsA (g := b7) (row := sfRow) (sz := 4) (l := smpS) (fun _ => rfl) hw' MM (by rfl) (by decide)
  have hr2 : RowsA jbRow 5 0 w' (some ⟨b17, 0, none⟩) smpJ := lit_rowsA (g := b17) (row := jbRow) (sz := 5) (l := smpJ) (fun _ => rfl) hw' MM (by rfl) (by decide)
  have hb1 : w.heap.size ≤ b7 := blk_new hw' RM MM
  have hb2 : w.heap.size ≤ b17 := blk_new hw' RM MM
  exact ⟨(some ⟨b7, 0, none⟩, some ⟨b17, 0, none⟩), rfl, hw'.below MM, ⟨fun i x hi => ⟨(hr1.el i x hi).1, by simpa [elt, Addr.add_block] using hb1, (hr1.el i x hi).2.2⟩, hr1.len⟩, ⟨fun i x hi => ⟨(hr2.el i x hi).1, by simpa [elt, Addr.add_block] using hb2, (hr2.el i x hi).2.2⟩, hr2.len⟩⟩
theorem smp_fringe : fringeV smpS = (⟨1, 6⟩, ⟨0, 0⟩, 0) := by decide +kernel
theorem smp_good : goodR ⟨20, 50⟩ 100 = (⟨95, 98⟩, 0) := by decide +kernel
theorem smp_sheets : sheetsR ⟨20, 50⟩ 95 = (100, 0) := by decide +kernel
theorem smp_run : runR smpJ [1, 0, 2] = ([⟨7, 11⟩, ⟨5, 8⟩, ⟨10, 12⟩], 0) := by decide +kernel
theorem smp_late : lateR smpJ [0, 1, 2] = (2, 2, 0) := by decide +kernel
theorem smp_best : bestR smpJ = ([1, 0, 2], 12, 0) := by decide +kernel
theorem smp_why : whyR smpJ [0, 1, 2] = (0, 14, 0) := by decide +kernel
theorem run20s (w : World) (a : Option Addr) (c : Nat) (l : List Jb) (hl : RowsA jbRow 5 0 w a l) (ao : Option Addr) (co : Nat) (o : List Int) (ho : RowsA iRow 1 0 w ao o) (h1000 : o.length ≤ 1000) : Calls Try.prog 20 #[.slice a l.length c, .slice ao o.length co] w fun e w' => ∃ z : Option Addr × Nat, e = .returned (.tuple #[.slice z.1 (runR l o).1.length z.2, .int .i64 (runR l o).2]) ∧ Below w.heap.size w w' ∧ RowsA spRow 2 w.heap.size w' z.1 (runR l o).1 :=
  (run20 w a c l hl ao co o ho h1000).mono fun e w' ⟨v, he, hb, _, hv⟩ => by
    have hn : (runR l o).1.length ≤ 9223372036854775807 := by
      have := hl.len
      unfold runR; split
      · simp
      · unfold spansV; simp; omega
    obtain ⟨a2, c2, rfl, _, hr⟩ := own_rowsA (row := spRow) (fun _ => rfl) hv rfl hn
    exact ⟨(a2, c2), he, hb, hr⟩
theorem run21s (w : World) (a : Option Addr) (c : Nat) (l : List Jb) (hl : RowsA jbRow 5 0 w a l) (ao : Option Addr) (co : Nat) (o : List Int) (ho : RowsA iRow 1 0 w ao o) (h1000 : o.length ≤ 1000) : Calls Try.prog 21 #[.slice a l.length c, .slice ao o.length co] w fun e w' => ∃ z : Option Addr × Nat, e = .returned (.tuple #[.slice z.1 (runR l o).1.length z.2, .int .i64 (runR l o).2]) ∧ Below w.heap.size w w' ∧ RowsA spRow 2 w.heap.size w' z.1 (runR l o).1 :=
  (run21 w a c l hl ao co o ho h1000).mono fun e w' ⟨v, he, hb, _, hv⟩ => by
    have hn : (runR l o).1.length ≤ 9223372036854775807 := by
      have := hl.len
      unfold runR; split
      · simp
      · unfold spansV; simp; omega
    obtain ⟨a2, c2, rfl, _, hr⟩ := own_rowsA (row := spRow) (fun _ => rfl) hv rfl hn
    exact ⟨(a2, c2), he, hb, hr⟩
theorem bestR_len (l : List Jb) : (bestR l).1.length ≤ 7 := by
  by_cases hj : jobsB l = true
  · have h7 := (jobsB_parts hj).1
    have h := best_ref (ts := l.map (timeV true)) (n := l.length) (List.length_map _)
    have h2 : (bestR l).1 = (refO l.length l.length []).getD (bestI (l.map (timeV true))) [] := by unfold bestR; rw [if_neg (by simp [hj])]
    rw [h2, h.perm.length_eq, rngI_len]; exact h7
  · unfold bestR; rw [if_pos (by simpa using hj)]; simp
theorem best27s (w : World) (a : Option Addr) (c : Nat) (l : List Jb) (hl : RowsA jbRow 5 0 w a l) : Calls Try.prog 27 #[.slice a l.length c] w fun e w' => ∃ z : Option Addr × Nat, e = .returned (.tuple #[.slice z.1 (bestR l).1.length z.2, .int .i64 (bestR l).2.1, .int .i64 (bestR l).2.2]) ∧ Below w.heap.size w w' ∧ RowsA iRow 1 w.heap.size w' z.1 (bestR l).1 :=
  (best27 w a c l hl).mono fun e w' ⟨v, he, hb, hv⟩ => by
    obtain ⟨a2, c2, rfl, _, hr⟩ := own_rowsA (row := iRow) (fun _ => rfl) hv rfl (by have := bestR_len l; omega)
    exact ⟨(a2, c2), he, hb, hr⟩
theorem fringe14p (w : World) (a : Option Addr) (c : Nat) (hl : RowsA sfRow 4 0 w a smpS) : Calls Try.prog 14 #[.slice a 3 c] w fun e w' => e = .returned (.tuple #[.agg (spRow ⟨1, 6⟩).toArray, .agg (spRow ⟨0, 0⟩).toArray, .int .i64 0]) ∧ Below w.heap.size w w' := by
  have h := fringe14 w a c smpS hl
  rw [smp_fringe] at h; exact h
theorem good16p (w : World) : Calls Try.prog 16 #[.agg (spRow ⟨20, 50⟩).toArray, .int .i64 100] w fun e w' => e = .returned (.tuple #[.agg (spRow ⟨95, 98⟩).toArray, .int .i64 0]) ∧ Below w.heap.size w w' := by
  have h := good16 w ⟨20, 50⟩ 100
  rw [smp_good] at h; exact h
theorem sheets18p (w : World) : Calls Try.prog 18 #[.agg (spRow ⟨20, 50⟩).toArray, .int .i64 95] w fun e w' => e = .returned (.tuple #[.int .i64 100, .int .i64 0]) ∧ Below w.heap.size w w' := by
  have h := sheets18 w ⟨20, 50⟩ 95
  rw [smp_sheets] at h; exact h
theorem run20p (w : World) (a : Option Addr) (c : Nat) (hl : RowsA jbRow 5 0 w a smpJ) (ao : Option Addr) (co : Nat) (ho : RowsA iRow 1 0 w ao [1, 0, 2]) : Calls Try.prog 20 #[.slice a 3 c, .slice ao 3 co] w fun e w' => ∃ z : Option Addr × Nat, e = .returned (.tuple #[.slice z.1 3 z.2, .int .i64 0]) ∧ Below w.heap.size w w' ∧ RowsA spRow 2 w.heap.size w' z.1 [⟨7, 11⟩, ⟨5, 8⟩, ⟨10, 12⟩] := by
  have h := run20s w a c smpJ hl ao co [1, 0, 2] ho (by decide)
  rw [smp_run] at h; exact h
theorem late22p (w : World) (a : Option Addr) (c : Nat) (hl : RowsA jbRow 5 0 w a smpJ) (ao : Option Addr) (co : Nat) (ho : RowsA iRow 1 0 w ao [0, 1, 2]) : Calls Try.prog 22 #[.slice a 3 c, .slice ao 3 co] w fun e w' => e = .returned (.tuple #[.int .i64 2, .int .i64 2, .int .i64 0]) ∧ Below w.heap.size w w' := by
  have h := late22 w a c smpJ hl ao co [0, 1, 2] ho (by decide)
  rw [smp_late] at h; exact h
theorem best27p (w : World) (a : Option Addr) (c : Nat) (hl : RowsA jbRow 5 0 w a smpJ) : Calls Try.prog 27 #[.slice a 3 c] w fun e w' => ∃ z : Option Addr × Nat, e = .returned (.tuple #[.slice z.1 3 z.2, .int .i64 12, .int .i64 0]) ∧ Below w.heap.size w w' ∧ RowsA iRow 1 w.heap.size w' z.1 [1, 0, 2] := by
  have h := best27s w a c smpJ hl
  rw [smp_best] at h; exact h
theorem why24p (w : World) (a : Option Addr) (c : Nat) (hl : RowsA jbRow 5 0 w a smpJ) (ao : Option Addr) (co : Nat) (ho : RowsA iRow 1 0 w ao [0, 1, 2]) : Calls Try.prog 24 #[.slice a 3 c, .slice ao 3 co] w fun e w' => e = .returned (.tuple #[.int .i64 0, .int .i64 14, .int .i64 0]) ∧ Below w.heap.size w w' := by
  have h := why24 w a c smpJ hl ao co [0, 1, 2] ho (by decide)
  rw [smp_why] at h; exact h
theorem awake13 (w : World) : Calls Try.prog 13 #[] w fun e w' => e = .returned (.bool true) ∧ Below w.heap.size w w' := by
  refine calls_of_SC (args := []) Try.func13 rfl Try.ntmps13 rfl ?_
  simp only [argL]
  refine sc_seq ?_
  refine sc_region ?_
  refine qs (y_assign RF) ?_
  refine sq_nil ?_
  refine sx_then ?_
  refine sc_seq ?_
  refine sc_region ?_
  refine sq_call_new (first := []) (caps := []) (Z := Option Addr × Option Addr) (fun z => .tuple #[.slice z.1 3 3, .slice z.2 3 3]) (fun lo w' z => RowsA sfRow 4 lo w' z.1 smpS ∧ RowsA jbRow 5 lo w' z.2 smpJ) RF Try.call44 EvL.nil (fun w1 _ => sample44 w1) rfl (fun lo1 wr1 z1 hz1 => ?_)
  refine qs (y_move RF) ?_
  refine qs (y_extract RF RF) ?_
  refine qs (y_extract RF RF) ?_
  refine qs (y_assign RF) ?_
  refine qs (y_assign RF) ?_
  refine sq_nil ?_
  refine sx_then ?_
  refine sc_seq ?_
  refine sc_region ?_
  refine qs (y_move RF) ?_
  refine qy (yc Try.call14 E1 (fun w1 hw1 => fringe14p w1 _ _ (hz1.1.at hw1 MM))) ?_
  refine qs (y_move RF) ?_
  refine qs (y_extract RF RF) ?_
  refine qs (y_extract RF RF) ?_
  refine qs (y_extract RF RF) ?_
  refine sq_alloc Try.zeroValue24 rfl (fun b3 => ?_)
  refine sq_alloc Try.zeroValue24 rfl (fun b4 => ?_)
  refine sq_store_all Try.sizeOf24 RF RF rfl RM rfl rfl ?_
  refine sq_store_all Try.sizeOf24 RF RF rfl RM rfl rfl ?_
  refine qs (y_assign RF) ?_
  refine sq_nil ?_
  refine sx_then ?_
  refine sc_seq ?_
  refine sc_region ?_
  refine qy (yc Try.call33 E2 (fun w1 _ => span33 w1 _ _)) ?_
  refine qy (yc Try.call16 E2 (fun w1 _ => good16p w1)) ?_
  refine qs (y_move RF) ?_
  refine qs (y_extract RF RF) ?_
  refine qs (y_extract RF RF) ?_
  refine sq_alloc Try.zeroValue24 rfl (fun b6 => ?_)
  refine sq_store_all Try.sizeOf24 RF RF rfl RM rfl rfl ?_
  refine qs (y_assign RF) ?_
  refine sq_nil ?_
  refine sx_then ?_
  refine sc_seq ?_
  refine sc_region ?_
  refine qy (yc Try.call33 E2 (fun w1 _ => span33 w1 _ _)) ?_
  refine qy (yc Try.call18 E2 (fun w1 _ => sheets18p w1)) ?_
  refine qs (y_move RF) ?_
  refine qs (y_extract RF RF) ?_
  refine qs (y_extract RF RF) ?_
  refine qs (y_assign RF) ?_
  refine qs (y_assign RF) ?_
  refine sq_nil ?_
  refine sx_then ?_
  refine sc_seq ?_
  refine sc_region ?_
  refine qs (y_move RF) ?_
  refine sq_bs Try.underlying35 ei3 (EvI.cons RF (EvI.cons RF (EvI.cons RF EvI.nil))) (by first | (simp [Value.cells]; done) | (simp [Value.cells]; rfl) | (simp [Value.cells]; and_intros <;> rfl)) rfl rfl rfl (fun b43 => ?_)
  refine sq_call_new (first := []) (caps := []) (Z := Option Addr × Nat) (fun z => .tuple #[.slice z.1 3 z.2, .int .i64 0]) (fun lo w' z => RowsA spRow 2 lo w' z.1 [⟨7, 11⟩, ⟨5, 8⟩, ⟨10, 12⟩]) RF Try.call20 (EvL.cons RF (EvL.cons RF EvL.nil)) (fun w1 hw1 => run20p w1 _ _ (hz1.2.at hw1 MM) _ _ (lit_rowsA (row := iRow) (l := [1, 0, 2]) (fun _ => rfl) hw1 (g := b43) MM rfl (by decide))) rfl (fun lo5 wr5 z5 hz5 => ?_)
  refine qs (y_move RF) ?_
  refine qs (y_extract RF RF) ?_
  refine qs (y_extract RF RF) ?_
  refine qs (y_assign RF) ?_
  refine qs (y_assign RF) ?_
  refine sq_nil ?_
  refine sx_then ?_
  refine sc_seq ?_
  refine sc_region ?_
  refine qs (y_move RF) ?_
  refine sq_bs Try.underlying35 ei3 (EvI.cons RF (EvI.cons RF (EvI.cons RF EvI.nil))) (by first | (simp [Value.cells]; done) | (simp [Value.cells]; rfl) | (simp [Value.cells]; and_intros <;> rfl)) rfl rfl rfl (fun b49 => ?_)
  refine qy (yc Try.call22 E2 (fun w1 hw1 => late22p w1 _ _ (hz1.2.at hw1 MM) _ _ (lit_rowsA (row := iRow) (l := [0, 1, 2]) (fun _ => rfl) hw1 (g := b49) MM rfl (by decide)))) ?_
  refine qs (y_move RF) ?_
  refine qs (y_extract RF RF) ?_
  refine qs (y_extract RF RF) ?_
  refine qs (y_extract RF RF) ?_
  refine qs (y_assign RF) ?_
  refine qs (y_assign RF) ?_
  refine qs (y_assign RF) ?_
  refine sq_nil ?_
  refine sx_then ?_
  refine sc_seq ?_
  refine sc_region ?_
  refine qs (y_move RF) ?_
  refine sq_call_new (first := []) (caps := []) (Z := Option Addr × Nat) (fun z => .tuple #[.slice z.1 3 z.2, .int .i64 12, .int .i64 0]) (fun lo w' z => RowsA iRow 1 lo w' z.1 [1, 0, 2]) RF Try.call27 (EvL.cons RF EvL.nil) (fun w1 hw1 => best27p w1 _ _ (hz1.2.at hw1 MM)) rfl (fun lo7 wr7 z7 hz7 => ?_)
  refine qs (y_move RF) ?_
  refine qs (y_extract RF RF) ?_
  refine qs (y_extract RF RF) ?_
  refine qs (y_extract RF RF) ?_
  refine qs (y_assign RF) ?_
  refine qs (y_assign RF) ?_
  refine qs (y_assign RF) ?_
  refine sq_nil ?_
  refine sx_then ?_
  refine sc_seq ?_
  refine sc_region ?_
  refine qs (y_move RF) ?_
  refine sq_bs Try.underlying35 ei3 (EvI.cons RF (EvI.cons RF (EvI.cons RF EvI.nil))) (by first | (simp [Value.cells]; done) | (simp [Value.cells]; rfl) | (simp [Value.cells]; and_intros <;> rfl)) rfl rfl rfl (fun b62 => ?_)
  refine qy (yc Try.call24 E2 (fun w1 hw1 => why24p w1 _ _ (hz1.2.at hw1 MM) _ _ (lit_rowsA (row := iRow) (l := [0, 1, 2]) (fun _ => rfl) hw1 (g := b62) MM rfl (by decide)))) ?_
  refine qs (y_move RF) ?_
  refine qs (y_extract RF RF) ?_
  refine qs (y_extract RF RF) ?_
  refine qs (y_extract RF RF) ?_
  refine qs (y_assign RF) ?_
  refine qs (y_assign RF) ?_
  refine qs (y_assign RF) ?_
  refine sq_nil ?_
  refine sx_then ?_
  refine sc_seq ?_
  refine sc_drawX ([.blk b3 (.cells (spRow ⟨1, 6⟩).toArray 24 (0, 0)), .blk b4 (.cells (spRow ⟨0, 0⟩).toArray 24 (0, 0)), .blk b6 (.cells (spRow ⟨95, 98⟩).toArray 24 (0, 0)), .reg 0 w]) (by kernel_rfl) ?_
  refine xj_s 0 RF (by kernel_rfl) SR LD24 rfl ?_
  refine xj_one 1 RF (by kernel_rfl) ?_
  refine qy (yc Try.call33 E2 (fun w1 _ => span33 w1 _ _)) ?_
  refine sq_nil ?_
  refine sx_xp SR ?_
  refine xj_s 2 RF (by kernel_rfl) SR (y_eqls (by kernel_rfl) RF RF (eql24 _ _ _ _)) rfl ?_
  refine xj_s 3 RF (by kernel_rfl) SR (y_move RF) rfl ?_
  refine xj_known (tt := 70) (b' := true) RF (by first | rfl | decide) ?_
  refine xj_gt 4 RF RF RF (by kernel_rfl) SR LD24 rfl ?_
  refine xj_one 5 RF (by kernel_rfl) ?_
  refine sq_gt RF RF (y_call (first := []) (caps := []) RF Try.call33 (EvL.cons RF (EvL.cons RF EvL.nil)) (fun w1 _ => span33 w1 _ _)) rfl ?_
  refine sq_nil ?_
  refine sx_xp SR ?_
  refine xj_gt 6 RF RF RF (by kernel_rfl) SR (y_eqls (by kernel_rfl) RF RF (eql24 _ _ _ _)) rfl ?_
  refine xj_s 7 RF (by kernel_rfl) SR (y_pick_t RF RF) rfl ?_
  refine xj_s 8 RF (by kernel_rfl) SR (y_move RF) rfl ?_
  refine xj_known (tt := 75) (b' := true) RF (by first | rfl | decide) ?_
  refine xj_gt 9 RF RF RF (by kernel_rfl) SR (y_move RF) rfl ?_
  refine xj_gt 10 RF RF RF (by kernel_rfl) SR (y_eql RF RF) rfl ?_
  refine xj_s 11 RF (by kernel_rfl) SR (y_pick_t RF RF) rfl ?_
  refine xj_s 12 RF (by kernel_rfl) SR (y_move RF) rfl ?_
  refine xj_known (tt := 79) (b' := true) RF (by first | rfl | decide) ?_
  refine xj_gt 13 RF RF RF (by kernel_rfl) SR LD24 rfl ?_
  refine xj_one 14 RF (by kernel_rfl) ?_
  refine sq_gt RF RF (y_call (first := []) (caps := []) RF Try.call33 (EvL.cons RF (EvL.cons RF EvL.nil)) (fun w1 _ => span33 w1 _ _)) rfl ?_
  refine sq_nil ?_
  refine sx_xp SR ?_
  refine xj_gt 15 RF RF RF (by kernel_rfl) SR (y_eqls (by kernel_rfl) RF RF (eql24 _ _ _ _)) rfl ?_
  refine xj_s 16 RF (by kernel_rfl) SR (y_pick_t RF RF) rfl ?_
  refine xj_s 17 RF (by kernel_rfl) SR (y_move RF) rfl ?_
  refine xj_known (tt := 84) (b' := true) RF (by first | rfl | decide) ?_
  refine xj_gt 18 RF RF RF (by kernel_rfl) SR (y_move RF) rfl ?_
  refine xj_gt 19 RF RF RF (by kernel_rfl) SR (y_eql RF RF) rfl ?_
  refine xj_s 20 RF (by kernel_rfl) SR (y_pick_t RF RF) rfl ?_
  refine xj_s 21 RF (by kernel_rfl) SR (y_move RF) rfl ?_
  refine xj_known (tt := 88) (b' := true) RF (by first | rfl | decide) ?_
  refine xj_gt 22 RF RF RF (by kernel_rfl) SR (y_move RF) rfl ?_
  refine xj_gt 23 RF RF RF (by kernel_rfl) SR (y_eql RF RF) rfl ?_
  refine xj_s 24 RF (by kernel_rfl) SR (y_pick_t RF RF) rfl ?_
  refine xj_s 25 RF (by kernel_rfl) SR (y_move RF) rfl ?_
  refine xj_known (tt := 92) (b' := true) RF (by first | rfl | decide) ?_
  refine xj_gt 26 RF RF RF (by kernel_rfl) SR (y_move RF) rfl ?_
  refine xj_gt 27 RF RF RF (by kernel_rfl) SR (y_eql RF RF) rfl ?_
  refine xj_s 28 RF (by kernel_rfl) SR (y_pick_t RF RF) rfl ?_
  refine xj_s 29 RF (by kernel_rfl) SR (y_move RF) rfl ?_
  refine xj_known (tt := 96) (b' := true) RF (by first | rfl | decide) ?_
  refine xj_gt 30 RF RF RF (by kernel_rfl) SR (y_move RF) rfl ?_
  refine xj_one 31 RF (by kernel_rfl) ?_
  refine sq_gt RF RF (y_call (first := []) (caps := []) RF Try.call33 (EvL.cons RF (EvL.cons RF EvL.nil)) (fun w1 _ => span33 w1 _ _)) rfl ?_
  refine sq_nil ?_
  refine sx_xp SR ?_
  refine xj_one 32 RF (by kernel_rfl) ?_
  refine sq_gt RF RF (y_call (first := []) (caps := []) RF Try.call33 (EvL.cons RF (EvL.cons RF EvL.nil)) (fun w1 _ => span33 w1 _ _)) rfl ?_
  refine sq_nil ?_
  refine sx_xp SR ?_
  refine xj_one 33 RF (by kernel_rfl) ?_
  refine sq_gt RF RF (y_call (first := []) (caps := []) RF Try.call33 (EvL.cons RF (EvL.cons RF EvL.nil)) (fun w1 _ => span33 w1 _ _)) rfl ?_
  refine sq_nil ?_
  refine sx_xp SR ?_
  refine xj_one 34 RF (by kernel_rfl) ?_
  refine sq_guard RF RF ?_
  refine sq_bs Try.underlying36 ei24 (EvI.cons RF (EvI.cons RF (EvI.cons RF EvI.nil))) (by first | (simp [Value.cells]; done) | (simp [Value.cells]; rfl) | (simp [Value.cells]; and_intros <;> rfl)) rfl rfl rfl (fun b101 => ?_)
  refine sq_nil ?_
  refine sx_xp SR ?_
  refine xj_one 35 RF (by kernel_rfl) ?_
  refine sq_gt RF RF (y_call (first := []) (caps := []) RF Try.call26 (EvL.cons RF (EvL.cons RF EvL.nil)) (fun w1 hw1 => spans26 w1 z5.1 (some ⟨b101, 0, none⟩) z5.2 3 [⟨7, 11⟩, ⟨5, 8⟩, ⟨10, 12⟩] [⟨7, 11⟩, ⟨5, 8⟩, ⟨10, 12⟩] (hz5.at hw1 MM) (lit_rowsA (row := spRow) (l := [⟨7, 11⟩, ⟨5, 8⟩, ⟨10, 12⟩]) (fun _ => rfl) hw1 (g := b101) MM rfl (by decide)))) rfl ?_
  refine sq_nil ?_
  refine sx_xp SR ?_
  refine xj_s 36 RF (by kernel_rfl) SR (y_pick_t RF RF) rfl ?_
  refine xj_s 37 RF (by kernel_rfl) SR (y_move RF) rfl ?_
  refine xj_known (tt := 104) (b' := true) RF (by first | rfl | decide) ?_
  refine xj_gt 38 RF RF RF (by kernel_rfl) SR (y_move RF) rfl ?_
  refine xj_gt 39 RF RF RF (by kernel_rfl) SR (y_eql RF RF) rfl ?_
  refine xj_s 40 RF (by kernel_rfl) SR (y_pick_t RF RF) rfl ?_
  refine xj_s 41 RF (by kernel_rfl) SR (y_move RF) rfl ?_
  refine xj_known (tt := 108) (b' := true) RF (by first | rfl | decide) ?_
  refine xj_gt 42 RF RF RF (by kernel_rfl) SR (y_move RF) rfl ?_
  refine xj_gt 43 RF RF RF (by kernel_rfl) SR (y_eql RF RF) rfl ?_
  refine xj_s 44 RF (by kernel_rfl) SR (y_pick_t RF RF) rfl ?_
  refine xj_s 45 RF (by kernel_rfl) SR (y_move RF) rfl ?_
  refine xj_known (tt := 112) (b' := true) RF (by first | rfl | decide) ?_
  refine xj_gt 46 RF RF RF (by kernel_rfl) SR (y_move RF) rfl ?_
  refine xj_gt 47 RF RF RF (by kernel_rfl) SR (y_eql RF RF) rfl ?_
  refine xj_s 48 RF (by kernel_rfl) SR (y_pick_t RF RF) rfl ?_
  refine xj_s 49 RF (by kernel_rfl) SR (y_move RF) rfl ?_
  refine xj_known (tt := 116) (b' := true) RF (by first | rfl | decide) ?_
  refine xj_gt 50 RF RF RF (by kernel_rfl) SR (y_move RF) rfl ?_
  refine xj_gt 51 RF RF RF (by kernel_rfl) SR (y_eql RF RF) rfl ?_
  refine xj_s 52 RF (by kernel_rfl) SR (y_pick_t RF RF) rfl ?_
  refine xj_s 53 RF (by kernel_rfl) SR (y_move RF) rfl ?_
  refine xj_known (tt := 120) (b' := true) RF (by first | rfl | decide) ?_
  refine xj_gt 54 RF RF RF (by kernel_rfl) SR (y_move RF) rfl ?_
  refine xj_one 55 RF (by kernel_rfl) ?_
  refine sq_guard RF RF ?_
  refine sq_bs Try.underlying35 ei3 (EvI.cons RF (EvI.cons RF (EvI.cons RF EvI.nil))) (by first | (simp [Value.cells]; done) | (simp [Value.cells]; rfl) | (simp [Value.cells]; and_intros <;> rfl)) rfl rfl rfl (fun b122 => ?_)
  refine sq_nil ?_
  refine sx_xp SR ?_
  refine xj_one 56 RF (by kernel_rfl) ?_
  refine sq_gt RF RF (y_call (first := []) (caps := []) RF Try.call29 (EvL.cons RF (EvL.cons RF EvL.nil)) (fun w1 hw1 => ints29 w1 z7.1 (some ⟨b122, 0, none⟩) z7.2 3 [1, 0, 2] [1, 0, 2] (hz7.at hw1 MM) (lit_rowsA (row := iRow) (l := [1, 0, 2]) (fun _ => rfl) hw1 (g := b122) MM rfl (by decide)))) rfl ?_
  refine sq_nil ?_
  refine sx_xp SR ?_
  refine xj_s 57 RF (by kernel_rfl) SR (y_pick_t RF RF) rfl ?_
  refine xj_s 58 RF (by kernel_rfl) SR (y_move RF) rfl ?_
  refine xj_known (tt := 125) (b' := true) RF (by first | rfl | decide) ?_
  refine xj_gt 59 RF RF RF (by kernel_rfl) SR (y_move RF) rfl ?_
  refine xj_gt 60 RF RF RF (by kernel_rfl) SR (y_eql RF RF) rfl ?_
  refine xj_s 61 RF (by kernel_rfl) SR (y_pick_t RF RF) rfl ?_
  refine xj_s 62 RF (by kernel_rfl) SR (y_move RF) rfl ?_
  refine xj_known (tt := 129) (b' := true) RF (by first | rfl | decide) ?_
  refine xj_gt 63 RF RF RF (by kernel_rfl) SR (y_move RF) rfl ?_
  refine xj_gt 64 RF RF RF (by kernel_rfl) SR (y_eql RF RF) rfl ?_
  refine xj_s 65 RF (by kernel_rfl) SR (y_pick_t RF RF) rfl ?_
  refine xj_s 66 RF (by kernel_rfl) SR (y_move RF) rfl ?_
  refine xj_known (tt := 133) (b' := true) RF (by first | rfl | decide) ?_
  refine xj_gt 67 RF RF RF (by kernel_rfl) SR (y_move RF) rfl ?_
  refine xj_gt 68 RF RF RF (by kernel_rfl) SR (y_eql RF RF) rfl ?_
  refine xj_s 69 RF (by kernel_rfl) SR (y_pick_t RF RF) rfl ?_
  refine xj_s 70 RF (by kernel_rfl) SR (y_move RF) rfl ?_
  refine xj_known (tt := 137) (b' := true) RF (by first | rfl | decide) ?_
  refine xj_gt 71 RF RF RF (by kernel_rfl) SR (y_move RF) rfl ?_
  refine xj_gt 72 RF RF RF (by kernel_rfl) SR (y_eql RF RF) rfl ?_
  refine xj_s 73 RF (by kernel_rfl) SR (y_pick_t RF RF) rfl ?_
  refine xj_s 74 RF (by kernel_rfl) SR (y_move RF) rfl ?_
  refine xj_known (tt := 141) (b' := true) RF (by first | rfl | decide) ?_
  refine xj_gt 75 RF RF RF (by kernel_rfl) SR (y_move RF) rfl ?_
  refine xj_gt 76 RF RF RF (by kernel_rfl) SR (y_eql RF RF) rfl ?_
  refine xj_s 77 RF (by kernel_rfl) SR (y_pick_t RF RF) rfl ?_
  refine xj_s 78 RF (by kernel_rfl) SR (y_assign RF) rfl ?_
  refine xj_done (by kernel_rfl) ?_
  refine sx_then ?_
  refine sc_ret ?_
  refine sx_ret1 (.inl rfl) rfl Try.results13 RF ?_
  intro w' hw'
  exact ⟨rfl, hw'.below MM⟩
end Go.Proofs.Ytjlbpmcacopbpaa
