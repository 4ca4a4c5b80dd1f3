/- The walks of Run and Late. -/
import Derived.Test.YtjlbpmcacopbpaaWalk8
namespace Go.Proofs.Ytjlbpmcacopbpaa
open Go Go.Eng Go.RowKit Go.Proofs
set_option maxRecDepth 100000
theorem bt88 : BT Try.prog 88 [] (.agg #[]) := BT.of Try.underlying88 (by kernel_rfl) (by kernel_rfl)
theorem bt89 : BT Try.prog 89 [] (.agg #[]) := BT.of Try.underlying89 (by kernel_rfl) (by kernel_rfl)
/-- an order of so many times -/
structure ordOk (ts : List Tm) (o : List Int) : Prop where
  len : o.length = ts.length
  le : ts.length ≤ 7
  bd : ∀ k, k ∈ o → 0 ≤ k ∧ k < (ts.length : Int)
  sm : ∀ t, t ∈ ts → smT t
theorem ordOk.of {l : List Jb} {o : List Int} (hj : jobsB l = true) (ho : ordB o l.length = true) (hi : Bool) : ordOk (l.map (timeV hi)) o := by
  have hp := (ordB_iff o l.length).1 ho
  refine ⟨by rw [hp.length_eq, rngI_len, List.length_map], by rw [List.length_map]; exact (jobsB_parts hj).1, fun k hk => ?_, tm_smT hj hi⟩
  rw [List.length_map]; exact mem_rngI.1 (hp.mem_iff.1 hk)
theorem ends58v {w : World} {v : Value} {ts : List Tm} {ao : Option Addr} {co : Nat} {o : List Int} (n : Nat) (hn : ts.length = n) (hv : w.ownsRow 0 92 2 v n (ts.flatMap tmRow)) (ho : RowsA iRow 1 0 w ao o) (hok : ordOk ts o) : Calls Try.prog 58 #[v, .slice ao o.length co] w fun e w' => ∃ v, e = .returned v ∧ Below w.heap.size w w' ∧ v.oneCell' = true ∧ w'.ownsRow w.heap.size 3 1 v n ((endsV ts o).flatMap iRow) := by
  subst hn
  obtain ⟨a, c, rfl, _, hr⟩ := own_rowsA (row := tmRow) tmRow_len hv rfl (by have := hok.le; omega)
  exact ends58 w a c ts hr ao co o ho hok.len hok.le hok.bd hok.sm
theorem ends36n {w : World} {ap : Option Addr} {cp : Nat} {al : Option Addr} {cl : Nat} {ts : List Tm} {ao : Option Addr} {co : Nat} {o : List Int} (n : Nat) (hn : ts.length = n) (hP : RowsA iRow 1 0 w ap (ts.map (fun (t : Tm) => t.1))) (hL : RowsA iRow 1 0 w al (ts.map (fun (t : Tm) => t.2))) (ho : RowsA iRow 1 0 w ao o) (hok : ordOk ts o) : Calls Try.prog 36 #[.agg #[.slice ap n cp, .slice al n cl], .slice ao o.length co] w fun e w' => ∃ v, e = .returned v ∧ Below w.heap.size w w' ∧ v.oneCell' = true ∧ w'.ownsRow w.heap.size 3 1 v n ((endsV ts o).flatMap iRow) := by
  subst hn
  exact ends36 w ap cp al cl ts hP hL ao co o ho hok.len hok.le hok.bd hok.sm
theorem done39n {w : World} {ap : Option Addr} {cp : Nat} {al : Option Addr} {cl : Nat} {ts : List Tm} {ao : Option Addr} {co : Nat} {o : List Int} (n : Nat) (hn : ts.length = n) (hP : RowsA iRow 1 0 w ap (ts.map (fun (t : Tm) => t.1))) (hL : RowsA iRow 1 0 w al (ts.map (fun (t : Tm) => t.2))) (ho : RowsA iRow 1 0 w ao o) (hok : ordOk ts o) : Calls Try.prog 39 #[.agg #[.slice ap n cp, .slice al n cl], .slice ao o.length co] w fun e w' => e = .returned (.int .i64 (gtV 0 (endsV ts o))) ∧ Below w.heap.size w w' := by
  subst hn
  exact done39 w ap cp al cl ts hP hL ao co o ho hok.len hok.le hok.bd hok.sm
theorem path42n {w : World} {ap : Option Addr} {cp : Nat} {al : Option Addr} {cl : Nat} {ts : List Tm} {ao : Option Addr} {co : Nat} {o : List Int} (n : Nat) (hn : ts.length = n) (hP : RowsA iRow 1 0 w ap (ts.map (fun (t : Tm) => t.1))) (hL : RowsA iRow 1 0 w al (ts.map (fun (t : Tm) => t.2))) (ho : RowsA iRow 1 0 w ao o) (hok : ordOk ts o) (i : Int) : Calls Try.prog 42 #[.agg #[.slice ap n cp, .slice al n cl], .slice ao o.length co, .int .i64 i] w fun e w' => e = .returned (.int .i64 (pathK ts o i o.length)) ∧ Below w.heap.size w w' := by
  subst hn
  exact path42 w ap cp al cl ts hP hL ao co o ho hok.len hok.le hok.bd hok.sm i
def spanK (l : List Jb) (o : List Int) (i : Nat) : Sp := ⟨(endsV (l.map (timeV false)) o).getD i 0, (endsV (l.map (timeV true)) o).getD i 0⟩
def spansV (l : List Jb) (o : List Int) : List Sp := (List.range l.length).map (spanK l o)
theorem spansV_len (l : List Jb) (o : List Int) : (spansV l o).length = l.length := by unfold spansV; simp
theorem spansV_get {l : List Jb} {o : List Int} {i : Nat} (h : i < l.length) : (spansV l o)[i]? = some (spanK l o i) := by unfold spansV; simp [h]
theorem spansV_getD {l : List Jb} {o : List Int} {i : Nat} (h : i < l.length) : (spansV l o).getD i sp0 = spanK l o i := by rw [List.getD_eq_getElem?_getD, spansV_get h]; rfl
def runR (l : List Jb) (o : List Int) : List Sp × Int := if chkV l o ≠ 0 then ([], chkV l o) else (spansV l o, 0)
theorem chkV_ok {l : List Jb} {o : List Int} (h : chkV l o = 0) : jobsB l = true ∧ ordB o l.length = true := by
  unfold chkV at h
  cases h1 : jobsB l <;> cases h2 : ordB o l.length <;> simp [h1, h2] at h ⊢

theorem run20 (w : World) (a : Option Addr) (c : Nat) (l : List Jb) (hl : RowsA jbRow 5 0 w a l) (ao : Option Addr) (co : Nat) (o : List Int) (ho : RowsA iRow 1 0 w ao o) (h1000 : o.length ≤ 1000) : Calls Try.prog 20 #[.slice a l.length c, .slice ao o.length co] w fun e w' => ∃ v, e = .returned (.tuple #[v, .int .i64 (runR l o).2]) ∧ Below w.heap.size w w' ∧ v.oneCell' = true ∧ w'.ownsRow w.heap.size 24 2 v (runR l o).1.length ((runR l o).1.flatMap spRow) := by
  have hlen := hl.len
  refine calls_of_SC (args := [.slice a l.length c, .slice ao o.length co]) Try.func20 rfl Try.ntmps20 rfl ?_
  simp only [argL, Nat.zero_add]
  refine sc_seq ?_
  refine sc_region ?_
  refine qs (y_assign RF) ?_
  refine qs (y_assign RF) ?_
  refine sq_nil ?_
  refine sx_then ?_
  refine sc_seq ?_
  refine sc_seq ?_
  refine sc_region ?_
  refine qs (y_move RF) ?_
  refine qs (y_move RF) ?_
  refine qy (yc Try.call57 E2 (fun w1 hw1 => check57 w1 a c l (hl.at hw1 MM) ao co o (ho.at hw1 MM) h1000)) ?_
  refine qs (y_assign RF) ?_
  refine sq_nil ?_
  refine sx_then ?_
  refine sc_seq ?_
  refine sc_region ?_
  refine qs (y_move RF) ?_
  refine qs (y_neq RF RF) ?_
  refine sq_nil ?_
  refine sx_then ?_
  refine scp (fun hc0 => ?_) (fun hc0 => ?_)
  ·
    refine sc_seq ?_
    refine sc_region ?_
    refine qs (y_move RF) ?_
    refine qs (y_assign RF) ?_
    refine qs (y_assign RF) ?_
    refine sq_nil ?_
    refine sx_then ?_
    refine sc_ret ?_
    refine sx_then_ret ?_
    refine sx_ret2 (.inl rfl) rfl Try.results20 RF RF ?_
    intro w' hw'
    have h0 : runR l o = ([], chkV l o) := by unfold runR; rw [if_pos hc0]
    exact ⟨.slice none 0 0, by rw [h0], hw'.below MM, rfl, by rw [h0]; exact ⟨rfl, .inl ⟨rfl, rfl⟩⟩⟩
  ·
    refine sc_skip ?_
    refine sx_then ?_
    refine sc_seq ?_
    have hck : chkV l o = 0 := by simpa using hc0
    obtain ⟨hj, hob⟩ := chkV_ok hck
    have hF := ordOk.of hj hob false
    have hS := ordOk.of hj hob true
    have h7 := (jobsB_parts hj).1
    have hlF : (endsV (l.map (timeV false)) o).length = l.length := (endsK_len _ _ _).trans (List.length_map _)
    have hlS : (endsV (l.map (timeV true)) o).length = l.length := (endsK_len _ _ _).trans (List.length_map _)
    refine sc_region ?_
    refine qs (y_move RF) ?_
    refine qs (y_build bt88 EvP.nil RF) ?_
    refine qs (y_makeIface Try.underlying88 (fun _ h => by cases h) RF) ?_
    refine sq_call_own (first := []) (caps := []) (e := 92) (sz := 2) (n := l.length) (Z := Value) (fun x => x) (fun x => x) (fun _ => (l.map (timeV false)).flatMap tmRow) (fun x => x.oneCell' = true) RF Try.call59 E2 (fun w1 hw1 => (timesOf59 w1 a c l (hl.at hw1 MM) h7 false).mono (fun e w' ⟨x, h1, h2, h3, h4⟩ => ⟨x, h1, h2, h3, h4⟩)) rfl (fun v19 ho19 => ?_)
    refine qs (y_move RF) ?_
    refine sq_call_own (first := []) (caps := []) (e := 3) (sz := 1) (n := l.length) (Z := Value) (fun x => x) (fun x => x) (fun _ => (endsV (l.map (timeV false)) o).flatMap iRow) (fun x => x.oneCell' = true) RF Try.call58 E2 (fun w1 hw1 => (ends58v (co := co) l.length (List.length_map _) (hw1.ok (Res.own v19 92 2 l.length ((l.map (timeV false)).flatMap tmRow)) MM) (ho.at hw1 MM) hF).mono (fun e w' ⟨x, h1, h2, h3, h4⟩ => ⟨x, h1, h2, h3, h4⟩)) rfl (fun v21 ho21 => ?_)
    refine qs (y_move RF) ?_
    refine qs (y_build bt89 EvP.nil RF) ?_
    refine qs (y_makeIface Try.underlying89 (fun _ h => by cases h) RF) ?_
    refine sq_call_own (first := []) (caps := []) (e := 92) (sz := 2) (n := l.length) (Z := Value) (fun x => x) (fun x => x) (fun _ => (l.map (timeV true)).flatMap tmRow) (fun x => x.oneCell' = true) RF Try.call59 E2 (fun w1 hw1 => (timesOf59 w1 a c l (hl.at hw1 MM) h7 true).mono (fun e w' ⟨x, h1, h2, h3, h4⟩ => ⟨x, h1, h2, h3, h4⟩)) rfl (fun v25 ho25 => ?_)
    refine qs (y_move RF) ?_
    refine sq_call_own (first := []) (caps := []) (e := 3) (sz := 1) (n := l.length) (Z := Value) (fun x => x) (fun x => x) (fun _ => (endsV (l.map (timeV true)) o).flatMap iRow) (fun x => x.oneCell' = true) RF Try.call58 E2 (fun w1 hw1 => (ends58v (co := co) l.length (List.length_map _) (hw1.ok (Res.own v25 92 2 l.length ((l.map (timeV true)).flatMap tmRow)) MM) (ho.at hw1 MM) hS).mono (fun e w' ⟨x, h1, h2, h3, h4⟩ => ⟨x, h1, h2, h3, h4⟩)) rfl (fun v27 ho27 => ?_)
    refine qs (y_assign RF) ?_
    refine qs (y_assign RF) ?_
    refine sq_nil ?_
    refine sx_then ?_
    refine sc_seq ?_
    refine sc_seq ?_
    refine sc_nil_own 24 2 ?_
    refine sc_region ?_
    refine qs (y_move RF) ?_
    refine qs (y_len Try.underlying34 RF) ?_
    refine qs (y_move RF) ?_
    refine sq_nil ?_
    refine sx_then ?_
    refine sc_block ?_
    refine sc_loop (σ := Nat × Value)
      (fun s => [(4, s.2), (7, v21), (8, v27), (28, .slice a l.length c), (29, .int .i64 l.length), (30, .int .i64 s.1)])
      (fun s => [.own s.2 24 2 s.1 (((spansV l o).take s.1).flatMap spRow), .own v21 3 1 l.length ((endsV (l.map (timeV false)) o).flatMap iRow), .own v27 3 1 l.length ((endsV (l.map (timeV true)) o).flatMap iRow), .reg 0 w])
      (fun s => s.1 ≤ l.length ∧ s.2.oneCell' = true)
      (fun s => l.length - s.1)
      ((0, .slice none 0 0)) ?_ SU SR ?_
    · exact ⟨Nat.zero_le _, rfl⟩
    rintro ⟨k, vo⟩ ⟨hk, hvo⟩
    dsimp only at hk hvo ⊢
    refine sc_seq ?_
    refine sc_region ?_
    refine qs (y_lss RF RF) ?_
    refine sq_nil ?_
    refine sx_then ?_
    refine sc_seq ?_
    refine scp (fun hc1 => ?_) (fun hc1 => ?_)
    ·
      have hk' : k < l.length := by omega
      refine sc_skip ?_
      refine sx_then ?_
      refine sc_seq ?_
      refine sc_block ?_
      refine sc_seq ?_
      refine sc_region ?_
      refine qs (y_move RF) ?_
      refine qs (y_assign RF) ?_
      refine sq_nil ?_
      refine sx_then ?_
      refine sc_drawX ([.own v21 3 1 l.length ((endsV (l.map (timeV false)) o).flatMap iRow), .own v27 3 1 l.length ((endsV (l.map (timeV true)) o).flatMap iRow), .reg 0 w]) (by kernel_rfl) ?_
      refine xj_s 0 RF (by kernel_rfl) SR (y_move RF) rfl ?_
      refine xj_s 1 RF (by kernel_rfl) SR (y_move RF) rfl ?_
      refine xj_s 2 RF (by kernel_rfl) SR (y_move RF) rfl ?_
      refine xj_s 3 RF (by kernel_rfl) SR (y_ia_own Try.underlying35 Try.sizeOf3 RF MM RF hk') rfl ?_
      refine xj_s 4 RF (by kernel_rfl) SR (by first | exact y_load_own0 (u := .int .i64 ((endsV (l.map (timeV false)) o).getD k 0)) Try.underlying3 rfl RF MM hk' (flat_iget (get_of_lt 0 (by omega))) | exact LD3) rfl ?_
      refine xj_s 5 RF (by kernel_rfl) SR (y_move RF) rfl ?_
      refine xj_s 6 RF (by kernel_rfl) SR (y_move RF) rfl ?_
      refine xj_s 7 RF (by kernel_rfl) SR (y_ia_own Try.underlying35 Try.sizeOf3 RF MM RF hk') rfl ?_
      refine xj_s 8 RF (by kernel_rfl) SR (by first | exact y_load_own0 (u := .int .i64 ((endsV (l.map (timeV true)) o).getD k 0)) Try.underlying3 rfl RF MM hk' (flat_iget (get_of_lt 0 (by omega))) | exact LD3) rfl ?_
      refine xj_s 9 RF (by kernel_rfl) SR (y_build bt24 (EvP.cons RF (EvP.cons RF EvP.nil)) RF) rfl ?_
      refine xj_one 10 RF (by kernel_rfl) ?_
      refine sq_bs Try.underlying36 ei24 (EvI.cons RF EvI.nil) (by first | (simp [Value.cells]; done) | (simp [Value.cells]; rfl) | (simp [Value.cells]; and_intros <;> rfl)) rfl rfl rfl (fun b43 => ?_)
      refine sq_nil ?_
      refine sx_xp SR ?_
      refine xj_one 11 RF (by kernel_rfl) ?_
      refine sq_append (news := spRow (spanK l o k)) Try.underlying36 ei24 rfl (by decide) RF RM RF rfl (fun _ hw => news_blk hw MM) (by simp [spRow, Value.oneCell']) (by omega) rfl (fun v44 ho44 => ?_)
      rw [show ((spansV l o).take k).flatMap spRow ++ spRow (spanK l o k) = ((spansV l o).take (k + 1)).flatMap spRow from by rw [List.take_add_one, spansV_get hk']; simp]
      refine sq_nil ?_
      refine sx_xp SR ?_
      refine xj_s 12 RF (by kernel_rfl) SR (y_assign RF) rfl ?_
      refine xj_done (by kernel_rfl) ?_
      refine sx_blk ?_
      refine sx_then ?_
      refine sc_region ?_
      refine qs (y_add RF RF (by omega)) ?_
      refine qs (y_move RF) ?_
      refine sq_nil ?_
      refine sx_round ((k + 1, v44)) ?_ ?_ SU SR
      · exact ⟨by dsimp only; omega, ho44⟩
      · dsimp only; omega
    ·
      refine sc_exit ?_
      refine sx_then_exit ?_
      refine sx_round_exit ?_
      refine sx_blk_hit ?_
      refine sx_then ?_
      refine sc_seq ?_
      refine sc_region ?_
      refine qs (y_move RF) ?_
      refine qs (y_assign RF) ?_
      refine qs (y_assign RF) ?_
      refine sq_nil ?_
      refine sx_then ?_
      refine sc_ret ?_
      refine sx_ret2 (.inl rfl) rfl Try.results20 RF RF ?_
      intro w' hw'
      have h0 : runR l o = (spansV l o, 0) := by unfold runR; rw [if_neg (by simp [hck])]
      have hkn : k = l.length := by omega
      subst hkn
      have h1 := own_new_mem hw' (.head _) MM
      rw [List.take_of_length_le (by rw [spansV_len]; omega)] at h1
      exact ⟨vo, by rw [h0], hw'.below MM, hvo, by rw [h0, spansV_len]; exact h1⟩
theorem run21 (w : World) (a : Option Addr) (c : Nat) (l : List Jb) (hl : RowsA jbRow 5 0 w a l) (ao : Option Addr) (co : Nat) (o : List Int) (ho : RowsA iRow 1 0 w ao o) (h1000 : o.length ≤ 1000) : Calls Try.prog 21 #[.slice a l.length c, .slice ao o.length co] w fun e w' => ∃ v, e = .returned (.tuple #[v, .int .i64 (runR l o).2]) ∧ Below w.heap.size w w' ∧ v.oneCell' = true ∧ w'.ownsRow w.heap.size 24 2 v (runR l o).1.length ((runR l o).1.flatMap spRow) := by
  have hlen := hl.len
  refine calls_of_SC (args := [.slice a l.length c, .slice ao o.length co]) Try.func21 rfl Try.ntmps21 rfl ?_
  simp only [argL, Nat.zero_add]
  refine sc_seq ?_
  refine sc_region ?_
  refine qs (y_assign RF) ?_
  refine qs (y_assign RF) ?_
  refine sq_nil ?_
  refine sx_then ?_
  refine sc_seq ?_
  refine sc_region ?_
  refine qs (y_move RF) ?_
  refine qs (y_move RF) ?_
  refine qy (yc Try.call60 E2 (fun w1 hw1 => check60 w1 a c l (hl.at hw1 MM) ao co o (ho.at hw1 MM) h1000)) ?_
  refine qs (y_assign RF) ?_
  refine sq_nil ?_
  refine sx_then ?_
  refine sc_seq ?_
  refine sc_seq ?_
  refine sc_region ?_
  refine qs (y_move RF) ?_
  refine qs (y_neq RF RF) ?_
  refine sq_nil ?_
  refine sx_then ?_
  refine scp (fun hc0 => ?_) (fun hc0 => ?_)
  ·
    refine sc_seq ?_
    refine sc_region ?_
    refine qs (y_move RF) ?_
    refine qs (y_assign RF) ?_
    refine qs (y_assign RF) ?_
    refine sq_nil ?_
    refine sx_then ?_
    refine sc_ret ?_
    refine sx_then_ret ?_
    refine sx_ret2 (.inl rfl) rfl Try.results21 RF RF ?_
    intro w' hw'
    have h0 : runR l o = ([], chkV l o) := by unfold runR; rw [if_pos hc0]
    exact ⟨.slice none 0 0, by rw [h0], hw'.below MM, rfl, by rw [h0]; exact ⟨rfl, .inl ⟨rfl, rfl⟩⟩⟩
  ·
    refine sc_skip ?_
    refine sx_then ?_
    refine sc_seq ?_
    have hck : chkV l o = 0 := by simpa using hc0
    obtain ⟨hj, hob⟩ := chkV_ok hck
    have hF := ordOk.of hj hob false
    have hS := ordOk.of hj hob true
    have h7 := (jobsB_parts hj).1
    have hlF : (endsV (l.map (timeV false)) o).length = l.length := (endsK_len _ _ _).trans (List.length_map _)
    have hlS : (endsV (l.map (timeV true)) o).length = l.length := (endsK_len _ _ _).trans (List.length_map _)
    refine sc_region ?_
    refine qs (y_move RF) ?_
    refine sq_call_new (first := []) (caps := []) (Z := (Option Addr × Nat) × Option Addr × Nat) (fun z => .agg #[.slice z.1.1 l.length z.1.2, .slice z.2.1 l.length z.2.2]) (fun lo w' z => RowsA iRow 1 lo w' z.1.1 ((l.map (timeV false)).map (fun (t : Tm) => t.1)) ∧ RowsA iRow 1 lo w' z.2.1 ((l.map (timeV false)).map (fun (t : Tm) => t.2))) RF Try.call37 (EvL.cons RF EvL.nil) (fun w1 hw1 => fast37 w1 a c l (hl.at hw1 MM) h7) rfl (fun lo18 wr18 z18 hz18 => ?_)
    refine qs (y_move RF) ?_
    refine sq_call_own (first := []) (caps := []) (e := 3) (sz := 1) (n := l.length) (Z := Value) (fun x => x) (fun x => x) (fun _ => (endsV (l.map (timeV false)) o).flatMap iRow) (fun x => x.oneCell' = true) RF Try.call36 E2 (fun w1 hw1 => (ends36n (co := co) l.length (List.length_map _) (hz18.1.at hw1 MM) (hz18.2.at hw1 MM) (ho.at hw1 MM) hF).mono (fun e w' ⟨x, h1, h2, h3, h4⟩ => ⟨x, h1, h2, h3, h4⟩)) rfl (fun v20 ho20 => ?_)
    refine qs (y_move RF) ?_
    refine sq_call_new (first := []) (caps := []) (Z := (Option Addr × Nat) × Option Addr × Nat) (fun z => .agg #[.slice z.1.1 l.length z.1.2, .slice z.2.1 l.length z.2.2]) (fun lo w' z => RowsA iRow 1 lo w' z.1.1 ((l.map (timeV true)).map (fun (t : Tm) => t.1)) ∧ RowsA iRow 1 lo w' z.2.1 ((l.map (timeV true)).map (fun (t : Tm) => t.2))) RF Try.call38 (EvL.cons RF EvL.nil) (fun w1 hw1 => slow38 w1 a c l (hl.at hw1 MM) h7) rfl (fun lo22 wr22 z22 hz22 => ?_)
    refine qs (y_move RF) ?_
    refine sq_call_own (first := []) (caps := []) (e := 3) (sz := 1) (n := l.length) (Z := Value) (fun x => x) (fun x => x) (fun _ => (endsV (l.map (timeV true)) o).flatMap iRow) (fun x => x.oneCell' = true) RF Try.call36 E2 (fun w1 hw1 => (ends36n (co := co) l.length (List.length_map _) (hz22.1.at hw1 MM) (hz22.2.at hw1 MM) (ho.at hw1 MM) hS).mono (fun e w' ⟨x, h1, h2, h3, h4⟩ => ⟨x, h1, h2, h3, h4⟩)) rfl (fun v24 ho24 => ?_)
    refine qs (y_assign RF) ?_
    refine qs (y_assign RF) ?_
    refine sq_nil ?_
    refine sx_then ?_
    refine sc_seq ?_
    refine sc_region ?_
    refine qs (y_assign RF) ?_
    refine sq_nil ?_
    refine sx_then ?_
    refine sc_seq ?_
    refine sc_seq ?_
    refine sc_nil_own 24 2 ?_
    refine sc_region ?_
    refine qs (y_assign RF) ?_
    refine sq_nil ?_
    refine sx_then ?_
    refine sc_block ?_
    refine sc_loop (σ := Nat × Value)
      (fun s => [(0, .slice a l.length c), (7, v20), (8, v24), (9, s.2), (10, .int .i64 s.1)])
      (fun s => [.own s.2 24 2 s.1 (((spansV l o).take s.1).flatMap spRow), .own v20 3 1 l.length ((endsV (l.map (timeV false)) o).flatMap iRow), .own v24 3 1 l.length ((endsV (l.map (timeV true)) o).flatMap iRow), .reg 0 w])
      (fun s => s.1 ≤ l.length ∧ s.2.oneCell' = true)
      (fun s => l.length - s.1)
      ((0, .slice none 0 0)) ?_ SU SR ?_
    · exact ⟨Nat.zero_le _, rfl⟩
    rintro ⟨k, vo⟩ ⟨hk, hvo⟩
    dsimp only at hk hvo ⊢
    refine sc_seq ?_
    refine sc_seq ?_
    refine sc_region ?_
    refine qs (y_move RF) ?_
    refine qs (y_move RF) ?_
    refine qs (y_len Try.underlying34 RF) ?_
    refine qs (y_lss RF RF) ?_
    refine sq_nil ?_
    refine sx_then ?_
    refine scp (fun hc1 => ?_) (fun hc1 => ?_)
    ·
      have hk' : k < l.length := by omega
      refine sc_skip ?_
      refine sx_then ?_
      refine sc_seq ?_
      refine sc_block ?_
      refine sc_drawX ([.own v20 3 1 l.length ((endsV (l.map (timeV false)) o).flatMap iRow), .own v24 3 1 l.length ((endsV (l.map (timeV true)) o).flatMap iRow), .reg 0 w]) (by kernel_rfl) ?_
      refine xj_s 0 RF (by kernel_rfl) SR (y_move RF) rfl ?_
      refine xj_s 1 RF (by kernel_rfl) SR (y_move RF) rfl ?_
      refine xj_s 2 RF (by kernel_rfl) SR (y_move RF) rfl ?_
      refine xj_s 3 RF (by kernel_rfl) SR (y_ia_own Try.underlying35 Try.sizeOf3 RF MM RF hk') rfl ?_
      refine xj_s 4 RF (by kernel_rfl) SR (by first | exact y_load_own0 (u := .int .i64 ((endsV (l.map (timeV false)) o).getD k 0)) Try.underlying3 rfl RF MM hk' (flat_iget (get_of_lt 0 (by omega))) | exact LD3) rfl ?_
      refine xj_s 5 RF (by kernel_rfl) SR (y_move RF) rfl ?_
      refine xj_s 6 RF (by kernel_rfl) SR (y_move RF) rfl ?_
      refine xj_s 7 RF (by kernel_rfl) SR (y_ia_own Try.underlying35 Try.sizeOf3 RF MM RF hk') rfl ?_
      refine xj_s 8 RF (by kernel_rfl) SR (by first | exact y_load_own0 (u := .int .i64 ((endsV (l.map (timeV true)) o).getD k 0)) Try.underlying3 rfl RF MM hk' (flat_iget (get_of_lt 0 (by omega))) | exact LD3) rfl ?_
      refine xj_s 9 RF (by kernel_rfl) SR (y_build bt24 (EvP.cons RF (EvP.cons RF EvP.nil)) RF) rfl ?_
      refine xj_one 10 RF (by kernel_rfl) ?_
      refine sq_bs Try.underlying36 ei24 (EvI.cons RF EvI.nil) (by first | (simp [Value.cells]; done) | (simp [Value.cells]; rfl) | (simp [Value.cells]; and_intros <;> rfl)) rfl rfl rfl (fun b41 => ?_)
      refine sq_nil ?_
      refine sx_xp SR ?_
      refine xj_one 11 RF (by kernel_rfl) ?_
      refine sq_append (news := spRow (spanK l o k)) Try.underlying36 ei24 rfl (by decide) RF RM RF rfl (fun _ hw => news_blk hw MM) (by simp [spRow, Value.oneCell']) (by omega) rfl (fun v42 ho42 => ?_)
      rw [show ((spansV l o).take k).flatMap spRow ++ spRow (spanK l o k) = ((spansV l o).take (k + 1)).flatMap spRow from by rw [List.take_add_one, spansV_get hk']; simp]
      refine sq_nil ?_
      refine sx_xp SR ?_
      refine xj_s 12 RF (by kernel_rfl) SR (y_assign RF) rfl ?_
      refine xj_done (by kernel_rfl) ?_
      refine sx_blk ?_
      refine sx_then ?_
      refine sc_region ?_
      refine qs (y_move RF) ?_
      refine qs (y_add RF RF (by omega)) ?_
      refine qs (y_assign RF) ?_
      refine sq_nil ?_
      refine sx_round ((k + 1, v42)) ?_ ?_ SU SR
      · exact ⟨by dsimp only; omega, ho42⟩
      · dsimp only; omega
    ·
      refine sc_exit ?_
      refine sx_then_exit ?_
      refine sx_round_exit ?_
      refine sx_blk_hit ?_
      refine sx_then ?_
      refine sc_seq ?_
      refine sc_region ?_
      refine qs (y_move RF) ?_
      refine qs (y_assign RF) ?_
      refine qs (y_assign RF) ?_
      refine sq_nil ?_
      refine sx_then ?_
      refine sc_ret ?_
      refine sx_ret2 (.inl rfl) rfl Try.results21 RF RF ?_
      intro w' hw'
      have h0 : runR l o = (spansV l o, 0) := by unfold runR; rw [if_neg (by simp [hck])]
      have hkn : k = l.length := by omega
      subst hkn
      have h1 := own_new_mem hw' (.head _) MM
      rw [List.take_of_length_le (by rw [spansV_len]; omega)] at h1
      exact ⟨vo, by rw [h0], hw'.below MM, hvo, by rw [h0, spansV_len]; exact h1⟩
end Go.Proofs.Ytjlbpmcacopbpaa
