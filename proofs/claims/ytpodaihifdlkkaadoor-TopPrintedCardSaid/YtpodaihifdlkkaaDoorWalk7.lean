/- The walks of what is lacking, what is paid for it. -/
import Derived.Test.YtpodaihifdlkkaaDoorWalk6
namespace Go.Proofs.YtpodaihifdlkkaaDoor
open Go Go.Eng Go.RowKit Go.Proofs
set_option maxRecDepth 100000
/-- how many sheets are there: for a lower or an upper bound -/
structure Kind (f : FuncId) (pick : Sp → Int) : Prop where
  hcf : ∀ args w, (callFunc f args).run Tryd.prog w = .ok (.enter f args) w
  call : ∀ (w : World) (p : Sp), Calls Tryd.prog f #[.agg (spRow p).toArray] w fun e w' => e = .returned (.int .i64 (pick p)) ∧ Below w.heap.size w w'
  bd : ∀ x, shB x = true → 0 ≤ pick x.many ∧ pick x.many ≤ 100000
theorem kindHi : Kind 37 (·.hi) := ⟨Tryd.call37, kind37, fun x hx => by have := sh_parts hx; omega⟩
theorem kindLo : Kind 38 (·.lo) := ⟨Tryd.call38, kind38, fun x hx => by have := sh_parts hx; omega⟩
def lackF (s : So) (pick : Sp → Int) (tk : List Int) (k : Nat) : Int := max 0 (tk.getD k 0 - pick (s.sh.getD k sh0).many)
def lackL (s : So) (pick : Sp → Int) (tk : List Int) : List Int := (List.range tk.length).map (lackF s pick tk)
theorem lackL_len (s : So) (pick : Sp → Int) (tk : List Int) : (lackL s pick tk).length = tk.length := by simp [lackL]
theorem lackL_get (s : So) (pick : Sp → Int) {tk : List Int} {k : Nat} (h : k < tk.length) : (lackL s pick tk).getD k 0 = lackF s pick tk k := by
  unfold lackL
  rw [List.getD_eq_getElem?_getD, List.getElem?_map, List.getElem?_range h]; rfl
def paysT (s : So) (l : List Int) (k : Nat) : Int := sumI ((List.range k).map fun i => l.getD i 0 * (s.sh.getD i sh0).cost)
theorem paysT_succ (s : So) (l : List Int) (k : Nat) : paysT s l (k + 1) = sumI [paysT s l k, l.getD k 0 * (s.sh.getD k sh0).cost] := by
  unfold paysT sumI
  rw [List.range_succ, List.map_append, List.foldl_append]
  simp
def paysV (s : So) (pick : Sp → Int) (tk : List Int) : Int := paysT s (lackL s pick tk) tk.length

theorem lacking25o {f : FuncId} {pick : Sp → Int} (hf : Kind f pick) (w : World) (z : SA) (s : So) (hz : SoA 0 w z s) (hv : StF s) (a : Option Addr) (c : Nat) (tk : List Int) (hl : RowsA iRow 1 0 w a tk) (htl : tk.length = s.sh.length) (hb : ∀ x, x ∈ tk → 0 ≤ x ∧ x ≤ 1000000) : Calls Tryd.prog 25 #[.agg (stV z s).toArray, .slice a tk.length c, .agg #[.func (.func f) #[] #[]]] w fun e w' => ∃ v, e = .returned v ∧ Below w.heap.size w w' ∧ w'.ownsRow w.heap.size 3 1 v tk.length ((lackL s pick tk).flatMap iRow) := by
  have htn := hl.len
  have hs4 := hv.sh1
  refine calls_of_SC (args := [.agg (stV z s).toArray, .slice a tk.length c, .agg #[.func (.func f) #[] #[]]]) Tryd.func25 rfl Tryd.ntmps25 rfl ?_
  simp only [argL, Nat.reduceAdd, Nat.zero_add]
  refine sc_seq ?_
  refine sc_region ?_
  refine sq_box RF rfl (fun b3 => ?_)
  refine sq_box RF rfl (fun b5 => ?_)
  refine qs (y_assign RF) ?_
  refine sq_nil ?_
  refine sx_then ?_
  refine sc_seq ?_
  refine sc_region ?_
  refine qs (y_move RF) ?_
  refine qs (y_len Tryd.underlying63 RF) ?_
  refine sq_make Tryd.underlying63 ei3 RF RF (by omega) (by omega) (by omega) rfl (fun b12 => ?_)
  rw [irep, ← range_zero, ← updK_0 tk.length (lackF s pick tk)]
  refine sq_blk_own (n := tk.length) (sz := 1) (xs := (updK tk.length (lackF s pick tk) (fun _ => 0) 0).flatMap iRow) RM (by rw [flat_ilen, updK_len, Nat.mul_one]) (by unfold maxLen; omega) ?_
  refine qs (y_assign RF) ?_
  refine sq_nil ?_
  refine sx_then ?_
  refine sc_seq ?_
  refine sc_seq ?_
  refine sc_region ?_
  refine qs (y_move RF) ?_
  refine qs (y_len Tryd.underlying63 RF) ?_
  refine qs (y_move RF) ?_
  refine sq_nil ?_
  refine sx_then ?_
  refine sc_block ?_
  refine sc_loop (σ := Nat)
    (fun s_ => [(3, .pointer (some ⟨b3, 0, none⟩)), (5, .pointer (some ⟨b5, 0, none⟩)), (7, (.slice (some ⟨b12, 0, none⟩) tk.length tk.length)), (13, .slice a tk.length c), (14, .int .i64 tk.length), (15, .int .i64 s_)])
    (fun s_ => [.own (.slice (some ⟨b12, 0, none⟩) tk.length tk.length) 3 1 tk.length ((updK tk.length (lackF s pick tk) (fun _ => 0) s_).flatMap iRow), .blk b5 (.cells [Value.func (.func f) #[] #[]].toArray 72 (0, 0)), .blk b3 (.cells (stV z s).toArray 60 (0, 0)), .reg 0 w])
    (fun s_ => s_ ≤ tk.length)
    (fun s_ => tk.length - s_)
    (0) ?_ SU SR ?_
  · exact Nat.zero_le _
  rintro k hk
  refine sc_seq ?_
  refine sc_region ?_
  refine qs (y_lss RF RF) ?_
  refine sq_nil ?_
  refine sx_then ?_
  refine sc_seq ?_
  refine scp (fun hc0 => ?_) (fun hc0 => ?_)
  ·
    have hk' : k < tk.length := by omega
    have hks : k < s.sh.length := by omega
    have hst := (hl.get 0 hk').1
    have hct := (hl.get 0 hk').2
    have hss := (hz.sh.get sh0 hks).1
    have hcs := (hz.sh.get sh0 hks).2
    have hbk := hb _ (getD_mem (d := 0) hk')
    have hpk := hf.bd _ (hv.sh _ (getD_mem (d := sh0) hks))
    refine sc_skip ?_
    refine sx_then ?_
    refine sc_seq ?_
    refine sc_block ?_
    refine sc_seq ?_
    refine sc_region ?_
    refine qs (y_move RF) ?_
    refine qs IA63 ?_
    refine qs (by first | exact y_load_ca0 Tryd.underlying3 rfl RF MM hct rfl | exact LD3) ?_
    refine qs (y_assign RF) ?_
    refine qs (y_assign RF) ?_
    refine sq_nil ?_
    refine sx_then ?_
    refine sc_drawR (by kernel_rfl) ?_
    refine xj_s 0 RF (by kernel_rfl) SR (y_move RF) rfl ?_
    refine xj_s 1 RF (by kernel_rfl) SR (y_move RF) rfl ?_
    refine xj_s 2 RF (by kernel_rfl) SR (y_move RF) rfl ?_
    refine xj_s 3 RF (by kernel_rfl) SR FA72_70 rfl ?_
    refine xj_s 4 RF (by kernel_rfl) SR (by first | exact y_load_blk Tryd.underlying70 rfl RF MM rfl | exact LD70) rfl ?_
    refine xj_s 5 RF (by kernel_rfl) SR FA60_27 rfl ?_
    refine xj_s 6 RF (by kernel_rfl) SR FA27_22 rfl ?_
    refine xj_s 7 RF (by kernel_rfl) SR LD22 rfl ?_
    refine xj_s 8 RF (by kernel_rfl) SR (y_move RF) rfl ?_
    refine xj_s 9 RF (by kernel_rfl) SR IA22 rfl ?_
    refine xj_s 10 RF (by kernel_rfl) SR FA42_29 rfl ?_
    refine xj_s 11 RF (by kernel_rfl) SR (by first | exact y_load_capart (vs := spRow (s.sh.getD k sh0).many) Tryd.underlying29 rfl Tryd.sizeOf29 RF MM hcs rfl | exact LD29) rfl ?_
    refine xj_one 12 RF (by kernel_rfl) ?_
    refine qy (y_call (first := []) (caps := []) (vs := [.agg (spRow (s.sh.getD k sh0).many).toArray]) RF hf.hcf E1 (fun w1 _ => hf.call w1 (s.sh.getD k sh0).many)) ?_
    refine sq_nil ?_
    refine sx_xp SR ?_
    refine xj_s 13 RF (by kernel_rfl) SR (y_sub RF RF (by omega)) rfl ?_
    refine xj_s 14 RF (by kernel_rfl) SR (y_max RF RF) rfl ?_
    refine xj_s 15 RF (by kernel_rfl) SR (y_ia_own Tryd.underlying63 Tryd.sizeOf3 RF MM RF hk') rfl ?_
    refine xj_one 16 RF (by kernel_rfl) ?_
    refine sq_store_own (v := (.slice (some ⟨b12, 0, none⟩) tk.length tk.length)) (i := k) (j := 0) (sz := 1) Tryd.sizeOf3 RF RF rfl RM hk' (by decide) ?_
    rw [iset, show max 0 (tk.getD k 0 - pick (s.sh.getD k sh0).many) = (lackF s pick tk) k from rfl, updK_set (lackF s pick tk) (fun _ => 0) hk']
    refine sq_nil ?_
    refine sx_xpl (by kernel_rfl) ?_
    refine xj_done (by kernel_rfl) ?_
    refine sx_blk ?_
    refine sx_then ?_
    refine sc_region ?_
    refine qs (y_add RF RF (by omega)) ?_
    refine qs (y_move RF) ?_
    refine sq_nil ?_
    refine sx_round (k + 1) ?_ ?_ SU SR
    · exact hk'
    · omega
  ·
    have hkn : k = tk.length := by omega
    rw [hkn, updK_n]
    refine sc_exit ?_
    refine sx_then_exit ?_
    refine sx_round_exit ?_
    refine sx_blk_hit ?_
    refine sx_then ?_
    refine sc_seq ?_
    refine sc_region ?_
    refine qs (y_move RF) ?_
    refine qs (y_assign RF) ?_
    refine sq_nil ?_
    refine sx_then ?_
    refine sc_ret ?_
    refine sx_ret1 (.inl rfl) rfl Tryd.results25 RF ?_
    intro w' hw'
    exact ⟨_, rfl, hw'.below MM, own_new_mem hw' MM MM⟩
theorem lacking25 {f : FuncId} {pick : Sp → Int} (hf : Kind f pick) (w : World) (z : SA) (s : So) (hz : SoA 0 w z s) (hv : StF s) (a : Option Addr) (c : Nat) (tk : List Int) (hl : RowsA iRow 1 0 w a tk) (htl : tk.length = s.sh.length) (hb : ∀ x, x ∈ tk → 0 ≤ x ∧ x ≤ 1000000) : Calls Tryd.prog 25 #[.agg (stV z s).toArray, .slice a tk.length c, .agg #[.func (.func f) #[] #[]]] w fun e w' => ∃ y : Option Addr × Nat, e = .returned (.slice y.1 (lackL s pick tk).length y.2) ∧ Below w.heap.size w w' ∧ RowsA iRow 1 w.heap.size w' y.1 (lackL s pick tk) := (lacking25o hf w z s hz hv a c tk hl htl hb).mono fun e w' ⟨v, h1, h2, h3⟩ => by
  obtain ⟨a2, c2, rfl, _, hr⟩ := own_rowsA (row := iRow) (fun _ => rfl) h3 (lackL_len s pick tk) hl.len
  exact ⟨(a2, c2), by rw [h1, lackL_len], h2, hr⟩
theorem pays31 {f : FuncId} {pick : Sp → Int} (hf : Kind f pick) (w : World) (z : SA) (s : So) (hz : SoA 0 w z s) (hv : StF s) (a : Option Addr) (c : Nat) (tk : List Int) (hl : RowsA iRow 1 0 w a tk) (htl : tk.length = s.sh.length) (hb : ∀ x, x ∈ tk → 0 ≤ x ∧ x ≤ 1000000) : Calls Tryd.prog 31 #[.agg (stV z s).toArray, .slice a tk.length c, .agg #[.func (.func f) #[] #[]]] w fun e w' => e = .returned (.int .i64 (paysV s pick tk)) ∧ Below w.heap.size w w' := by
  have htn := hl.len
  have hs4 := hv.sh1
  have hll := lackL_len s pick tk
  refine calls_of_SC (args := [.agg (stV z s).toArray, .slice a tk.length c, .agg #[.func (.func f) #[] #[]]]) Tryd.func31 rfl Tryd.ntmps31 rfl ?_
  simp only [argL, Nat.reduceAdd, Nat.zero_add]
  refine sc_seq ?_
  refine sc_region ?_
  refine sq_box RF rfl (fun b3 => ?_)
  refine sq_box RF rfl (fun b5 => ?_)
  refine qs (y_assign RF) ?_
  refine sq_nil ?_
  refine sx_then ?_
  refine sc_seq ?_
  refine sc_seq ?_
  refine sc_region ?_
  refine qs LD60 ?_
  refine qs (y_move RF) ?_
  refine qs LD72 ?_
  refine sq_call_new (first := []) (caps := []) (Z := Option Addr × Nat) (fun y => .slice y.1 (lackL s pick tk).length y.2) (fun lo w' y => RowsA iRow 1 lo w' y.1 (lackL s pick tk)) RF Tryd.call25 (EvL.cons RF (EvL.cons RF (EvL.cons RF EvL.nil))) (fun w1 hw1 => lacking25 hf w1 z s (hz.at hw1 MM) hv a c tk (hl.at hw1 MM) htl hb) rfl (fun lo wr y hy => ?_)
  refine qs (y_len Tryd.underlying63 RF) ?_
  refine qs (y_move RF) ?_
  refine sq_nil ?_
  refine sx_then ?_
  refine sc_block ?_
  refine sc_loop (σ := Nat)
    (fun s_ => [(3, .pointer (some ⟨b3, 0, none⟩)), (6, .int .i64 (paysT s (lackL s pick tk) s_)), (12, .slice y.1 (lackL s pick tk).length y.2), (13, .int .i64 (lackL s pick tk).length), (14, .int .i64 s_)])
    (fun s_ => [.reg lo wr, .blk b3 (.cells (stV z s).toArray 60 (0, 0)), .reg 0 w])
    (fun s_ => s_ ≤ tk.length ∧ 0 ≤ paysT s (lackL s pick tk) s_ ∧ paysT s (lackL s pick tk) s_ ≤ 10000000000 * (s_ : Int))
    (fun s_ => tk.length - s_)
    (0) ?_ SU SR ?_
  · exact ⟨Nat.zero_le _, by simp [paysT, sumI], by simp [paysT, sumI]⟩
  rintro k ⟨hk, hp0, hp1⟩
  refine sc_seq ?_
  refine sc_region ?_
  refine qs (y_lss RF RF) ?_
  refine sq_nil ?_
  refine sx_then ?_
  refine sc_seq ?_
  refine scp (fun hc0 => ?_) (fun hc0 => ?_)
  ·
    have hk' : k < tk.length := by omega
    have hks : k < s.sh.length := by omega
    have hst := (hy.get 0 (show k < (lackL s pick tk).length by omega)).1
    have hct := (hy.get 0 (show k < (lackL s pick tk).length by omega)).2
    have hss := (hz.sh.get sh0 hks).1
    have hcs := (hz.sh.get sh0 hks).2
    have hbk := hb _ (getD_mem (d := 0) hk')
    have hpk := hf.bd _ (hv.sh _ (getD_mem (d := sh0) hks))
    have hlk : 0 ≤ (lackL s pick tk).getD k 0 ∧ (lackL s pick tk).getD k 0 ≤ 1000000 := by rw [lackL_get s pick hk']; unfold lackF; omega
    have hcost := (sh_parts (hv.sh _ (getD_mem (d := sh0) hks))).2
    have hmul := mul_bd2 hlk hcost
    have hsc := paysT_succ s (lackL s pick tk) k
    unfold sumI at hsc
    simp only [List.foldl_cons, List.foldl_nil, Int.zero_add] at hsc
    refine sc_skip ?_
    refine sx_then ?_
    refine sc_seq ?_
    refine sc_block ?_
    refine sc_seq ?_
    refine sc_region ?_
    refine qs (y_move RF) ?_
    refine qs IA63 ?_
    refine qs (by first | exact y_load_ca0 Tryd.underlying3 rfl RF MM hct rfl | exact LD3) ?_
    refine qs (y_assign RF) ?_
    refine qs (y_assign RF) ?_
    refine sq_nil ?_
    refine sx_then ?_
    refine sc_region ?_
    refine qs (y_move RF) ?_
    refine qs (y_move RF) ?_
    refine qs FA60_27 ?_
    refine qs FA27_22 ?_
    refine qs LD22 ?_
    refine qs (y_move RF) ?_
    refine qs IA22 ?_
    refine qs FA42_3 ?_
    refine qs (by first | exact y_load_caj (j := 2) Tryd.underlying3 rfl RF MM hcs rfl | exact LD3) ?_
    refine qs (y_mul RF RF (by omega)) ?_
    refine sq_bs Tryd.underlying35 ei3 (EvI.cons RF (EvI.cons RF EvI.nil)) (by first | (simp [Value.cells]; done) | (simp [Value.cells]; rfl) | (simp [Value.cells]; and_intros <;> rfl)) rfl rfl rfl (fun b29 => ?_)
    refine qy (yc Tryd.call29 E1 (fun w1 hw1 => sum29 w1 _ _ _ (lit_i2 hw1 MM) (by intro y hy; simp only [List.mem_cons, List.not_mem_nil, or_false] at hy; rcases hy with rfl | rfl <;> omega) (by simp))) ?_
    rw [← paysT_succ]
    refine qs (y_assign RF) ?_
    refine sq_nil ?_
    refine sx_blk ?_
    refine sx_then ?_
    refine sc_region ?_
    refine qs (y_add RF RF (by omega)) ?_
    refine qs (y_move RF) ?_
    refine sq_nil ?_
    refine sx_round (k + 1) ?_ ?_ SU SR
    · exact ⟨hk', by omega, by omega⟩
    · omega
  ·
    have hkn : k = tk.length := by omega
    subst hkn
    refine sc_exit ?_
    refine sx_then_exit ?_
    refine sx_round_exit ?_
    refine sx_blk_hit ?_
    refine sx_then ?_
    refine sc_seq ?_
    refine sc_region ?_
    refine qs (y_move RF) ?_
    refine qs (y_assign RF) ?_
    refine sq_nil ?_
    refine sx_then ?_
    refine sc_ret ?_
    refine sx_ret1 (.inl rfl) rfl Tryd.results31 RF ?_
    intro w' hw'
    exact ⟨rfl, hw'.below MM⟩
end Go.Proofs.YtpodaihifdlkkaaDoor
