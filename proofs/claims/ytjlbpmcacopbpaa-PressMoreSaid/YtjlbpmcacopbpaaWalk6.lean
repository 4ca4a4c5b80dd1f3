/- The walks of times, and of when jobs end. -/
import Derived.Test.YtjlbpmcacopbpaaWalk5
namespace Go.Proofs.Ytjlbpmcacopbpaa
open Go Go.Eng Go.RowKit Go.Proofs
set_option maxRecDepth 100000
theorem tmRow_len (t : Tm) : (tmRow t).length = 2 := rfl
theorem tm_smT {l : List Jb} (h : jobsB l = true) (hi : Bool) : ∀ t, t ∈ l.map (timeV hi) → smT t := fun t ht => by
  obtain ⟨j, hj, rfl⟩ := List.mem_map.1 ht
  have := (jobsB_parts h).2 j hj
  unfold smT timeV; cases hi <;> simp only [Bool.false_eq_true, if_true, if_false] <;> omega
def endT (hi : Bool) : Value := if hi = true then .iface 89 (.agg #[]) else .iface 88 (.agg #[])

theorem of122 (w : World) (s : Sp) : Calls Try.prog 122 #[.agg #[], .agg (spRow s).toArray] w fun e w' => e = .returned (.int .i64 s.lo) ∧ Below w.heap.size w w' := by
  refine calls_of_SC (args := [.agg #[], .agg (spRow s).toArray]) Try.func122 rfl Try.ntmps122 rfl ?_
  simp only [argL, Nat.zero_add]
  refine sc_seq ?_
  refine sc_region ?_
  refine sq_box RF rfl (fun b2 => ?_)
  refine sq_box RF rfl (fun b3 => ?_)
  refine qs (y_assign RF) ?_
  refine sq_nil ?_
  refine sx_then ?_
  refine sc_seq ?_
  refine sc_region ?_
  refine qs FA24_3 ?_
  refine qs LD3 ?_
  refine qs (y_assign RF) ?_
  refine sq_nil ?_
  refine sx_then ?_
  refine sc_ret ?_
  refine sx_ret1 (.inl rfl) rfl Try.results122 RF ?_
  intro w' hw'
  exact ⟨rfl, hw'.below MM⟩
theorem of123 (w : World) (s : Sp) : Calls Try.prog 123 #[.agg #[], .agg (spRow s).toArray] w fun e w' => e = .returned (.int .i64 s.hi) ∧ Below w.heap.size w w' := by
  refine calls_of_SC (args := [.agg #[], .agg (spRow s).toArray]) Try.func123 rfl Try.ntmps123 rfl ?_
  simp only [argL, Nat.zero_add]
  refine sc_seq ?_
  refine sc_region ?_
  refine sq_box RF rfl (fun b2 => ?_)
  refine sq_box RF rfl (fun b3 => ?_)
  refine qs (y_assign RF) ?_
  refine sq_nil ?_
  refine sx_then ?_
  refine sc_seq ?_
  refine sc_region ?_
  refine qs FA24_3 ?_
  refine qs LD3 ?_
  refine qs (y_assign RF) ?_
  refine sq_nil ?_
  refine sx_then ?_
  refine sc_ret ?_
  refine sx_ret1 (.inl rfl) rfl Try.results123 RF ?_
  intro w' hw'
  exact ⟨rfl, hw'.below MM⟩
theorem y_end {X : Ctx} {L : List (Nat × Value)} {rs : List Res} {ty : TypeId} {g : Operand} {args : List Operand} {ats : Array TypeId} {hi : Bool} {s : Sp} (hP : X.P = Try.prog) (hg : ev L g = some (endT hi)) (hv : EvL L args [.agg (spRow s).toArray]) : OpY X L rs (.call { callee := .invoke g "jigworks/press.of", args := args.toArray, argTypes := ats }) ty (.int .i64 (if hi = true then s.hi else s.lo)) := by
  cases X; dsimp only at hP; subst hP
  cases hi
  · exact y_invoke (f := 122) (rv' := .agg #[]) hg (fun w => by kernel_rfl) Try.call122 hv fun w1 _ => of122 w1 s
  · exact y_invoke (f := 123) (rv' := .agg #[]) hg (fun w => by kernel_rfl) Try.call123 hv fun w1 _ => of123 w1 s
theorem timeV_eq (hi : Bool) (j : Jb) : tmRow (timeV hi j) = [.int .i64 (if hi = true then j.print.hi else j.print.lo), .int .i64 (if hi = true then j.lay.hi else j.lay.lo)] := by cases hi <;> rfl

theorem timesOf59 (w : World) (a : Option Addr) (c : Nat) (l : List Jb) (hl : RowsA jbRow 5 0 w a l) (h7 : l.length ≤ 7) (hi : Bool) : Calls Try.prog 59 #[.slice a l.length c, endT hi] w fun e w' => ∃ v, e = .returned v ∧ Below w.heap.size w w' ∧ v.oneCell' = true ∧ w'.ownsRow w.heap.size 92 2 v l.length ((l.map (timeV hi)).flatMap tmRow) := by
  refine calls_of_SC (args := [.slice a l.length c, endT hi]) Try.func59 rfl Try.ntmps59 rfl ?_
  simp only [argL, Nat.zero_add]
  refine sc_seq ?_
  refine sc_region ?_
  refine qs (y_assign RF) ?_
  refine sq_nil ?_
  refine sx_then ?_
  refine sc_seq ?_
  refine sc_region ?_
  refine qs (y_assign RF) ?_
  refine sq_nil ?_
  refine sx_then ?_
  refine sc_seq ?_
  refine sc_seq ?_
  refine sc_nil_own 92 2 ?_
  refine sc_region ?_
  refine qs (y_move RF) ?_
  refine qs (y_len Try.underlying34 RF) ?_
  refine qs (y_move RF) ?_
  refine sq_nil ?_
  refine sx_then ?_
  refine sc_block ?_
  refine sc_loop (σ := Nat × Value)
    (fun s => [(1, endT hi), (5, s.2), (8, .slice a l.length c), (9, .int .i64 l.length), (10, .int .i64 s.1)])
    (fun s => [.own s.2 92 2 s.1 (((l.map (timeV hi)).take s.1).flatMap tmRow), .reg 0 w])
    (fun s => s.1 ≤ l.length ∧ s.2.oneCell' = true)
    (fun s => l.length - s.1)
    ((0, .slice none 0 0)) ?_ SU SR ?_
  · exact ⟨Nat.zero_le _, rfl⟩
  rintro ⟨k, v5⟩ ⟨hk, hv5⟩
  dsimp only at hk hv5 ⊢
  refine sc_seq ?_
  refine sc_region ?_
  refine qs (y_lss RF RF) ?_
  refine sq_nil ?_
  refine sx_then ?_
  refine sc_seq ?_
  refine scp (fun hc0 => ?_) (fun hc0 => ?_)
  ·
    have hk' : k < l.length := by omega
    have hsm := (hl.get jb0 hk').1
    have hca := (hl.get jb0 hk').2
    refine sc_skip ?_
    refine sx_then ?_
    refine sc_seq ?_
    refine sc_block ?_
    refine sc_seq ?_
    refine sc_region ?_
    refine qs IA34 ?_
    refine qs (by first | exact y_load_ca Try.underlying58 rfl Try.sizeOf58 RF MM hca rfl | exact LD58) ?_
    refine sq_alloc Try.zeroValue58 rfl (fun b7 => ?_)
    refine sq_store_all Try.sizeOf58 RF RF rfl RM rfl rfl ?_
    refine sq_nil ?_
    refine sx_then ?_
    refine sc_drawX ([.blk b7 (.cells (jbRow (l.getD k jb0)).toArray 58 (0, 0)), .reg 0 w]) (by kernel_rfl) ?_
    refine xj_s 0 RF (by kernel_rfl) SR (y_move RF) rfl ?_
    refine xj_s 1 RF (by kernel_rfl) SR (y_move RF) rfl ?_
    refine xj_s 2 RF (by kernel_rfl) SR FA58_24 rfl ?_
    refine xj_s 3 RF (by kernel_rfl) SR LD24 rfl ?_
    refine xj_s 5 RF (by kernel_rfl) SR (y_move RF) rfl ?_
    refine xj_s 6 RF (by kernel_rfl) SR FA58_24 rfl ?_
    refine xj_s 7 RF (by kernel_rfl) SR LD24 rfl ?_
    refine xj_one 4 RF (by kernel_rfl) ?_
    refine qy (y_end (s := (l.getD k jb0).print) rfl RF E1) ?_
    refine sq_nil ?_
    refine sx_xp SR ?_
    refine xj_one 8 RF (by kernel_rfl) ?_
    refine qy (y_end (s := (l.getD k jb0).lay) rfl RF E1) ?_
    refine sq_nil ?_
    refine sx_xp SR ?_
    refine xj_s 9 RF (by kernel_rfl) SR (y_build bt92 (EvP.cons RF (EvP.cons RF EvP.nil)) RF) rfl ?_
    refine xj_one 10 RF (by kernel_rfl) ?_
    refine sq_bs Try.underlying85 ei92 (EvI.cons RF EvI.nil) (by first | (simp [Value.cells]; done) | (simp [Value.cells]; rfl) | (simp [Value.cells]; and_intros <;> rfl)) rfl rfl rfl (fun b24 => ?_)
    refine sq_nil ?_
    refine sx_xp SR ?_
    refine xj_one 11 RF (by kernel_rfl) ?_
    refine sq_append (news := tmRow (timeV hi (l.getD k jb0))) Try.underlying85 ei92 rfl (by decide) RF RM RF rfl (fun _ hw => by rw [timeV_eq]; exact news_blk hw MM) (by simp [tmRow, Value.oneCell']) (by omega) rfl (fun v25 ho25 => ?_)
    rw [show ((l.map (timeV hi)).take k).flatMap tmRow ++ tmRow (timeV hi (l.getD k jb0)) = ((l.map (timeV hi)).take (k + 1)).flatMap tmRow from by rw [List.take_add_one, List.getElem?_map, get_of_lt jb0 hk']; simp]
    refine sq_nil ?_
    refine sx_xp SR ?_
    refine xj_s 12 RF (by kernel_rfl) SR (y_assign RF) rfl ?_
    refine xj_done (by kernel_rfl) ?_
    refine sx_blk ?_
    refine sx_then ?_
    refine sc_region ?_
    refine qs (y_add RF RF (by omega)) ?_
    refine qs (y_move RF) ?_
    refine sq_nil ?_
    refine sx_round ((k + 1, v25)) ?_ ?_ SU SR
    · exact ⟨by dsimp only; omega, ho25⟩
    · dsimp only; omega
  ·
    have hkn : k = l.length := by omega
    subst hkn
    refine sc_exit ?_
    refine sx_then_exit ?_
    refine sx_round_exit ?_
    refine sx_blk_hit ?_
    refine sx_then ?_
    refine sc_seq ?_
    refine sc_region ?_
    refine qs (y_move RF) ?_
    refine qs (y_assign RF) ?_
    refine sq_nil ?_
    refine sx_then ?_
    refine sc_ret ?_
    refine sx_ret1 (.inl rfl) rfl Try.results59 RF ?_
    intro w' hw'
    have := own_new_mem hw' (.head _) MM
    rw [List.take_of_length_le (by simp)] at this
    exact ⟨v5, rfl, hw'.below MM, hv5, this⟩
theorem iset : ∀ (l : List Int) (k : Nat) (x : Int), (l.flatMap iRow).set (k * 1 + 0) (.int .i64 x) = (l.set k x).flatMap iRow
  | [], _, _ => rfl
  | _ :: _, 0, _ => rfl
  | a :: l, k + 1, x => by
    rw [List.set_cons_succ, List.flatMap_cons, List.flatMap_cons, ← iset l k x]
    rfl
theorem irep (n : Nat) : madeCells (Value.int .i64 0).cells (n * 1) = ((List.replicate n (0 : Int)).flatMap iRow).toArray := by
  rw [Nat.mul_one]
  show madeCells #[.int .i64 0] n = _
  rw [madeCells_one]; congr 1
  induction n with
  | zero => rfl
  | succ n ih => rw [List.replicate_succ, List.replicate_succ, List.flatMap_cons, ← ih]; rfl
theorem endsK_len (ts : List Tm) (o : List Int) : ∀ k, (endsK ts o k).length = ts.length
  | 0 => by unfold endsK; simp
  | k + 1 => by unfold endsK; rw [List.length_set]; exact endsK_len ts o k
theorem run_bd : ∀ (ts : List Tm) (w : Tm), (∀ t, t ∈ ts → smT t) → (0 ≤ w.1 ∧ 0 ≤ w.2) → (0 ≤ (runL ts w).1 ∧ (runL ts w).1 ≤ w.1 + 1000 * (ts.length : Int)) ∧ 0 ≤ (runL ts w).2 ∧ (runL ts w).2 ≤ max w.1 w.2 + 2000 * (ts.length : Int)
  | [], w, _, hw => by rw [runL_nil]; simp; omega
  | t :: ts, w, h, hw => by
    have ht := h t (List.mem_cons_self ..)
    unfold smT at ht
    have := run_bd ts (stepW w t) (fun x hx => h x (List.mem_cons_of_mem _ hx)) (by unfold stepW; dsimp only; omega)
    rw [runL_cons]
    unfold stepW at this ⊢
    dsimp only at this ⊢
    rw [List.length_cons]; omega
theorem ordT_sm {ts : List Tm} (h : ∀ t, t ∈ ts → smT t) (o : List Int) : ∀ t, t ∈ ordT ts o → smT t := fun t ht => by
  obtain ⟨k, _, rfl⟩ := List.mem_map.1 ht
  rcases Nat.lt_or_ge k.toNat ts.length with h1 | h1
  · exact h _ (List.mem_of_getElem? (get_of_lt (0, 0) h1))
  · rw [List.getD_eq_getElem?_getD, List.getElem?_eq_none (by omega)]; unfold smT; simp
theorem ordT_len (ts : List Tm) (o : List Int) : (ordT ts o).length = o.length := List.length_map _
theorem run_big {ts : List Tm} (h : ∀ t, t ∈ ts → smT t) {o : List Int} (h7 : o.length ≤ 20) : bigW (runL (ordT ts o) (0, 0)) := by
  have := run_bd (ordT ts o) (0, 0) (ordT_sm h o) (by simp)
  rw [ordT_len] at this
  unfold bigW; dsimp only at this; omega
theorem take_ord (ts : List Tm) {o : List Int} {k : Nat} (hk : k < o.length) : runL (ordT ts (o.take (k + 1))) (0, 0) = stepW (runL (ordT ts (o.take k)) (0, 0)) (ts.getD (o.getD k 0).toNat (0, 0)) := by
  unfold ordT
  rw [List.take_add_one, get_of_lt 0 hk, List.map_append, ← runL_snoc]; rfl

theorem ends58 (w : World) (at' : Option Addr) (ct : Nat) (ts : List Tm) (hT : RowsA tmRow 2 0 w at' ts) (ao : Option Addr) (co : Nat) (o : List Int) (ho : RowsA iRow 1 0 w ao o) (hlo : o.length = ts.length) (h7 : ts.length ≤ 7) (hin : ∀ k, k ∈ o → 0 ≤ k ∧ k < (ts.length : Int)) (hsm : ∀ t, t ∈ ts → smT t) : Calls Try.prog 58 #[.slice at' ts.length ct, .slice ao o.length co] w fun e w' => ∃ v, e = .returned v ∧ Below w.heap.size w w' ∧ v.oneCell' = true ∧ w'.ownsRow w.heap.size 3 1 v ts.length ((endsV ts o).flatMap iRow) := by
  have hlen := ho.len
  refine calls_of_SC (args := [.slice at' ts.length ct, .slice ao o.length co]) Try.func58 rfl Try.ntmps58 rfl ?_
  simp only [argL, Nat.zero_add]
  refine sc_seq ?_
  refine sc_region ?_
  refine qs (y_assign RF) ?_
  refine sq_nil ?_
  refine sx_then ?_
  refine sc_seq ?_
  refine sc_region ?_
  refine qs (y_move RF) ?_
  refine qs (y_len Try.underlying35 RF) ?_
  refine sq_make Try.underlying35 ei3 RF RF (by omega) (by omega) (by omega) rfl (fun b11 => ?_)
  rw [irep]
  refine sq_blk_own (n := o.length) (sz := 1) (xs := (List.replicate o.length (0 : Int)).flatMap iRow) RM (by rw [flat_len iRow_len, List.length_replicate]) (by unfold maxLen; omega) ?_
  rw [show List.replicate o.length (0 : Int) = endsK ts o 0 from by rw [hlo]; rfl]
  refine qs (y_assign RF) ?_
  refine sq_nil ?_
  refine sx_then ?_
  refine sc_seq ?_
  refine sc_region ?_
  refine sq_alloc Try.zeroValue98 rfl (fun b6 => ?_)
  refine sq_nil ?_
  refine sx_then ?_
  refine sc_seq ?_
  refine sc_seq ?_
  refine sc_region ?_
  refine qs (y_move RF) ?_
  refine qs (y_len Try.underlying35 RF) ?_
  refine qs (y_move RF) ?_
  refine sq_nil ?_
  refine sx_then ?_
  refine sc_block ?_
  refine sc_loop (σ := Nat)
    (fun s => [(0, .slice at' ts.length ct), (5, .slice (some ⟨b11, 0, none⟩) o.length o.length), (6, .pointer (some ⟨b6, 0, none⟩)), (12, .slice ao o.length co), (13, .int .i64 o.length), (14, .int .i64 s)])
    (fun s => [.own (.slice (some ⟨b11, 0, none⟩) o.length o.length) 3 1 o.length ((endsK ts o s).flatMap iRow), .blk b6 (.cells [Value.int .i64 (runL (ordT ts (o.take s)) (0, 0)).1, .int .i64 (runL (ordT ts (o.take s)) (0, 0)).2].toArray 98 (0, 0)), .reg 0 w])
    (fun s => s ≤ o.length)
    (fun s => o.length - s)
    (0) ?_ SU SR ?_
  · exact Nat.zero_le _
  rintro k hk
  refine sc_seq ?_
  refine sc_region ?_
  refine qs (y_lss RF RF) ?_
  refine sq_nil ?_
  refine sx_then ?_
  refine sc_seq ?_
  refine scp (fun hc0 => ?_) (fun hc0 => ?_)
  ·
    have hk' : k < o.length := by omega
    obtain ⟨K, hK, hKn⟩ : ∃ K : Nat, o.getD k 0 = (K : Int) ∧ K < ts.length := by
      have := hin _ (List.mem_of_getElem? (get_of_lt 0 hk'))
      exact ⟨(o.getD k 0).toNat, by omega, by omega⟩
    have hso := (ho.get 0 hk').1
    have hco := (ho.get 0 hk').2
    rw [hK] at hco
    have hsT := (hT.get (0, 0) hKn).1
    have hcT := (hT.get (0, 0) hKn).2
    have hKo : K < o.length := by omega
    have hbw := run_big (ts := ts) hsm (o := o.take k) (by rw [List.length_take]; omega)
    have hst := hsm _ (List.mem_of_getElem? (get_of_lt (0, 0) hKn))
    have hstep := take_ord ts hk'
    rw [hK, Int.toNat_natCast] at hstep
    refine sc_skip ?_
    refine sx_then ?_
    refine sc_seq ?_
    refine sc_block ?_
    refine sc_seq ?_
    refine sc_region ?_
    refine qs IA35 ?_
    refine qs (by first | exact y_load_ca0 Try.underlying3 rfl RF MM hco rfl | exact LD3) ?_
    refine qs (y_assign RF) ?_
    refine sq_nil ?_
    refine sx_then ?_
    refine sc_region ?_
    refine qs (y_move RF) ?_
    refine qs (y_move RF) ?_
    refine qs (y_move RF) ?_
    refine qs (y_move RF) ?_
    refine qs IA85 ?_
    refine qs (by first | exact y_load_ca Try.underlying92 rfl Try.sizeOf92 RF MM hcT rfl | exact LD92) ?_
    refine sq_call_fr (first := []) (caps := []) (vs := [.pointer (some ⟨b6, 0, none⟩), .agg (tmRow (ts.getD K (0, 0))).toArray]) (rs1 := [.blk b6 (.cells [Value.int .i64 (runL (ordT ts (o.take k)) (0, 0)).1, .int .i64 (runL (ordT ts (o.take k)) (0, 0)).2].toArray 98 (0, 0))]) (Z := Unit) (fun _ => .int .i64 (runL (ordT ts (o.take (k + 1))) (0, 0)).2) (fun _ => [.blk b6 (.cells [Value.int .i64 (runL (ordT ts (o.take (k + 1))) (0, 0)).1, .int .i64 (runL (ordT ts (o.take (k + 1))) (0, 0)).2].toArray 98 (0, 0))]) (fun _ => True) RF Try.call65 E2 (by repeat (first | exact Rems.nil | apply Rems.cons (by repeat (first | exact Rem.here | apply Rem.there)))) (fun w1 hw1 => (take65 w w1 _ b6 (runL (ordT ts (o.take k)) (0, 0)) (ts.getD K (0, 0)) hbw hst hw1).mono (fun e w' h => ⟨(), trivial, by rw [hstep]; exact h.1, by rw [hstep]; exact h.2⟩)) rfl (fun _ _ => ?_)
    refine qs (y_ia_own Try.underlying35 Try.sizeOf3 RF MM RF hKo) ?_
    refine sq_store_own (v := .slice (some ⟨b11, 0, none⟩) o.length o.length) (i := K) (j := 0) (sz := 1) Try.sizeOf3 RF RF rfl RM hKo (by decide) ?_
    rw [iset, show (endsK ts o k).set K (runL (ordT ts (o.take (k + 1))) (0, 0)).2 = endsK ts o (k + 1) from by conv => { rhs; unfold endsK }; rw [hK, Int.toNat_natCast]]
    refine sq_nil ?_
    refine sx_blk ?_
    refine sx_then ?_
    refine sc_region ?_
    refine qs (y_add RF RF (by omega)) ?_
    refine qs (y_move RF) ?_
    refine sq_nil ?_
    refine sx_round (k + 1) ?_ ?_ SU SR
    · omega
    · omega
  ·
    have hkn : k = o.length := by omega
    subst hkn
    refine sc_exit ?_
    refine sx_then_exit ?_
    refine sx_round_exit ?_
    refine sx_blk_hit ?_
    refine sx_then ?_
    refine sc_seq ?_
    refine sc_region ?_
    refine qs (y_move RF) ?_
    refine qs (y_assign RF) ?_
    refine sq_nil ?_
    refine sx_then ?_
    refine sc_ret ?_
    refine sx_ret1 (.inl rfl) rfl Try.results58 RF ?_
    intro w' hw'
    have := own_new_mem hw' (.head _) MM
    rw [hlo] at this
    exact ⟨_, rfl, hw'.below MM, by simp [Value.oneCell'], by unfold endsV; rw [hlo]; exact this⟩
end Go.Proofs.Ytjlbpmcacopbpaa
