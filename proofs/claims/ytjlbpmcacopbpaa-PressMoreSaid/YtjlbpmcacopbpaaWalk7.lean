/- The walks of the reference's times, ends, ways, orders. -/
import Derived.Test.YtjlbpmcacopbpaaWalk6
namespace Go.Proofs.Ytjlbpmcacopbpaa
open Go Go.Eng Go.RowKit Go.Proofs
set_option maxRecDepth 100000
def pathK (ts : List Tm) (o : List Int) (i : Int) : Nat → Int
  | 0 => 0
  | k + 1 => pathK ts o i k + (if (k : Int) ≤ i then (ts.getD (o.getD k 0).toNat (0, 0)).1 else 0) + (if i ≤ (k : Int) then (ts.getD (o.getD k 0).toNat (0, 0)).2 else 0)
def cntK (o : List Int) (n : Int) : Nat → Nat
  | 0 => 0
  | k + 1 => if o.getD k 0 = n then cntK o n k + 1 else cntK o n k
theorem cntK_le (o : List Int) (n : Int) : ∀ k, cntK o n k ≤ k
  | 0 => Nat.le_refl _
  | k + 1 => by unfold cntK; have := cntK_le o n k; split <;> omega
def ordB (o : List Int) (n : Nat) : Bool := (List.range n).all (fun (k : Nat) => cntK o k o.length == 1) && o.length == n
theorem pathK_bd {ts : List Tm} (h : ∀ t, t ∈ ts → smT t) (o : List Int) (i : Int) : ∀ k, 0 ≤ pathK ts o i k ∧ pathK ts o i k ≤ 2000 * (k : Int)
  | 0 => by unfold pathK; simp
  | k + 1 => by
    have h1 := pathK_bd h o i k
    have h2 : smT (ts.getD (o.getD k 0).toNat (0, 0)) := by
      rcases Nat.lt_or_ge (o.getD k 0).toNat ts.length with h1 | h1
      · exact h _ (List.mem_of_getElem? (get_of_lt (0, 0) h1))
      · rw [List.getD_eq_getElem?_getD, List.getElem?_eq_none (by omega)]; unfold smT; simp
    unfold smT at h2
    unfold pathK
    split <;> split <;> omega
def powN (n : Nat) : Int := ((2 ^ n : Nat) : Int)
theorem powN_succ (n : Nat) : 2 * powN n = powN (n + 1) := by unfold powN; rw [Nat.pow_succ]; omega
theorem powN_le {n : Nat} (h : n ≤ 60) : 0 ≤ powN n ∧ powN n ≤ 1152921504606846976 := by
  unfold powN
  exact ⟨Int.natCast_nonneg _, Int.ofNat_le.2 (Nat.pow_le_pow_right (by omega) h)⟩

theorem fast37 (w : World) (a : Option Addr) (c : Nat) (l : List Jb) (hl : RowsA jbRow 5 0 w a l) (h7 : l.length ≤ 7) : Calls Try.prog 37 #[.slice a l.length c] w fun e w' => ∃ z : (Option Addr × Nat) × Option Addr × Nat, e = .returned (.agg #[.slice z.1.1 l.length z.1.2, .slice z.2.1 l.length z.2.2]) ∧ Below w.heap.size w w' ∧ RowsA iRow 1 w.heap.size w' z.1.1 ((l.map (timeV false)).map (fun (t : Tm) => t.1)) ∧ RowsA iRow 1 w.heap.size w' z.2.1 ((l.map (timeV false)).map (fun (t : Tm) => t.2)) := by
  refine calls_of_SC (args := [.slice a l.length c]) Try.func37 rfl Try.ntmps37 rfl ?_
  simp only [argL]
  refine sc_seq ?_
  refine sc_region ?_
  refine sq_alloc Try.zeroValue56 rfl (fun b2 => ?_)
  refine sq_nil ?_
  refine sx_then ?_
  refine sc_seq ?_
  refine sc_region ?_
  refine sq_alloc Try.zeroValue56 rfl (fun b3 => ?_)
  refine sq_nil ?_
  refine sx_then ?_
  refine sc_seq ?_
  refine sc_seq ?_
  refine sc_nil_own 3 1 ?_
  refine sc_nil_own 3 1 ?_
  refine sc_region ?_
  refine qs (y_assign RF) ?_
  refine sq_nil ?_
  refine sx_then ?_
  refine sc_block ?_
  refine sc_loop (σ := Nat × Value × Value)
    (fun s => [(0, .slice a l.length c), (2, .pointer (some ⟨b2, 0, none⟩)), (3, .pointer (some ⟨b3, 0, none⟩)), (4, .int .i64 s.1)])
    (fun s => [.own s.2.1 3 1 s.1 ((((l.map (timeV false)).map (fun (t : Tm) => t.1)).take s.1).flatMap iRow), .own s.2.2 3 1 s.1 ((((l.map (timeV false)).map (fun (t : Tm) => t.2)).take s.1).flatMap iRow), .blk b3 (.cells #[s.2.1, s.2.2] 56 (0, 0)), .blk b2 (.cells #[.slice none 0 0, .slice none 0 0] 56 (0, 0)), .reg 0 w])
    (fun s => s.1 ≤ l.length ∧ s.2.1.oneCell' = true ∧ s.2.2.oneCell' = true)
    (fun s => l.length - s.1)
    ((0, .slice none 0 0, .slice none 0 0)) ?_ SU SR ?_
  · exact ⟨Nat.zero_le _, rfl, rfl⟩
  rintro ⟨k, v1, v2⟩ ⟨hk, hv1, hv2⟩
  dsimp only at hk hv1 hv2 ⊢
  refine sc_seq ?_
  refine sc_seq ?_
  refine sc_region ?_
  refine qs (y_move RF) ?_
  refine qs (y_move RF) ?_
  refine qs (y_len Try.underlying34 RF) ?_
  refine qs (y_lss RF RF) ?_
  refine sq_nil ?_
  refine sx_then ?_
  refine scp (fun hc0 => ?_) (fun hc0 => ?_)
  ·
    have hk' : k < l.length := by omega
    have hsm := (hl.get jb0 hk').1
    have hca := (hl.get jb0 hk').2
    refine sc_skip ?_
    refine sx_then ?_
    refine sc_seq ?_
    refine sc_block ?_
    refine sc_seq ?_
    refine sc_drawX ([.blk b3 (.cells #[v1, v2] 56 (0, 0)), .reg 0 w]) (by kernel_rfl) ?_
    refine xj_s 0 RF (by kernel_rfl) SR FA56_35 rfl ?_
    refine xj_s 1 RF (by kernel_rfl) SR LD35 rfl ?_
    refine xj_s 2 RF (by kernel_rfl) SR (y_move RF) rfl ?_
    refine xj_s 3 RF (by kernel_rfl) SR (y_move RF) rfl ?_
    refine xj_s 4 RF (by kernel_rfl) SR IA34 rfl ?_
    refine xj_s 5 RF (by kernel_rfl) SR FA58_24 rfl ?_
    refine xj_s 6 RF (by kernel_rfl) SR FA24_3 rfl ?_
    refine xj_s 7 RF (by kernel_rfl) SR (by first | exact y_load_cajj (o1 := 0) (o2 := 0) Try.underlying3 rfl RF MM hca rfl | exact LD3) rfl ?_
    refine xj_one 8 RF (by kernel_rfl) ?_
    refine sq_bs Try.underlying35 ei3 (EvI.cons RF EvI.nil) (by first | (simp [Value.cells]; done) | (simp [Value.cells]; rfl) | (simp [Value.cells]; and_intros <;> rfl)) rfl rfl rfl (fun b19 => ?_)
    refine sq_nil ?_
    refine sx_xp SR ?_
    refine xj_one 9 RF (by kernel_rfl) ?_
    refine sq_append (news := [.int .i64 (l.getD k jb0).print.lo]) Try.underlying35 ei3 rfl (by decide) RF RM RF rfl (fun _ hw => news_blk hw MM) (by simp [Value.oneCell']) (by omega) rfl (fun v20 ho20 => ?_)
    rw [show (((l.map (timeV false)).map (fun (t : Tm) => t.1)).take k).flatMap iRow ++ [.int .i64 (l.getD k jb0).print.lo] = (((l.map (timeV false)).map (fun (t : Tm) => t.1)).take (k + 1)).flatMap iRow from by rw [List.take_add_one, List.getElem?_map, List.getElem?_map, get_of_lt jb0 hk']; simp [iRow, timeV]]
    refine sq_nil ?_
    refine sx_xp SR ?_
    refine xj_s 10 RF (by kernel_rfl) SR FA56_35 rfl ?_
    refine xj_one 11 RF (by kernel_rfl) ?_
    refine sq_store Try.sizeOf35 RF RF (by first | rfl | assumption) RM (by first | exact Nat.le_of_ble_eq_true rfl | simp | omega) ?_
    refine sq_nil ?_
    refine sx_xpl (by kernel_rfl) ?_
    refine xj_done (by kernel_rfl) ?_
    refine sx_then ?_
    refine sc_drawX ([.blk b3 (.cells #[v20, v2] 56 (0, 0)), .reg 0 w]) (by kernel_rfl) ?_
    refine xj_s 0 RF (by kernel_rfl) SR FA56_35 rfl ?_
    refine xj_s 1 RF (by kernel_rfl) SR LD35 rfl ?_
    refine xj_s 2 RF (by kernel_rfl) SR (y_move RF) rfl ?_
    refine xj_s 3 RF (by kernel_rfl) SR (y_move RF) rfl ?_
    refine xj_s 4 RF (by kernel_rfl) SR IA34 rfl ?_
    refine xj_s 5 RF (by kernel_rfl) SR FA58_24 rfl ?_
    refine xj_s 6 RF (by kernel_rfl) SR FA24_3 rfl ?_
    refine xj_s 7 RF (by kernel_rfl) SR (by first | exact y_load_cajj (o1 := 2) (o2 := 0) Try.underlying3 rfl RF MM hca rfl | exact LD3) rfl ?_
    refine xj_one 8 RF (by kernel_rfl) ?_
    refine sq_bs Try.underlying35 ei3 (EvI.cons RF EvI.nil) (by first | (simp [Value.cells]; done) | (simp [Value.cells]; rfl) | (simp [Value.cells]; and_intros <;> rfl)) rfl rfl rfl (fun b30 => ?_)
    refine sq_nil ?_
    refine sx_xp SR ?_
    refine xj_one 9 RF (by kernel_rfl) ?_
    refine sq_append (news := [.int .i64 (l.getD k jb0).lay.lo]) Try.underlying35 ei3 rfl (by decide) RF RM RF rfl (fun _ hw => news_blk hw MM) (by simp [Value.oneCell']) (by omega) rfl (fun v31 ho31 => ?_)
    rw [show (((l.map (timeV false)).map (fun (t : Tm) => t.2)).take k).flatMap iRow ++ [.int .i64 (l.getD k jb0).lay.lo] = (((l.map (timeV false)).map (fun (t : Tm) => t.2)).take (k + 1)).flatMap iRow from by rw [List.take_add_one, List.getElem?_map, List.getElem?_map, get_of_lt jb0 hk']; simp [iRow, timeV]]
    refine sq_nil ?_
    refine sx_xp SR ?_
    refine xj_s 10 RF (by kernel_rfl) SR FA56_35 rfl ?_
    refine xj_one 11 RF (by kernel_rfl) ?_
    refine sq_store Try.sizeOf35 RF RF (by first | rfl | assumption) RM (by first | exact Nat.le_of_ble_eq_true rfl | simp | omega) ?_
    refine sq_nil ?_
    refine sx_xpl (by kernel_rfl) ?_
    refine xj_done (by kernel_rfl) ?_
    refine sx_blk ?_
    refine sx_then ?_
    refine sc_region ?_
    refine qs (y_move RF) ?_
    refine qs (y_add RF RF (by omega)) ?_
    refine qs (y_assign RF) ?_
    refine sq_nil ?_
    refine sx_round ((k + 1, v20, v31)) ?_ ?_ SU SR
    · exact ⟨by dsimp only; omega, ho20, ho31⟩
    · dsimp only; omega
  ·
    have hkn : k = l.length := by omega
    subst hkn
    refine sc_exit ?_
    refine sx_then_exit ?_
    refine sx_round_exit ?_
    refine sx_blk_hit ?_
    refine sx_then ?_
    refine sc_seq ?_
    refine sc_region ?_
    refine qs LD56 ?_
    refine sq_store_all Try.sizeOf56 RF RF (by simp [hv1, hv2]) RM rfl rfl ?_
    refine sq_nil ?_
    refine sx_then ?_
    refine sc_ret ?_
    refine sx_retc (.inl rfl) rfl Try.results37 Try.underlying56 rfl Try.sizeOf56 RF MM rfl ?_
    intro w' hw'
    have h1 := own_new_mem hw' (.tail _ (.head _)) MM
    have h2 := own_new_mem hw' (.tail _ (.tail _ (.head _))) MM
    rw [List.take_of_length_le (by simp)] at h1 h2
    obtain ⟨a1, c1, rfl, _, hr1⟩ := own_rowsA (row := iRow) (fun _ => rfl) h1 (by simp) (by omega)
    obtain ⟨a2, c2, rfl, _, hr2⟩ := own_rowsA (row := iRow) (fun _ => rfl) h2 (by simp) (by omega)
    exact ⟨((a1, c1), a2, c2), rfl, hw'.below MM, hr1, hr2⟩
theorem slow38 (w : World) (a : Option Addr) (c : Nat) (l : List Jb) (hl : RowsA jbRow 5 0 w a l) (h7 : l.length ≤ 7) : Calls Try.prog 38 #[.slice a l.length c] w fun e w' => ∃ z : (Option Addr × Nat) × Option Addr × Nat, e = .returned (.agg #[.slice z.1.1 l.length z.1.2, .slice z.2.1 l.length z.2.2]) ∧ Below w.heap.size w w' ∧ RowsA iRow 1 w.heap.size w' z.1.1 ((l.map (timeV true)).map (fun (t : Tm) => t.1)) ∧ RowsA iRow 1 w.heap.size w' z.2.1 ((l.map (timeV true)).map (fun (t : Tm) => t.2)) := by
  refine calls_of_SC (args := [.slice a l.length c]) Try.func38 rfl Try.ntmps38 rfl ?_
  simp only [argL]
  refine sc_seq ?_
  refine sc_region ?_
  refine sq_alloc Try.zeroValue56 rfl (fun b2 => ?_)
  refine sq_nil ?_
  refine sx_then ?_
  refine sc_seq ?_
  refine sc_region ?_
  refine sq_alloc Try.zeroValue56 rfl (fun b3 => ?_)
  refine sq_nil ?_
  refine sx_then ?_
  refine sc_seq ?_
  refine sc_seq ?_
  refine sc_nil_own 3 1 ?_
  refine sc_nil_own 3 1 ?_
  refine sc_region ?_
  refine qs (y_assign RF) ?_
  refine sq_nil ?_
  refine sx_then ?_
  refine sc_block ?_
  refine sc_loop (σ := Nat × Value × Value)
    (fun s => [(0, .slice a l.length c), (2, .pointer (some ⟨b2, 0, none⟩)), (3, .pointer (some ⟨b3, 0, none⟩)), (4, .int .i64 s.1)])
    (fun s => [.own s.2.1 3 1 s.1 ((((l.map (timeV true)).map (fun (t : Tm) => t.1)).take s.1).flatMap iRow), .own s.2.2 3 1 s.1 ((((l.map (timeV true)).map (fun (t : Tm) => t.2)).take s.1).flatMap iRow), .blk b3 (.cells #[s.2.1, s.2.2] 56 (0, 0)), .blk b2 (.cells #[.slice none 0 0, .slice none 0 0] 56 (0, 0)), .reg 0 w])
    (fun s => s.1 ≤ l.length ∧ s.2.1.oneCell' = true ∧ s.2.2.oneCell' = true)
    (fun s => l.length - s.1)
    ((0, .slice none 0 0, .slice none 0 0)) ?_ SU SR ?_
  · exact ⟨Nat.zero_le _, rfl, rfl⟩
  rintro ⟨k, v1, v2⟩ ⟨hk, hv1, hv2⟩
  dsimp only at hk hv1 hv2 ⊢
  refine sc_seq ?_
  refine sc_seq ?_
  refine sc_region ?_
  refine qs (y_move RF) ?_
  refine qs (y_move RF) ?_
  refine qs (y_len Try.underlying34 RF) ?_
  refine qs (y_lss RF RF) ?_
  refine sq_nil ?_
  refine sx_then ?_
  refine scp (fun hc0 => ?_) (fun hc0 => ?_)
  ·
    have hk' : k < l.length := by omega
    have hsm := (hl.get jb0 hk').1
    have hca := (hl.get jb0 hk').2
    refine sc_skip ?_
    refine sx_then ?_
    refine sc_seq ?_
    refine sc_block ?_
    refine sc_seq ?_
    refine sc_drawX ([.blk b3 (.cells #[v1, v2] 56 (0, 0)), .reg 0 w]) (by kernel_rfl) ?_
    refine xj_s 0 RF (by kernel_rfl) SR FA56_35 rfl ?_
    refine xj_s 1 RF (by kernel_rfl) SR LD35 rfl ?_
    refine xj_s 2 RF (by kernel_rfl) SR (y_move RF) rfl ?_
    refine xj_s 3 RF (by kernel_rfl) SR (y_move RF) rfl ?_
    refine xj_s 4 RF (by kernel_rfl) SR IA34 rfl ?_
    refine xj_s 5 RF (by kernel_rfl) SR FA58_24 rfl ?_
    refine xj_s 6 RF (by kernel_rfl) SR FA24_3 rfl ?_
    refine xj_s 7 RF (by kernel_rfl) SR (by first | exact y_load_cajj (o1 := 0) (o2 := 1) Try.underlying3 rfl RF MM hca rfl | exact LD3) rfl ?_
    refine xj_one 8 RF (by kernel_rfl) ?_
    refine sq_bs Try.underlying35 ei3 (EvI.cons RF EvI.nil) (by first | (simp [Value.cells]; done) | (simp [Value.cells]; rfl) | (simp [Value.cells]; and_intros <;> rfl)) rfl rfl rfl (fun b19 => ?_)
    refine sq_nil ?_
    refine sx_xp SR ?_
    refine xj_one 9 RF (by kernel_rfl) ?_
    refine sq_append (news := [.int .i64 (l.getD k jb0).print.hi]) Try.underlying35 ei3 rfl (by decide) RF RM RF rfl (fun _ hw => news_blk hw MM) (by simp [Value.oneCell']) (by omega) rfl (fun v20 ho20 => ?_)
    rw [show (((l.map (timeV true)).map (fun (t : Tm) => t.1)).take k).flatMap iRow ++ [.int .i64 (l.getD k jb0).print.hi] = (((l.map (timeV true)).map (fun (t : Tm) => t.1)).take (k + 1)).flatMap iRow from by rw [List.take_add_one, List.getElem?_map, List.getElem?_map, get_of_lt jb0 hk']; simp [iRow, timeV]]
    refine sq_nil ?_
    refine sx_xp SR ?_
    refine xj_s 10 RF (by kernel_rfl) SR FA56_35 rfl ?_
    refine xj_one 11 RF (by kernel_rfl) ?_
    refine sq_store Try.sizeOf35 RF RF (by first | rfl | assumption) RM (by first | exact Nat.le_of_ble_eq_true rfl | simp | omega) ?_
    refine sq_nil ?_
    refine sx_xpl (by kernel_rfl) ?_
    refine xj_done (by kernel_rfl) ?_
    refine sx_then ?_
    refine sc_drawX ([.blk b3 (.cells #[v20, v2] 56 (0, 0)), .reg 0 w]) (by kernel_rfl) ?_
    refine xj_s 0 RF (by kernel_rfl) SR FA56_35 rfl ?_
    refine xj_s 1 RF (by kernel_rfl) SR LD35 rfl ?_
    refine xj_s 2 RF (by kernel_rfl) SR (y_move RF) rfl ?_
    refine xj_s 3 RF (by kernel_rfl) SR (y_move RF) rfl ?_
    refine xj_s 4 RF (by kernel_rfl) SR IA34 rfl ?_
    refine xj_s 5 RF (by kernel_rfl) SR FA58_24 rfl ?_
    refine xj_s 6 RF (by kernel_rfl) SR FA24_3 rfl ?_
    refine xj_s 7 RF (by kernel_rfl) SR (by first | exact y_load_cajj (o1 := 2) (o2 := 1) Try.underlying3 rfl RF MM hca rfl | exact LD3) rfl ?_
    refine xj_one 8 RF (by kernel_rfl) ?_
    refine sq_bs Try.underlying35 ei3 (EvI.cons RF EvI.nil) (by first | (simp [Value.cells]; done) | (simp [Value.cells]; rfl) | (simp [Value.cells]; and_intros <;> rfl)) rfl rfl rfl (fun b30 => ?_)
    refine sq_nil ?_
    refine sx_xp SR ?_
    refine xj_one 9 RF (by kernel_rfl) ?_
    refine sq_append (news := [.int .i64 (l.getD k jb0).lay.hi]) Try.underlying35 ei3 rfl (by decide) RF RM RF rfl (fun _ hw => news_blk hw MM) (by simp [Value.oneCell']) (by omega) rfl (fun v31 ho31 => ?_)
    rw [show (((l.map (timeV true)).map (fun (t : Tm) => t.2)).take k).flatMap iRow ++ [.int .i64 (l.getD k jb0).lay.hi] = (((l.map (timeV true)).map (fun (t : Tm) => t.2)).take (k + 1)).flatMap iRow from by rw [List.take_add_one, List.getElem?_map, List.getElem?_map, get_of_lt jb0 hk']; simp [iRow, timeV]]
    refine sq_nil ?_
    refine sx_xp SR ?_
    refine xj_s 10 RF (by kernel_rfl) SR FA56_35 rfl ?_
    refine xj_one 11 RF (by kernel_rfl) ?_
    refine sq_store Try.sizeOf35 RF RF (by first | rfl | assumption) RM (by first | exact Nat.le_of_ble_eq_true rfl | simp | omega) ?_
    refine sq_nil ?_
    refine sx_xpl (by kernel_rfl) ?_
    refine xj_done (by kernel_rfl) ?_
    refine sx_blk ?_
    refine sx_then ?_
    refine sc_region ?_
    refine qs (y_move RF) ?_
    refine qs (y_add RF RF (by omega)) ?_
    refine qs (y_assign RF) ?_
    refine sq_nil ?_
    refine sx_round ((k + 1, v20, v31)) ?_ ?_ SU SR
    · exact ⟨by dsimp only; omega, ho20, ho31⟩
    · dsimp only; omega
  ·
    have hkn : k = l.length := by omega
    subst hkn
    refine sc_exit ?_
    refine sx_then_exit ?_
    refine sx_round_exit ?_
    refine sx_blk_hit ?_
    refine sx_then ?_
    refine sc_seq ?_
    refine sc_region ?_
    refine qs LD56 ?_
    refine sq_store_all Try.sizeOf56 RF RF (by simp [hv1, hv2]) RM rfl rfl ?_
    refine sq_nil ?_
    refine sx_then ?_
    refine sc_ret ?_
    refine sx_retc (.inl rfl) rfl Try.results38 Try.underlying56 rfl Try.sizeOf56 RF MM rfl ?_
    intro w' hw'
    have h1 := own_new_mem hw' (.tail _ (.head _)) MM
    have h2 := own_new_mem hw' (.tail _ (.tail _ (.head _))) MM
    rw [List.take_of_length_le (by simp)] at h1 h2
    obtain ⟨a1, c1, rfl, _, hr1⟩ := own_rowsA (row := iRow) (fun _ => rfl) h1 (by simp) (by omega)
    obtain ⟨a2, c2, rfl, _, hr2⟩ := own_rowsA (row := iRow) (fun _ => rfl) h2 (by simp) (by omega)
    exact ⟨((a1, c1), a2, c2), rfl, hw'.below MM, hr1, hr2⟩
theorem ends36 (w : World) (ap : Option Addr) (cp : Nat) (al : Option Addr) (cl : Nat) (ts : List Tm) (hP : RowsA iRow 1 0 w ap (ts.map (fun (t : Tm) => t.1))) (hL : RowsA iRow 1 0 w al (ts.map (fun (t : Tm) => t.2))) (ao : Option Addr) (co : Nat) (o : List Int) (ho : RowsA iRow 1 0 w ao o) (hlo : o.length = ts.length) (h7 : ts.length ≤ 7) (hin : ∀ k, k ∈ o → 0 ≤ k ∧ k < (ts.length : Int)) (hsm : ∀ t, t ∈ ts → smT t) : Calls Try.prog 36 #[.agg #[.slice ap ts.length cp, .slice al ts.length cl], .slice ao o.length co] w fun e w' => ∃ v, e = .returned v ∧ Below w.heap.size w w' ∧ v.oneCell' = true ∧ w'.ownsRow w.heap.size 3 1 v ts.length ((endsV ts o).flatMap iRow) := by
  have hlen := ho.len
  refine calls_of_SC (args := [.agg #[.slice ap ts.length cp, .slice al ts.length cl], .slice ao o.length co]) Try.func36 rfl Try.ntmps36 rfl ?_
  simp only [argL, Nat.zero_add]
  refine sc_seq ?_
  refine sc_region ?_
  refine sq_box RF rfl (fun b2 => ?_)
  refine qs (y_assign RF) ?_
  refine sq_nil ?_
  refine sx_then ?_
  refine sc_seq ?_
  refine sc_region ?_
  refine qs (y_move RF) ?_
  refine qs (y_len Try.underlying35 RF) ?_
  refine sq_make Try.underlying35 ei3 RF RF (by omega) (by omega) (by omega) rfl (fun b12 => ?_)
  rw [irep]
  refine sq_blk_own (n := o.length) (sz := 1) (xs := (List.replicate o.length (0 : Int)).flatMap iRow) RM (by rw [flat_len iRow_len, List.length_replicate]) (by unfold maxLen; omega) ?_
  rw [show List.replicate o.length (0 : Int) = endsK ts o 0 from by rw [hlo]; rfl]
  refine qs (y_assign RF) ?_
  refine sq_nil ?_
  refine sx_then ?_
  refine sc_seq ?_
  refine sc_region ?_
  refine qs (y_assign RF) ?_
  refine qs (y_assign RF) ?_
  refine sq_nil ?_
  refine sx_then ?_
  refine sc_seq ?_
  refine sc_seq ?_
  refine sc_region ?_
  refine qs (y_assign RF) ?_
  refine sq_nil ?_
  refine sx_then ?_
  refine sc_block ?_
  refine sc_loop (σ := Nat)
    (fun s => [(1, .slice ao o.length co), (2, .pointer (some ⟨b2, 0, none⟩)), (5, .slice (some ⟨b12, 0, none⟩) o.length o.length), (6, .int .i64 (runL (ordT ts (o.take s)) (0, 0)).1), (7, .int .i64 (runL (ordT ts (o.take s)) (0, 0)).2), (8, .int .i64 s)])
    (fun s => [.own (.slice (some ⟨b12, 0, none⟩) o.length o.length) 3 1 o.length ((endsK ts o s).flatMap iRow), .blk b2 (.cells #[.slice ap ts.length cp, .slice al ts.length cl] 56 (0, 0)), .reg 0 w])
    (fun s => s ≤ o.length)
    (fun s => o.length - s)
    (0) ?_ SU SR ?_
  · exact Nat.zero_le _
  rintro k hk
  refine sc_seq ?_
  refine sc_seq ?_
  refine sc_region ?_
  refine qs (y_move RF) ?_
  refine qs (y_move RF) ?_
  refine qs (y_len Try.underlying35 RF) ?_
  refine qs (y_lss RF RF) ?_
  refine sq_nil ?_
  refine sx_then ?_
  refine scp (fun hc0 => ?_) (fun hc0 => ?_)
  ·
    have hk' : k < o.length := by omega
    obtain ⟨K, hK, hKn⟩ : ∃ K : Nat, o.getD k 0 = (K : Int) ∧ K < ts.length := by
      have := hin _ (List.mem_of_getElem? (get_of_lt 0 hk'))
      exact ⟨(o.getD k 0).toNat, by omega, by omega⟩
    have hso := (ho.get 0 hk').1
    have hco := (ho.get 0 hk').2
    rw [hK] at hco
    have hsP := (hP.get 0 (i := K) (by rw [List.length_map]; exact hKn)).1
    have hcP := (hP.get 0 (i := K) (by rw [List.length_map]; exact hKn)).2
    have hsL := (hL.get 0 (i := K) (by rw [List.length_map]; exact hKn)).1
    have hcL := (hL.get 0 (i := K) (by rw [List.length_map]; exact hKn)).2
    rw [map_getD _ ts (0, 0) hKn] at hcP hcL
    have hKo : K < o.length := by omega
    have hst := hsm _ (List.mem_of_getElem? (get_of_lt (0, 0) hKn))
    unfold smT at hst
    have hbw := run_big (ts := ts) hsm (o := o.take k) (by rw [List.length_take]; omega)
    unfold bigW at hbw
    have hstep := take_ord ts hk'
    rw [hK, Int.toNat_natCast] at hstep
    refine sc_skip ?_
    refine sx_then ?_
    refine sc_seq ?_
    refine sc_block ?_
    refine sc_seq ?_
    refine sc_region ?_
    refine qs (y_move RF) ?_
    refine qs (y_move RF) ?_
    refine qs IA35 ?_
    refine qs (by first | exact y_load_ca0 Try.underlying3 rfl RF MM hco rfl | exact LD3) ?_
    refine qs (y_assign RF) ?_
    refine sq_nil ?_
    refine sx_then ?_
    refine sc_seq ?_
    refine sc_region ?_
    refine qs (y_move RF) ?_
    refine qs FA56_35 ?_
    refine qs LD35 ?_
    refine qs (y_move RF) ?_
    refine qs IA35 ?_
    refine qs (by first | exact y_load_ca0 Try.underlying3 rfl RF MM hcP rfl | exact LD3) ?_
    refine qs (y_add RF RF (by omega)) ?_
    refine qs (y_assign RF) ?_
    refine sq_nil ?_
    refine sx_then ?_
    refine sc_seq ?_
    refine sc_region ?_
    refine qs (y_move RF) ?_
    refine qs (y_move RF) ?_
    refine qs (y_max RF RF) ?_
    refine qs FA56_35 ?_
    refine qs LD35 ?_
    refine qs (y_move RF) ?_
    refine qs IA35 ?_
    refine qs (by first | exact y_load_ca0 Try.underlying3 rfl RF MM hcL rfl | exact LD3) ?_
    refine qs (y_add RF RF (by omega)) ?_
    rw [show max (runL (ordT ts (o.take k)) (0, 0)).2 ((runL (ordT ts (o.take k)) (0, 0)).1 + (ts.getD K (0, 0)).1) + (ts.getD K (0, 0)).2 = (runL (ordT ts (o.take (k + 1))) (0, 0)).2 from by rw [hstep]; unfold stepW; dsimp only; omega, show (runL (ordT ts (o.take k)) (0, 0)).1 + (ts.getD K (0, 0)).1 = (runL (ordT ts (o.take (k + 1))) (0, 0)).1 from by rw [hstep]; rfl]
    refine qs (y_assign RF) ?_
    refine sq_nil ?_
    refine sx_then ?_
    refine sc_region ?_
    refine qs (y_move RF) ?_
    refine qs (y_move RF) ?_
    refine qs (y_move RF) ?_
    refine qs (y_ia_own Try.underlying35 Try.sizeOf3 RF MM RF hKo) ?_
    refine sq_store_own (v := .slice (some ⟨b12, 0, none⟩) o.length o.length) (i := K) (j := 0) (sz := 1) Try.sizeOf3 RF RF rfl RM hKo (by decide) ?_
    rw [iset, show (endsK ts o k).set K (runL (ordT ts (o.take (k + 1))) (0, 0)).2 = endsK ts o (k + 1) from by conv => { rhs; unfold endsK }; rw [hK, Int.toNat_natCast]]
    refine sq_nil ?_
    refine sx_blk ?_
    refine sx_then ?_
    refine sc_region ?_
    refine qs (y_move RF) ?_
    refine qs (y_add RF RF (by omega)) ?_
    refine qs (y_assign RF) ?_
    refine sq_nil ?_
    refine sx_round (k + 1) ?_ ?_ SU SR
    · omega
    · omega
  ·
    have hkn : k = o.length := by omega
    subst hkn
    refine sc_exit ?_
    refine sx_then_exit ?_
    refine sx_round_exit ?_
    refine sx_blk_hit ?_
    refine sx_then ?_
    refine sc_seq ?_
    refine sc_region ?_
    refine qs (y_move RF) ?_
    refine qs (y_assign RF) ?_
    refine sq_nil ?_
    refine sx_then ?_
    refine sc_ret ?_
    refine sx_ret1 (.inl rfl) rfl Try.results36 RF ?_
    intro w' hw'
    have := own_new_mem hw' (.head _) MM
    rw [hlo] at this
    exact ⟨_, rfl, hw'.below MM, by simp [Value.oneCell'], by unfold endsV; rw [hlo]; exact this⟩
theorem gtV_snoc (x : Int) (l : List Int) (y : Int) : gtV x (l ++ [y]) = max (gtV x l) y := by unfold gtV; rw [List.foldl_append]; rfl
theorem done39 (w : World) (ap : Option Addr) (cp : Nat) (al : Option Addr) (cl : Nat) (ts : List Tm) (hP : RowsA iRow 1 0 w ap (ts.map (fun (t : Tm) => t.1))) (hL : RowsA iRow 1 0 w al (ts.map (fun (t : Tm) => t.2))) (ao : Option Addr) (co : Nat) (o : List Int) (ho : RowsA iRow 1 0 w ao o) (hlo : o.length = ts.length) (h7 : ts.length ≤ 7) (hin : ∀ k, k ∈ o → 0 ≤ k ∧ k < (ts.length : Int)) (hsm : ∀ t, t ∈ ts → smT t) : Calls Try.prog 39 #[.agg #[.slice ap ts.length cp, .slice al ts.length cl], .slice ao o.length co] w fun e w' => e = .returned (.int .i64 (gtV 0 (endsV ts o))) ∧ Below w.heap.size w w' := by
  have hlen := ho.len
  have hel : (endsV ts o).length = ts.length := endsK_len ts o o.length
  refine calls_of_SC (args := [.agg #[.slice ap ts.length cp, .slice al ts.length cl], .slice ao o.length co]) Try.func39 rfl Try.ntmps39 rfl ?_
  simp only [argL, Nat.zero_add]
  refine sc_seq ?_
  refine sc_region ?_
  refine sq_box RF rfl (fun b2 => ?_)
  refine qs (y_assign RF) ?_
  refine sq_nil ?_
  refine sx_then ?_
  refine sc_seq ?_
  refine sc_region ?_
  refine qs LD56 ?_
  refine qs (y_move RF) ?_
  refine sq_call_own (first := []) (caps := []) (e := 3) (sz := 1) (n := ts.length) (Z := Value) (fun x => x) (fun x => x) (fun _ => (endsV ts o).flatMap iRow) (fun x => x.oneCell' = true) RF Try.call36 E2 (fun w1 hw1 => (ends36 w1 ap cp al cl ts (hP.at hw1 MM) (hL.at hw1 MM) ao co o (ho.at hw1 MM) hlo h7 hin hsm).mono (fun e w' ⟨x, h1, h2, h3, h4⟩ => ⟨x, h1, h2, h3, h4⟩)) rfl (fun v10 ho10 => ?_)
  refine qs (y_assign RF) ?_
  refine sq_nil ?_
  refine sx_then ?_
  refine sc_seq ?_
  refine sc_region ?_
  refine qs (y_assign RF) ?_
  refine sq_nil ?_
  refine sx_then ?_
  refine sc_seq ?_
  refine sc_seq ?_
  refine sc_region ?_
  refine qs (y_assign RF) ?_
  refine sq_nil ?_
  refine sx_then ?_
  refine sc_block ?_
  refine sc_loop (σ := Nat)
    (fun s => [(5, v10), (6, .int .i64 (gtV 0 ((endsV ts o).take s))), (7, .int .i64 s)])
    (fun s => [.own v10 3 1 ts.length ((endsV ts o).flatMap iRow), .reg 0 w])
    (fun s => s ≤ ts.length)
    (fun s => ts.length - s)
    (0) ?_ SU SR ?_
  · exact Nat.zero_le _
  rintro k hk
  refine sc_seq ?_
  refine sc_seq ?_
  refine sc_region ?_
  refine qs (y_move RF) ?_
  refine qs (y_move RF) ?_
  refine qs (y_len_own Try.underlying35 RF MM) ?_
  refine qs (y_lss RF RF) ?_
  refine sq_nil ?_
  refine sx_then ?_
  refine scp (fun hc0 => ?_) (fun hc0 => ?_)
  ·
    have hk' : k < ts.length := by omega
    refine sc_skip ?_
    refine sx_then ?_
    refine sc_seq ?_
    refine sc_block ?_
    refine sc_region ?_
    refine qs (y_move RF) ?_
    refine qs (y_move RF) ?_
    refine qs (y_move RF) ?_
    refine qs (y_ia_own Try.underlying35 Try.sizeOf3 RF MM RF hk') ?_
    refine qs (by first | exact y_load_own0 (u := .int .i64 ((endsV ts o).getD k 0)) Try.underlying3 rfl RF MM hk' (flat_iget (get_of_lt 0 (by omega))) | exact LD3) ?_
    refine qs (y_max RF RF) ?_
    refine qs (y_assign RF) ?_
    rw [show max (gtV 0 ((endsV ts o).take k)) ((endsV ts o).getD k 0) = gtV 0 ((endsV ts o).take (k + 1)) from by rw [List.take_add_one, get_of_lt 0 (by omega)]; exact (gtV_snoc ..).symm]
    refine sq_nil ?_
    refine sx_blk ?_
    refine sx_then ?_
    refine sc_region ?_
    refine qs (y_move RF) ?_
    refine qs (y_add RF RF (by omega)) ?_
    refine qs (y_assign RF) ?_
    refine sq_nil ?_
    refine sx_round (k + 1) ?_ ?_ SU SR
    · omega
    · omega
  ·
    have hkn : k = ts.length := by omega
    subst hkn
    rw [List.take_of_length_le (by omega)]
    refine sc_exit ?_
    refine sx_then_exit ?_
    refine sx_round_exit ?_
    refine sx_blk_hit ?_
    refine sx_then ?_
    refine sc_seq ?_
    refine sc_region ?_
    refine qs (y_move RF) ?_
    refine qs (y_assign RF) ?_
    refine sq_nil ?_
    refine sx_then ?_
    refine sc_ret ?_
    refine sx_ret1 (.inl rfl) rfl Try.results39 RF ?_
    intro w' hw'
    exact ⟨rfl, hw'.below MM⟩
theorem path42 (w : World) (ap : Option Addr) (cp : Nat) (al : Option Addr) (cl : Nat) (ts : List Tm) (hP : RowsA iRow 1 0 w ap (ts.map (fun (t : Tm) => t.1))) (hL : RowsA iRow 1 0 w al (ts.map (fun (t : Tm) => t.2))) (ao : Option Addr) (co : Nat) (o : List Int) (ho : RowsA iRow 1 0 w ao o) (hlo : o.length = ts.length) (h7 : ts.length ≤ 7) (hin : ∀ k, k ∈ o → 0 ≤ k ∧ k < (ts.length : Int)) (hsm : ∀ t, t ∈ ts → smT t) (i : Int) : Calls Try.prog 42 #[.agg #[.slice ap ts.length cp, .slice al ts.length cl], .slice ao o.length co, .int .i64 i] w fun e w' => e = .returned (.int .i64 (pathK ts o i o.length)) ∧ Below w.heap.size w w' := by
  have hlen := ho.len
  refine calls_of_SC (args := [.agg #[.slice ap ts.length cp, .slice al ts.length cl], .slice ao o.length co, .int .i64 i]) Try.func42 rfl Try.ntmps42 rfl ?_
  simp only [argL, Nat.reduceAdd, Nat.zero_add]
  refine sc_seq ?_
  refine sc_region ?_
  refine sq_box RF rfl (fun b3 => ?_)
  refine qs (y_assign RF) ?_
  refine sq_nil ?_
  refine sx_then ?_
  refine sc_seq ?_
  refine sc_region ?_
  refine qs (y_assign RF) ?_
  refine sq_nil ?_
  refine sx_then ?_
  refine sc_seq ?_
  refine sc_seq ?_
  refine sc_region ?_
  refine qs (y_assign RF) ?_
  refine sq_nil ?_
  refine sx_then ?_
  refine sc_block ?_
  refine sc_loop (σ := Nat)
    (fun s => [(1, .slice ao o.length co), (2, .int .i64 i), (3, .pointer (some ⟨b3, 0, none⟩)), (7, .int .i64 (pathK ts o i s)), (8, .int .i64 s)])
    (fun s => [.blk b3 (.cells #[.slice ap ts.length cp, .slice al ts.length cl] 56 (0, 0)), .reg 0 w])
    (fun s => s ≤ o.length)
    (fun s => o.length - s)
    (0) ?_ SU SR ?_
  · exact Nat.zero_le _
  rintro k hk
  refine sc_seq ?_
  refine sc_seq ?_
  refine sc_region ?_
  refine qs (y_move RF) ?_
  refine qs (y_move RF) ?_
  refine qs (y_len Try.underlying35 RF) ?_
  refine qs (y_lss RF RF) ?_
  refine sq_nil ?_
  refine sx_then ?_
  refine scp (fun hc0 => ?_) (fun hc0 => ?_)
  ·
    have hk' : k < o.length := by omega
    obtain ⟨K, hK, hKn⟩ : ∃ K : Nat, o.getD k 0 = (K : Int) ∧ K < ts.length := by
      have := hin _ (List.mem_of_getElem? (get_of_lt 0 hk'))
      exact ⟨(o.getD k 0).toNat, by omega, by omega⟩
    have hso := (ho.get 0 hk').1
    have hco := (ho.get 0 hk').2
    rw [hK] at hco
    have hsP := (hP.get 0 (i := K) (by rw [List.length_map]; exact hKn)).1
    have hcP := (hP.get 0 (i := K) (by rw [List.length_map]; exact hKn)).2
    have hsL := (hL.get 0 (i := K) (by rw [List.length_map]; exact hKn)).1
    have hcL := (hL.get 0 (i := K) (by rw [List.length_map]; exact hKn)).2
    rw [map_getD _ ts (0, 0) hKn] at hcP hcL
    have hKo : K < o.length := by omega
    have hst := hsm _ (List.mem_of_getElem? (get_of_lt (0, 0) hKn))
    unfold smT at hst
    have hpb := pathK_bd hsm o i k
    have hpe : pathK ts o i (k + 1) = (pathK ts o i k + if (k : Int) ≤ i then (ts.getD K (0, 0)).1 else 0) + if i ≤ (k : Int) then (ts.getD K (0, 0)).2 else 0 := by conv => { lhs; unfold pathK }; rw [hK, Int.toNat_natCast]
    refine sc_skip ?_
    refine sx_then ?_
    refine sc_seq ?_
    refine sc_block ?_
    refine sc_seq ?_
    refine sc_seq ?_
    refine sc_region ?_
    refine qs (y_move RF) ?_
    refine qs (y_move RF) ?_
    refine qs (y_leq RF RF) ?_
    refine sq_nil ?_
    refine sx_then ?_
    refine sc_midE (Z := {x : Int // x = (pathK ts o i k + if (k : Int) ≤ i then (ts.getD K (0, 0)).1 else 0)}) (fun x => [(1, .slice ao o.length co), (2, .int .i64 i), (3, .pointer (some ⟨b3, 0, none⟩)), (7, .int .i64 x.1), (8, .int .i64 k)]) (fun _ => [.blk b3 (.cells #[.slice ap ts.length cp, .slice al ts.length cl] 56 (0, 0)), .reg 0 w]) ?_ ?_
    ·
      refine scp (fun hc1 => ?_) (fun hc1 => ?_)
      ·
        refine sc_drawX ([.blk b3 (.cells #[.slice ap ts.length cp, .slice al ts.length cl] 56 (0, 0)), .reg 0 w]) (by kernel_rfl) ?_
        refine xj_s 0 RF (by kernel_rfl) SR (y_move RF) rfl ?_
        refine xj_s 1 RF (by kernel_rfl) SR FA56_35 rfl ?_
        refine xj_s 2 RF (by kernel_rfl) SR LD35 rfl ?_
        refine xj_s 3 RF (by kernel_rfl) SR (y_move RF) rfl ?_
        refine xj_s 4 RF (by kernel_rfl) SR (y_move RF) rfl ?_
        refine xj_s 5 RF (by kernel_rfl) SR IA35 rfl ?_
        refine xj_s 6 RF (by kernel_rfl) SR (by first | exact y_load_ca0 Try.underlying3 rfl RF MM hco rfl | exact LD3) rfl ?_
        refine xj_s 7 RF (by kernel_rfl) SR IA35 rfl ?_
        refine xj_s 8 RF (by kernel_rfl) SR (by first | exact y_load_ca0 Try.underlying3 rfl RF MM hcP rfl | exact LD3) rfl ?_
        refine xj_s 9 RF (by kernel_rfl) SR (y_add RF RF (by omega)) rfl ?_
        refine xj_s 10 RF (by kernel_rfl) SR (y_assign RF) rfl ?_
        refine xj_done (by kernel_rfl) ?_
        exact sx_midE (⟨_, by rw [if_pos hc1]⟩) SU SR
      ·
        refine sc_skip ?_
        exact sx_midE (⟨_, by rw [if_neg hc1, Int.add_zero]⟩) SU SR
    rintro ⟨x, hx⟩
    try dsimp only
    refine sx_then ?_
    refine sc_seq ?_
    refine sc_region ?_
    refine qs (y_move RF) ?_
    refine qs (y_move RF) ?_
    refine qs (y_geq RF RF) ?_
    refine sq_nil ?_
    refine sx_then ?_
    refine scp (fun hc2 => ?_) (fun hc2 => ?_)
    ·
      rw [if_pos hc2] at hpe
      refine sc_drawX ([.blk b3 (.cells #[.slice ap ts.length cp, .slice al ts.length cl] 56 (0, 0)), .reg 0 w]) (by kernel_rfl) ?_
      refine xj_s 0 RF (by kernel_rfl) SR (y_move RF) rfl ?_
      refine xj_s 1 RF (by kernel_rfl) SR FA56_35 rfl ?_
      refine xj_s 2 RF (by kernel_rfl) SR LD35 rfl ?_
      refine xj_s 3 RF (by kernel_rfl) SR (y_move RF) rfl ?_
      refine xj_s 4 RF (by kernel_rfl) SR (y_move RF) rfl ?_
      refine xj_s 5 RF (by kernel_rfl) SR IA35 rfl ?_
      refine xj_s 6 RF (by kernel_rfl) SR (by first | exact y_load_ca0 Try.underlying3 rfl RF MM hco rfl | exact LD3) rfl ?_
      refine xj_s 7 RF (by kernel_rfl) SR IA35 rfl ?_
      refine xj_s 8 RF (by kernel_rfl) SR (by first | exact y_load_ca0 Try.underlying3 rfl RF MM hcL rfl | exact LD3) rfl ?_
      refine xj_s 9 RF (by kernel_rfl) SR (y_add RF RF (by split at hx <;> omega)) rfl ?_
      rw [show x + (ts.getD K (0, 0)).2 = pathK ts o i (k + 1) from by omega]
      refine xj_s 10 RF (by kernel_rfl) SR (y_assign RF) rfl ?_
      refine xj_done (by kernel_rfl) ?_
      refine sx_blk ?_
      refine sx_then ?_
      refine sc_region ?_
      refine qs (y_move RF) ?_
      refine qs (y_add RF RF (by omega)) ?_
      refine qs (y_assign RF) ?_
      refine sq_nil ?_
      refine sx_round (k + 1) ?_ ?_ SU SR
      · omega
      · omega
    ·
      rw [if_neg hc2] at hpe
      rw [show x = pathK ts o i (k + 1) from by omega]
      refine sc_skip ?_
      refine sx_blk ?_
      refine sx_then ?_
      refine sc_region ?_
      refine qs (y_move RF) ?_
      refine qs (y_add RF RF (by omega)) ?_
      refine qs (y_assign RF) ?_
      refine sq_nil ?_
      refine sx_round (k + 1) ?_ ?_ SU SR
      · omega
      · omega
  ·
    have hkn : k = o.length := by omega
    subst hkn
    refine sc_exit ?_
    refine sx_then_exit ?_
    refine sx_round_exit ?_
    refine sx_blk_hit ?_
    refine sx_then ?_
    refine sc_seq ?_
    refine sc_region ?_
    refine qs (y_move RF) ?_
    refine qs (y_assign RF) ?_
    refine sq_nil ?_
    refine sx_then ?_
    refine sc_ret ?_
    refine sx_ret1 (.inl rfl) rfl Try.results42 RF ?_
    intro w' hw'
    exact ⟨rfl, hw'.below MM⟩
theorem power61 (w : World) (n : Nat) (hn : n ≤ 59) : Calls Try.prog 61 #[.int .i64 n] w fun e w' => e = .returned (.int .i64 (powN n)) ∧ Below w.heap.size w w' := by
  refine calls_of_SC (args := [.int .i64 n]) Try.func61 rfl Try.ntmps61 rfl ?_
  simp only [argL]
  refine sc_seq ?_
  refine sc_region ?_
  refine qs (y_assign RF) ?_
  refine sq_nil ?_
  refine sx_then ?_
  refine sc_seq ?_
  refine sc_region ?_
  refine qs (y_assign RF) ?_
  refine sq_nil ?_
  refine sx_then ?_
  refine sc_seq ?_
  refine sc_seq ?_
  refine sc_region ?_
  refine qs (y_assign RF) ?_
  refine sq_nil ?_
  refine sx_then ?_
  refine sc_block ?_
  refine sc_loop (σ := Nat)
    (fun s => [(0, .int .i64 n), (3, .int .i64 (powN s)), (4, .int .i64 s)])
    (fun s => [.reg 0 w])
    (fun s => s ≤ n)
    (fun s => n - s)
    (0) ?_ SU SR ?_
  · exact Nat.zero_le _
  rintro k hk
  refine sc_seq ?_
  refine sc_seq ?_
  refine sc_region ?_
  refine qs (y_move RF) ?_
  refine qs (y_move RF) ?_
  refine qs (y_lss RF RF) ?_
  refine sq_nil ?_
  refine sx_then ?_
  refine scp (fun hc0 => ?_) (fun hc0 => ?_)
  ·
    have hpb := powN_le (n := k) (by omega)
    have hpb1 := powN_le (n := k + 1) (by omega)
    have hps := powN_succ k
    refine sc_skip ?_
    refine sx_then ?_
    refine sc_seq ?_
    refine sc_block ?_
    refine sc_region ?_
    refine qs (y_move RF) ?_
    refine qs (y_mul RF RF (by omega)) ?_
    rw [hps]
    refine qs (y_assign RF) ?_
    refine sq_nil ?_
    refine sx_blk ?_
    refine sx_then ?_
    refine sc_region ?_
    refine qs (y_move RF) ?_
    refine qs (y_add RF RF (by omega)) ?_
    refine qs (y_assign RF) ?_
    refine sq_nil ?_
    refine sx_round (k + 1) ?_ ?_ SU SR
    · omega
    · omega
  ·
    have hkn : k = n := by omega
    subst hkn
    refine sc_exit ?_
    refine sx_then_exit ?_
    refine sx_round_exit ?_
    refine sx_blk_hit ?_
    refine sx_then ?_
    refine sc_seq ?_
    refine sc_region ?_
    refine qs (y_move RF) ?_
    refine qs (y_assign RF) ?_
    refine sq_nil ?_
    refine sx_then ?_
    refine sc_ret ?_
    refine sx_ret1 (.inl rfl) rfl Try.results61 RF ?_
    intro w' hw'
    exact ⟨rfl, hw'.below MM⟩
theorem ordB_no {o : List Int} {n k : Nat} (hk : k < n) (h : cntK o k o.length ≠ 1) : ordB o n = false := by
  unfold ordB
  rw [Bool.and_eq_false_iff]; left
  apply Bool.eq_false_iff.2
  intro ha
  have := List.all_eq_true.1 ha k (List.mem_range.2 hk)
  exact h (by simpa using this)
theorem ordB_yes {o : List Int} {n : Nat} (h : ∀ k, k < n → cntK o k o.length = 1) : ordB o n = decide (((o.length : Nat) : Int) = (n : Int)) := by
  unfold ordB
  rw [List.all_eq_true.2 (fun k hk => by rw [h k (List.mem_range.1 hk)]; rfl), Bool.true_and]
  by_cases e : o.length = n
  · rw [e]; simp
  · rw [decide_eq_false (by omega)]; simpa using e
theorem order35 (w : World) (ao : Option Addr) (co : Nat) (o : List Int) (ho : RowsA iRow 1 0 w ao o) (n : Nat) (hn : n ≤ 1000) : Calls Try.prog 35 #[.slice ao o.length co, .int .i64 n] w fun e w' => e = .returned (.bool (ordB o n)) ∧ Below w.heap.size w w' := by
  have hlen := ho.len
  refine calls_of_SC (args := [.slice ao o.length co, .int .i64 n]) Try.func35 rfl Try.ntmps35 rfl ?_
  simp only [argL, Nat.zero_add]
  refine sc_seq ?_
  refine sc_region ?_
  refine qs (y_assign RF) ?_
  refine sq_nil ?_
  refine sx_then ?_
  refine sc_seq ?_
  refine sc_seq ?_
  refine sc_region ?_
  refine qs (y_assign RF) ?_
  refine sq_nil ?_
  refine sx_then ?_
  refine sc_block ?_
  refine sc_loop (σ := Nat)
    (fun s => [(0, .slice ao o.length co), (1, .int .i64 n), (5, .int .i64 s)])
    (fun s => [.reg 0 w])
    (fun s => s ≤ n ∧ ∀ i, i < s → cntK o i o.length = 1)
    (fun s => n - s)
    (0) ?_ SU SR ?_
  · exact ⟨Nat.zero_le _, fun i hi => absurd hi (Nat.not_lt_zero i)⟩
  rintro k ⟨hk, hone⟩
  refine sc_seq ?_
  refine sc_seq ?_
  refine sc_region ?_
  refine qs (y_move RF) ?_
  refine qs (y_move RF) ?_
  refine qs (y_lss RF RF) ?_
  refine sq_nil ?_
  refine sx_then ?_
  refine scp (fun hc0 => ?_) (fun hc0 => ?_)
  ·
    refine sc_skip ?_
    refine sx_then ?_
    refine sc_seq ?_
    refine sc_block ?_
    refine sc_seq ?_
    refine sc_region ?_
    refine qs (y_assign RF) ?_
    refine sq_nil ?_
    refine sx_then ?_
    refine sc_seq ?_
    refine sc_seq ?_
    refine sc_region ?_
    refine qs (y_assign RF) ?_
    refine sq_nil ?_
    refine sx_then ?_
    refine sc_block ?_
    refine sc_loop (σ := Nat)
      (fun s => [(0, .slice ao o.length co), (1, .int .i64 n), (5, .int .i64 k), (6, .int .i64 (cntK o k s)), (7, .int .i64 s)])
      (fun s => [.reg 0 w])
      (fun s => s ≤ o.length)
      (fun s => o.length - s)
      (0) ?_ SU SR ?_
    · exact Nat.zero_le _
    rintro i hi
    refine sc_seq ?_
    refine sc_seq ?_
    refine sc_region ?_
    refine qs (y_move RF) ?_
    refine qs (y_move RF) ?_
    refine qs (y_len Try.underlying35 RF) ?_
    refine qs (y_lss RF RF) ?_
    refine sq_nil ?_
    refine sx_then ?_
    refine scp (fun hc1 => ?_) (fun hc1 => ?_)
    ·
      have hi' : i < o.length := by omega
      have hsi := (ho.get 0 hi').1
      have hci := (ho.get 0 hi').2
      have hcl := cntK_le o k i
      refine sc_skip ?_
      refine sx_then ?_
      refine sc_seq ?_
      refine sc_block ?_
      refine sc_seq ?_
      refine sc_region ?_
      refine qs (y_move RF) ?_
      refine qs (y_move RF) ?_
      refine qs IA35 ?_
      refine qs (by first | exact y_load_ca0 Try.underlying3 rfl RF MM hci rfl | exact LD3) ?_
      refine qs (y_move RF) ?_
      refine qs (y_eql RF RF) ?_
      refine sq_nil ?_
      refine sx_then ?_
      refine scp (fun hc2 => ?_) (fun hc2 => ?_)
      ·
        have hce : ((cntK o k (i + 1) : Nat) : Int) = (cntK o k i : Int) + 1 := by conv => { lhs; unfold cntK }; rw [if_pos hc2]; rfl
        refine sc_region ?_
        refine qs (y_move RF) ?_
        refine qs (y_add RF RF (by omega)) ?_
        rw [← hce]
        refine qs (y_assign RF) ?_
        refine sq_nil ?_
        refine sx_blk ?_
        refine sx_then ?_
        refine sc_region ?_
        refine qs (y_move RF) ?_
        refine qs (y_add RF RF (by omega)) ?_
        refine qs (y_assign RF) ?_
        refine sq_nil ?_
        refine sx_round (i + 1) ?_ ?_ SU SR
        · omega
        · omega
      ·
        rw [show cntK o k i = cntK o k (i + 1) from by conv => { rhs; unfold cntK }; rw [if_neg hc2]]
        refine sc_skip ?_
        refine sx_blk ?_
        refine sx_then ?_
        refine sc_region ?_
        refine qs (y_move RF) ?_
        refine qs (y_add RF RF (by omega)) ?_
        refine qs (y_assign RF) ?_
        refine sq_nil ?_
        refine sx_round (i + 1) ?_ ?_ SU SR
        · omega
        · omega
    ·
      have hin : i = o.length := by omega
      subst hin
      refine sc_exit ?_
      refine sx_then_exit ?_
      refine sx_round_exit ?_
      refine sx_blk_hit ?_
      refine sx_then ?_
      refine sc_seq ?_
      refine sc_region ?_
      refine qs (y_move RF) ?_
      refine qs (y_neq RF RF) ?_
      refine sq_nil ?_
      refine sx_then ?_
      refine scp (fun hc3 => ?_) (fun hc3 => ?_)
      ·
        refine sc_seq ?_
        refine sc_region ?_
        refine qs (y_assign RF) ?_
        refine sq_nil ?_
        refine sx_then ?_
        refine sc_ret ?_
        refine sx_blk_ret ?_
        refine sx_then_ret ?_
        refine sx_round_ret ?_
        refine sx_blk_ret ?_
        refine sx_then_ret ?_
        refine sx_ret1 (.inl rfl) rfl Try.results35 RF ?_
        intro w' hw'
        refine ⟨?_, hw'.below MM⟩
        rw [ordB_no (k := k) (by omega) (by omega)]
      ·
        refine sc_skip ?_
        refine sx_blk ?_
        refine sx_then ?_
        refine sc_region ?_
        refine qs (y_move RF) ?_
        refine qs (y_add RF RF (by omega)) ?_
        refine qs (y_assign RF) ?_
        refine sq_nil ?_
        refine sx_round (k + 1) ?_ ?_ SU SR
        · refine ⟨by omega, fun i hi => ?_⟩
          rcases Nat.lt_succ_iff_lt_or_eq.1 hi with h | rfl
          · exact hone i h
          · omega
        · omega
  ·
    refine sc_exit ?_
    refine sx_then_exit ?_
    refine sx_round_exit ?_
    refine sx_blk_hit ?_
    refine sx_then ?_
    refine sc_seq ?_
    refine sc_region ?_
    refine qs (y_move RF) ?_
    refine qs (y_len Try.underlying35 RF) ?_
    refine qs (y_move RF) ?_
    refine qs (y_eql RF RF) ?_
    refine qs (y_assign RF) ?_
    refine sq_nil ?_
    refine sx_then ?_
    refine sc_ret ?_
    refine sx_ret1 (.inl rfl) rfl Try.results35 RF ?_
    intro w' hw'
    refine ⟨?_, hw'.below MM⟩
    have hkn : k = n := by omega
    subst hkn
    rw [ordB_yes hone]
end Go.Proofs.Ytjlbpmcacopbpaa
