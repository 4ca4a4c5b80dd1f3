/- The walks of Why. -/
import Derived.Test.YtjlbpmcacopbpaaWalk10
import Derived.Test.YtjlbpmcacopbpaaWalk4
namespace Go.Proofs.Ytjlbpmcacopbpaa
open Go Go.Eng Go.RowKit Go.Proofs
set_option maxRecDepth 100000
def preP (ts : List Tm) (o : List Int) : Nat → Int
  | 0 => 0
  | k + 1 => preP ts o k + (ts.getD (o.getD k 0).toNat (0, 0)).1
def preL (ts : List Tm) (o : List Int) : Nat → Int
  | 0 => 0
  | k + 1 => preL ts o k + (ts.getD (o.getD k 0).toNat (0, 0)).2
theorem getD_sm {ts : List Tm} (h : ∀ t, t ∈ ts → smT t) (K : Nat) : smT (ts.getD K (0, 0)) := by
  rcases Nat.lt_or_ge K ts.length with h1 | h1
  · exact h _ (List.mem_of_getElem? (get_of_lt (0, 0) h1))
  · rw [List.getD_eq_getElem?_getD, List.getElem?_eq_none (by omega)]; unfold smT; simp
theorem pre_bd {ts : List Tm} (h : ∀ t, t ∈ ts → smT t) (o : List Int) : ∀ k, (0 ≤ preP ts o k ∧ preP ts o k ≤ 1000 * (k : Int)) ∧ 0 ≤ preL ts o k ∧ preL ts o k ≤ 1000 * (k : Int)
  | 0 => by unfold preP preL; simp
  | k + 1 => by
    have h1 := pre_bd h o k
    have h2 := getD_sm h (o.getD k 0).toNat
    unfold smT at h2
    unfold preP preL
    omega
theorem path_pre (ts : List Tm) (o : List Int) (i : Nat) : ∀ k, pathK ts o (i : Int) k = preP ts o (min k (i + 1)) + (preL ts o k - preL ts o (min k i))
  | 0 => by unfold pathK; simp [preP]
  | k + 1 => by
    unfold pathK
    rw [path_pre ts o i k]
    have hP : preP ts o (k + 1) = preP ts o k + (ts.getD (o.getD k 0).toNat (0, 0)).1 := rfl
    have hL : preL ts o (k + 1) = preL ts o k + (ts.getD (o.getD k 0).toNat (0, 0)).2 := rfl
    rcases Nat.lt_trichotomy k i with h | h | h
    · rw [if_pos (by omega), if_neg (by omega), show min k (i + 1) = k by omega, show min k i = k by omega, show min (k + 1) (i + 1) = k + 1 by omega, show min (k + 1) i = k + 1 by omega]
      omega
    · subst h
      rw [if_pos (by omega), if_pos (by omega), show min k (k + 1) = k by omega, show min k k = k by omega, show min (k + 1) (k + 1) = k + 1 by omega, show min (k + 1) k = k by omega]
      omega
    · rw [if_neg (by omega), if_pos (by omega), show min k (i + 1) = i + 1 by omega, show min k i = i by omega, show min (k + 1) (i + 1) = i + 1 by omega, show min (k + 1) i = i by omega]
      omega
theorem path_at2 (ts : List Tm) (o : List Int) {i n : Nat} (h : i < n) : pathK ts o (i : Int) n = preP ts o (i + 1) + (preL ts o n - preL ts o i) := by
  rw [path_pre, show min n (i + 1) = i + 1 by omega, show min n i = i by omega]
theorem endsK_bd {ts : List Tm} (h : ∀ t, t ∈ ts → smT t) {o : List Int} (h7 : o.length ≤ 20) : ∀ k, ∀ x, x ∈ endsK ts o k → 0 ≤ x ∧ x ≤ 1000000
  | 0 => fun x hx => by unfold endsK at hx; rw [(List.mem_replicate.1 hx).2]; omega
  | k + 1 => fun x hx => by
    unfold endsK at hx
    rcases List.mem_or_eq_of_mem_set hx with h1 | h1
    · exact endsK_bd h h7 k x h1
    · have h2 := run_big (ts := ts) h (o := o.take (k + 1)) (by rw [List.length_take]; omega)
      unfold bigW at h2
      rw [h1]; exact h2.2
theorem done_bd {ts : List Tm} {o : List Int} (hok : ordOk ts o) (k : Nat) : 0 ≤ gtV 0 ((endsV ts o).take k) ∧ gtV 0 ((endsV ts o).take k) ≤ 1000000 :=
  gtV_bd (by omega) fun x hx => endsK_bd hok.sm (by have := hok.len; have := hok.le; omega) _ x (List.mem_of_mem_take hx)
theorem seekN_no (q : Nat → Bool) : ∀ (f k : Nat), (∀ j, k ≤ j → j < k + f → q j = false) → seekN q f k = k + f
  | 0, k, _ => rfl
  | f + 1, k, h => by
    unfold seekN
    rw [if_neg (by rw [h k (Nat.le_refl _) (by omega)]; simp), seekN_no q f (k + 1) fun j h1 h2 => h j (by omega) (by omega)]; omega
def whyQ (ts : List Tm) (o : List Int) (i : Nat) : Bool := decide (pathK ts o (i : Int) o.length = gtV 0 (endsV ts o))
def whyV (ts : List Tm) (o : List Int) : Int × Int × Int := if seekN (whyQ ts o) o.length 0 < o.length then (o.getD (seekN (whyQ ts o) o.length 0) 0, gtV 0 (endsV ts o), 0) else (0, 0, 2)
theorem whyV_at {ts : List Tm} {o : List Int} {k : Nat} (hk : k < o.length) (h : whyQ ts o k = true) (hno : ∀ j, j < k → whyQ ts o j = false) : whyV ts o = (o.getD k 0, gtV 0 (endsV ts o), 0) := by
  have := seekN_eq (whyQ ts o) k h o.length 0 (Nat.zero_le _) (by omega) fun j _ hj => hno j hj
  unfold whyV; rw [this, if_pos hk]
theorem whyV_no {ts : List Tm} {o : List Int} (hno : ∀ j, j < o.length → whyQ ts o j = false) : whyV ts o = (0, 0, 2) := by
  have := seekN_no (whyQ ts o) o.length 0 fun j _ hj => hno j (by omega)
  unfold whyV; rw [this, if_neg (by omega)]
def whyR (l : List Jb) (o : List Int) : Int × Int × Int := if chkV l o ≠ 0 then (0, 0, chkV l o) else whyV (l.map (timeV true)) o

theorem why24 (w : World) (a : Option Addr) (c : Nat) (l : List Jb) (hl : RowsA jbRow 5 0 w a l) (ao : Option Addr) (co : Nat) (o : List Int) (ho : RowsA iRow 1 0 w ao o) (h1000 : o.length ≤ 1000) : Calls Try.prog 24 #[.slice a l.length c, .slice ao o.length co] w fun e w' => e = .returned (.tuple #[.int .i64 (whyR l o).1, .int .i64 (whyR l o).2.1, .int .i64 (whyR l o).2.2]) ∧ Below w.heap.size w w' := by
  have hlen := hl.len
  refine calls_of_SC (args := [.slice a l.length c, .slice ao o.length co]) Try.func24 rfl Try.ntmps24 rfl ?_
  simp only [argL, Nat.zero_add]
  refine sc_seq ?_
  refine sc_region ?_
  refine qs (y_assign RF) ?_
  refine qs (y_assign RF) ?_
  refine qs (y_assign RF) ?_
  refine sq_nil ?_
  refine sx_then ?_
  refine sc_seq ?_
  refine sc_seq ?_
  refine sc_region ?_
  refine qs (y_move RF) ?_
  refine qs (y_move RF) ?_
  refine qy (yc Try.call57 E2 (fun w1 hw1 => check57 w1 a c l (hl.at hw1 MM) ao co o (ho.at hw1 MM) h1000)) ?_
  refine qs (y_assign RF) ?_
  refine sq_nil ?_
  refine sx_then ?_
  refine sc_seq ?_
  refine sc_region ?_
  refine qs (y_move RF) ?_
  refine qs (y_neq RF RF) ?_
  refine sq_nil ?_
  refine sx_then ?_
  refine scp (fun hc0 => ?_) (fun hc0 => ?_)
  ·
    refine sc_seq ?_
    refine sc_region ?_
    refine qs (y_move RF) ?_
    refine qs (y_assign RF) ?_
    refine qs (y_assign RF) ?_
    refine qs (y_assign RF) ?_
    refine sq_nil ?_
    refine sx_then ?_
    refine sc_ret ?_
    refine sx_then_ret ?_
    refine sx_ret3 (.inl rfl) rfl Try.results24 RF RF RF ?_
    intro w' hw'
    refine ⟨?_, hw'.below MM⟩
    unfold whyR; rw [if_pos hc0]
  ·
    refine sc_skip ?_
    refine sx_then ?_
    refine sc_seq ?_
    have hck : chkV l o = 0 := by simpa using hc0
    have hwr : whyR l o = whyV (l.map (timeV true)) o := by unfold whyR; rw [if_neg (by simp [hck])]
    obtain ⟨hj, hob⟩ := chkV_ok hck
    have hS := ordOk.of hj hob true
    have h7 := (jobsB_parts hj).1
    obtain ⟨ts, hts⟩ : ∃ ts, ts = l.map (timeV true) := ⟨_, rfl⟩
    rw [← hts] at hS hwr
    have htl : ts.length = l.length := by rw [hts, List.length_map]
    have hol : o.length = l.length := hS.len.trans htl
    have hbn := pre_bd hS.sm o o.length
    have hlS : (endsV ts o).length = l.length := (endsK_len _ _ _).trans htl
    refine sc_region ?_
    refine qs (y_move RF) ?_
    refine qs (y_build bt89 EvP.nil RF) ?_
    refine qs (y_makeIface Try.underlying89 (fun _ h => by cases h) RF) ?_
    refine sq_call_own (first := []) (caps := []) (e := 92) (sz := 2) (n := l.length) (Z := Value) (fun x => x) (fun x => x) (fun _ => ts.flatMap tmRow) (fun x => x.oneCell' = true) RF Try.call59 E2 (fun w1 hw1 => (timesOf59 w1 a c l (hl.at hw1 MM) h7 true).mono (fun e w' ⟨x, h1, h2, h3, h4⟩ => ⟨x, h1, h2, h3, by rw [hts]; exact h4⟩)) rfl (fun v26 ho26 => ?_)
    refine qs (y_assign RF) ?_
    refine sq_nil ?_
    refine sx_then ?_
    refine sc_seq ?_
    refine sc_region ?_
    refine qs (y_build bt92 EvP.nil RF) ?_
    refine sq_alloc Try.zeroValue92 rfl (fun b10 => ?_)
    refine qs (y_assign RF) ?_
    refine sq_store_all Try.sizeOf92 RF RF rfl RM rfl rfl ?_
    refine sq_nil ?_
    refine sx_then ?_
    refine sc_seq ?_
    refine sc_seq ?_
    refine sc_region ?_
    refine qs (y_move RF) ?_
    refine qs (y_len Try.underlying35 RF) ?_
    refine qs (y_move RF) ?_
    refine sq_nil ?_
    refine sx_then ?_
    refine sc_block ?_
    refine sc_loop (σ := Nat)
      (fun s => [(1, .slice ao o.length co), (8, v26), (9, .int .i64 0), (10, .pointer (some ⟨b10, 0, none⟩)), (28, .slice ao o.length co), (29, .int .i64 o.length), (30, .int .i64 s)])
      (fun s => [.blk b10 (.cells [Value.int .i64 (0), .int .i64 (preL ts o s)].toArray 92 (0, 0)), .own v26 92 2 l.length (ts.flatMap tmRow), .reg 0 w])
      (fun s => s ≤ o.length)
      (fun s => o.length - s)
      (0) ?_ SU SR ?_
    · exact Nat.zero_le _
    rintro k hk
    refine sc_seq ?_
    refine sc_region ?_
    refine qs (y_lss RF RF) ?_
    refine sq_nil ?_
    refine sx_then ?_
    refine sc_seq ?_
    refine scp (fun hc1 => ?_) (fun hc1 => ?_)
    ·
      have hk' : k < o.length := by omega
      obtain ⟨K, hK, hKn⟩ : ∃ K : Nat, o.getD k 0 = (K : Int) ∧ K < l.length := by
        have := hS.bd _ (List.mem_of_getElem? (get_of_lt 0 hk'))
        exact ⟨(o.getD k 0).toNat, by omega, by omega⟩
      have hso := (ho.get 0 hk').1
      have hco := (ho.get 0 hk').2
      rw [hK] at hco
      have hst := getD_sm hS.sm K
      unfold smT at hst
      have hbk := pre_bd hS.sm o k
      have hPs : preP ts o k + (ts.getD K (0, 0)).1 = preP ts o (k + 1) := by conv => { rhs; unfold preP }; rw [hK, Int.toNat_natCast]
      have hLs : preL ts o k + (ts.getD K (0, 0)).2 = preL ts o (k + 1) := by conv => { rhs; unfold preL }; rw [hK, Int.toNat_natCast]
      have hbk1 := pre_bd hS.sm o (k + 1)
      have hget : ts[K]? = some (ts.getD K (0, 0)) := get_of_lt (0, 0) (by omega)
      refine sc_skip ?_
      refine sx_then ?_
      refine sc_seq ?_
      refine sc_block ?_
      refine sc_seq ?_
      refine sc_region ?_
      refine qs IA35 ?_
      refine qs (by first | exact y_load_ca0 Try.underlying3 rfl RF MM hco rfl | exact LD3) ?_
      refine qs (y_assign RF) ?_
      refine sq_nil ?_
      refine sx_then ?_
      refine sc_drawX ([.blk b10 (.cells [Value.int .i64 (0), .int .i64 (preL ts o k)].toArray 92 (0, 0)), .own v26 92 2 l.length (ts.flatMap tmRow), .reg 0 w]) (by kernel_rfl) ?_
      refine xj_s 0 RF (by kernel_rfl) SR FA92_3 rfl ?_
      refine xj_s 1 RF (by kernel_rfl) SR LD3 rfl ?_
      refine xj_s 2 RF (by kernel_rfl) SR (y_move RF) rfl ?_
      refine xj_s 3 RF (by kernel_rfl) SR (y_move RF) rfl ?_
      refine xj_s 4 RF (by kernel_rfl) SR (y_ia_own Try.underlying85 Try.sizeOf92 RF MM RF hKn) rfl ?_
      refine xj_s 5 RF (by kernel_rfl) SR FA92_3 rfl ?_
      refine xj_s 6 RF (by kernel_rfl) SR (by first | exact y_load_ownj (j := 1) (u := .int .i64 (ts.getD K (0, 0)).2) Try.underlying3 rfl RF MM hKn (flat_get (row := tmRow) tmRow_len _ K _ hget 1 _ rfl) | exact LD3) rfl ?_
      refine xj_s 7 RF (by kernel_rfl) SR (y_add RF RF (by omega)) rfl ?_
      rw [hLs]
      refine xj_s 8 RF (by kernel_rfl) SR FA92_3 rfl ?_
      refine xj_one 9 RF (by kernel_rfl) ?_
      refine sq_store Try.sizeOf3 RF RF (by first | rfl | assumption) RM (by first | exact Nat.le_of_ble_eq_true rfl | simp | omega) ?_
      refine sq_nil ?_
      refine sx_xpl (by kernel_rfl) ?_
      refine xj_done (by kernel_rfl) ?_
      refine sx_blk ?_
      refine sx_then ?_
      refine sc_region ?_
      refine qs (y_add RF RF (by omega)) ?_
      refine qs (y_move RF) ?_
      refine sq_nil ?_
      refine sx_round (k + 1) ?_ ?_ SU SR
      · omega
      · omega
    ·
      have hkn : k = o.length := by omega
      subst hkn
      refine sc_exit ?_
      refine sx_then_exit ?_
      refine sx_round_exit ?_
      refine sx_blk_hit ?_
      refine sx_then ?_
      refine sc_seq ?_
      refine sc_seq ?_
      refine sc_region ?_
      refine qs (y_move RF) ?_
      refine qs (y_move RF) ?_
      refine sq_call_own (first := []) (caps := []) (e := 3) (sz := 1) (n := l.length) (Z := Value) (fun x => x) (fun x => x) (fun _ => (endsV ts o).flatMap iRow) (fun x => x.oneCell' = true) RF Try.call58 E2 (fun w1 hw1 => (ends58v (co := co) l.length htl (hw1.ok (Res.own v26 92 2 l.length (ts.flatMap tmRow)) MM) (ho.at hw1 MM) hS).mono (fun e w' ⟨x, h1, h2, h3, h4⟩ => ⟨x, h1, h2, h3, h4⟩)) rfl (fun v46 ho46 => ?_)
      refine qs (y_len_own Try.underlying35 RF MM) ?_
      refine qs (y_move RF) ?_
      refine sq_nil ?_
      refine sx_then ?_
      refine sc_block ?_
      refine sc_loop (σ := Nat)
        (fun s => [(1, .slice ao o.length co), (8, v26), (9, .int .i64 (gtV 0 ((endsV ts o).take s))), (10, .pointer (some ⟨b10, 0, none⟩)), (46, v46), (47, .int .i64 l.length), (48, .int .i64 s)])
        (fun s => [.own v46 3 1 l.length ((endsV ts o).flatMap iRow), .blk b10 (.cells [Value.int .i64 (0), .int .i64 (preL ts o o.length)].toArray 92 (0, 0)), .own v26 92 2 l.length (ts.flatMap tmRow), .reg 0 w])
        (fun s => s ≤ l.length)
        (fun s => l.length - s)
        (0) ?_ SU SR ?_
      · exact Nat.zero_le _
      rintro k hk
      refine sc_seq ?_
      refine sc_region ?_
      refine qs (y_lss RF RF) ?_
      refine sq_nil ?_
      refine sx_then ?_
      refine sc_seq ?_
      refine scp (fun hc2 => ?_) (fun hc2 => ?_)
      ·
        have hk' : k < l.length := by omega
        refine sc_skip ?_
        refine sx_then ?_
        refine sc_seq ?_
        refine sc_block ?_
        refine sc_seq ?_
        refine sc_region ?_
        refine qs (y_ia_own Try.underlying35 Try.sizeOf3 RF MM RF hk') ?_
        refine qs (by first | exact y_load_own0 (u := .int .i64 ((endsV ts o).getD k 0)) Try.underlying3 rfl RF MM hk' (flat_iget (get_of_lt 0 (by omega))) | exact LD3) ?_
        refine qs (y_assign RF) ?_
        refine sq_nil ?_
        refine sx_then ?_
        refine sc_region ?_
        refine qs (y_move RF) ?_
        refine qs (y_move RF) ?_
        refine sq_bs Try.underlying35 ei3 (EvI.cons RF EvI.nil) (by first | (simp [Value.cells]; done) | (simp [Value.cells]; rfl) | (simp [Value.cells]; and_intros <;> rfl)) rfl rfl rfl (fun b54 => ?_)
        refine qy (yc Try.call62 E2 (fun w1 hw1 => greatest62 w1 _ _ _ [(endsV ts o).getD k 0] (lit_i hw1 MM))) ?_
        rw [gtV_one, show max (gtV 0 ((endsV ts o).take k)) ((endsV ts o).getD k 0) = gtV 0 ((endsV ts o).take (k + 1)) from by rw [List.take_add_one, get_of_lt 0 (by omega)]; exact (gtV_snoc ..).symm]
        refine qs (y_assign RF) ?_
        refine sq_nil ?_
        refine sx_blk ?_
        refine sx_then ?_
        refine sc_region ?_
        refine qs (y_add RF RF (by omega)) ?_
        refine qs (y_move RF) ?_
        refine sq_nil ?_
        refine sx_round (k + 1) ?_ ?_ SU SR
        · omega
        · omega
      ·
        have hkn : k = l.length := by omega
        subst hkn
        rw [List.take_of_length_le (by omega)]
        have hA := done_bd hS o.length
        rw [List.take_of_length_le (by omega)] at hA
        rw [show preL ts o o.length = preL ts o o.length - preL ts o 0 from (Int.sub_zero _).symm]
        refine sc_exit ?_
        refine sx_then_exit ?_
        refine sx_round_exit ?_
        refine sx_blk_hit ?_
        refine sx_then ?_
        refine sc_seq ?_
        refine sc_seq ?_
        refine sc_region ?_
        refine qs (y_move RF) ?_
        refine qs (y_len Try.underlying35 RF) ?_
        refine qs (y_move RF) ?_
        refine sq_nil ?_
        refine sx_then ?_
        refine sc_block ?_
        refine sc_loop (σ := Nat)
          (fun s => [(8, v26), (9, .int .i64 (gtV 0 (endsV ts o))), (10, .pointer (some ⟨b10, 0, none⟩)), (57, .slice ao o.length co), (58, .int .i64 o.length), (59, .int .i64 s)])
          (fun s => [.blk b10 (.cells [Value.int .i64 (preP ts o s), .int .i64 ((preL ts o o.length - preL ts o s))].toArray 92 (0, 0)), .own v26 92 2 l.length (ts.flatMap tmRow), .reg 0 w])
          (fun s => s ≤ o.length ∧ ∀ j, j < s → whyQ ts o j = false)
          (fun s => o.length - s)
          (0) ?_ SU SR ?_
        · exact ⟨Nat.zero_le _, fun j hj => absurd hj (Nat.not_lt_zero j)⟩
        rintro k ⟨hk, hno⟩
        refine sc_seq ?_
        refine sc_region ?_
        refine qs (y_lss RF RF) ?_
        refine sq_nil ?_
        refine sx_then ?_
        refine sc_seq ?_
        refine scp (fun hc3 => ?_) (fun hc3 => ?_)
        ·
          have hk' : k < o.length := by omega
          obtain ⟨K, hK, hKn⟩ : ∃ K : Nat, o.getD k 0 = (K : Int) ∧ K < l.length := by
            have := hS.bd _ (List.mem_of_getElem? (get_of_lt 0 hk'))
            exact ⟨(o.getD k 0).toNat, by omega, by omega⟩
          have hso := (ho.get 0 hk').1
          have hco := (ho.get 0 hk').2
          rw [hK] at hco
          have hst := getD_sm hS.sm K
          unfold smT at hst
          have hbk := pre_bd hS.sm o k
          have hPs : preP ts o k + (ts.getD K (0, 0)).1 = preP ts o (k + 1) := by conv => { rhs; unfold preP }; rw [hK, Int.toNat_natCast]
          have hLs : preL ts o k + (ts.getD K (0, 0)).2 = preL ts o (k + 1) := by conv => { rhs; unfold preL }; rw [hK, Int.toNat_natCast]
          have hbk1 := pre_bd hS.sm o (k + 1)
          have hget : ts[K]? = some (ts.getD K (0, 0)) := get_of_lt (0, 0) (by omega)
          refine sc_skip ?_
          refine sx_then ?_
          refine sc_seq ?_
          refine sc_block ?_
          refine sc_seq ?_
          refine sc_region ?_
          refine qs IA35 ?_
          refine qs (by first | exact y_load_ca0 Try.underlying3 rfl RF MM hco rfl | exact LD3) ?_
          refine qs (y_assign RF) ?_
          refine sq_nil ?_
          refine sx_then ?_
          refine sc_seq ?_
          refine sc_drawX ([.blk b10 (.cells [Value.int .i64 (preP ts o k), .int .i64 ((preL ts o o.length - preL ts o k))].toArray 92 (0, 0)), .own v26 92 2 l.length (ts.flatMap tmRow), .reg 0 w]) (by kernel_rfl) ?_
          refine xj_s 0 RF (by kernel_rfl) SR FA92_3 rfl ?_
          refine xj_s 1 RF (by kernel_rfl) SR LD3 rfl ?_
          refine xj_s 2 RF (by kernel_rfl) SR (y_move RF) rfl ?_
          refine xj_s 3 RF (by kernel_rfl) SR (y_move RF) rfl ?_
          refine xj_s 4 RF (by kernel_rfl) SR (y_ia_own Try.underlying85 Try.sizeOf92 RF MM RF hKn) rfl ?_
          refine xj_s 5 RF (by kernel_rfl) SR FA92_3 rfl ?_
          refine xj_s 6 RF (by kernel_rfl) SR (by first | exact y_load_ownj (j := 0) (u := .int .i64 (ts.getD K (0, 0)).1) Try.underlying3 rfl RF MM hKn (flat_get (row := tmRow) tmRow_len _ K _ hget 0 _ rfl) | exact LD3) rfl ?_
          refine xj_s 7 RF (by kernel_rfl) SR (y_add RF RF (by omega)) rfl ?_
          rw [hPs]
          refine xj_s 8 RF (by kernel_rfl) SR FA92_3 rfl ?_
          refine xj_one 9 RF (by kernel_rfl) ?_
          refine sq_store Try.sizeOf3 RF RF (by first | rfl | assumption) RM (by first | exact Nat.le_of_ble_eq_true rfl | simp | omega) ?_
          refine sq_nil ?_
          refine sx_xpl (by kernel_rfl) ?_
          refine xj_done (by kernel_rfl) ?_
          refine sx_then ?_
          refine sc_seq ?_
          refine sc_seq ?_
          refine sc_region ?_
          refine qs LD92 ?_
          refine qs (y_move RF) ?_
          refine qs FA92_3 ?_
          refine qs LD3 ?_
          refine qs (y_sub RF RF (by omega)) ?_
          refine qs FA92_3 ?_
          refine qs LD3 ?_
          refine qs (y_build bt92 (EvP.cons RF (EvP.cons RF EvP.nil)) RF) ?_
          refine qs (y_eqls (by kernel_rfl) RF RF (eql92 _ _ _ _)) ?_
          refine sq_nil ?_
          refine sx_then ?_
          refine scp (fun hc4 => ?_) (fun hc4 => ?_)
          ·
            have hq : whyQ ts o k = true := decide_eq_true (by rw [path_at2 ts o hk']; have := hc4.1; omega)
            refine sc_seq ?_
            refine sc_region ?_
            refine qs (y_move RF) ?_
            refine qs (y_move RF) ?_
            refine qs (y_assign RF) ?_
            refine qs (y_assign RF) ?_
            refine qs (y_assign RF) ?_
            refine sq_nil ?_
            refine sx_then ?_
            refine sc_ret ?_
            refine sx_then_ret ?_
            refine sx_blk_ret ?_
            refine sx_then_ret ?_
            refine sx_round_ret ?_
            refine sx_blk_ret ?_
            refine sx_then_ret ?_
            refine sx_ret3 (.inl rfl) rfl Try.results24 RF RF RF ?_
            intro w' hw'
            refine ⟨?_, hw'.below MM⟩
            rw [hwr, whyV_at hk' hq hno, hK]
          ·
            have hq : whyQ ts o k = false := decide_eq_false (by rw [path_at2 ts o hk']; intro h9; exact hc4 ⟨by omega, rfl⟩)
            refine sc_skip ?_
            refine sx_then ?_
            refine sc_drawX ([.blk b10 (.cells [Value.int .i64 (preP ts o (k + 1)), .int .i64 ((preL ts o o.length - preL ts o k))].toArray 92 (0, 0)), .own v26 92 2 l.length (ts.flatMap tmRow), .reg 0 w]) (by kernel_rfl) ?_
            refine xj_s 0 RF (by kernel_rfl) SR FA92_3 rfl ?_
            refine xj_s 1 RF (by kernel_rfl) SR LD3 rfl ?_
            refine xj_s 2 RF (by kernel_rfl) SR (y_move RF) rfl ?_
            refine xj_s 3 RF (by kernel_rfl) SR (y_move RF) rfl ?_
            refine xj_s 4 RF (by kernel_rfl) SR (y_ia_own Try.underlying85 Try.sizeOf92 RF MM RF hKn) rfl ?_
            refine xj_s 5 RF (by kernel_rfl) SR FA92_3 rfl ?_
            refine xj_s 6 RF (by kernel_rfl) SR (by first | exact y_load_ownj (j := 1) (u := .int .i64 (ts.getD K (0, 0)).2) Try.underlying3 rfl RF MM hKn (flat_get (row := tmRow) tmRow_len _ K _ hget 1 _ rfl) | exact LD3) rfl ?_
            refine xj_s 7 RF (by kernel_rfl) SR (y_sub RF RF (by omega)) rfl ?_
            rw [show (preL ts o o.length - preL ts o k) - (ts.getD K (0, 0)).2 = (preL ts o o.length - preL ts o (k + 1)) from by omega]
            refine xj_s 8 RF (by kernel_rfl) SR FA92_3 rfl ?_
            refine xj_one 9 RF (by kernel_rfl) ?_
            refine sq_store Try.sizeOf3 RF RF (by first | rfl | assumption) RM (by first | exact Nat.le_of_ble_eq_true rfl | simp | omega) ?_
            refine sq_nil ?_
            refine sx_xpl (by kernel_rfl) ?_
            refine xj_done (by kernel_rfl) ?_
            refine sx_blk ?_
            refine sx_then ?_
            refine sc_region ?_
            refine qs (y_add RF RF (by omega)) ?_
            refine qs (y_move RF) ?_
            refine sq_nil ?_
            refine sx_round (k + 1) ?_ ?_ SU SR
            · refine ⟨by omega, fun j hj9 => ?_⟩
              rcases Nat.lt_succ_iff_lt_or_eq.1 hj9 with h | rfl
              · exact hno j h
              · exact hq
            · omega
        ·
          have hkn : k = o.length := by omega
          subst hkn
          refine sc_exit ?_
          refine sx_then_exit ?_
          refine sx_round_exit ?_
          refine sx_blk_hit ?_
          refine sx_then ?_
          refine sc_seq ?_
          refine sc_region ?_
          refine qs (y_assign RF) ?_
          refine qs (y_assign RF) ?_
          refine qs (y_assign RF) ?_
          refine sq_nil ?_
          refine sx_then ?_
          refine sc_ret ?_
          refine sx_ret3 (.inl rfl) rfl Try.results24 RF RF RF ?_
          intro w' hw'
          refine ⟨?_, hw'.below MM⟩
          rw [hwr, whyV_no hno]
theorem why25 (w : World) (a : Option Addr) (c : Nat) (l : List Jb) (hl : RowsA jbRow 5 0 w a l) (ao : Option Addr) (co : Nat) (o : List Int) (ho : RowsA iRow 1 0 w ao o) (h1000 : o.length ≤ 1000) : Calls Try.prog 25 #[.slice a l.length c, .slice ao o.length co] w fun e w' => e = .returned (.tuple #[.int .i64 (whyR l o).1, .int .i64 (whyR l o).2.1, .int .i64 (whyR l o).2.2]) ∧ Below w.heap.size w w' := by
  have hlen := hl.len
  have hleno := ho.len
  refine calls_of_SC (args := [.slice a l.length c, .slice ao o.length co]) Try.func25 rfl Try.ntmps25 rfl ?_
  simp only [argL, Nat.zero_add]
  refine sc_seq ?_
  refine sc_region ?_
  refine qs (y_assign RF) ?_
  refine qs (y_assign RF) ?_
  refine qs (y_assign RF) ?_
  refine sq_nil ?_
  refine sx_then ?_
  refine sc_seq ?_
  refine sc_region ?_
  refine qs (y_move RF) ?_
  refine qs (y_move RF) ?_
  refine qy (yc Try.call60 E2 (fun w1 hw1 => check60 w1 a c l (hl.at hw1 MM) ao co o (ho.at hw1 MM) h1000)) ?_
  refine qs (y_assign RF) ?_
  refine sq_nil ?_
  refine sx_then ?_
  refine sc_seq ?_
  refine sc_seq ?_
  refine sc_region ?_
  refine qs (y_move RF) ?_
  refine qs (y_neq RF RF) ?_
  refine sq_nil ?_
  refine sx_then ?_
  refine scp (fun hc0 => ?_) (fun hc0 => ?_)
  ·
    refine sc_seq ?_
    refine sc_region ?_
    refine qs (y_move RF) ?_
    refine qs (y_assign RF) ?_
    refine qs (y_assign RF) ?_
    refine qs (y_assign RF) ?_
    refine sq_nil ?_
    refine sx_then ?_
    refine sc_ret ?_
    refine sx_then_ret ?_
    refine sx_ret3 (.inl rfl) rfl Try.results25 RF RF RF ?_
    intro w' hw'
    refine ⟨?_, hw'.below MM⟩
    unfold whyR; rw [if_pos hc0]
  ·
    refine sc_skip ?_
    refine sx_then ?_
    refine sc_seq ?_
    have hck : chkV l o = 0 := by simpa using hc0
    have hwr : whyR l o = whyV (l.map (timeV true)) o := by unfold whyR; rw [if_neg (by simp [hck])]
    obtain ⟨hj, hob⟩ := chkV_ok hck
    have hS := ordOk.of hj hob true
    have h7 := (jobsB_parts hj).1
    obtain ⟨ts, hts⟩ : ∃ ts, ts = l.map (timeV true) := ⟨_, rfl⟩
    rw [← hts] at hS hwr
    have htl : ts.length = l.length := by rw [hts, List.length_map]
    have hol : o.length = l.length := hS.len.trans htl
    have hbn := pre_bd hS.sm o o.length
    have hlS : (endsV ts o).length = l.length := (endsK_len _ _ _).trans htl
    refine sc_region ?_
    refine qs (y_move RF) ?_
    refine sq_call_new (first := []) (caps := []) (Z := (Option Addr × Nat) × Option Addr × Nat) (fun z => .agg #[.slice z.1.1 l.length z.1.2, .slice z.2.1 l.length z.2.2]) (fun lo w' z => RowsA iRow 1 lo w' z.1.1 (ts.map (fun (t : Tm) => t.1)) ∧ RowsA iRow 1 lo w' z.2.1 (ts.map (fun (t : Tm) => t.2))) RF Try.call38 (EvL.cons RF EvL.nil) (fun w1 hw1 => (slow38 w1 a c l (hl.at hw1 MM) h7).mono (fun e w' ⟨z, h1, h2, h3, h4⟩ => ⟨z, h1, h2, by rw [hts]; exact h3, by rw [hts]; exact h4⟩)) rfl (fun lo17 wr17 z17 hz17 => ?_)
    refine sq_alloc Try.zeroValue56 rfl (fun b8 => ?_)
    refine sq_store_all Try.sizeOf56 RF RF rfl RM rfl rfl ?_
    refine sq_nil ?_
    refine sx_then ?_
    refine sc_seq ?_
    refine sc_seq ?_
    refine sc_region ?_
    refine qs (y_assign RF) ?_
    refine sq_nil ?_
    refine sx_then ?_
    refine sc_block ?_
    refine sc_loop (σ := Nat)
      (fun s => [(1, .slice ao o.length co), (8, .pointer (some ⟨b8, 0, none⟩)), (9, .int .i64 s)])
      (fun s => [.blk b8 (.cells #[.slice z17.1.1 l.length z17.1.2, .slice z17.2.1 l.length z17.2.2] 56 (0, 0)), .reg lo17 wr17, .reg 0 w])
      (fun s => s ≤ o.length ∧ ∀ j, j < s → whyQ ts o j = false)
      (fun s => o.length - s)
      (0) ?_ SU SR ?_
    · exact ⟨Nat.zero_le _, fun j hj => absurd hj (Nat.not_lt_zero j)⟩
    rintro k ⟨hk, hno⟩
    refine sc_seq ?_
    refine sc_seq ?_
    refine sc_region ?_
    refine qs (y_move RF) ?_
    refine qs (y_move RF) ?_
    refine qs (y_len Try.underlying35 RF) ?_
    refine qs (y_lss RF RF) ?_
    refine sq_nil ?_
    refine sx_then ?_
    refine scp (fun hc1 => ?_) (fun hc1 => ?_)
    ·
      have hk' : k < o.length := by omega
      have hso := (ho.get 0 hk').1
      have hco := (ho.get 0 hk').2
      refine sc_skip ?_
      refine sx_then ?_
      refine sc_seq ?_
      refine sc_block ?_
      refine sc_seq ?_
      refine sc_drawX ([.blk b8 (.cells #[.slice z17.1.1 l.length z17.1.2, .slice z17.2.1 l.length z17.2.2] 56 (0, 0))]) (by kernel_rfl) ?_
      refine xj_s 0 RF (by kernel_rfl) SR LD56 rfl ?_
      refine xj_s 1 RF (by kernel_rfl) SR (y_move RF) rfl ?_
      refine xj_s 2 RF (by kernel_rfl) SR (y_move RF) rfl ?_
      refine xj_s 4 RF (by kernel_rfl) SR LD56 rfl ?_
      refine xj_s 5 RF (by kernel_rfl) SR (y_move RF) rfl ?_
      refine xj_one 3 RF (by kernel_rfl) ?_
      refine qy (yc Try.call42 E3 (fun w1 hw1 => path42n (co := co) l.length htl (hz17.1.at hw1 MM) (hz17.2.at hw1 MM) (ho.at hw1 MM) hS k)) ?_
      refine sq_nil ?_
      refine sx_xp SR ?_
      refine xj_one 6 RF (by kernel_rfl) ?_
      refine qy (yc Try.call39 E2 (fun w1 hw1 => done39n (co := co) l.length htl (hz17.1.at hw1 MM) (hz17.2.at hw1 MM) (ho.at hw1 MM) hS)) ?_
      refine sq_nil ?_
      refine sx_xp SR ?_
      refine xj_s 7 RF (by kernel_rfl) SR (y_eql RF RF) rfl ?_
      refine xj_done (by kernel_rfl) ?_
      refine sx_then ?_
      refine scp (fun hc2 => ?_) (fun hc2 => ?_)
      ·
        have hq : whyQ ts o k = true := decide_eq_true hc2
        refine sc_seq ?_
        refine sc_drawX ([.blk b8 (.cells #[.slice z17.1.1 l.length z17.1.2, .slice z17.2.1 l.length z17.2.2] 56 (0, 0)), .reg 0 w]) (by kernel_rfl) ?_
        refine xj_s 0 RF (by kernel_rfl) SR (y_move RF) rfl ?_
        refine xj_s 1 RF (by kernel_rfl) SR (y_move RF) rfl ?_
        refine xj_s 2 RF (by kernel_rfl) SR IA35 rfl ?_
        refine xj_s 3 RF (by kernel_rfl) SR (by first | exact y_load_ca0 Try.underlying3 rfl RF MM hco rfl | exact LD3) rfl ?_
        refine xj_s 4 RF (by kernel_rfl) SR LD56 rfl ?_
        refine xj_s 5 RF (by kernel_rfl) SR (y_move RF) rfl ?_
        refine xj_one 6 RF (by kernel_rfl) ?_
        refine qy (yc Try.call39 E2 (fun w1 hw1 => done39n (co := co) l.length htl (hz17.1.at hw1 MM) (hz17.2.at hw1 MM) (ho.at hw1 MM) hS)) ?_
        refine sq_nil ?_
        refine sx_xp SR ?_
        refine xj_s 7 RF (by kernel_rfl) SR (y_assign RF) rfl ?_
        refine xj_s 8 RF (by kernel_rfl) SR (y_assign RF) rfl ?_
        refine xj_s 9 RF (by kernel_rfl) SR (y_assign RF) rfl ?_
        refine xj_done (by kernel_rfl) ?_
        refine sx_then ?_
        refine sc_ret ?_
        refine sx_blk_ret ?_
        refine sx_then_ret ?_
        refine sx_round_ret ?_
        refine sx_blk_ret ?_
        refine sx_then_ret ?_
        refine sx_ret3 (.inl rfl) rfl Try.results25 RF RF RF ?_
        intro w' hw'
        refine ⟨?_, hw'.below MM⟩
        rw [hwr, whyV_at hk' hq hno]
      ·
        have hq : whyQ ts o k = false := decide_eq_false hc2
        refine sc_skip ?_
        refine sx_blk ?_
        refine sx_then ?_
        refine sc_region ?_
        refine qs (y_move RF) ?_
        refine qs (y_add RF RF (by omega)) ?_
        refine qs (y_assign RF) ?_
        refine sq_nil ?_
        refine sx_round (k + 1) ?_ ?_ SU SR
        · refine ⟨by omega, fun j hj9 => ?_⟩
          rcases Nat.lt_succ_iff_lt_or_eq.1 hj9 with h | rfl
          · exact hno j h
          · exact hq
        · omega
    ·
      have hkn : k = o.length := by omega
      subst hkn
      refine sc_exit ?_
      refine sx_then_exit ?_
      refine sx_round_exit ?_
      refine sx_blk_hit ?_
      refine sx_then ?_
      refine sc_seq ?_
      refine sc_region ?_
      refine qs (y_assign RF) ?_
      refine qs (y_assign RF) ?_
      refine qs (y_assign RF) ?_
      refine sq_nil ?_
      refine sx_then ?_
      refine sc_ret ?_
      refine sx_ret3 (.inl rfl) rfl Try.results25 RF RF RF ?_
      intro w' hw'
      refine ⟨?_, hw'.below MM⟩
      rw [hwr, whyV_no hno]
end Go.Proofs.Ytjlbpmcacopbpaa
