/- The walks of a list that a box can have, and of what is truly read. -/
import Derived.Test.YtofjipmheckmjaaWalk23
import Derived.Test.YtofjipmheckmjaaEng15
namespace Go.Proofs.Ytofjipmheckmjaa
open Go Go.Eng Go.RowKit Go.Proofs
set_option maxRecDepth 100000
def uRow (n : Int) : List Value := [.int .u32 n]
def isU (n : Int) : Prop := 0 ≤ n ∧ n ≤ 4294967295
theorem u_shr {p : Int} (h : isU p) (k : Nat) : 0 ≤ p / 2 ^ k ∧ p / 2 ^ k ≤ 4294967295 := by
  have h1 : (0 : Int) ≤ 2 ^ k := Int.le_of_lt (Int.pow_pos (by omega))
  have h2 := Int.ediv_nonneg h.1 h1
  have h3 := Int.ediv_le_self (2 ^ k) h.1
  have := h.2
  omega
theorem u_get {l : List Int} (h : ∀ x, x ∈ l → isU x) {j : Nat} (hj : j < l.length) : isU (l.getD j 0) := h _ (List.mem_of_getElem? (get_of_lt 0 hj))
theorem getD_snoc {l : List Int} {n : Int} {j : Nat} (hj : j < l.length) : (l ++ [n]).getD j 0 = l.getD j 0 := by
  rw [List.getD_eq_getElem?_getD, List.getElem?_append_left hj, ← List.getD_eq_getElem?_getD]
theorem getD_last {l : List Int} {n : Int} : (l ++ [n]).getD l.length 0 = n := by
  rw [List.getD_eq_getElem?_getD, List.getElem?_append_right (Nat.le_refl _)]; simp
theorem lostK_snoc2 (l : List Int) (n : Int) : ∀ k, k ≤ l.length → lostK (l ++ [n]) k = lostK l k
  | 0, _ => rfl
  | k + 1, h => by unfold lostK; rw [lostK_snoc2 l n k (by omega), getD_snoc (by omega)]
theorem extraK_snoc2 (l : List Int) (n : Int) : ∀ k, k ≤ l.length → extraK (l ++ [n]) k = extraK l k
  | 0, _ => rfl
  | k + 1, h => by unfold extraK; rw [extraK_snoc2 l n k (by omega), getD_snoc (by omega)]
theorem lostK_add2 (l : List Int) (n : Int) : lostK (l ++ [n]) (l ++ [n]).length = lostK l l.length + max 0 (-n) := by
  rw [List.length_append, List.length_singleton]
  show lostK (l ++ [n]) l.length + max 0 (-((l ++ [n]).getD l.length 0)) = _
  rw [lostK_snoc2 l n _ (Nat.le_refl _), getD_last]
theorem extraK_add2 (l : List Int) (n : Int) : extraK (l ++ [n]) (l ++ [n]).length = extraK l l.length + max 0 n := by
  rw [List.length_append, List.length_singleton]
  show extraK (l ++ [n]) l.length + max 0 ((l ++ [n]).getD l.length 0) = _
  rw [extraK_snoc2 l n _ (Nat.le_refl _), getD_last]
theorem lostK_nn (l : List Int) : ∀ k, 0 ≤ lostK l k
  | 0 => Int.le_refl _
  | k + 1 => by have := lostK_nn l k; unfold lostK; omega
theorem extraK_nn (l : List Int) : ∀ k, 0 ≤ extraK l k
  | 0 => Int.le_refl _
  | k + 1 => by have := extraK_nn l k; unfold extraK; omega
/-- a list is what a box can have, so far -/
def HasSo (b : Bx) (l : List Int) : Prop := l.length ≤ b.kinds.length ∧ (∀ i, i < l.length → okC b l i = true) ∧ lostK l l.length ≤ b.lost ∧ extraK l l.length ≤ b.extra
theorem HasSo.nil {b : Bx} (hok : bxB b = true) : HasSo b [] := ⟨Nat.zero_le _, fun i h => absurd h (Nat.not_lt_zero i), (bxB_parts hok).2.1.1, (bxB_parts hok).2.2.1.1⟩
theorem HasSo.add {b : Bx} {l : List Int} {n : Int} (h : HasSo b l) (hk : l.length < b.kinds.length) (h1 : -(b.kinds.getD l.length kd0).many ≤ n) (h2 : -4 ≤ n ∧ n ≤ 3) (h3 : max 0 (-n) ≤ b.lost - lostK l l.length) (h4 : max 0 n ≤ b.extra - extraK l l.length) : HasSo b (l ++ [n]) := by
  refine ⟨by simp; omega, fun i hi => ?_, by rw [lostK_add2]; omega, by rw [extraK_add2]; omega⟩
  rcases Nat.lt_or_ge i l.length with h5 | h5
  · have := h.2.1 i h5
    unfold okC at this ⊢
    rw [getD_snoc h5]; exact this
  · have : i = l.length := by simp at hi; omega
    subst this
    unfold okC; rw [getD_last]
    exact decide_eq_true ⟨h1, h2.1, h2.2⟩
theorem HasSo.can {b : Bx} {l : List Int} (h : HasSo b l) (hl : l.length = b.kinds.length) : canV b l = true := by
  unfold canV
  rw [decide_eq_true hl, decide_eq_true h.2.2, Bool.true_and, Bool.and_true]
  exact List.all_eq_true.2 fun i hi => h.2.1 i (List.mem_range.1 hi)

theorem has33 (w : World) (b : Bx) (a : Option Addr) (c : Nat) (hB : RowsA kdRow 3 0 w a b.kinds) (hok : bxB b = true) (ay : Option Addr) (cy : Nat) (bys : List Int) (hy : RowsA uRow 1 0 w ay bys) (hu : ∀ x, x ∈ bys → isU x) (h0 : 0 < bys.length) : Calls Try.prog 33 #[.agg (bxRow b a c).toArray, .slice ay bys.length cy] w fun e w' => ∃ z : Option Addr × Nat × List Int, e = .returned (.slice z.1 z.2.2.length z.2.1) ∧ Below w.heap.size w w' ∧ RowsA iRow 1 w.heap.size w' z.1 z.2.2 ∧ canV b z.2.2 = true := by
  have hbp := bxB_parts hok
  have hylen := hy.len
  refine calls_of_SC (args := [.agg (bxRow b a c).toArray, .slice ay bys.length cy]) Try.func33 rfl Try.ntmps33 rfl ?_
  simp only [argL, Nat.zero_add]
  refine sc_seq ?_
  refine sc_region ?_
  refine sq_box RF rfl (fun b2 => ?_)
  refine qs (y_assign RF) ?_
  refine sq_nil ?_
  refine sx_then ?_
  refine sc_seq ?_
  refine sc_region ?_
  refine qs (y_assign RF) ?_
  refine sq_nil ?_
  refine sx_then ?_
  refine sc_seq ?_
  refine sc_draw rfl (by kernel_rfl) (by kernel_rfl) ?_
  refine qq_y (OpY.s FA26_3) rfl ?_
  refine qq_y (OpY.s LD3) rfl ?_
  refine qq_y (OpY.s FA26_3) rfl ?_
  refine qq_y (OpY.s LD3) rfl ?_
  refine qq_y (OpY.s (y_assign RF)) rfl ?_
  refine qq_y (OpY.s (y_assign RF)) rfl ?_
  refine qq_nil ?_
  refine sx_then ?_
  refine sc_seq ?_
  refine sc_seq ?_
  refine sc_nil_own 3 1 ?_
  refine sc_region ?_
  refine qs FA26_22 ?_
  refine qs LD22 ?_
  refine qs (y_len Try.underlying22 RF) ?_
  refine qs (y_move RF) ?_
  refine sq_nil ?_
  refine sx_then ?_
  refine sc_block ?_
  refine sc_loop (σ := List Int × Value)
    (fun s => [(1, .slice ay bys.length cy), (2, .pointer (some ⟨b2, 0, none⟩)), (5, s.2), (6, .int .i64 (b.lost - lostK s.1 s.1.length)), (7, .int .i64 (b.extra - extraK s.1 s.1.length)), (16, .slice a b.kinds.length c), (17, .int .i64 b.kinds.length), (18, .int .i64 s.1.length)])
    (fun s => [.own s.2 3 1 s.1.length (s.1.flatMap iRow), .blk b2 (.cells (bxRow b a c).toArray 26 (0, 0)), .reg 0 w])
    (fun s => HasSo b s.1 ∧ s.2.oneCell' = true)
    (fun s => b.kinds.length - s.1.length)
    (([], .slice none 0 0)) ?_ (by repeat (first | exact SubL.nil | refine SubL.cons (by first | exact rfl | exact lk_int rfl (Int.sub_zero _).symm) ?_)) SR ?_
  · exact ⟨HasSo.nil hok, rfl⟩
  rintro ⟨L, v⟩ ⟨hso, hv⟩
  dsimp only at hso hv ⊢
  have hlk := hso.2.2
  have hln := lostK_nn L L.length
  have hen := extraK_nn L L.length
  refine sc_seq ?_
  refine sc_region ?_
  refine qs (y_lss RF RF) ?_
  refine sq_nil ?_
  refine sx_then ?_
  refine sc_seq ?_
  refine scp (fun hc0 => ?_) (fun hc0 => ?_)
  ·
    have hk' : L.length < b.kinds.length := by omega
    have hsm := (hB.get kd0 hk').1
    have hca := (hB.get kd0 hk').2
    have hj : L.length % bys.length < bys.length := Nat.mod_lt _ h0
    have hsy := (hy.get 0 hj).1
    have hcy := (hy.get 0 hj).2
    have huj := u_get hu hj
    have hkb := kd_bd hok hk'
    refine sc_skip ?_
    refine sx_then ?_
    refine sc_seq ?_
    refine sc_block ?_
    refine sc_seq ?_
    refine sc_region ?_
    refine qs (y_move RF) ?_
    refine qs IA22 ?_
    refine qs (by first | exact y_load_ca Try.underlying74 rfl Try.sizeOf74 RF MM hca rfl | exact LD74) ?_
    refine sq_alloc Try.zeroValue74 rfl (fun b9 => ?_)
    refine qs (y_assign RF) ?_
    refine sq_store_all Try.sizeOf74 RF RF rfl RM rfl rfl ?_
    refine sq_nil ?_
    refine sx_then ?_
    refine sc_seq ?_
    refine sc_region ?_
    refine qs (y_move RF) ?_
    refine qs (y_move RF) ?_
    refine qs (y_move RF) ?_
    refine qs (y_len Try.underlying56 RF) ?_
    refine qs (y_rem RF RF (by omega) (by omega)) ?_
    rw [← Int.natCast_emod]
    refine qs IA56 ?_
    refine qs (by first | exact y_load_ca0 Try.underlying67 rfl RF MM hcy rfl | exact LD67) ?_
    refine qs (y_move RF) ?_
    refine qs (y_mul RF RF (by omega)) ?_
    refine qs (y_shr RF RF (by first | decide | (simp [IntKind.bits]; omega))) ?_
    refine qs (y_conv Try.underlying67 Try.underlying3 RF (by have := u_shr huj (3 * (L.length : Int)).toNat; exact wrap64_in (by omega) (by omega))) ?_
    refine qs (y_rem RF RF (by first | omega | exact (u_shr huj _).1) (by first | omega | exact (u_shr huj _).1)) ?_
    obtain ⟨m, hm⟩ : ∃ m : Int, m = (bys.getD (L.length % bys.length) 0 / 2 ^ (3 * (L.length : Int)).toNat) % 9 := ⟨_, rfl⟩
    rw [← hm]
    have hmb : 0 ≤ m ∧ m ≤ 8 := by omega
    refine qs (y_assign RF) ?_
    refine sq_nil ?_
    refine sx_then ?_
    refine sc_seq ?_
    refine sc_block ?_
    refine sc_seq ?_
    refine sc_region ?_
    refine qs (y_move RF) ?_
    refine qs (y_lss RF RF) ?_
    refine qs (y_assign RF) ?_
    refine sq_nil ?_
    refine sx_then ?_
    refine sc_midE (Z := {n : Int // -(b.kinds.getD L.length kd0).many ≤ n ∧ (-4 ≤ n ∧ n ≤ 3) ∧ max 0 (-n) ≤ b.lost - lostK L L.length ∧ max 0 n ≤ b.extra - extraK L L.length}) (fun z => [(1, .slice ay bys.length cy), (2, .pointer (some ⟨b2, 0, none⟩)), (5, v), (6, .int .i64 (b.lost - lostK L L.length)), (7, .int .i64 (b.extra - extraK L L.length)), (16, .slice a b.kinds.length c), (17, .int .i64 b.kinds.length), (18, .int .i64 L.length), (8, .int .i64 L.length), (9, .pointer (some ⟨b9, 0, none⟩)), (10, .int .i64 z.1)]) (fun _ => [.blk b9 (.cells (kdRow (b.kinds.getD L.length kd0)).toArray 74 (0, 0)), .own v 3 1 L.length (L.flatMap iRow), .blk b2 (.cells (bxRow b a c).toArray 26 (0, 0)), .reg 0 w]) ?_ ?_
    ·
      refine scp (fun hc1 => ?_) (fun hc1 => ?_)
      ·
        refine sc_region ?_
        refine qs (y_move RF) ?_
        refine qs (y_move RF) ?_
        refine qs FA74_3 ?_
        refine qs LD3 ?_
        refine qs (y_min3 RF RF RF) ?_
        refine qs (y_neg RF (by omega)) ?_
        refine qs (y_assign RF) ?_
        refine sq_nil ?_
        exact sx_midE (⟨-(min (min m (b.lost - lostK L L.length)) (b.kinds.getD L.length kd0).many), by omega⟩) SU SR
      ·
        refine sc_region ?_
        refine qs (y_move RF) ?_
        refine qs (y_sub RF RF (by omega)) ?_
        refine qs (y_move RF) ?_
        refine qs (y_min RF RF) ?_
        refine qs (y_quo RF RF (by omega) (by omega)) ?_
        refine qs (y_assign RF) ?_
        refine sq_nil ?_
        exact sx_midE (⟨min (m - 4) (b.extra - extraK L L.length) / 2, by omega⟩) SU SR
    rintro ⟨n, hn⟩
    try dsimp only
    refine sx_blk ?_
    refine sx_then ?_
    refine sc_seq ?_
    refine sc_region ?_
    refine qs (y_move RF) ?_
    refine qs (y_move RF) ?_
    refine qs (y_neg RF (by omega)) ?_
    refine qs (y_max RF RF) ?_
    refine qs (y_sub RF RF (by omega)) ?_
    refine qs (y_move RF) ?_
    refine qs (y_move RF) ?_
    refine qs (y_max RF RF) ?_
    refine qs (y_sub RF RF (by omega)) ?_
    refine qs (y_assign RF) ?_
    refine qs (y_assign RF) ?_
    refine sq_nil ?_
    refine sx_then ?_
    refine sc_region ?_
    refine qs (y_move RF) ?_
    refine qs (y_move RF) ?_
    refine sq_bs Try.underlying27 ei3 (EvI.cons RF EvI.nil) (by first | (simp [Value.cells]; done) | (simp [Value.cells]; rfl) | (simp [Value.cells]; and_intros <;> rfl)) rfl rfl rfl (fun b60 => ?_)
    refine sq_append (news := [.int .i64 n]) Try.underlying27 ei3 rfl (by decide) RF RM RF rfl (fun _ hw => news_blk hw MM) (by simp [Value.oneCell']) (by omega) rfl (fun v61 ho61 => ?_)
    rw [show L.flatMap iRow ++ [.int .i64 n] = (L ++ [n]).flatMap iRow from by simp [iRow], show L.length + 1 = (L ++ [n]).length from by simp]
    refine qs (y_assign RF) ?_
    refine sq_nil ?_
    refine sx_blk ?_
    refine sx_then ?_
    refine sc_region ?_
    refine qs (y_add RF RF (by omega)) ?_
    refine qs (y_move RF) ?_
    refine sq_nil ?_
    refine sx_round ((L ++ [n], v61)) ?_ ?_ (by repeat (first | exact SubL.nil | refine SubL.cons (by first | exact rfl | exact lk_int rfl (by rw [lostK_add2]; omega) | exact lk_int rfl (by rw [extraK_add2]; omega) | exact lk_int rfl (by simp) | exact lk_int rfl (by omega)) ?_)) SR
    · exact ⟨hso.add hk' hn.1 hn.2.1 hn.2.2.1 hn.2.2.2, ho61⟩
    · show b.kinds.length - (L ++ [n]).length < b.kinds.length - L.length; rw [List.length_append, List.length_singleton]; omega
  ·
    have hkn : L.length = b.kinds.length := by have := hso.1; omega
    refine sc_exit ?_
    refine sx_then_exit ?_
    refine sx_round_exit ?_
    refine sx_blk_hit ?_
    refine sx_then ?_
    refine sc_seq ?_
    refine sc_region ?_
    refine qs (y_move RF) ?_
    refine qs (y_assign RF) ?_
    refine sq_nil ?_
    refine sx_then ?_
    refine sc_ret ?_
    refine sx_ret1 (.inl rfl) rfl Try.results33 RF ?_
    intro w' hw'
    have h1 := own_new_mem hw' MM MM
    obtain ⟨a2, c2, hv2, _, hr⟩ := own_rowsA (row := iRow) (fun _ => rfl) h1 rfl (by omega)
    exact ⟨(a2, c2, L), by rw [hv2], hw'.below MM, hr, hso.can hkn⟩
theorem pick64 (w w2 : World) (rest : List Res) (b9 b8 : Nat) (ay : Option Addr) (cy : Nat) (bys : List Int) (hy : RowsA uRow 1 0 w ay bys) (hu : ∀ x, x ∈ bys → isU x) (h0 : 0 < bys.length) (m : Int) (hm : 0 ≤ m ∧ m ≤ 1000) (s : Sp) (hs : -1000000 ≤ s.lo ∧ s.lo ≤ s.hi ∧ s.hi ≤ 1000000) (hw : Hp w (.blk b9 (.cells [Value.int .i64 m].toArray 3 (0, 0)) :: .blk b8 (.cells [Value.slice ay bys.length cy].toArray 56 (0, 0)) :: .reg 0 w :: rest) w2) : Calls Try.prog 64 #[.agg (spRow s).toArray, .pointer (some ⟨b9, 0, none⟩), .pointer (some ⟨b8, 0, none⟩)] w2 fun e w' => ∃ n : Int, (s.lo ≤ n ∧ n ≤ s.hi) ∧ e = .returned (.int .i64 n) ∧ Hp w (.blk b9 (.cells [Value.int .i64 (m + 1)].toArray 3 (0, 0)) :: .blk b8 (.cells [Value.slice ay bys.length cy].toArray 56 (0, 0)) :: .reg 0 w :: rest) w' := by
  refine calls_of_SCr (hw := hw) (args := [.agg (spRow s).toArray, .pointer (some ⟨b9, 0, none⟩), .pointer (some ⟨b8, 0, none⟩)]) Try.func64 rfl Try.ntmps64 rfl ?_
  simp only [argL, Nat.reduceAdd, Nat.zero_add]
  obtain ⟨j, hj⟩ : ∃ j : Nat, (m + 1) % (bys.length : Int) = j := ⟨((m + 1) % (bys.length : Int)).toNat, by have := Int.emod_nonneg (m + 1) (show (bys.length : Int) ≠ 0 by omega); omega⟩
  have hjl : j < bys.length := by have := Int.emod_lt_of_pos (m + 1) (show (0 : Int) < bys.length by omega); omega
  have hsy := (hy.get 0 hjl).1
  have hcy := (hy.get 0 hjl).2
  have huj := u_get hu hjl
  have hylen := hy.len
  refine sc_seq ?_
  refine sc_region ?_
  refine sq_box RF rfl (fun b3 => ?_)
  refine qs (y_assign RF) ?_
  refine sq_nil ?_
  refine sx_then ?_
  refine sc_seq ?_
  refine sc_region ?_
  refine qs LD3 ?_
  refine qs (y_add RF RF (by omega)) ?_
  refine sq_store Try.sizeOf3 RF RF (by first | rfl | assumption) RM (by first | exact Nat.le_of_ble_eq_true rfl | simp | omega) ?_
  refine sq_nil ?_
  refine sx_then ?_
  refine sc_seq ?_
  refine sc_draw rfl (by kernel_rfl) (by kernel_rfl) ?_
  refine qq_y (OpY.s FA24_3) rfl ?_
  refine qq_y (OpY.s LD3) rfl ?_
  refine qq_y (OpY.s LD56) rfl ?_
  refine qq_y (OpY.s LD3) rfl ?_
  refine qq_y (OpY.s LD56) rfl ?_
  refine qq_y (OpY.s (y_len Try.underlying56 RF)) rfl ?_
  refine qq_y (OpY.s (y_rem RF RF (by omega) (by omega))) rfl ?_
  refine qq_y (OpY.s (by first | exact y_ia_blk Try.underlying56 Try.sizeOf67 RF (lk_int rfl hj) (by omega) | exact y_ia_el Try.underlying56 Try.sizeOf67 RF (lk_int rfl hj) (by omega) (by first | assumption | simp))) rfl ?_
  refine qq_y (OpY.s (by first | exact y_load_ca0 Try.underlying67 rfl RF MM hcy rfl | exact LD67)) rfl ?_
  refine qq_y (OpY.s LD3) rfl ?_
  refine qq_y (OpY.s (y_rem RF RF (by omega) (by omega))) rfl ?_
  refine qq_y (OpY.s (y_shr RF RF (by first | decide | (simp [IntKind.bits]; omega)))) rfl ?_
  refine qq_y (OpY.s (y_conv Try.underlying67 Try.underlying3 RF (by have := u_shr huj ((m + 1) % 7).toNat; exact wrap64_in (by omega) (by omega)))) rfl ?_
  refine qq_y (OpY.s FA24_3) rfl ?_
  refine qq_y (OpY.s LD3) rfl ?_
  refine qq_y (OpY.s FA24_3) rfl ?_
  refine qq_y (OpY.s LD3) rfl ?_
  refine qq_y (OpY.s (y_sub RF RF (by omega))) rfl ?_
  refine qq_y (OpY.s (y_add RF RF (by omega))) rfl ?_
  refine qq_y (OpY.s (y_rem RF RF (by first | omega | exact (u_shr huj _).1) (by first | omega | exact (u_shr huj _).1))) rfl ?_
  obtain ⟨d, hd⟩ : ∃ d : Int, d = (bys.getD j 0 / 2 ^ ((m + 1) % 7).toNat) % (s.hi - s.lo + 1) := ⟨_, rfl⟩
  rw [← hd]
  have hdb : 0 ≤ d ∧ d < s.hi - s.lo + 1 := ⟨by rw [hd]; exact Int.emod_nonneg _ (by omega), by rw [hd]; exact Int.emod_lt_of_pos _ (by omega)⟩
  refine qq_y (OpY.s (y_add RF RF (by omega))) rfl ?_
  refine qq_y (OpY.s (y_assign RF)) rfl ?_
  refine qq_nil ?_
  refine sx_then ?_
  refine sc_ret ?_
  refine sx_ret1 (.inl rfl) rfl Try.results64 RF ?_
  intro w' hw'
  exact ⟨s.lo + d, by omega, rfl, hw'.sel SR⟩
theorem wt_bd {m p q lo hi : Int} (hm : 0 < m) (hm2 : m ≤ 2003) (hlo : 0 ≤ lo) (hhi : hi ≤ 100000) (hp : lo ≤ p ∧ p ≤ hi) (hq : lo ≤ q ∧ q ≤ hi) : (m * lo ≤ p + (m - 1) * q ∧ p + (m - 1) * q ≤ m * hi) ∧ 0 ≤ (m - 1) * q ∧ (m - 1) * q ≤ 200300000 := by
  have h1 : (m - 1) * lo ≤ (m - 1) * q := Int.mul_le_mul_of_nonneg_left hq.1 (by omega)
  have h2 : (m - 1) * q ≤ (m - 1) * hi := Int.mul_le_mul_of_nonneg_left hq.2 (by omega)
  have h3 : (m - 1) * lo = m * lo - lo := by rw [Int.sub_mul, Int.one_mul]
  have h4 : (m - 1) * hi = m * hi - hi := by rw [Int.sub_mul, Int.one_mul]
  have h5 := mul_bd (a := m - 1) (b := q) (A := 2002) (B := 100000) (by omega) (by omega)
  omega
theorem ofV_scale {b : Bx} {t : Te} (h : t.how = 0) (i : Nat) (m : Int) : ofV b t i m = ⟨m * (b.kinds.getD i kd0).wt.lo, m * (b.kinds.getD i kd0).wt.hi⟩ := by unfold ofV; rw [if_pos h]
theorem ofV_cam {b : Bx} {t : Te} (h : ¬ t.how = 0) (i : Nat) (m : Int) : ofV b t i m = if inS t.set i = true then ⟨m, m⟩ else sp0 := by unfold ofV; rw [if_neg h]
theorem readK_succ (b : Bx) (t : Te) (L : List Int) (k : Nat) : readK b t L (k + 1) = plusV (readK b t L k) (ofV b t k ((b.kinds.getD k kd0).many + L.getD k 0)) := rfl
theorem truly35 (w : World) (b : Bx) (a : Option Addr) (c : Nat) (hB : RowsA kdRow 3 0 w a b.kinds) (hok : bxB b = true) (al : Option Addr) (cl : Nat) (L : List Int) (hl : RowsA iRow 1 0 w al L) (hh : HasOk b L) (t : Te) (ht : teB b t = true) (ay : Option Addr) (cy : Nat) (bys : List Int) (hy : RowsA uRow 1 0 w ay bys) (hu : ∀ x, x ∈ bys → isU x) (h0 : 0 < bys.length) (at_ : Int) (hat : 0 ≤ at_ ∧ at_ ≤ 100) : Calls Try.prog 35 #[.agg (bxRow b a c).toArray, .slice al L.length cl, .agg (teRow t).toArray, .slice ay bys.length cy, .int .i64 at_] w fun e w' => (∃ n : Int, e = .returned (.int .i64 n) ∧ (readV b t L).lo ≤ n ∧ n ≤ (readV b t L).hi) ∧ Below w.heap.size w w' := by
  have hbp := bxB_parts hok
  have htp := teB_parts ht
  have hrd := readK_bd hok ht hh
  have hhl := hh.len
  have hpw := pw2_le (show b.kinds.length ≤ 20 by omega)
  obtain ⟨st, hst, hsb⟩ : ∃ st : Nat, (t.how = 1 → t.set = st) ∧ (st : Int) ≤ 1048576 := by
    by_cases h1 : t.how = 1
    · exact ⟨t.set.toNat, fun _ => by omega, by omega⟩
    · exact ⟨0, fun h => absurd h h1, by omega⟩
  refine calls_of_SC (args := [.agg (bxRow b a c).toArray, .slice al L.length cl, .agg (teRow t).toArray, .slice ay bys.length cy, .int .i64 at_]) Try.func35 rfl Try.ntmps35 rfl ?_
  simp only [argL, Nat.reduceAdd, Nat.zero_add]
  refine sc_seq ?_
  refine sc_region ?_
  refine sq_box RF rfl (fun b5 => ?_)
  refine sq_box RF rfl (fun b7 => ?_)
  refine sq_box RF rfl (fun b8 => ?_)
  refine sq_box RF rfl (fun b9 => ?_)
  refine qs (y_assign RF) ?_
  refine sq_nil ?_
  refine sx_then ?_
  refine sc_seq ?_
  refine sc_region ?_
  refine qs (y_makeFunc EvL.nil (EvL.cons RF (EvL.cons RF EvL.nil))) ?_
  refine qs (y_assign RF) ?_
  refine sq_nil ?_
  refine sx_then ?_
  refine sc_seq ?_
  refine sc_region ?_
  refine qs (y_move RF) ?_
  refine qs FA29_24 ?_
  refine qs LD24 ?_
  refine sq_call_fr (first := []) (caps := [.pointer (some ⟨b9, 0, none⟩), .pointer (some ⟨b8, 0, none⟩)]) (vs := [.agg (spRow t.err).toArray]) (rs1 := [.blk b9 (.cells [Value.int .i64 at_].toArray 3 (0, 0)), .blk b8 (.cells [Value.slice ay bys.length cy].toArray 56 (0, 0)), .reg 0 w]) (Z := Int) (fun z => .int .i64 z) (fun _ => [.blk b9 (.cells [Value.int .i64 (at_ + 1)].toArray 3 (0, 0)), .blk b8 (.cells [Value.slice ay bys.length cy].toArray 56 (0, 0)), .reg 0 w]) (fun z => t.err.lo ≤ z ∧ z ≤ t.err.hi) RF Try.call64 E1 (by repeat (first | exact Rems.nil | apply Rems.cons (by repeat (first | exact Rem.here | apply Rem.there)))) (fun w1 hw1 => pick64 w w1 _ b9 b8 ay cy bys hy hu h0 (at_) (by omega) t.err (by omega) hw1) rfl (fun n1 hn1 => ?_)
  refine qs (y_assign RF) ?_
  refine sq_nil ?_
  refine sx_then ?_
  refine sc_seq ?_
  refine sc_seq ?_
  refine sc_region ?_
  refine qs FA29_3 ?_
  refine qs LD3 ?_
  refine qs (y_eql RF RF) ?_
  refine sq_nil ?_
  refine sx_then ?_
  refine sc_midE (Z := {x : Int × Int // ((besV b t).lo ≤ x.1 ∧ x.1 ≤ (besV b t).hi) ∧ 0 ≤ x.2 ∧ x.2 ≤ 102}) (fun z => [(1, .slice al L.length cl), (5, .pointer (some ⟨b5, 0, none⟩)), (7, .pointer (some ⟨b7, 0, none⟩)), (11, .func (.func 64) #[] #[.pointer (some ⟨b9, 0, none⟩), .pointer (some ⟨b8, 0, none⟩)]), (12, .int .i64 z.1.1)]) (fun z => [.blk b9 (.cells [Value.int .i64 z.1.2].toArray 3 (0, 0)), .blk b8 (.cells [Value.slice ay bys.length cy].toArray 56 (0, 0)), .blk b7 (.cells (teRow t).toArray 29 (0, 0)), .blk b5 (.cells (bxRow b a c).toArray 26 (0, 0)), .reg 0 w]) ?_ ?_
  ·
    refine scp (fun hc0 => ?_) (fun hc0 => ?_)
    ·
      refine sc_region ?_
      refine qs (y_move RF) ?_
      refine qs (y_move RF) ?_
      refine qs FA26_24 ?_
      refine qs LD24 ?_
      refine sq_call_fr (first := []) (caps := [.pointer (some ⟨b9, 0, none⟩), .pointer (some ⟨b8, 0, none⟩)]) (vs := [.agg (spRow b.bag).toArray]) (rs1 := [.blk b9 (.cells [Value.int .i64 (at_ + 1)].toArray 3 (0, 0)), .blk b8 (.cells [Value.slice ay bys.length cy].toArray 56 (0, 0)), .reg 0 w]) (Z := Int) (fun z => .int .i64 z) (fun _ => [.blk b9 (.cells [Value.int .i64 ((at_ + 1) + 1)].toArray 3 (0, 0)), .blk b8 (.cells [Value.slice ay bys.length cy].toArray 56 (0, 0)), .reg 0 w]) (fun z => b.bag.lo ≤ z ∧ z ≤ b.bag.hi) RF Try.call64 E1 (by repeat (first | exact Rems.nil | apply Rems.cons (by repeat (first | exact Rem.here | apply Rem.there)))) (fun w1 hw1 => pick64 w w1 _ b9 b8 ay cy bys hy hu h0 ((at_ + 1)) (by omega) b.bag (by omega) hw1) rfl (fun n2 hn2 => ?_)
      refine qs (y_add RF RF (by omega)) ?_
      refine qs (y_assign RF) ?_
      refine sq_nil ?_
      exact sx_midE (⟨(n1 + n2, at_ + 1 + 1), by unfold besV; rw [if_pos hc0]; dsimp only; omega⟩) SU SR
    ·
      refine sc_skip ?_
      exact sx_midE (⟨(n1, at_ + 1), by unfold besV; rw [if_neg hc0]; dsimp only; omega⟩) SU SR
  rintro ⟨⟨n, q⟩, hn⟩
  try dsimp only
  refine sx_then ?_
  refine sc_seq ?_
  refine sc_seq ?_
  refine sc_region ?_
  refine qs FA26_22 ?_
  refine qs LD22 ?_
  refine qs (y_len Try.underlying22 RF) ?_
  refine qs (y_move RF) ?_
  refine sq_nil ?_
  refine sx_then ?_
  refine sc_block ?_
  refine sc_loop (σ := Nat × Int × Int)
    (fun s => [(1, .slice al L.length cl), (5, .pointer (some ⟨b5, 0, none⟩)), (7, .pointer (some ⟨b7, 0, none⟩)), (11, .func (.func 64) #[] #[.pointer (some ⟨b9, 0, none⟩), .pointer (some ⟨b8, 0, none⟩)]), (12, .int .i64 s.2.1), (31, .slice a b.kinds.length c), (32, .int .i64 b.kinds.length), (33, .int .i64 s.1)])
    (fun s => [.blk b9 (.cells [Value.int .i64 s.2.2].toArray 3 (0, 0)), .blk b8 (.cells [Value.slice ay bys.length cy].toArray 56 (0, 0)), .blk b7 (.cells (teRow t).toArray 29 (0, 0)), .blk b5 (.cells (bxRow b a c).toArray 26 (0, 0)), .reg 0 w])
    (fun s => s.1 ≤ b.kinds.length ∧ ((readK b t L s.1).lo ≤ s.2.1 ∧ s.2.1 ≤ (readK b t L s.1).hi) ∧ 0 ≤ s.2.2 ∧ s.2.2 ≤ 102 + 2 * s.1)
    (fun s => b.kinds.length - s.1)
    ((0, n, q)) ?_ SU SR ?_
  · exact ⟨Nat.zero_le _, hn.1, by dsimp only at hn ⊢; omega⟩
  rintro ⟨k, n, q⟩ ⟨hk, hn, hq⟩
  dsimp only at hk hn hq ⊢
  have hrk := hrd k (by omega)
  refine sc_seq ?_
  refine sc_region ?_
  refine qs (y_lss RF RF) ?_
  refine sq_nil ?_
  refine sx_then ?_
  refine sc_seq ?_
  refine scp (fun hc1 => ?_) (fun hc1 => ?_)
  ·
    have hk' : k < b.kinds.length := by omega
    have hsm := (hB.get kd0 hk').1
    have hca := (hB.get kd0 hk').2
    have hkl : k < L.length := by omega
    have hsl := (hl.get 0 hkl).1
    have hcl := (hl.get 0 hkl).2
    have hkb := kd_bd hok hk'
    have hhb := hh.bd k hkl
    refine sc_skip ?_
    refine sx_then ?_
    refine sc_seq ?_
    refine sc_block ?_
    refine sc_seq ?_
    refine sc_region ?_
    refine qs (y_move RF) ?_
    refine qs IA22 ?_
    refine qs (by first | exact y_load_ca Try.underlying74 rfl Try.sizeOf74 RF MM hca rfl | exact LD74) ?_
    refine sq_alloc Try.zeroValue74 rfl (fun b14 => ?_)
    refine qs (y_assign RF) ?_
    refine sq_store_all Try.sizeOf74 RF RF rfl RM rfl rfl ?_
    refine sq_nil ?_
    refine sx_then ?_
    refine sc_seq ?_
    refine sc_draw rfl (by kernel_rfl) (by kernel_rfl) ?_
    refine qq_y (OpY.s FA74_3) rfl ?_
    refine qq_y (OpY.s LD3) rfl ?_
    refine qq_y (OpY.s (y_move RF)) rfl ?_
    refine qq_y (OpY.s (y_move RF)) rfl ?_
    refine qq_y (OpY.s IA27) rfl ?_
    refine qq_y (OpY.s (by first | exact y_load_ca0 Try.underlying3 rfl RF MM hcl rfl | exact LD3)) rfl ?_
    refine qq_y (OpY.s (y_add RF RF (by omega))) rfl ?_
    refine qq_y (OpY.s (y_assign RF)) rfl ?_
    refine qq_nil ?_
    refine sx_then ?_
    refine sc_block ?_
    refine sc_seq ?_
    refine sc_region ?_
    refine qs FA29_3 ?_
    refine qs LD3 ?_
    refine qs (y_eql RF RF) ?_
    refine qs (y_assign RF) ?_
    refine sq_nil ?_
    refine sx_then ?_
    refine scp (fun hc2 => ?_) (fun hc2 => ?_)
    ·
      have hst1 := hst hc2
      refine sc_seq ?_
      refine sc_region ?_
      refine qs FA29_3 ?_
      refine qs (by first | exact y_load_blk (v := .int .i64 st) Try.underlying3 rfl RF MM (by rw [← hst1]; rfl) | exact LD3) ?_
      refine qs (y_move RF) ?_
      refine qs (y_shr RF RF (by simp [IntKind.bits]; omega)) ?_
      refine qs (y_and RF RF (shr_bd hsb k) (by omega)) ?_
      refine qs (y_eql RF RF) ?_
      rw [bit_one]
      refine sq_nil ?_
      refine sx_then ?_
      refine scp (fun hc3 => ?_) (fun hc3 => ?_)
      ·
        have hin : inS t.set k = true := by rw [hst1]; simpa [inS] using hc3
        refine sc_region ?_
        refine qs (y_move RF) ?_
        refine qs (y_move RF) ?_
        refine qs (y_add RF RF (by omega)) ?_
        refine qs (y_assign RF) ?_
        refine sq_nil ?_
        refine sx_blk ?_
        refine sx_blk ?_
        refine sx_then ?_
        refine sc_region ?_
        refine qs (y_add RF RF (by omega)) ?_
        refine qs (y_move RF) ?_
        refine sq_nil ?_
        refine sx_round ((k + 1, n + ((b.kinds.getD k kd0).many + L.getD k 0), q)) ?_ ?_ SU SR
        · refine ⟨by dsimp only; omega, ?_, by dsimp only; omega⟩
          dsimp only
          rw [readK_succ]
          unfold plusV
          dsimp only
          rw [ofV_cam (by omega), if_pos hin]
          dsimp only; omega
        · dsimp only; omega
      ·
        have hin : ¬ inS t.set k = true := by rw [hst1]; simpa [inS] using hc3
        refine sc_skip ?_
        refine sx_blk ?_
        refine sx_blk ?_
        refine sx_then ?_
        refine sc_region ?_
        refine qs (y_add RF RF (by omega)) ?_
        refine qs (y_move RF) ?_
        refine sq_nil ?_
        refine sx_round ((k + 1, n, q)) ?_ ?_ SU SR
        · refine ⟨by dsimp only; omega, ?_, by dsimp only; omega⟩
          dsimp only
          rw [readK_succ]
          unfold plusV
          dsimp only
          rw [ofV_cam (by omega), if_neg hin]
          unfold sp0; dsimp only; omega
        · dsimp only; omega
    ·
      have h00 : t.how = 0 := by omega
      refine sc_seq ?_
      refine sc_region ?_
      refine qs (y_move RF) ?_
      refine qs (y_gtr RF RF) ?_
      refine qs (y_assign RF) ?_
      refine sq_nil ?_
      refine sx_then ?_
      refine scp (fun hc4 => ?_) (fun hc4 => ?_)
      ·
        refine sc_drawX ([.blk b14 (.cells (kdRow (b.kinds.getD k kd0)).toArray 74 (0, 0))]) (by kernel_rfl) ?_
        refine xj_s 0 RF (by kernel_rfl) SR (y_move RF) rfl ?_
        refine xj_s 1 RF (by kernel_rfl) SR (y_move RF) rfl ?_
        refine xj_s 2 RF (by kernel_rfl) SR FA74_24 rfl ?_
        refine xj_s 3 RF (by kernel_rfl) SR LD24 rfl ?_
        refine xj_s 5 RF (by kernel_rfl) SR (y_move RF) rfl ?_
        refine xj_s 6 RF (by kernel_rfl) SR (y_sub RF RF (by omega)) rfl ?_
        refine xj_s 7 RF (by kernel_rfl) SR (y_move RF) rfl ?_
        refine xj_s 8 RF (by kernel_rfl) SR FA74_24 rfl ?_
        refine xj_s 9 RF (by kernel_rfl) SR LD24 rfl ?_
        refine xj_one 4 RF (by kernel_rfl) ?_
        refine sq_call_fr (first := []) (caps := [.pointer (some ⟨b9, 0, none⟩), .pointer (some ⟨b8, 0, none⟩)]) (vs := [.agg (spRow (b.kinds.getD k kd0).wt).toArray]) (rs1 := [.blk b9 (.cells [Value.int .i64 q].toArray 3 (0, 0)), .blk b8 (.cells [Value.slice ay bys.length cy].toArray 56 (0, 0)), .reg 0 w]) (Z := Int) (fun z => .int .i64 z) (fun _ => [.blk b9 (.cells [Value.int .i64 (q + 1)].toArray 3 (0, 0)), .blk b8 (.cells [Value.slice ay bys.length cy].toArray 56 (0, 0)), .reg 0 w]) (fun z => (b.kinds.getD k kd0).wt.lo ≤ z ∧ z ≤ (b.kinds.getD k kd0).wt.hi) RF Try.call64 E1 (by repeat (first | exact Rems.nil | apply Rems.cons (by repeat (first | exact Rem.here | apply Rem.there)))) (fun w1 hw1 => pick64 w w1 _ b9 b8 ay cy bys hy hu h0 (q) (by omega) (b.kinds.getD k kd0).wt (by omega) hw1) rfl (fun p1 hp1 => ?_)
        refine sq_nil ?_
        refine sx_xp SR ?_
        refine xj_one 10 RF (by kernel_rfl) ?_
        refine sq_call_fr (first := []) (caps := [.pointer (some ⟨b9, 0, none⟩), .pointer (some ⟨b8, 0, none⟩)]) (vs := [.agg (spRow (b.kinds.getD k kd0).wt).toArray]) (rs1 := [.blk b9 (.cells [Value.int .i64 (q + 1)].toArray 3 (0, 0)), .blk b8 (.cells [Value.slice ay bys.length cy].toArray 56 (0, 0)), .reg 0 w]) (Z := Int) (fun z => .int .i64 z) (fun _ => [.blk b9 (.cells [Value.int .i64 ((q + 1) + 1)].toArray 3 (0, 0)), .blk b8 (.cells [Value.slice ay bys.length cy].toArray 56 (0, 0)), .reg 0 w]) (fun z => (b.kinds.getD k kd0).wt.lo ≤ z ∧ z ≤ (b.kinds.getD k kd0).wt.hi) RF Try.call64 E1 (by repeat (first | exact Rems.nil | apply Rems.cons (by repeat (first | exact Rem.here | apply Rem.there)))) (fun w1 hw1 => pick64 w w1 _ b9 b8 ay cy bys hy hu h0 ((q + 1)) (by omega) (b.kinds.getD k kd0).wt (by omega) hw1) rfl (fun p2 hp2 => ?_)
        refine sq_nil ?_
        refine sx_xp SR ?_
        have hwt := wt_bd (m := ((b.kinds.getD k kd0).many + L.getD k 0)) (p := p1) (q := p2) (lo := (b.kinds.getD k kd0).wt.lo) (hi := (b.kinds.getD k kd0).wt.hi) (by omega) (by omega) (by omega) (by omega) hp1 hp2
        refine xj_s 11 RF (by kernel_rfl) SR (y_mul RF RF (by omega)) rfl ?_
        refine xj_s 12 RF (by kernel_rfl) SR (y_add RF RF (by omega)) rfl ?_
        refine xj_s 13 RF (by kernel_rfl) SR (y_add RF RF (by omega)) rfl ?_
        refine xj_s 14 RF (by kernel_rfl) SR (y_assign RF) rfl ?_
        refine xj_done (by kernel_rfl) ?_
        refine sx_blk ?_
        refine sx_blk ?_
        refine sx_then ?_
        refine sc_region ?_
        refine qs (y_add RF RF (by omega)) ?_
        refine qs (y_move RF) ?_
        refine sq_nil ?_
        refine sx_round ((k + 1, n + (p1 + (((b.kinds.getD k kd0).many + L.getD k 0) - 1) * p2), q + 1 + 1)) ?_ ?_ SU SR
        · refine ⟨by dsimp only; omega, ?_, by dsimp only; omega⟩
          dsimp only
          rw [readK_succ]
          unfold plusV
          dsimp only
          rw [ofV_scale h00]
          dsimp only; omega
        · dsimp only; omega
      ·
        refine sc_skip ?_
        refine sx_blk ?_
        refine sx_blk ?_
        refine sx_then ?_
        refine sc_region ?_
        refine qs (y_add RF RF (by omega)) ?_
        refine qs (y_move RF) ?_
        refine sq_nil ?_
        refine sx_round ((k + 1, n, q)) ?_ ?_ SU SR
        · refine ⟨by dsimp only; omega, ?_, by dsimp only; omega⟩
          dsimp only
          rw [readK_succ]
          unfold plusV
          dsimp only
          rw [ofV_scale h00, show ((b.kinds.getD k kd0).many + L.getD k 0) = 0 from by omega, Int.zero_mul, Int.zero_mul]
          dsimp only; omega
        · dsimp only; omega
  ·
    have hkn : k = b.kinds.length := by omega
    subst hkn
    refine sc_exit ?_
    refine sx_then_exit ?_
    refine sx_round_exit ?_
    refine sx_blk_hit ?_
    refine sx_then ?_
    refine sc_seq ?_
    refine sc_region ?_
    refine qs (y_move RF) ?_
    refine qs (y_assign RF) ?_
    refine sq_nil ?_
    refine sx_then ?_
    refine sc_ret ?_
    refine sx_ret1 (.inl rfl) rfl Try.results35 RF ?_
    intro w' hw'
    exact ⟨⟨n, rfl, by unfold readV; rw [hhl]; exact hn⟩, hw'.below MM⟩
end Go.Proofs.Ytofjipmheckmjaa
