/- The walks of sums, of vectors, of a wish's licence and what it brings, of what is lacking and what is paid for it. -/
import Derived.Test.YtpodaihifdlkkaaDoorWalk5
import Derived.Test.YtpodaihifdlkkaaDoorEng19
namespace Go.Proofs.YtpodaihifdlkkaaDoor
open Go Go.Eng Go.RowKit Go.Proofs
set_option maxRecDepth 100000
theorem getD_of {α : Type} {l : List α} {i : Nat} {d x : α} (h : l[i]? = some x) : l.getD i d = x := by rw [List.getD_eq_getElem?_getD, h]; rfl
theorem iRow_len : ∀ x, (iRow x).length = 1 := fun _ => rfl
theorem flat_ilen (done : List Int) : (done.flatMap iRow).length = done.length := by
  have := flat_len (row := iRow) (sz := 1) (fun _ => rfl) done; omega
theorem flat_ione (l : List Int) : ∀ u ∈ l.flatMap iRow, u.oneCell' = true := flat_one (fun _ u hu => by simp [iRow] at hu; subst hu; rfl) l
theorem flat_iget {l : List Int} {i : Nat} {x : Int} (h : l[i]? = some x) : (l.flatMap iRow)[i * 1]? = some (.int .i64 x) := flat_get iRow_len l i x h 0 _ rfl
theorem iset : ∀ (l : List Int) (k : Nat) (x : Int), (l.flatMap iRow).set (k * 1 + 0) (.int .i64 x) = (l.set k x).flatMap iRow
  | [], _, _ => rfl
  | _ :: _, 0, _ => rfl
  | a :: l, k + 1, x => by
    rw [List.set_cons_succ, List.flatMap_cons, List.flatMap_cons, ← iset l k x]
    rfl
theorem irep (n : Nat) : madeCells (Value.int .i64 0).cells (n * 1) = ((List.replicate n (0 : Int)).flatMap iRow).toArray := by
  rw [Nat.mul_one]
  show madeCells #[.int .i64 0] n = _
  rw [madeCells_one]; congr 1
  induction n with
  | zero => rfl
  | succ n ih => rw [List.replicate_succ, List.replicate_succ, List.flatMap_cons, ← ih]; rfl
theorem mul_bd2 {n a A B : Int} (hn : 0 ≤ n ∧ n ≤ A) (ha : 0 ≤ a ∧ a ≤ B) : 0 ≤ n * a ∧ n * a ≤ A * B :=
  ⟨Int.mul_nonneg hn.1 ha.1, Int.le_trans (Int.mul_le_mul_of_nonneg_right hn.2 ha.1) (Int.mul_le_mul_of_nonneg_left ha.2 (Int.le_trans hn.1 hn.2))⟩
/-! ### sums -/
def sumI (l : List Int) : Int := l.foldl (· + ·) 0
theorem sum_take {l : List Int} {k : Nat} (h : k < l.length) : sumI (l.take (k + 1)) = sumI (l.take k) + l.getD k 0 := by
  unfold sumI
  rw [List.take_add_one, List.getD_eq_getElem?_getD, List.getElem?_eq_getElem h, List.foldl_append]
  rfl
/-! ### vectors, changed one number after the other -/
def updK (n : Nat) (f g : Nat → Int) (k : Nat) : List Int := (List.range n).map fun i => if i < k then f i else g i
theorem updK_len (n : Nat) (f g : Nat → Int) (k : Nat) : (updK n f g k).length = n := by simp [updK]
theorem updK_get {n : Nat} (f g : Nat → Int) {k : Nat} (h : k < n) : (updK n f g k)[k]? = some (g k) := by simp [updK, List.getElem?_range h]
theorem updK_set {n : Nat} (f g : Nat → Int) {k : Nat} (_ : k < n) : (updK n f g k).set k (f k) = updK n f g (k + 1) := by
  apply List.ext_getElem
  · simp [updK]
  · intro i h1 h2
    simp only [updK, List.getElem_set, List.getElem_map, List.getElem_range]
    by_cases hk : k = i
    · subst hk; rw [if_pos rfl, if_pos (Nat.lt_succ_self _)]
    · rw [if_neg hk]
      by_cases hi : i < k
      · rw [if_pos hi, if_pos (by omega)]
      · rw [if_neg hi, if_neg (by omega)]
theorem updK_0 (n : Nat) (f g : Nat → Int) : updK n f g 0 = (List.range n).map g := by simp [updK]
theorem updK_n (n : Nat) (f g : Nat → Int) : updK n f g n = (List.range n).map f := by
  unfold updK
  apply List.map_congr_left
  intro i hi
  rw [if_pos (List.mem_range.1 hi)]
theorem range_getD (l : List Int) : (List.range l.length).map (fun i => l.getD i 0) = l := by
  apply List.ext_getElem
  · simp
  · intro i h1 h2
    simp [List.getD_eq_getElem?_getD, h2]
theorem range_zero (n : Nat) : (List.range n).map (fun _ => (0 : Int)) = List.replicate n 0 := by
  apply List.ext_getElem
  · simp
  · intro i h1 h2; simp
/-! ### a valid store -/
structure StF (s : So) : Prop where
  sh1 : 1 ≤ s.sh.length ∧ s.sh.length ≤ 4
  li1 : 1 ≤ s.li.length ∧ s.li.length ≤ 5
  mk1 : 1 ≤ s.mks.length ∧ s.mks.length ≤ 6
  wi1 : s.wi.length ≤ 9
  sh : ∀ x, x ∈ s.sh → shB x = true
  li : ∀ x, x ∈ s.li → liB x = true
  mks : ∀ x, x ∈ s.mks → mkB s x = true
  wi : ∀ x, x ∈ s.wi → wiB s x = true
theorem stF {s : So} (h : stB s = true) : StF s := by
  unfold stB at h
  simp only [Bool.and_eq_true, List.all_eq_true] at h
  obtain ⟨⟨⟨⟨⟨⟨⟨h1, h2⟩, h3⟩, h4⟩, h5⟩, h6⟩, h7⟩, h8⟩ := h
  have g1 := of_decide_eq_true h1
  have g2 := of_decide_eq_true h2
  have g3 := of_decide_eq_true h3
  have g4 := of_decide_eq_true h4
  exact ⟨by omega, by omega, by omega, g4, h5, h6, h7, h8⟩
theorem sh_parts {x : Sh} (h : shB x = true) : (0 ≤ x.many.lo ∧ x.many.lo ≤ x.many.hi ∧ x.many.hi ≤ 100000) ∧ 0 ≤ x.cost ∧ x.cost ≤ 10000 := by
  unfold shB at h; rw [Bool.and_eq_true] at h
  exact ⟨of_decide_eq_true h.1, of_decide_eq_true h.2⟩
theorem li_parts {x : Li} (h : liB x = true) : (0 ≤ x.copies ∧ x.copies ≤ 1000) ∧ (0 ≤ x.from_ ∧ x.from_ ≤ x.to_ ∧ x.to_ ≤ 1048576) ∧ 0 ≤ x.fee ∧ x.fee ≤ 10000 := by
  unfold liB at h; rw [Bool.and_eq_true, Bool.and_eq_true] at h
  exact ⟨of_decide_eq_true h.1.1, of_decide_eq_true h.1.2, of_decide_eq_true h.2⟩
theorem mk_parts {s : So} {x : Mk} (h : mkB s x = true) : (0 ≤ x.pic ∧ x.pic ≤ (s.li.length : Int) - 1) ∧ x.tk.length = s.sh.length ∧ ∀ n, n ∈ x.tk → 0 ≤ n ∧ n ≤ 20 := by
  unfold mkB at h; rw [Bool.and_eq_true, Bool.and_eq_true, List.all_eq_true] at h
  exact ⟨of_decide_eq_true h.1.1, of_decide_eq_true h.1.2, fun n hn => of_decide_eq_true (h.2 n hn)⟩
structure WiF (s : So) (x : Wi) : Prop where
  puz : 0 ≤ x.puz ∧ x.puz ≤ (s.mks.length : Int) - 1
  many : 1 ≤ x.many ∧ x.many ≤ 1000
  hour : 0 ≤ x.hour ∧ x.hour ≤ 1048576
  price : 0 ≤ x.price ∧ x.price ≤ 10000
  ship : 0 ≤ x.ship ∧ x.ship ≤ 100000
theorem wi_parts {s : So} {x : Wi} (h : wiB s x = true) : WiF s x := by
  unfold wiB at h; simp only [Bool.and_eq_true] at h
  obtain ⟨⟨⟨⟨h1, h2⟩, h3⟩, h4⟩, h5⟩ := h
  exact ⟨of_decide_eq_true h1, of_decide_eq_true h2, of_decide_eq_true h3, of_decide_eq_true h4, of_decide_eq_true h5⟩
def mkOf (s : So) (x : Wi) : Mk := s.mks.getD x.puz.toNat mk0
def licOf (s : So) (x : Wi) : Li := s.li.getD (mkOf s x).pic.toNat li0
structure IdxF (s : So) (x : Wi) : Prop where
  p0 : x.puz = ((x.puz.toNat : Nat) : Int)
  p1 : x.puz.toNat < s.mks.length
  l0 : (mkOf s x).pic = (((mkOf s x).pic.toNat : Nat) : Int)
  l1 : (mkOf s x).pic.toNat < s.li.length
  tl : (mkOf s x).tk.length = s.sh.length
  tk : ∀ k, k < s.sh.length → 0 ≤ (mkOf s x).tk.getD k 0 ∧ (mkOf s x).tk.getD k 0 ≤ 20
  fee : 0 ≤ (licOf s x).fee ∧ (licOf s x).fee ≤ 10000
theorem idxF {s : So} {x : Wi} (hv : StF s) (hx : wiB s x = true) : IdxF s x := by
  have h1 := wi_parts hx
  have hp := h1.puz
  have h2 : x.puz.toNat < s.mks.length := by omega
  have h3 := mk_parts (hv.mks _ (getD_mem (d := mk0) h2))
  have h4 : (mkOf s x).pic.toNat < s.li.length := by have := h3.1; unfold mkOf; omega
  refine ⟨by omega, h2, by have := h3.1; unfold mkOf; omega, h4, h3.2.1, fun k hk => h3.2.2 _ (getD_mem (by rw [h3.2.1]; exact hk)), (li_parts (hv.li _ (getD_mem (d := li0) h4))).2.2⟩
def bringsV (s : So) (x : Wi) : Int := sumI [x.many * x.price, -x.many * (licOf s x).fee, -x.ship]
theorem lit_i3 {w0 w : World} {rs : List Res} (hw : Hp w0 rs w) {g : Nat} {x y u : Int} {e : TypeId} {fz : Nat × Nat} (hm : Res.blk g (.cells [Value.int .i64 x, .int .i64 y, .int .i64 u].toArray e fz) ∈ rs) : RowsA iRow 1 0 w (some ⟨g, 0, none⟩) [x, y, u] := lit_rowsA (row := iRow) (l := [x, y, u]) (fun _ => rfl) hw hm rfl (by simp)
theorem lit_i2 {w0 w : World} {rs : List Res} (hw : Hp w0 rs w) {g : Nat} {x y : Int} {e : TypeId} {fz : Nat × Nat} (hm : Res.blk g (.cells [Value.int .i64 x, .int .i64 y].toArray e fz) ∈ rs) : RowsA iRow 1 0 w (some ⟨g, 0, none⟩) [x, y] := lit_rowsA (row := iRow) (l := [x, y]) (fun _ => rfl) hw hm rfl (by simp)

theorem bt72 : BT Tryd.prog 72 [(0, 1)] (.agg #[.nilFunc]) := BT.of Tryd.underlying72 (by kernel_rfl) (by kernel_rfl)
theorem bt27 : BT Tryd.prog 27 [(0, 1), (1, 1), (2, 1), (3, 1)] (.agg #[.slice none 0 0, .slice none 0 0, .slice none 0 0, .slice none 0 0]) := BT.of Tryd.underlying27 (by kernel_rfl) (by kernel_rfl)
theorem bt60 : BT Tryd.prog 60 [(0, 4)] (.agg #[.slice none 0 0, .slice none 0 0, .slice none 0 0, .slice none 0 0]) := BT.of Tryd.underlying60 (by kernel_rfl) (by kernel_rfl)
theorem bt57 : BT Tryd.prog 57 [(0, 1), (1, 1)] (.agg #[.int .i64 0, .slice none 0 0]) := BT.of Tryd.underlying57 (by kernel_rfl) (by kernel_rfl)
theorem ei57 : EI Tryd.prog 57 (.agg #[.int .i64 0, .slice none 0 0]) 2 32 := by unfold EI; kernel_rfl
theorem sum29 (w : World) (a : Option Addr) (c : Nat) (l : List Int) (hl : RowsA iRow 1 0 w a l) (hb : ∀ x, x ∈ l → -1000000000000 ≤ x ∧ x ≤ 1000000000000) (h4 : l.length ≤ 4) : Calls Tryd.prog 29 #[.slice a l.length c] w fun e w' => e = .returned (.int .i64 (sumI l)) ∧ Below w.heap.size w w' := by
  refine calls_of_SC (args := [.slice a l.length c]) Tryd.func29 rfl Tryd.ntmps29 rfl ?_
  simp only [argL]
  refine sc_seq ?_
  refine sc_region ?_
  refine qs (y_assign RF) ?_
  refine sq_nil ?_
  refine sx_then ?_
  refine sc_seq ?_
  refine sc_seq ?_
  refine sc_region ?_
  refine qs (y_move RF) ?_
  refine qs (y_len Tryd.underlying35 RF) ?_
  refine qs (y_move RF) ?_
  refine sq_nil ?_
  refine sx_then ?_
  refine sc_block ?_
  refine sc_loop (σ := Nat)
    (fun s => [(2, .int .i64 (sumI (l.take s))), (5, .slice a l.length c), (6, .int .i64 l.length), (7, .int .i64 s)])
    (fun s => [.reg 0 w])
    (fun s => s ≤ l.length ∧ -1000000000000 * (s : Int) ≤ sumI (l.take s) ∧ sumI (l.take s) ≤ 1000000000000 * (s : Int))
    (fun s => l.length - s)
    (0) ?_ SU SR ?_
  · exact ⟨Nat.zero_le _, by simp [sumI], by simp [sumI]⟩
  rintro k ⟨hk, hkb⟩
  refine sc_seq ?_
  refine sc_region ?_
  refine qs (y_lss RF RF) ?_
  refine sq_nil ?_
  refine sx_then ?_
  refine sc_seq ?_
  refine scp (fun hc0 => ?_) (fun hc0 => ?_)
  ·
    have hk' : k < l.length := by omega
    have hsm := (hl.get 0 hk').1
    have hca := (hl.get 0 hk').2
    have hbk := hb _ (getD_mem (d := 0) hk')
    have hst := sum_take hk'
    obtain ⟨q, hq⟩ : ∃ q, q = sumI (l.take k) := ⟨_, rfl⟩
    rw [← hq] at hst hkb ⊢
    refine sc_skip ?_
    refine sx_then ?_
    refine sc_seq ?_
    refine sc_block ?_
    refine sc_seq ?_
    refine sc_region ?_
    refine qs IA35 ?_
    refine qs (by first | exact y_load_ca0 Tryd.underlying3 rfl RF MM hca rfl | exact LD3) ?_
    refine qs (y_assign RF) ?_
    refine sq_nil ?_
    refine sx_then ?_
    refine sc_region ?_
    refine qs (y_move RF) ?_
    refine qs (y_move RF) ?_
    refine qs (y_add RF RF (by omega)) ?_
    rw [← hst]
    refine qs (y_assign RF) ?_
    refine sq_nil ?_
    refine sx_blk ?_
    refine sx_then ?_
    refine sc_region ?_
    refine qs (y_add RF RF (by omega)) ?_
    refine qs (y_move RF) ?_
    refine sq_nil ?_
    refine sx_round (k + 1) ?_ ?_ SU SR
    · refine ⟨by omega, ?_, ?_⟩ <;> (rw [hst]; omega)
    · omega
  ·
    have hkn : k = l.length := by omega
    rw [hkn, List.take_length]
    refine sc_exit ?_
    refine sx_then_exit ?_
    refine sx_round_exit ?_
    refine sx_blk_hit ?_
    refine sx_then ?_
    refine sc_seq ?_
    refine sc_region ?_
    refine qs (y_move RF) ?_
    refine qs (y_assign RF) ?_
    refine sq_nil ?_
    refine sx_then ?_
    refine sc_ret ?_
    refine sx_ret1 (.inl rfl) rfl Tryd.results29 RF ?_
    intro w' hw'
    exact ⟨rfl, hw'.below MM⟩
theorem clone53 (w : World) (ad : Addr) (cl : Nat) (l : List Int) (hl : RowsA iRow 1 0 w (some ad) l) (hb : l.length ≤ 100000) : Calls Tryd.prog 53 #[.slice (some ad) l.length cl] w fun e w' => ∃ v, e = .returned v ∧ Below w.heap.size w w' ∧ v.oneCell' = true ∧ w'.ownsRow w.heap.size 3 1 v l.length (l.flatMap iRow) := by
  refine calls_of_SC (args := [.slice (some ad) l.length cl]) Tryd.func53 rfl Tryd.ntmps53 rfl ?_
  simp only [argL]
  refine sc_seq ?_
  refine sc_region ?_
  refine qs (y_assign RF) ?_
  refine sq_nil ?_
  refine sx_then ?_
  refine sc_seq ?_
  refine sc_seq ?_
  refine sc_region ?_
  refine qs (y_move RF) ?_
  refine qs (y_eqlnil Tryd.underlying63 RF RF) ?_
  refine sq_nil ?_
  refine sx_then ?_
  refine sc_f (lk_bool rfl (rfl)) ?_
  refine sc_skip ?_
  refine sx_then ?_
  refine sc_seq ?_
  refine sc_region ?_
  refine sq_bs Tryd.underlying63 ei3 (EvI.nil) (by simp) rfl rfl rfl (fun b5 => ?_)
  refine sq_blk_own0 (sz := 1) (c := 0) RM rfl (Nat.zero_le _) ?_
  refine qs (y_move RF) ?_
  refine sq_append (news := l.flatMap iRow) Tryd.underlying63 ei3 rfl (by decide) RF RM RF (by rw [Nat.mul_one]; exact flat_ilen l) (fun w1 hw1 => ((hl.at hw1 MM).cells (fun _ => rfl) (by decide))) (flat_ione l) (by omega) rfl (fun v7 ho7 => ?_)
  refine qs (y_assign RF) ?_
  refine sq_nil ?_
  refine sx_then ?_
  refine sc_ret ?_
  refine sx_ret1 (.inl rfl) rfl Tryd.results53 RF ?_
  intro w' hw'
  have := own_new_mem hw' (.head _) MM
  rw [Nat.zero_add] at this
  exact ⟨v7, rfl, hw'.below MM, ho7, this⟩
def plusL (l o : List Int) (t : Int) : List Int := (List.range l.length).map fun i => l.getD i 0 + t * o.getD i 0
theorem plus36 (w : World) (ad : Addr) (cl : Nat) (l : List Int) (hl : RowsA iRow 1 0 w (some ad) l) (hb : l.length ≤ 100000) (a2 : Option Addr) (c2 : Nat) (o : List Int) (ho : RowsA iRow 1 0 w a2 o) (hlo : o.length = l.length) (t : Int) (ht : 0 ≤ t ∧ t ≤ 1000) (hbl : ∀ x, x ∈ l → 0 ≤ x ∧ x ≤ 1000000000) (hbo : ∀ x, x ∈ o → 0 ≤ x ∧ x ≤ 20) : Calls Tryd.prog 36 #[.slice (some ad) l.length cl, .slice a2 o.length c2, .int .i64 t] w fun e w' => ∃ v, e = .returned v ∧ Below w.heap.size w w' ∧ v.oneCell' = true ∧ w'.ownsRow w.heap.size 3 1 v l.length ((plusL l o t).flatMap iRow) := by
  refine calls_of_SC (args := [.slice (some ad) l.length cl, .slice a2 o.length c2, .int .i64 t]) Tryd.func36 rfl Tryd.ntmps36 rfl ?_
  simp only [argL, Nat.reduceAdd, Nat.zero_add]
  refine sc_seq ?_
  refine sc_region ?_
  refine qs (y_assign RF) ?_
  refine sq_nil ?_
  refine sx_then ?_
  refine sc_seq ?_
  refine sc_region ?_
  refine qs (y_move RF) ?_
  refine sq_call_own (first := []) (caps := []) (Z := Value) (e := 3) (sz := 1) (n := l.length) (fun z => z) (fun z => z) (fun _ => l.flatMap iRow) (fun z => z.oneCell' = true) RF Tryd.call53 (EvL.cons RF EvL.nil) (fun w1 hw1 => (clone53 w1 ad cl l (hl.at hw1 MM) hb).mono (fun e w' ⟨v, h1, h2, h3, h4⟩ => ⟨v, h1, h2, h3, h4⟩)) rfl (fun v10 hv10 => ?_)
  rw [show l.flatMap iRow = (updK l.length (fun i => l.getD i 0 + t * o.getD i 0) (fun i => l.getD i 0) 0).flatMap iRow from by rw [updK_0, range_getD]]
  refine qs (y_assign RF) ?_
  refine sq_nil ?_
  refine sx_then ?_
  refine sc_seq ?_
  refine sc_seq ?_
  refine sc_region ?_
  refine qs (y_move RF) ?_
  refine qs (y_len_own Tryd.underlying63 RF MM) ?_
  refine qs (y_move RF) ?_
  refine sq_nil ?_
  refine sx_then ?_
  refine sc_block ?_
  refine sc_loop (σ := Nat)
    (fun s => [(1, .slice a2 o.length c2), (2, .int .i64 t), (7, v10), (11, v10), (12, .int .i64 l.length), (13, .int .i64 s)])
    (fun s => [.own v10 3 1 l.length ((updK l.length (fun i => l.getD i 0 + t * o.getD i 0) (fun i => l.getD i 0) s).flatMap iRow), .reg 0 w])
    (fun s => s ≤ l.length)
    (fun s => l.length - s)
    (0) ?_ SU SR ?_
  · exact Nat.zero_le _
  rintro k hk
  refine sc_seq ?_
  refine sc_region ?_
  refine qs (y_lss RF RF) ?_
  refine sq_nil ?_
  refine sx_then ?_
  refine sc_seq ?_
  refine scp (fun hc0 => ?_) (fun hc0 => ?_)
  ·
    have hk' : k < l.length := by omega
    have hk2 : k < o.length := by omega
    have hso := (ho.get 0 hk2).1
    have hco := (ho.get 0 hk2).2
    have hbk := hbl _ (getD_mem (d := 0) hk')
    have hbo' := hbo _ (getD_mem (d := 0) hk2)
    have hm := mul_bd2 ht hbo'
    refine sc_skip ?_
    refine sx_then ?_
    refine sc_seq ?_
    refine sc_block ?_
    refine sc_seq ?_
    refine sc_region ?_
    refine qs (y_move RF) ?_
    refine qs (y_assign RF) ?_
    refine sq_nil ?_
    refine sx_then ?_
    refine sc_drawR (by kernel_rfl) ?_
    refine xj_s 0 RF (by kernel_rfl) SR (y_move RF) rfl ?_
    refine xj_s 1 RF (by kernel_rfl) SR (y_move RF) rfl ?_
    refine xj_s 2 RF (by kernel_rfl) SR (y_ia_own Tryd.underlying63 Tryd.sizeOf3 RF MM RF hk') rfl ?_
    refine xj_s 3 RF (by kernel_rfl) SR (by first | exact y_load_own0 (v := v10) (u := .int .i64 (l.getD k 0)) Tryd.underlying3 rfl RF MM hk' (flat_iget (updK_get (fun i => l.getD i 0 + t * o.getD i 0) (fun i => l.getD i 0) hk')) | exact LD3) rfl ?_
    refine xj_s 4 RF (by kernel_rfl) SR (y_move RF) rfl ?_
    refine xj_s 5 RF (by kernel_rfl) SR (y_move RF) rfl ?_
    refine xj_s 6 RF (by kernel_rfl) SR (y_move RF) rfl ?_
    refine xj_s 7 RF (by kernel_rfl) SR IA35 rfl ?_
    refine xj_s 8 RF (by kernel_rfl) SR (by first | exact y_load_ca0 Tryd.underlying3 rfl RF MM hco rfl | exact LD3) rfl ?_
    refine xj_s 9 RF (by kernel_rfl) SR (y_mul RF RF (by omega)) rfl ?_
    refine xj_s 10 RF (by kernel_rfl) SR (y_add RF RF (by omega)) rfl ?_
    refine xj_s 11 RF (by kernel_rfl) SR (y_ia_own Tryd.underlying63 Tryd.sizeOf3 RF MM RF hk') rfl ?_
    refine xj_one 12 RF (by kernel_rfl) ?_
    refine sq_store_own (v := v10) (i := k) (j := 0) (sz := 1) Tryd.sizeOf3 RF RF rfl RM hk' (by decide) ?_
    rw [iset, updK_set (fun i => l.getD i 0 + t * o.getD i 0) (fun i => l.getD i 0) hk']
    refine sq_nil ?_
    refine sx_xpl (by kernel_rfl) ?_
    refine xj_done (by kernel_rfl) ?_
    refine sx_blk ?_
    refine sx_then ?_
    refine sc_region ?_
    refine qs (y_add RF RF (by omega)) ?_
    refine qs (y_move RF) ?_
    refine sq_nil ?_
    refine sx_round (k + 1) ?_ ?_ SU SR
    · exact hk'
    · omega
  ·
    have hkn : k = l.length := by omega
    rw [hkn, updK_n]
    refine sc_exit ?_
    refine sx_then_exit ?_
    refine sx_round_exit ?_
    refine sx_blk_hit ?_
    refine sx_then ?_
    refine sc_seq ?_
    refine sc_region ?_
    refine qs (y_move RF) ?_
    refine qs (y_assign RF) ?_
    refine sq_nil ?_
    refine sx_then ?_
    refine sc_ret ?_
    refine sx_ret1 (.inl rfl) rfl Tryd.results36 RF ?_
    intro w' hw'
    exact ⟨v10, rfl, hw'.below MM, hv10, own_new_mem hw' MM MM⟩
theorem licence41 (w : World) (z : SA) (s : So) (hz : SoA 0 w z s) (hv : StF s) (x : Wi) (hx : wiB s x = true) : Calls Tryd.prog 41 #[.agg (stV z s).toArray, .agg (wiRow x).toArray] w fun e w' => e = .returned (.tuple #[.int .i64 (mkOf s x).pic, .agg (liRow (licOf s x)).toArray]) ∧ Below w.heap.size w w' := by
  have hi := idxF hv hx
  obtain ⟨hsm, hcm, _⟩ := hz.mks.get hi.p1
  obtain ⟨hsl, hcl⟩ := hz.li.get li0 hi.l1
  have hp1 := hi.p1
  have hl1 := hi.l1
  refine calls_of_SC (args := [.agg (stV z s).toArray, .agg (wiRow x).toArray]) Tryd.func41 rfl Tryd.ntmps41 rfl ?_
  simp only [argL, Nat.zero_add]
  refine sc_seq ?_
  refine sc_region ?_
  refine sq_box RF rfl (fun b2 => ?_)
  refine sq_box RF rfl (fun b3 => ?_)
  refine qs (y_assign RF) ?_
  refine sq_alloc Tryd.zeroValue55 rfl (fun b5 => ?_)
  refine sq_nil ?_
  refine sx_then ?_
  refine sc_seq ?_
  refine sc_region ?_
  refine qs FA60_27 ?_
  refine qs FA27_24 ?_
  refine qs LD24 ?_
  refine qs FA50_3 ?_
  refine qs LD3 ?_
  refine qs (by first | exact y_ia_blk Tryd.underlying24 Tryd.sizeOf57 RF (by exact lk_int rfl hi.p0) (by omega) | exact y_ia_el Tryd.underlying24 Tryd.sizeOf57 RF (by exact lk_int rfl hi.p0) (by omega) (by first | assumption | simp)) ?_
  refine qs FA57_3 ?_
  refine qs (by first | exact y_load_caj Tryd.underlying3 rfl RF MM hcm rfl | exact LD3) ?_
  refine qs (y_assign RF) ?_
  refine sq_nil ?_
  refine sx_then ?_
  refine sc_seq ?_
  refine sc_drawR (by kernel_rfl) ?_
  refine xj_s 0 RF (by kernel_rfl) SR (y_move RF) rfl ?_
  refine xj_s 1 RF (by kernel_rfl) SR FA60_27 rfl ?_
  refine xj_s 2 RF (by kernel_rfl) SR FA27_23 rfl ?_
  refine xj_s 3 RF (by kernel_rfl) SR LD23 rfl ?_
  refine xj_s 4 RF (by kernel_rfl) SR (y_move RF) rfl ?_
  refine xj_s 5 RF (by kernel_rfl) SR (by first | exact y_ia_blk Tryd.underlying23 Tryd.sizeOf55 RF (by exact lk_int rfl hi.l0) (by omega) | exact y_ia_el Tryd.underlying23 Tryd.sizeOf55 RF (by exact lk_int rfl hi.l0) (by omega) (by first | assumption | simp)) rfl ?_
  refine xj_s 6 RF (by kernel_rfl) SR (by first | exact y_load_ca Tryd.underlying55 rfl Tryd.sizeOf55 RF MM hcl rfl | exact LD55) rfl ?_
  refine xj_s 7 RF (by kernel_rfl) SR (y_assign RF) rfl ?_
  refine xj_one 8 RF (by kernel_rfl) ?_
  refine sq_store_all Tryd.sizeOf55 RF RF rfl RM rfl rfl ?_
  refine sq_nil ?_
  refine sx_xpl (by kernel_rfl) ?_
  refine xj_done (by kernel_rfl) ?_
  refine sx_then ?_
  refine sc_ret ?_
  refine sx_rettc (.inl rfl) rfl Tryd.results41 Tryd.underlying55 rfl Tryd.sizeOf55 RF MM rfl RF ?_
  intro w' hw'
  exact ⟨rfl, hw'.below MM⟩
theorem brings30 (w : World) (z : SA) (s : So) (hz : SoA 0 w z s) (hv : StF s) (x : Wi) (hx : wiB s x = true) : Calls Tryd.prog 30 #[.agg (stV z s).toArray, .agg (wiRow x).toArray] w fun e w' => e = .returned (.int .i64 (bringsV s x)) ∧ Below w.heap.size w w' := by
  have hw := wi_parts hx
  have hfee := (idxF hv hx).fee
  have hmy := hw.many
  have hsp := hw.ship
  have hm1 := mul_bd2 (n := x.many) (A := 1000) (by omega) hw.price
  have hm2 := mul_bd2 (n := x.many) (A := 1000) (by omega) hfee
  have hm3 : -x.many * (licOf s x).fee = -(x.many * (licOf s x).fee) := Int.neg_mul _ _
  refine calls_of_SC (args := [.agg (stV z s).toArray, .agg (wiRow x).toArray]) Tryd.func30 rfl Tryd.ntmps30 rfl ?_
  simp only [argL, Nat.zero_add]
  refine sc_seq ?_
  refine sc_region ?_
  refine sq_box RF rfl (fun b2 => ?_)
  refine sq_box RF rfl (fun b3 => ?_)
  refine qs (y_assign RF) ?_
  refine sq_nil ?_
  refine sx_then ?_
  refine sc_seq ?_
  refine sc_region ?_
  refine qs LD60 ?_
  refine qs LD50 ?_
  refine qy (yc Tryd.call41 E2 (fun w1 hw1 => licence41 w1 z s (hz.at hw1 MM) hv x hx)) ?_
  refine qs (y_move RF) ?_
  refine qs (y_extract RF RF) ?_
  refine qs (y_extract RF RF) ?_
  refine sq_alloc Tryd.zeroValue55 rfl (fun b6 => ?_)
  refine qs (y_assign RF) ?_
  refine sq_store_all Tryd.sizeOf55 RF RF rfl RM rfl rfl ?_
  refine sq_nil ?_
  refine sx_then ?_
  refine sc_seq ?_
  refine sc_region ?_
  refine qs FA50_3 ?_
  refine qs LD3 ?_
  refine qs FA50_3 ?_
  refine qs LD3 ?_
  refine qs (y_mul RF RF (by omega)) ?_
  refine qs FA50_3 ?_
  refine qs LD3 ?_
  refine qs (y_neg RF (by omega)) ?_
  refine qs FA55_3 ?_
  refine qs LD3 ?_
  refine qs (y_mul RF RF (by omega)) ?_
  refine qs FA50_3 ?_
  refine qs LD3 ?_
  refine qs (y_neg RF (by omega)) ?_
  refine sq_bs Tryd.underlying35 ei3 (EvI.cons RF (EvI.cons RF (EvI.cons RF EvI.nil))) (by first | (simp [Value.cells]; done) | (simp [Value.cells]; rfl) | (simp [Value.cells]; and_intros <;> rfl)) rfl rfl rfl (fun b27 => ?_)
  refine qy (yc Tryd.call29 E1 (fun w1 hw1 => sum29 w1 _ _ _ (lit_i3 hw1 MM) (by intro y hy; simp only [List.mem_cons, List.not_mem_nil, or_false] at hy; rcases hy with rfl | rfl | rfl <;> omega) (by simp))) ?_
  refine qs (y_assign RF) ?_
  refine sq_nil ?_
  refine sx_then ?_
  refine sc_ret ?_
  refine sx_ret1 (.inl rfl) rfl Tryd.results30 RF ?_
  intro w' hw'
  exact ⟨rfl, hw'.below MM⟩
theorem kind37 (w : World) (p : Sp) : Calls Tryd.prog 37 #[.agg (spRow p).toArray] w fun e w' => e = .returned (.int .i64 p.hi) ∧ Below w.heap.size w w' := by
  refine calls_of_SC (args := [.agg (spRow p).toArray]) Tryd.func37 rfl Tryd.ntmps37 rfl ?_
  simp only [argL]
  refine sc_seq ?_
  refine sc_region ?_
  refine sq_box RF rfl (fun b1 => ?_)
  refine qs (y_assign RF) ?_
  refine sq_nil ?_
  refine sx_then ?_
  refine sc_seq ?_
  refine sc_region ?_
  refine qs FA29_3 ?_
  refine qs LD3 ?_
  refine qs (y_assign RF) ?_
  refine sq_nil ?_
  refine sx_then ?_
  refine sc_ret ?_
  refine sx_ret1 (.inl rfl) rfl Tryd.results37 RF ?_
  intro w' hw'
  exact ⟨rfl, hw'.below MM⟩
theorem kind38 (w : World) (p : Sp) : Calls Tryd.prog 38 #[.agg (spRow p).toArray] w fun e w' => e = .returned (.int .i64 p.lo) ∧ Below w.heap.size w w' := by
  refine calls_of_SC (args := [.agg (spRow p).toArray]) Tryd.func38 rfl Tryd.ntmps38 rfl ?_
  simp only [argL]
  refine sc_seq ?_
  refine sc_region ?_
  refine sq_box RF rfl (fun b1 => ?_)
  refine qs (y_assign RF) ?_
  refine sq_nil ?_
  refine sx_then ?_
  refine sc_seq ?_
  refine sc_region ?_
  refine qs FA29_3 ?_
  refine qs LD3 ?_
  refine qs (y_assign RF) ?_
  refine sq_nil ?_
  refine sx_then ?_
  refine sc_ret ?_
  refine sx_ret1 (.inl rfl) rfl Tryd.results38 RF ?_
  intro w' hw'
  exact ⟨rfl, hw'.below MM⟩
theorem kind26 (w : World) : Calls Tryd.prog 26 #[] w fun e w' => e = .returned (.agg #[.func (.func 37) #[] #[]]) ∧ Below w.heap.size w w' := by
  refine calls_of_SC (args := []) Tryd.func26 rfl Tryd.ntmps26 rfl ?_
  simp only [argL]
  refine sc_seq ?_
  refine sc_region ?_
  refine sq_alloc Tryd.zeroValue72 rfl (fun b0 => ?_)
  refine sq_nil ?_
  refine sx_then ?_
  refine sc_seq ?_
  refine sc_region ?_
  refine qs (y_build bt72 (EvP.cons RF EvP.nil) RF) ?_
  refine sq_store_all Tryd.sizeOf72 RF RF rfl RM rfl rfl ?_
  refine sq_nil ?_
  refine sx_then ?_
  refine sc_ret ?_
  refine sx_retc (.inl rfl) rfl Tryd.results26 Tryd.underlying72 rfl Tryd.sizeOf72 RF MM rfl ?_
  intro w' hw'
  exact ⟨rfl, hw'.below MM⟩
theorem kind27 (w : World) : Calls Tryd.prog 27 #[] w fun e w' => e = .returned (.agg #[.func (.func 38) #[] #[]]) ∧ Below w.heap.size w w' := by
  refine calls_of_SC (args := []) Tryd.func27 rfl Tryd.ntmps27 rfl ?_
  simp only [argL]
  refine sc_seq ?_
  refine sc_region ?_
  refine sq_alloc Tryd.zeroValue72 rfl (fun b0 => ?_)
  refine sq_nil ?_
  refine sx_then ?_
  refine sc_seq ?_
  refine sc_region ?_
  refine qs (y_build bt72 (EvP.cons RF EvP.nil) RF) ?_
  refine sq_store_all Tryd.sizeOf72 RF RF rfl RM rfl rfl ?_
  refine sq_nil ?_
  refine sx_then ?_
  refine sc_ret ?_
  refine sx_retc (.inl rfl) rfl Tryd.results27 Tryd.underlying72 rfl Tryd.sizeOf72 RF MM rfl ?_
  intro w' hw'
  exact ⟨rfl, hw'.below MM⟩
end Go.Proofs.YtpodaihifdlkkaaDoor
