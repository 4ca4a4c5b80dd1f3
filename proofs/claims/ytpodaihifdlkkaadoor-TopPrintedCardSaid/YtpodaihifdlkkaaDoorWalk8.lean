/- The walk of what a set takes. -/
import Derived.Test.YtpodaihifdlkkaaDoorWalk7
namespace Go.Proofs.YtpodaihifdlkkaaDoor
open Go Go.Eng Go.RowKit Go.Proofs
set_option maxRecDepth 100000
theorem two_param {tm : Array Value} {N p q : Nat} {L0 : List (Nat × Value)} {u v : Value} (hs : tm.size = N) (hL : ∀ i x, lk L0 i = some x → tm[i]? = some x) (hp : p < N) (hq : q < N) :
    (((tm.setIfInBounds p u).setIfInBounds q v).size = N) ∧ ∀ i x, lk ((q, v) :: (p, u) :: L0) i = some x → ((tm.setIfInBounds p u).setIfInBounds q v)[i]? = some x :=
  have h := one_param (u := u) hs hL hp
  one_param (u := v) h.1 h.2 hq
def tkF (s : So) (ds : List Nat) (k : Nat) : Int := ds.foldl (fun acc i => acc + (s.wi.getD i wi0).many * (mkOf s (s.wi.getD i wi0)).tk.getD k 0) 0
def tksL (s : So) (ds : List Nat) : List Int := (List.range s.sh.length).map (tkF s ds)
theorem tkF_snoc (s : So) (ds : List Nat) (i k : Nat) : tkF s (ds ++ [i]) k = tkF s ds k + (s.wi.getD i wi0).many * (mkOf s (s.wi.getD i wi0)).tk.getD k 0 := by
  unfold tkF; rw [List.foldl_append]; rfl
theorem tksL_len (s : So) (ds : List Nat) : (tksL s ds).length = s.sh.length := by simp [tksL]
theorem tksL_get (s : So) (ds : List Nat) {k : Nat} (h : k < s.sh.length) : (tksL s ds).getD k 0 = tkF s ds k := by
  unfold tksL
  rw [List.getD_eq_getElem?_getD, List.getElem?_map, List.getElem?_range h]; rfl
theorem tksL_snoc (s : So) (ds : List Nat) (i : Nat) : plusL (tksL s ds) (mkOf s (s.wi.getD i wi0)).tk (s.wi.getD i wi0).many = tksL s (ds ++ [i]) := by
  unfold plusL
  rw [tksL_len]
  apply List.map_congr_left
  intro k hk
  rw [tksL_get s ds (List.mem_range.1 hk), tkF_snoc]
theorem tkF_bd {s : So} (hv : StF s) (ds : List Nat) (hi : ∀ i, i ∈ ds → i < s.wi.length) (k : Nat) (hk : k < s.sh.length) : 0 ≤ tkF s ds k ∧ tkF s ds k ≤ 20000 * (ds.length : Int) := by
  have key : ∀ (ds : List Nat), (∀ i, i ∈ ds → i < s.wi.length) → ∀ a : Int, a ≤ ds.foldl (fun acc i => acc + (s.wi.getD i wi0).many * (mkOf s (s.wi.getD i wi0)).tk.getD k 0) a ∧ ds.foldl (fun acc i => acc + (s.wi.getD i wi0).many * (mkOf s (s.wi.getD i wi0)).tk.getD k 0) a ≤ a + 20000 * (ds.length : Int) := by
    intro ds
    induction ds with
    | nil => intro _ a; simp
    | cons i ds ih =>
      intro hi a
      have h1 := ih (fun j hj => hi j (by simp [hj])) (a + (s.wi.getD i wi0).many * (mkOf s (s.wi.getD i wi0)).tk.getD k 0)
      have hlt := hi i (by simp)
      have hw := hv.wi _ (getD_mem (d := wi0) hlt)
      have h2 := (idxF hv hw).tk k hk
      have h3 := (wi_parts hw).many
      have h4 := mul_bd2 (n := (s.wi.getD i wi0).many) (A := 1000) (by omega) h2
      rw [List.foldl_cons, List.length_cons]
      omega
  have := key ds hi 0
  unfold tkF
  omega
theorem memL_len (x : Nat) : (memL x).length ≤ 9 := by
  have := List.length_filter_le (fun i => x.testBit i) (List.range 9)
  rw [List.length_range] at this; exact this
theorem tksL_bd {s : So} (hv : StF s) {ds : List Nat} (hi : ∀ i, i ∈ ds → i < s.wi.length) (h9 : ds.length ≤ 9) : ∀ x, x ∈ tksL s ds → 0 ≤ x ∧ x ≤ 180000 := by
  intro x hx
  unfold tksL at hx
  obtain ⟨k, hk, rfl⟩ := List.mem_map.1 hx
  have := tkF_bd hv ds hi k (List.mem_range.1 hk)
  omega
theorem plus36v (w : World) (v : Value) (n : Nat) (l : List Int) (hn : l.length = n) (h1 : 1 ≤ n) (hv : w.ownsRow 0 3 1 v n (l.flatMap iRow)) (hb : n ≤ 100000) (a2 : Option Addr) (c2 : Nat) (o : List Int) (ho : RowsA iRow 1 0 w a2 o) (hlo : o.length = n) (t : Int) (ht : 0 ≤ t ∧ t ≤ 1000) (hbl : ∀ x, x ∈ l → 0 ≤ x ∧ x ≤ 1000000000) (hbo : ∀ x, x ∈ o → 0 ≤ x ∧ x ≤ 20) : Calls Tryd.prog 36 #[v, .slice a2 o.length c2, .int .i64 t] w fun e w' => ∃ v, e = .returned v ∧ Below w.heap.size w w' ∧ v.oneCell' = true ∧ w'.ownsRow w.heap.size 3 1 v n ((plusL l o t).flatMap iRow) := by
  subst hn
  obtain ⟨al, cl, rfl, _, hr⟩ := own_rowsA (row := iRow) (fun _ => rfl) hv rfl (by omega)
  cases al with
  | none => have := hr.noa rfl; omega
  | some ad => exact plus36 w ad cl l hr hb a2 c2 o ho hlo t ht hbl hbo

theorem takes19o (w : World) (z : SA) (s : So) (hz : SoA 0 w z s) (hv : StF s) (hT : TabAt w) (x : Nat) (hx : x < 512) (hm : ∀ i, i ∈ memL x → i < s.wi.length) : Calls Tryd.prog 19 #[.agg (stV z s).toArray, .int .i64 x] w fun e w' => ∃ v, e = .returned v ∧ Below w.heap.size w w' ∧ w'.ownsRow w.heap.size 3 1 v s.sh.length ((tksL s (memL x)).flatMap iRow) := by
  have hs4 := hv.sh1
  have hl := hz.sh.len
  refine calls_of_SCm (args := [.agg (stV z s).toArray, .int .i64 x]) Tryd.func19 rfl Tryd.ntmps19 rfl ?_
  simp only [argL, Nat.zero_add]
  refine sc_seq ?_
  refine sc_region ?_
  refine sq_box RF rfl (fun b2 => ?_)
  refine qs (y_assign RF) ?_
  refine sq_nil ?_
  refine sx_then ?_
  refine sc_seq ?_
  refine sc_region ?_
  refine qs FA60_27 ?_
  refine qs FA27_22 ?_
  refine qs LD22 ?_
  refine qs (y_len Tryd.underlying22 RF) ?_
  refine sq_make Tryd.underlying63 ei3 RF RF (by omega) (by omega) (by omega) rfl (fun b12 => ?_)
  rw [irep, ← range_zero]
  refine sq_blk_own (n := s.sh.length) (sz := 1) (xs := ((List.range s.sh.length).map fun _ => (0 : Int)).flatMap iRow) RM (by rw [flat_ilen, List.length_map, List.length_range, Nat.mul_one]) (by unfold maxLen; omega) ?_
  refine sq_alloc Tryd.zeroValue63 rfl (fun b5 => ?_)
  refine sq_store Tryd.sizeOf63 RF RF (by first | rfl | assumption) RM (by first | exact Nat.le_of_ble_eq_true rfl | simp | omega) ?_
  refine sq_nil ?_
  refine sx_then ?_
  refine sc_seq ?_
  refine sc_seq ?_
  refine sc_region ?_
  refine qs LD60 ?_
  refine qs (y_move RF) ?_
  refine sq_call_new (first := []) (caps := []) (Z := Addr × Addr) (fun y => .func (.func 39) #[] #[.pointer (some y.1), .pointer (some y.2)]) (fun lo w' y => CA lo w' y.1 [.int .i64 x] ∧ CA lo w' y.2 (stV z s)) RF Tryd.call28 (EvL.cons RF (EvL.cons RF EvL.nil)) (fun w1 hw1 => (orders28 w1 z s x).mono (fun e w' ⟨y, h1, h2, h3, h4⟩ => ⟨y, h1, h2, h3, h4⟩)) rfl (fun lo wr p hp => ?_)
  refine sq_nil ?_
  refine sx_then ?_
  refine sc_block ?_
  refine sc_rangeFunc (Z := Value × List Int) (ps := [16, 17]) (lb := [.pointer (some p.1), .pointer (some p.2)]) (fun y => .reg lo wr :: .reg 0 w :: .own y.1 3 1 s.sh.length (y.2.flatMap iRow) :: .blk b5 (.cells #[y.1] 63 (0, 0)) :: .blk b2 (.cells (stV z s).toArray 60 (0, 0)) ::  []) (fun y => y.2 = tksL s (memL x) ∧ y.1.oneCell' = true) rfl RF Tryd.call39 ?_ ?_
  ·
    intro fn tm l D hts htL w1 hw1
    refine (eachB (w0 := w) (z := z) (s := s) hw1 hT hx hm hp.1 hp.2 hz.wi (fun (y : Value × List Int) => .own y.1 3 1 s.sh.length (y.2.flatMap iRow) :: .blk b5 (.cells #[y.1] 63 (0, 0)) :: .blk b2 (.cells (stV z s).toArray 60 (0, 0)) ::  []) (fun ds y => y.2 = tksL s ds ∧ y.1.oneCell' = true) (_, _) ⟨?_, rfl⟩ SR ?_).mono ?_
    · rfl
    rotate_left
    · rintro e w' ⟨hvv, y, h1, h2⟩
      exact ⟨y, h1, hvv, h2⟩
    rintro c' cd' y ds i r hmem ⟨hy2, hy1⟩ F w2 hw2
    have hiw : i < s.wi.length := hm i (by rw [hmem]; simp)
    have hds : ∀ j, j ∈ ds → j < s.wi.length := fun j hj => hm j (by rw [hmem]; simp [hj])
    have h9 : ds.length ≤ 9 := by have := memL_len x; rw [hmem] at this; simp at this; omega
    have hyl : y.2.length = s.sh.length := by rw [hy2, tksL_len]
    have hyb : ∀ q, q ∈ y.2 → 0 ≤ q ∧ q ≤ 1000000000 := fun q hq => by have := tksL_bd hv hds h9 q (by rw [← hy2]; exact hq); omega
    have hwv := hv.wi _ (getD_mem (d := wi0) hiw)
    have hi := idxF hv hwv
    have hmy := (wi_parts hwv).many
    obtain ⟨hsm, hcm, htk⟩ := hz.mks.get hi.p1
    have hp1 := hi.p1
    have hob : ∀ q, q ∈ (mkOf s (s.wi.getD i wi0)).tk → 0 ≤ q ∧ q ≤ 20 := fun q hq => (mk_parts (hv.mks _ (getD_mem (d := mk0) hi.p1))).2.2 q hq
    obtain ⟨hs2, hL2⟩ := two_param (p := 16) (q := 17) (u := .int .i64 (i : Int)) (v := .agg (wiRow (s.wi.getD i wi0)).toArray) hts htL (Nat.le_of_ble_eq_true rfl) (Nat.le_of_ble_eq_true rfl)
    refine round_of_SC (N := 31) hs2 hL2 hw2 ?_
    dsimp only [List.cons_append, List.nil_append]
    refine sc_region ?_
    refine sq_alloc Tryd.zeroValue50 rfl (fun b7 => ?_)
    refine sq_store_all Tryd.sizeOf50 RF RF rfl RM rfl rfl ?_
    refine sq_nil ?_
    refine sx_begin rfl RM rfl ?_
    refine sc_block ?_
    refine sc_drawR (by kernel_rfl) ?_
    refine xj_s 0 RF (by kernel_rfl) SR (by first | exact y_load_blk Tryd.underlying63 rfl RF MM rfl | exact LD63) rfl ?_
    refine xj_s 1 RF (by kernel_rfl) SR FA60_27 rfl ?_
    refine xj_s 2 RF (by kernel_rfl) SR FA27_24 rfl ?_
    refine xj_s 3 RF (by kernel_rfl) SR LD24 rfl ?_
    refine xj_s 4 RF (by kernel_rfl) SR FA50_3 rfl ?_
    refine xj_s 5 RF (by kernel_rfl) SR LD3 rfl ?_
    refine xj_s 6 RF (by kernel_rfl) SR (by first | exact y_ia_blk Tryd.underlying24 Tryd.sizeOf57 RF (by exact lk_int rfl hi.p0) (by omega) | exact y_ia_el Tryd.underlying24 Tryd.sizeOf57 RF (by exact lk_int rfl hi.p0) (by omega) (by first | assumption | simp)) rfl ?_
    refine xj_s 7 RF (by kernel_rfl) SR FA57_35 rfl ?_
    refine xj_s 8 RF (by kernel_rfl) SR (by first | exact y_load_caj (j := 1) Tryd.underlying35 rfl RF MM hcm rfl | exact LD35) rfl ?_
    refine xj_s 9 RF (by kernel_rfl) SR FA50_3 rfl ?_
    refine xj_s 10 RF (by kernel_rfl) SR LD3 rfl ?_
    refine xj_one 11 RF (by kernel_rfl) ?_
    refine sq_call_own (first := []) (caps := []) (Z := Value) (e := 3) (sz := 1) (n := s.sh.length) (fun x => x) (fun x => x) (fun _ => (plusL y.2 (mkOf s (s.wi.getD i wi0)).tk (s.wi.getD i wi0).many).flatMap iRow) (fun x => x.oneCell' = true) RF Tryd.call36 (EvL.cons RF (EvL.cons RF (EvL.cons RF EvL.nil))) (fun w1 hw1 => (plus36v w1 y.1 s.sh.length y.2 hyl hv.sh1.1 (hw1.ok (Res.own y.1 3 1 s.sh.length (y.2.flatMap iRow)) MM) (by omega) _ _ _ (htk.at hw1 MM) hi.tl (s.wi.getD i wi0).many (by omega) hyb hob).mono (fun e w' ⟨x, h1, h2, h3, h4⟩ => ⟨x, h1, h2, h3, h4⟩)) rfl (fun vn hvn => ?_)
    refine sq_nil ?_
    refine sx_xp SR ?_
    refine xj_one 12 RF (by kernel_rfl) ?_
    refine sq_store Tryd.sizeOf63 RF RF (by first | rfl | assumption) RM (by first | exact Nat.le_of_ble_eq_true rfl | simp | omega) ?_
    refine sq_nil ?_
    refine sx_xpl (by kernel_rfl) ?_
    refine xj_done (by kernel_rfl) ?_
    refine sx_blk ?_
    refine sx_endround RM ?_
    intro w' hw'
    exact ⟨(vn, plusL y.2 (mkOf s (s.wi.getD i wi0)).tk (s.wi.getD i wi0).many), ⟨by rw [hy2, tksL_snoc], hvn⟩, rfl, hw'.sel SR⟩
  ·
    rintro D y ⟨hy2, hy1⟩
    dsimp only at hy2 hy1 ⊢
    refine sx_blk ?_
    refine sx_then ?_
    refine sc_seq ?_
    refine sc_region ?_
    refine qs LD63 ?_
    refine qs (y_assign RF) ?_
    refine sq_nil ?_
    refine sx_then ?_
    refine sc_ret ?_
    refine sx_ret1m (.inl rfl) rfl RM Tryd.results19 RF ?_
    intro w' hw'
    have := own_new_mem hw' MM MM
    rw [hy2] at this
    exact ⟨y.1, rfl, hw'.below MM, this⟩
theorem takes19 (w : World) (z : SA) (s : So) (hz : SoA 0 w z s) (hv : StF s) (hT : TabAt w) (x : Nat) (hx : x < 512) (hm : ∀ i, i ∈ memL x → i < s.wi.length) : Calls Tryd.prog 19 #[.agg (stV z s).toArray, .int .i64 x] w fun e w' => ∃ y : Option Addr × Nat, e = .returned (.slice y.1 (tksL s (memL x)).length y.2) ∧ Below w.heap.size w w' ∧ RowsA iRow 1 w.heap.size w' y.1 (tksL s (memL x)) := (takes19o w z s hz hv hT x hx hm).mono fun e w' ⟨v, h1, h2, h3⟩ => by
  obtain ⟨a2, c2, rfl, _, hr⟩ := own_rowsA (row := iRow) (fun _ => rfl) h3 (tksL_len s (memL x)) hz.sh.len
  exact ⟨(a2, c2), by rw [h1, tksL_len], h2, hr⟩
end Go.Proofs.YtpodaihifdlkkaaDoor
