/- The walk of whom a set refuses. -/
import Derived.Test.YtpodaihifdlkkaaDoorWalk8
namespace Go.Proofs.YtpodaihifdlkkaaDoor
open Go Go.Eng Go.RowKit Go.Proofs
set_option maxRecDepth 100000
/-- the orders of a set, for a body that may return -/
theorem eachS {w0 w wr : World} {lo : Nat} {p1 p2 : Addr} {z : SA} {s : So} {x : Nat} {rs : List Res} {fn : FuncId} {tm : Array Value} {l D pa pb : Nat} {c cd : Code} (hw : Hp w0 (.blk l (.loop (LP fn tm [pa, pb] c cd D)) :: .blk D (.deferred (some [])) :: rs) w) (hT : TabAt w0) (hx : x < 512) (hm : ∀ i, i ∈ memL x → i < s.wi.length) (hp1 : CA lo wr p1 [.int .i64 (x : Int)]) (hp2 : CA lo wr p2 (stV z s)) (hwi : RowsA wiRow 5 0 w0 z.a4 s.wi)
    {Z : Type} (FR : Z → List Res) (Inv : List Nat → Z → Prop) (Stp : Z → Prop) (y : Z) (hy : Inv [] y) (hsel : Sel (.reg lo wr :: .reg 0 w0 :: FR y) rs)
    (hround : ∀ (c' cd' : Code) (y : Z) (ds : List Nat) (i : Nat) (r : List Nat), memL x = ds ++ i :: r → Inv ds y → ∀ F w, Hp w0 (.blk l (.loop (LP fn tm [pa, pb] c' cd' D)) :: .blk D (.deferred (some [])) :: (FR y ++ .reg 0 w0 :: F)) w → RoundIn (FW none) 0 Tryd.prog l fn ((tm.setIfInBounds pa (.int .i64 (i : Int))).setIfInBounds pb (.agg (wiRow (s.wi.getD i wi0)).toArray)) c cd w fun e w' =>
      (∃ y', Inv (ds ++ [i]) y' ∧ e = .returned (.bool true) ∧ Hp w0 (.blk l (.loop (LP fn tm [pa, pb] c' cd' D)) :: .blk D (.deferred (some [])) :: (FR y' ++ .reg 0 w0 :: F)) w') ∨ (∃ y', Stp y' ∧ e = .returned (.bool false) ∧ Hp w0 (.blk l (.loop (LS fn tm [pa, pb] c' cd' D)) :: .blk D (.deferred (some [])) :: (FR y' ++ .reg 0 w0 :: F)) w')) :
    Calls Tryd.prog 39 #[.func (.yield l) #[] #[], .pointer (some p1), .pointer (some p2)] w fun e w' => (∃ v, e = .returned v) ∧ ((∃ y, Inv (memL x) y ∧ Hp w0 (.blk l (.loop (LP fn tm [pa, pb] c cd D)) :: .blk D (.deferred (some [])) :: .reg lo wr :: .reg 0 w0 :: FR y) w') ∨ (∃ y, Stp y ∧ Hp w0 (.blk l (.loop (LS fn tm [pa, pb] c cd D)) :: .blk D (.deferred (some [])) :: .reg lo wr :: .reg 0 w0 :: FR y) w')) := by
  have hw2 : Hp w0 (.reg lo wr :: .reg 0 w0 :: .blk l (.loop (LP fn tm [pa, pb] c cd D)) :: .blk D (.deferred (some [])) :: FR y) w := (hw.sel (Sel.cons .here (Sel.cons .here hsel))).sel (Sel.cons (.there (.there .here)) (Sel.cons (.there (.there .here)) (Sel.refl _)))
  refine (each39 (w0 := w0) (lo := lo) (wr := wr) (lp := LP fn tm [pa, pb] c cd D) hT hx hm hp1 hp2 hwi (fun (q : Bool × Z) => .blk l (.loop (LZ q.1 fn tm [pa, pb] c cd D)) :: .blk D (.deferred (some [])) :: FR q.2) (fun ds q => q.1 = true ∧ Inv ds q.2) (fun q => q.1 = false ∧ Stp q.2) (fun _ q h => by obtain ⟨b, y⟩ := q; obtain ⟨rfl, _⟩ := h; exact .head _) rfl ?_ (true, y) ⟨rfl, hy⟩ hw2).mono ?_
  · rintro ⟨b, y⟩ ds i r hmem ⟨rfl, hinv⟩ F w2 hw2
    rw [fold2]
    refine (hround _ _ y ds i r hmem hinv F w2 hw2).mono ?_
    rintro e w' (⟨y', h1, h2, h3⟩ | ⟨y', h1, h2, h3⟩)
    · exact ⟨(true, y'), true, by rw [if_pos rfl]; exact ⟨rfl, h1⟩, h2, h3⟩
    · exact ⟨(false, y'), false, by rw [if_neg (by decide)]; exact ⟨rfl, h1⟩, h2, h3⟩
  · rintro e w' ⟨hv, ⟨b, y'⟩, go, h1, h2⟩
    refine ⟨hv, ?_⟩
    by_cases hgo : go = true
    · rw [if_pos hgo] at h1
      obtain ⟨rfl, h1⟩ := h1
      exact .inl ⟨y', h1, h2.sel (Sel.cons (.there (.there .here)) (Sel.cons (.there (.there .here)) (Sel.refl _)))⟩
    · rw [if_neg hgo] at h1
      obtain ⟨rfl, h1⟩ := h1
      exact .inr ⟨y', h1, h2.sel (Sel.cons (.there (.there .here)) (Sel.cons (.there (.there .here)) (Sel.refl _)))⟩
def picN (s : So) (i : Nat) : Nat := (mkOf s (s.wi.getD i wi0)).pic.toNat
def usedF (s : So) (ds : List Nat) (p : Nat) : Int := ds.foldl (fun acc i => acc + if picN s i = p then (s.wi.getD i wi0).many else 0) 0
def usedC (s : So) (ds : List Nat) : Array Value := ((List.range 5).map fun p => Value.int .i64 (usedF s ds p)).toArray
theorem usedF_snoc (s : So) (ds : List Nat) (i p : Nat) : usedF s (ds ++ [i]) p = usedF s ds p + if picN s i = p then (s.wi.getD i wi0).many else 0 := by
  unfold usedF; rw [List.foldl_append]; rfl
theorem usedC_get (s : So) (ds : List Nat) {p : Nat} (h : p < 5) : (usedC s ds)[0 + p * 1]? = some (.int .i64 (usedF s ds p)) := by
  unfold usedC
  rw [Nat.zero_add, Nat.mul_one, List.getElem?_toArray, List.getElem?_map, List.getElem?_range h]; rfl
theorem usedC_size (s : So) (ds : List Nat) : (usedC s ds).size = 5 := by simp [usedC]
theorem usedC_set (s : So) (ds : List Nat) (i : Nat) : (usedC s ds).setIfInBounds (0 + picN s i * 1) (.int .i64 (usedF s ds (picN s i) + (s.wi.getD i wi0).many)) = usedC s (ds ++ [i]) := by
  unfold usedC
  rw [Nat.zero_add, Nat.mul_one, List.setIfInBounds_toArray]
  congr 1
  apply List.ext_getElem
  · simp
  · intro k h1 h2
    simp only [List.getElem_set, List.getElem_map, List.getElem_range, usedF_snoc]
    by_cases hk : picN s i = k
    · rw [if_pos hk, if_pos hk, hk]
    · rw [if_neg hk, if_neg hk, Int.add_zero]
theorem usedF_bd {s : So} (hv : StF s) (ds : List Nat) (hi : ∀ i, i ∈ ds → i < s.wi.length) (p : Nat) : 0 ≤ usedF s ds p ∧ usedF s ds p ≤ 1000 * (ds.length : Int) := by
  have key : ∀ (ds : List Nat), (∀ i, i ∈ ds → i < s.wi.length) → ∀ a : Int, a ≤ ds.foldl (fun acc i => acc + if picN s i = p then (s.wi.getD i wi0).many else 0) a ∧ ds.foldl (fun acc i => acc + if picN s i = p then (s.wi.getD i wi0).many else 0) a ≤ a + 1000 * (ds.length : Int) := by
    intro ds
    induction ds with
    | nil => intro _ a; simp
    | cons i ds ih =>
      intro hi a
      have h1 := ih (fun j hj => hi j (by simp [hj])) (a + if picN s i = p then (s.wi.getD i wi0).many else 0)
      have hw := hv.wi _ (getD_mem (d := wi0) (hi i (by simp)))
      have h3 := (wi_parts hw).many
      rw [List.foldl_cons, List.length_cons]
      split at h1 <;> rename_i hc <;> simp only [hc, if_true, if_false] <;> omega
  have := key ds hi 0
  unfold usedF
  omega
def okW (s : So) (ds : List Nat) (i : Nat) : Bool := decide (usedF s ds (picN s i) ≤ (licOf s (s.wi.getD i wi0)).copies) && decide ((licOf s (s.wi.getD i wi0)).from_ ≤ (s.wi.getD i wi0).hour ∧ (s.wi.getD i wi0).hour ≤ (licOf s (s.wi.getD i wi0)).to_)
def refN (s : So) : List Nat → List Nat → Option Nat
  | [], _ => none
  | i :: r, ds => if okW s (ds ++ [i]) i = true then refN s r (ds ++ [i]) else some i
def refI (s : So) (x : Nat) : Int := match refN s (memL x) [] with
  | none => -1
  | some i => (i : Int)

theorem refused35 (w : World) (z : SA) (s : So) (hz : SoA 0 w z s) (hv : StF s) (hT : TabAt w) (x : Nat) (hx : x < 512) (hm : ∀ i, i ∈ memL x → i < s.wi.length) : Calls Tryd.prog 35 #[.agg (stV z s).toArray, .int .i64 x] w fun e w' => e = .returned (.int .i64 (refI s x)) ∧ Below w.heap.size w w' := by
  have hs4 := hv.sh1
  have hl := hz.sh.len
  refine calls_of_SCm (args := [.agg (stV z s).toArray, .int .i64 x]) Tryd.func35 rfl Tryd.ntmps35 rfl ?_
  simp only [argL, Nat.zero_add]
  refine sc_seq ?_
  refine sc_region ?_
  refine sq_box RF rfl (fun b2 => ?_)
  refine sq_alloc Tryd.zeroValue3 rfl (fun b4 => ?_)
  refine sq_nil ?_
  refine sx_then ?_
  refine sc_scope ?_
  refine sc_seq ?_
  refine sc_region ?_
  refine sq_alloc Tryd.zeroValue96 rfl (fun b5 => ?_)
  refine sq_nil ?_
  refine sx_then ?_
  refine sc_seq ?_
  refine sc_label ?_
  refine sx_then ?_
  refine sc_seq ?_
  refine sc_seq ?_
  refine sc_region ?_
  refine qs LD60 ?_
  refine qs (y_move RF) ?_
  refine sq_call_new (first := []) (caps := []) (Z := Addr × Addr) (fun y => .func (.func 39) #[] #[.pointer (some y.1), .pointer (some y.2)]) (fun lo w' y => CA lo w' y.1 [.int .i64 x] ∧ CA lo w' y.2 (stV z s)) RF Tryd.call28 (EvL.cons RF (EvL.cons RF EvL.nil)) (fun w1 hw1 => (orders28 w1 z s x).mono (fun e w' ⟨y, h1, h2, h3, h4⟩ => ⟨y, h1, h2, h3, h4⟩)) rfl (fun lo wr p hp => ?_)
  refine sq_nil ?_
  refine sx_then ?_
  refine sc_block ?_
  refine sc_rangeFuncS (Z := Unit) (Z' := List Nat × Nat) (ps := [13, 14]) (lb := [.pointer (some p.1), .pointer (some p.2)]) (fun _ => .reg lo wr :: .reg 0 w :: .blk b5 (.cells (usedC s (memL x)) 96 (0, 0)) :: .blk b4 (.cells #[.int .i64 0] 3 (0, 0)) :: .blk b2 (.cells (stV z s).toArray 60 (0, 0)) ::  []) (fun _ => refN s (memL x) [] = none) (fun y => .reg lo wr :: .reg 0 w :: .blk b5 (.cells (usedC s y.1) 96 (0, 0)) :: .blk b4 (.cells #[.int .i64 (y.2 : Nat)] 3 (0, 0)) :: .blk b2 (.cells (stV z s).toArray 60 (0, 0)) ::  []) (fun y => refN s (memL x) [] = some y.2) rfl RF Tryd.call39 ?_ ?_ ?_
  ·
    intro fn tm l D hts htL w1 hw1
    refine (eachS (w0 := w) (z := z) (s := s) hw1 hT hx hm hp.1 hp.2 hz.wi (fun (y : List Nat × Int) => .blk b5 (.cells (usedC s y.1) 96 (0, 0)) :: .blk b4 (.cells #[.int .i64 y.2] 3 (0, 0)) :: .blk b2 (.cells (stV z s).toArray 60 (0, 0)) ::  []) (fun ds y => (y.1 = ds ∧ y.2 = 0) ∧ ∀ r, memL x = ds ++ r → refN s (memL x) [] = refN s r ds) (fun y => ∃ i : Nat, y.2 = (i : Int) ∧ refN s (memL x) [] = some i) ([], 0) ⟨⟨rfl, rfl⟩, fun r hr => by rw [hr]; rfl⟩ SR ?_).mono ?_
    rotate_left
    · rintro e w' ⟨hvv, ⟨⟨yd, yn⟩, ⟨⟨h0, h1⟩, h2⟩, h3⟩ | ⟨⟨yd, yn⟩, ⟨i, h1, h2⟩, h3⟩⟩
      · dsimp only at h0 h1
        subst h0; subst h1
        exact ⟨hvv, .inl ⟨(), by rw [h2 [] (by simp)]; rfl, h3⟩⟩
      · dsimp only at h1
        subst h1
        exact ⟨hvv, .inr ⟨(yd, i), h2, h3⟩⟩
    rintro c' cd' ⟨yd, yn⟩ ds i r hmem ⟨⟨h0, h1⟩, hinv⟩ F w2 hw2
    dsimp only at h0 h1
    subst h0; subst h1
    have hstep := hinv _ hmem
    have hiw : i < s.wi.length := hm i (by rw [hmem]; simp)
    have hds : ∀ j, j ∈ yd → j < s.wi.length := fun j hj => hm j (by rw [hmem]; simp [hj])
    have h9 : yd.length ≤ 9 := by have := memL_len x; rw [hmem] at this; simp at this; omega
    have hwv := hv.wi _ (getD_mem (d := wi0) hiw)
    have hi := idxF hv hwv
    have hmy := (wi_parts hwv).many
    have hub := usedF_bd hv yd hds (picN s i)
    have hp5 : picN s i < 5 := by have := hi.l1; have := hv.li1; unfold picN; omega
    obtain ⟨hs2, hL2⟩ := two_param (p := 13) (q := 14) (u := .int .i64 (i : Int)) (v := .agg (wiRow (s.wi.getD i wi0)).toArray) hts htL (Nat.le_of_ble_eq_true rfl) (Nat.le_of_ble_eq_true rfl)
    refine round_of_SC (N := 44) hs2 hL2 hw2 ?_
    dsimp only [List.cons_append, List.nil_append]
    generalize yd = ds at *
    refine sc_seq ?_
    refine sc_region ?_
    refine qs (y_assign RF) ?_
    refine sq_nil ?_
    refine sx_then ?_
    refine sc_region ?_
    refine sq_alloc Tryd.zeroValue50 rfl (fun b7 => ?_)
    refine sq_store_all Tryd.sizeOf50 RF RF rfl RM rfl rfl ?_
    refine sq_nil ?_
    refine sx_begin rfl RM rfl ?_
    refine sc_block ?_
    refine sc_seq ?_
    refine sc_region ?_
    refine qs LD60 ?_
    refine qs LD50 ?_
    refine qy (yc Tryd.call41 E2 (fun w1 hw1 => licence41 w1 z s (hz.at hw1 MM) hv (s.wi.getD i wi0) hwv)) ?_
    refine qs (y_move RF) ?_
    refine qs (y_extract RF RF) ?_
    refine qs (y_extract RF RF) ?_
    refine sq_alloc Tryd.zeroValue55 rfl (fun b9 => ?_)
    refine qs (y_assign RF) ?_
    refine sq_store_all Tryd.sizeOf55 RF RF rfl RM rfl rfl ?_
    refine sq_nil ?_
    refine sx_then ?_
    refine sc_seq ?_
    refine sc_drawR (by kernel_rfl) ?_
    refine xj_s 0 RF (by kernel_rfl) SR (y_move RF) rfl ?_
    refine xj_s 1 RF (by kernel_rfl) SR (y_ia_arr Tryd.underlying96 Tryd.sizeOf3 RF (by exact lk_int rfl hi.l0) hp5) rfl ?_
    refine xj_s 2 RF (by kernel_rfl) SR (by first | exact y_load_blk (cs := usedC s ds) Tryd.underlying3 rfl RF MM (usedC_get s ds hp5) | exact LD3) rfl ?_
    refine xj_s 3 RF (by kernel_rfl) SR FA50_3 rfl ?_
    refine xj_s 4 RF (by kernel_rfl) SR LD3 rfl ?_
    refine xj_s 5 RF (by kernel_rfl) SR (y_add RF RF (by omega)) rfl ?_
    refine xj_s 6 RF (by kernel_rfl) SR (y_ia_arr Tryd.underlying96 Tryd.sizeOf3 RF (by exact lk_int rfl hi.l0) hp5) rfl ?_
    refine xj_one 7 RF (by kernel_rfl) ?_
    refine sq_store_eq (cs' := usedC s (ds ++ [i])) Tryd.sizeOf3 RF RF rfl RM (by rw [usedC_size]; omega) (usedC_set s ds i) ?_
    refine sq_nil ?_
    refine sx_xpl (by kernel_rfl) ?_
    refine xj_done (by kernel_rfl) ?_
    refine sx_then ?_
    refine sc_seq ?_
    refine sc_seq ?_
    refine sc_drawR (by kernel_rfl) ?_
    refine xj_s 0 RF (by kernel_rfl) SR (y_move RF) rfl ?_
    refine xj_s 1 RF (by kernel_rfl) SR (y_ia_arr Tryd.underlying96 Tryd.sizeOf3 RF (by exact lk_int rfl hi.l0) hp5) rfl ?_
    refine xj_s 2 RF (by kernel_rfl) SR (by first | exact y_load_blk (cs := usedC s (ds ++ [i])) Tryd.underlying3 rfl RF MM (usedC_get s (ds ++ [i]) hp5) | exact LD3) rfl ?_
    refine xj_s 3 RF (by kernel_rfl) SR FA55_3 rfl ?_
    refine xj_s 4 RF (by kernel_rfl) SR LD3 rfl ?_
    refine xj_s 5 RF (by kernel_rfl) SR (y_leq RF RF) rfl ?_
    refine xj_s 6 RF (by kernel_rfl) SR (y_move RF) rfl ?_
    first | refine xj_splitd (tt := 34) RF (fun hg7_6 => ?_) (fun hg7_6 => ?_) | refine xj_splitn (tt := 34) RF (fun hg7_6 => ?_) (fun hg7_6 => ?_) | refine xj_split (tt := 34) RF (fun hg7_6 => ?_) (fun hg7_6 => ?_)
    ·
      refine xj_gt 7 RF RF RF (by kernel_rfl) SR FA50_3 rfl ?_
      refine xj_gt 8 RF RF RF (by kernel_rfl) SR LD3 rfl ?_
      refine xj_gt 9 RF RF RF (by kernel_rfl) SR FA55_3 rfl ?_
      refine xj_gt 10 RF RF RF (by kernel_rfl) SR LD3 rfl ?_
      refine xj_gt 11 RF RF RF (by kernel_rfl) SR FA55_3 rfl ?_
      refine xj_gt 12 RF RF RF (by kernel_rfl) SR LD3 rfl ?_
      refine xj_one 13 RF (by kernel_rfl) ?_
      refine sq_gt RF RF (y_call (first := []) (caps := []) RF Tryd.call34 (EvL.cons RF (EvL.cons RF (EvL.cons RF EvL.nil))) (fun w1 _ => within34 _ _ _ w1)) rfl ?_
      refine sq_nil ?_
      refine sx_xp SR ?_
      refine xj_s 14 RF (by kernel_rfl) SR (y_pick_t RF RF) rfl ?_
      refine xj_done (by kernel_rfl) ?_
      refine sx_then ?_
      refine scp (fun hc0 => ?_) (fun hc0 => ?_)
      ·
        refine sc_exit ?_
        refine sx_then_exit ?_
        refine sx_blk_hit ?_
        refine sx_endround RM ?_
        intro w' hw'
        refine .inl ⟨(ds ++ [i], 0), ⟨⟨rfl, rfl⟩, fun r2 hr2 => ?_⟩, rfl, hw'.sel SR⟩
        rw [hmem, List.append_assoc] at hr2
        obtain rfl : r = r2 := by simpa using hr2
        rw [hstep]
        exact if_pos (by unfold okW; rw [Bool.and_eq_true]; exact ⟨decide_eq_true hg7_6, decide_eq_true hc0⟩)
      ·
        refine sc_skip ?_
        refine sx_then ?_
        refine sc_seq ?_
        refine sc_region ?_
        refine qs (y_move RF) ?_
        refine sq_store Tryd.sizeOf3 RF RF (by first | rfl | assumption) RM (by first | exact Nat.le_of_ble_eq_true rfl | simp | omega) ?_
        refine sq_nil ?_
        refine sx_then ?_
        refine sc_ret ?_
        refine sx_blk_ret ?_
        refine sx_endround_ret RM ?_
        intro w' hw'
        refine .inr ⟨(ds ++ [i], (i : Int)), ⟨i, rfl, ?_⟩, rfl, hw'.sel SR⟩
        rw [hstep]
        exact if_neg (by intro h; unfold okW at h; rw [Bool.and_eq_true] at h; first | exact hc0 (of_decide_eq_true h.2) | exact hg7_6 (of_decide_eq_true h.1) | (have := of_decide_eq_true h.1; omega))
    ·
      refine xj_gf 7 RF RF RF rfl (by kernel_rfl) SR rfl ?_
      refine xj_gf 8 RF RF RF rfl (by kernel_rfl) SR rfl ?_
      refine xj_gf 9 RF RF RF rfl (by kernel_rfl) SR rfl ?_
      refine xj_gf 10 RF RF RF rfl (by kernel_rfl) SR rfl ?_
      refine xj_gf 11 RF RF RF rfl (by kernel_rfl) SR rfl ?_
      refine xj_gf 12 RF RF RF rfl (by kernel_rfl) SR rfl ?_
      refine xj_gf 13 RF RF RF rfl (by kernel_rfl) SR rfl ?_
      refine xj_s 14 RF (by kernel_rfl) SR (y_pick_f RF RF) rfl ?_
      refine xj_done (by kernel_rfl) ?_
      refine sx_then ?_
      refine sc_f RF ?_
      refine sc_skip ?_
      refine sx_then ?_
      refine sc_seq ?_
      refine sc_region ?_
      refine qs (y_move RF) ?_
      refine sq_store Tryd.sizeOf3 RF RF (by first | rfl | assumption) RM (by first | exact Nat.le_of_ble_eq_true rfl | simp | omega) ?_
      refine sq_nil ?_
      refine sx_then ?_
      refine sc_ret ?_
      refine sx_blk_ret ?_
      refine sx_endround_ret RM ?_
      intro w' hw'
      refine .inr ⟨(ds ++ [i], (i : Int)), ⟨i, rfl, ?_⟩, rfl, hw'.sel SR⟩
      rw [hstep]
      exact if_neg (by intro h; unfold okW at h; rw [Bool.and_eq_true] at h; first | exact hc0 (of_decide_eq_true h.2) | exact hg7_6 (of_decide_eq_true h.1) | (have := of_decide_eq_true h.1; omega))
  ·
    rintro D ⟨⟩ hno
    refine sx_blk ?_
    refine sx_then ?_
    refine sc_seq ?_
    refine sc_region ?_
    refine sq_store Tryd.sizeOf3 RF RF (by first | rfl | assumption) RM (by first | exact Nat.le_of_ble_eq_true rfl | simp | omega) ?_
    refine sq_nil ?_
    refine sx_then ?_
    refine sc_ret ?_
    refine sx_scope_ret ?_
    refine sx_retcM (.inl rfl) rfl RM Tryd.results35 Tryd.underlying3 rfl RF MM ?_
    intro w' hw'
    exact ⟨by unfold refI; rw [hno], hw'.below MM⟩
  ·
    rintro D ⟨yd, yn⟩ hyes
    dsimp only at hyes ⊢
    refine sx_blk_ret ?_
    refine sx_then_ret ?_
    refine sx_scope_ret ?_
    refine sx_retcM (.inl rfl) rfl RM Tryd.results35 Tryd.underlying3 rfl RF MM ?_
    intro w' hw'
    exact ⟨by unfold refI; rw [hyes], hw'.below MM⟩
end Go.Proofs.YtpodaihifdlkkaaDoor
