/- The walk of Solve. -/
import Derived.Test.YtfceajkofpafpaaFW9
namespace Go.Proofs.Ytfceajkofpafpaa
open Go Go.Eng Go.RowKit Go.Proofs
open Go.Proofs.Ytfceajkofpafpaa.Sc (iRow spRow sp0 Sp spB plusV getD_of get_of_lt any_range_get all_not_any all_getD)
set_option maxRecDepth 100000
theorem lyflat_one (l : List Ly) : ∀ v, v ∈ l.flatMap lyRow → v.oneCell' = true := flat_one (fun _ u hu => by
  simp only [lyRow, List.mem_cons, List.not_mem_nil, or_false] at hu
  rcases hu with rfl | rfl <;> rfl) l
theorem getD_pre {α : Type} {ds S : List (List α)} (h : ds <+: S) {i : Nat} (hi : i < ds.length) : S.getD i [] = ds.getD i [] := by
  obtain ⟨t, rfl⟩ := h
  rw [List.getD_eq_getElem?_getD, List.getD_eq_getElem?_getD, List.getElem?_append_left hi]
theorem getD_sn_lt {α : Type} {ds : List (List α)} {h : List α} {i : Nat} (hi : i < ds.length) : (ds ++ [h]).getD i [] = ds.getD i [] := by
  rw [List.getD_eq_getElem?_getD, List.getD_eq_getElem?_getD, List.getElem?_append_left hi]
theorem getD_sn_gt {α : Type} {ds : List (List α)} {h : List α} {i : Nat} (hi : ds.length < i) : (ds ++ [h]).getD i [] = ds.getD i [] := by
  rw [List.getD_eq_getElem?_getD, List.getD_eq_getElem?_getD, List.getElem?_eq_none (by simp; omega), List.getElem?_eq_none (by omega)]
theorem getD_sn_eq {α : Type} {ds : List (List α)} {h : List α} {i : Nat} (hi : i = ds.length) : (ds ++ [h]).getD i [] = h := by
  subst hi
  rw [List.getD_eq_getElem?_getD, List.getElem?_append_right (Nat.le_refl _)]; simp
theorem sol83q {w0 wr w : World} {lo ll : Nat} {lp : Loop} {rs : List Res} (_ : Hp w0 rs w) (_ : Res.blk ll (.loop lp) ∈ rs) {z : Pz} (hF : PzF z) {a : Option Addr} {c : Nat} (hp : RowsA pcRow 28 0 w0 a z.pieces) {bb bm : Nat} {ms : List (((Nat × Nat) × (Nat × Nat)) × Int)} (hM : Mt z z.pieces.length 0 0 0 ms) {q1 q2 : Addr} (hq1 : CA lo wr q1 [.pointer (some ⟨bb, 0, none⟩)]) (hq2 : CA lo wr q2 [.slice none 0 0]) (U : UsrS w0 ll lp z) (yy : U.Z) (hinv : U.Inv [] yy) (hw : Hp w0 (.blk bb (.cells (bdRow z a c bm (.slice none 0 0)).toArray 179 (0, 0)) :: .blk bm (mvM sK iV ms) :: .reg lo wr :: .reg 0 w0 :: U.UR yy) w) {R : Ending → World → Prop}
    (h : ∀ e w', (∃ v, e = .returned v) → ∀ (y : U.Z) (go : Bool) (es : List (List Ly)), (if go = true then U.Inv (solL z) y else U.Stp es y ∧ es <+: solL z) → Hp w0 (.reg lo wr :: .reg 0 w0 :: U.UR y) w' → R e w') : Calls Try.prog 83 #[.func (.yield ll) #[] #[], .pointer (some q1), .pointer (some q2)] w R :=
  (sol83 hF hp hM hq1 hq2 U yy hinv w hw).mono fun e w' ⟨hv, y, h1, h2⟩ => h e w' hv y.1 y.2.1 y.2.2 h1 h2
/-- Solve's answer -/
def manyS (z : Pz) : Int := if 100 ≤ (solL z).length then 100 else ((solL z).length : Nat)
def errS (z : Pz) : Int := if (solL z).length = 0 then 4 else 0
theorem clone49o (w : World) (a : Option Addr) (c : Nat) (l : List Ly) (hl : RowsA lyRow 2 0 w a l) (hb : l.length ≤ 100000) (h0 : 0 < l.length) : Calls Try.prog 49 #[.slice a l.length c] w fun e w' => ∃ v, e = .returned v ∧ Below w.heap.size w w' ∧ v.oneCell' = true ∧ w'.ownsRow w.heap.size 70 2 v l.length (l.flatMap lyRow) := by
  refine calls_of_SC (args := [.slice a l.length c]) Try.func49 rfl Try.ntmps49 rfl ?_
  simp only [argL]
  refine sc_seq ?_
  refine sc_region ?_
  refine qs (y_assign RF) ?_
  refine sq_nil ?_
  refine sx_then ?_
  refine sc_seq ?_
  refine sc_seq ?_
  refine sc_region ?_
  refine qs (y_move RF) ?_
  refine qs (y_eqlnilA Try.underlying64 RF RF) ?_
  refine sq_nil ?_
  refine sx_then ?_
  refine scp (fun hc0 => ?_) (fun hc0 => ?_)
  ·
    have han : a = none := by cases a with | none => rfl | some ad => cases hc0
    exact absurd (hl.noa han) (by omega)
  ·
    refine sc_skip ?_
    refine sx_then ?_
    refine sc_seq ?_
    refine sc_region ?_
    refine sq_bs Try.underlying64 ei70 (EvI.nil) (by simp) rfl rfl rfl (fun b5 => ?_)
    refine sq_blk_own0 (sz := 2) (c := 0) RM rfl (Nat.zero_le _) ?_
    refine qs (y_move RF) ?_
    refine sq_append_rows (news := l.flatMap lyRow) Try.underlying64 ei70 Try.sizeOf70 rfl (by decide) RF RM RF hl.noa (by rw [lyflat_len]) (fun ad had w1 hw1 => RowsA.cells (row := lyRow) lyRow_len (by decide) (by rw [← had]; exact hl.at hw1 MM)) (lyflat_one _) (by omega) rfl (fun v7 ho7 => ?_)
    rw [Nat.zero_add l.length, List.nil_append]
    refine qs (y_assign RF) ?_
    refine sq_nil ?_
    refine sx_then ?_
    refine sc_ret ?_
    refine sx_ret1 (.inl rfl) rfl Try.results49 RF ?_
    intro w' hw'
    have ho := own_new_mem hw' (v := v7) (xs := l.flatMap lyRow) MM MM
    exact ⟨v7, rfl, hw'.below MM, ho7, ho⟩
theorem clone49v (w : World) (v : Value) (l : List Ly) (hv : w.ownsRow 0 70 2 v l.length (l.flatMap lyRow)) (h1 : 1 ≤ l.length) (hb : l.length ≤ 100000) : Calls Try.prog 49 #[v] w fun e w' => ∃ v, e = .returned v ∧ Below w.heap.size w w' ∧ v.oneCell' = true ∧ w'.ownsRow w.heap.size 70 2 v l.length (l.flatMap lyRow) := by
  obtain ⟨al, cl, rfl, _, hr⟩ := own_rowsA (row := lyRow) lyRow_len hv rfl (by omega)
  exact clone49o w al cl l hr hb (by omega)
theorem Solve16 (w : World) (z : Pz) (hF : PzF z) (a : Option Addr) (c : Nat) (hp : RowsA pcRow 28 0 w a z.pieces) : Calls Try.prog 16 #[.agg (pzRow z a c).toArray] w fun e w' => ∃ q : Value × Value, e = .returned (.tuple #[q.1, q.2, .int .i64 (manyS z), .int .i64 (errS z)]) ∧ Below w.heap.size w w' ∧ w'.ownsRow w.heap.size 70 2 q.1 ((solL z).getD 0 []).length (((solL z).getD 0 []).flatMap lyRow) ∧ w'.ownsRow w.heap.size 70 2 q.2 ((solL z).getD 1 []).length (((solL z).getD 1 []).flatMap lyRow) := by
  have hlen := hp.len
  have hn := hF.n
  refine calls_of_SCm (args := [.agg (pzRow z a c).toArray]) Try.func16 rfl Try.ntmps16 rfl ?_
  simp only [argL]
  refine sc_seq ?_
  refine sc_region ?_
  refine sq_box RF rfl (fun b1 => ?_)
  refine sq_alloc Try.zeroValue64 rfl (fun b2 => ?_)
  refine sq_alloc Try.zeroValue64 rfl (fun b3 => ?_)
  refine sq_alloc Try.zeroValue3 rfl (fun b4 => ?_)
  refine qs (y_assign RF) ?_
  refine sq_nil ?_
  refine sx_then ?_
  refine sc_seq ?_
  refine sc_region ?_
  refine qs LD62 ?_
  refine sq_call (first := []) (caps := []) (Z := Nat × Nat × List (((Nat × Nat) × (Nat × Nat)) × Int)) (fun q => .tuple #[.pointer (some ⟨q.1, 0, none⟩), .int .i64 0]) (fun q => .blk q.1 (.cells (bdRow z a c q.2.1 (.slice none 0 0)).toArray 179 (0, 0)) :: .blk q.2.1 (mvM sK iV q.2.2) :: .reg 0 w :: [.blk b4 (.cells #[.int .i64 0] 3 (0, 0)), .blk b3 (.cells #[.slice none 0 0] 64 (0, 0)), .blk b2 (.cells #[.slice none 0 0] 64 (0, 0)), .blk b1 (.cells (pzRow z a c).toArray 62 (0, 0))]) (fun q => Mt z z.pieces.length 0 0 0 q.2.2) RF Try.call47 (EvL.cons RF EvL.nil) (fun w1 hw1 => open47 z hF a c hp (hw1.sel SR)) rfl (fun qb hqb => ?_)
  refine qs (y_move RF) ?_
  refine qs (y_extract RF RF) ?_
  refine qs (y_extract RF RF) ?_
  refine qs (y_assign RF) ?_
  refine qs (y_assign RF) ?_
  refine sq_nil ?_
  refine sx_then ?_
  refine sc_seq ?_
  refine sc_seq ?_
  refine sc_region ?_
  refine qs (y_move RF) ?_
  refine qs (y_neq RF RF) ?_
  refine sq_nil ?_
  refine sx_then ?_
  refine sc_f (lk_bool rfl (rfl)) ?_
  refine sc_skip ?_
  refine sx_then ?_
  refine sc_seq ?_
  refine sc_seq ?_
  refine sc_region ?_
  refine qs (y_move RF) ?_
  refine sq_call_new (first := []) (caps := []) (Z := Addr × Addr) (fun q => .func (.func 83) #[] #[.pointer (some q.1), .pointer (some q.2)]) (fun lo w' q => CA lo w' q.1 [.pointer (some ⟨qb.1, 0, none⟩)] ∧ CA lo w' q.2 [.slice none 0 0]) RF Try.call48 (EvL.cons RF (EvL.cons RF EvL.nil)) (fun w1 _ => solutions48 w1 ⟨qb.1, 0, none⟩) rfl (fun lo wr qq hqq => ?_)
  refine sq_nil ?_
  refine sx_then ?_
  refine sc_block ?_
  refine sc_nil_own 70 2 ?_
  refine sc_nil_own 70 2 ?_
  refine sc_rangeFuncB (id := 0) (Z := Value × Value × List (List Ly)) (Z' := Value × Value × List (List Ly)) (ps := [18]) (lb := [.pointer (some qq.1), .pointer (some qq.2)]) (fun y => .reg lo wr :: .reg 0 w :: .blk b2 (.cells #[y.1] 64 (0, 0)) :: .blk b3 (.cells #[y.2.1] 64 (0, 0)) :: .blk b4 (.cells #[.int .i64 ((y.2.2.length : Nat) : Int)] 3 (0, 0)) :: .own y.1 70 2 (y.2.2.getD 0 []).length ((y.2.2.getD 0 []).flatMap lyRow) :: .own y.2.1 70 2 (y.2.2.getD 1 []).length ((y.2.2.getD 1 []).flatMap lyRow) :: []) (fun y => y.2.2 = solL z ∧ y.2.2.length < 100 ∧ y.1.oneCell' = true ∧ y.2.1.oneCell' = true) (fun y => .reg lo wr :: .reg 0 w :: .blk b2 (.cells #[y.1] 64 (0, 0)) :: .blk b3 (.cells #[y.2.1] 64 (0, 0)) :: .blk b4 (.cells #[.int .i64 ((y.2.2.length : Nat) : Int)] 3 (0, 0)) :: .own y.1 70 2 (y.2.2.getD 0 []).length ((y.2.2.getD 0 []).flatMap lyRow) :: .own y.2.1 70 2 (y.2.2.getD 1 []).length ((y.2.2.getD 1 []).flatMap lyRow) :: []) (fun y => y.2.2 <+: solL z ∧ y.2.2.length = 100 ∧ y.1.oneCell' = true ∧ y.2.1.oneCell' = true) rfl RF Try.call83 ?_ ?_ ?_
  ·
    intro fn tm l' DD hts htL w1 hw1
    refine sol83q hw1 (.head _) hF hp hqb hqq.1 hqq.2 { Z := Bool × Value × Value × List (List Ly), UR := (fun (y : Bool × Value × Value × List (List Ly)) => .blk l' (.loop (LZB 0 y.1 fn tm [18] _ _ DD)) :: .blk DD (.deferred (some [])) :: .blk b2 (.cells #[y.2.1] 64 (0, 0)) :: .blk b3 (.cells #[y.2.2.1] 64 (0, 0)) :: .blk b4 (.cells #[.int .i64 ((y.2.2.2.length : Nat) : Int)] 3 (0, 0)) :: .own y.2.1 70 2 (y.2.2.2.getD 0 []).length ((y.2.2.2.getD 0 []).flatMap lyRow) :: .own y.2.2.1 70 2 (y.2.2.2.getD 1 []).length ((y.2.2.2.getD 1 []).flatMap lyRow) :: []), Inv := fun ds y => y.1 = true ∧ y.2.2.2 = ds ∧ ds.length < 100 ∧ y.2.1.oneCell' = true ∧ y.2.2.1.oneCell' = true, Stp := fun ds y => y.1 = false ∧ y.2.2.2 = ds ∧ ds.length = 100 ∧ y.2.1.oneCell' = true ∧ y.2.2.1.oneCell' = true, loop := (fun ds y h => by obtain ⟨g, y⟩ := y; obtain rfl : g = true := h.1; exact .head _), one := rfl, round := ?_ } (true, .slice none 0 0, .slice none 0 0, []) ⟨rfl, rfl, by decide, rfl, rfl⟩ (hw1.sel SR) ?_
    rotate_left
    · intro e w' hv y go es h1 h2
      refine ⟨hv, ?_⟩
      obtain ⟨g, y⟩ := y
      by_cases hgo : go = true
      · rw [if_pos hgo] at h1
        obtain ⟨h3, h4, h5, h6⟩ := h1
        dsimp only at h3 h4 h5 h6
        subst h3
        exact .inl ⟨y, ⟨h4, by rw [h4]; exact h5, h6⟩, h2.sel SR⟩
      · rw [if_neg hgo] at h1
        obtain ⟨⟨h3, h4, h5, h6⟩, h7⟩ := h1
        dsimp only at h3 h4 h5 h6
        subst h3
        exact .inr ⟨y, ⟨by rw [h4]; exact h7, by rw [h4]; exact h5, h6⟩, h2.sel SR⟩
    rintro ds ⟨g, v1, v2, es⟩ h ⟨hg, hes, hds, hv1, hv2⟩ hh F w2 v hw2
    dsimp only at hg hes hv1 hv2
    subst hg
    have hes := hes.symm
    subst hes
    rw [fold1]
    obtain ⟨hs2, hL2⟩ := one_param (p := 18) (u := v) hts htL (Nat.le_of_ble_eq_true rfl)
    refine round_of_SC (N := 37) hs2 hL2 hw2 ?_
    dsimp only [List.cons_append, List.nil_append, LZB]
    refine sc_region ?_
    refine qs (y_assign RF) ?_
    refine sq_nil ?_
    refine sx_begin rfl RM rfl ?_
    refine sc_block ?_
    refine sc_seq ?_
    refine sc_seq ?_
    refine sc_region ?_
    refine qs LD3 ?_
    refine qs (y_add RF RF (by omega)) ?_
    refine sq_store_to (cs' := #[.int .i64 ((ds.length : Nat) + 1)]) Try.sizeOf3 RF RF rfl RM (Nat.le_of_ble_eq_true rfl) rfl ?_
    refine sq_nil ?_
    refine sx_then ?_
    refine sc_seq ?_
    refine sc_region ?_
    refine qs LD3 ?_
    refine sq_nil ?_
    refine sx_then ?_
    refine sc_block ?_
    refine sc_seq ?_
    refine sc_region ?_
    refine qs (y_eql RF RF) ?_
    refine qs (y_assign RF) ?_
    refine sq_nil ?_
    refine sx_then ?_
    refine scp (fun hc1 => ?_) (fun hc1 => ?_)
    ·
      refine sc_region ?_
      refine qs (y_move RF) ?_
      refine sq_call_own (first := []) (caps := []) (e := 70) (sz := 2) (n := h.length) (Z := Value) (fun x => x) (fun x => x) (fun _ => h.flatMap lyRow) (fun x => x.oneCell' = true) RF Try.call49 E1 (fun w1 hw1 => (clone49v w1 v h (hw1.ok (Res.own v 70 2 h.length (h.flatMap lyRow)) MM) (by omega) (by omega)).mono (fun e w' ⟨x, h1, h2, h3, h4⟩ => ⟨x, h1, h2, h3, h4⟩)) rfl (fun vn hvn => ?_)
      refine sq_store_to (cs' := #[vn]) Try.sizeOf64 RF RF (by assumption) RM (Nat.le_of_ble_eq_true rfl) rfl ?_
      refine sq_nil ?_
      refine sx_blk ?_
      refine sx_then ?_
      refine sc_seq ?_
      refine sc_region ?_
      refine qs LD3 ?_
      refine qs (y_eql RF RF) ?_
      refine sq_nil ?_
      refine sx_then ?_
      refine scp (fun hc3 => ?_) (fun hc3 => ?_)
      ·
        omega
      ·
        refine sc_skip ?_
        refine sx_blk ?_
        refine sx_endround RM ?_
        intro w' hw'
        refine ⟨(true, vn, v2, ds ++ [h]), true, by rw [if_pos rfl]; exact ⟨rfl, rfl, by simp; omega, (by assumption), (by assumption)⟩, rfl, ?_⟩
        dsimp only [LZB]
        rw [show (ds ++ [h]).getD 0 [] = h from getD_sn_eq (by omega), show (ds ++ [h]).getD 1 [] = ds.getD 1 [] from getD_sn_gt (by omega), show (((ds ++ [h]).length : Nat) : Int) = ((ds.length : Nat) : Int) + 1 from by simp]
        exact hw'.sel SR
    ·
      refine sc_seq ?_
      refine sc_region ?_
      refine qs (y_eql RF RF) ?_
      refine qs (y_assign RF) ?_
      refine sq_nil ?_
      refine sx_then ?_
      refine scp (fun hc2 => ?_) (fun hc2 => ?_)
      ·
        refine sc_region ?_
        refine qs (y_move RF) ?_
        refine sq_call_own (first := []) (caps := []) (e := 70) (sz := 2) (n := h.length) (Z := Value) (fun x => x) (fun x => x) (fun _ => h.flatMap lyRow) (fun x => x.oneCell' = true) RF Try.call49 E1 (fun w1 hw1 => (clone49v w1 v h (hw1.ok (Res.own v 70 2 h.length (h.flatMap lyRow)) MM) (by omega) (by omega)).mono (fun e w' ⟨x, h1, h2, h3, h4⟩ => ⟨x, h1, h2, h3, h4⟩)) rfl (fun vm hvm => ?_)
        refine sq_store_to (cs' := #[vm]) Try.sizeOf64 RF RF (by assumption) RM (Nat.le_of_ble_eq_true rfl) rfl ?_
        refine sq_nil ?_
        refine sx_blk ?_
        refine sx_then ?_
        refine sc_seq ?_
        refine sc_region ?_
        refine qs LD3 ?_
        refine qs (y_eql RF RF) ?_
        refine sq_nil ?_
        refine sx_then ?_
        refine scp (fun hc3 => ?_) (fun hc3 => ?_)
        ·
          omega
        ·
          refine sc_skip ?_
          refine sx_blk ?_
          refine sx_endround RM ?_
          intro w' hw'
          refine ⟨(true, v1, vm, ds ++ [h]), true, by rw [if_pos rfl]; exact ⟨rfl, rfl, by simp; omega, (by assumption), (by assumption)⟩, rfl, ?_⟩
          dsimp only [LZB]
          rw [show (ds ++ [h]).getD 0 [] = ds.getD 0 [] from getD_sn_lt (by omega), show (ds ++ [h]).getD 1 [] = h from getD_sn_eq (by omega), show (((ds ++ [h]).length : Nat) : Int) = ((ds.length : Nat) : Int) + 1 from by simp]
          exact hw'.sel SR
      ·
        refine sc_skip ?_
        refine sx_blk ?_
        refine sx_then ?_
        refine sc_seq ?_
        refine sc_region ?_
        refine qs LD3 ?_
        refine qs (y_eql RF RF) ?_
        refine sq_nil ?_
        refine sx_then ?_
        refine scp (fun hc3 => ?_) (fun hc3 => ?_)
        ·
          refine sc_exit ?_
          refine sx_blk_miss rfl ?_
          refine sx_endround_exit RM ?_
          intro w' hw'
          refine ⟨(false, v1, v2, ds ++ [h]), false, by rw [if_neg (show ¬ false = true by decide)]; exact ⟨rfl, rfl, by simp; omega, hv1, hv2⟩, rfl, ?_⟩
          dsimp only [LZB]
          rw [show (ds ++ [h]).getD 0 [] = ds.getD 0 [] from getD_sn_lt (by omega), show (ds ++ [h]).getD 1 [] = ds.getD 1 [] from getD_sn_lt (by omega), show (((ds ++ [h]).length : Nat) : Int) = ((ds.length : Nat) : Int) + 1 from by simp]
          exact hw'.sel SR
        ·
          refine sc_skip ?_
          refine sx_blk ?_
          refine sx_endround RM ?_
          intro w' hw'
          refine ⟨(true, v1, v2, ds ++ [h]), true, by rw [if_pos rfl]; exact ⟨rfl, rfl, by simp; omega, (by assumption), (by assumption)⟩, rfl, ?_⟩
          dsimp only [LZB]
          rw [show (ds ++ [h]).getD 0 [] = ds.getD 0 [] from getD_sn_lt (by omega), show (ds ++ [h]).getD 1 [] = ds.getD 1 [] from getD_sn_lt (by omega), show (((ds ++ [h]).length : Nat) : Int) = ((ds.length : Nat) : Int) + 1 from by simp]
          exact hw'.sel SR
  ·
    rintro D1 ⟨v1, v2, ds⟩ ⟨hds, hdl, hv1, hv2⟩
    dsimp only at hds hdl hv1 hv2 ⊢
    refine sx_blk ?_
    refine sx_then ?_
    refine sc_seq ?_
    refine sc_seq ?_
    refine sc_region ?_
    refine qs LD3 ?_
    refine qs (y_eql RF RF) ?_
    refine sq_nil ?_
    refine sx_then ?_
    refine scp (fun hc4 => ?_) (fun hc4 => ?_)
    ·
      refine sc_seq ?_
      refine sc_nil_own 70 2 ?_
      refine sc_region ?_
      refine sq_store_to (cs' := #[.slice none 0 0]) Try.sizeOf64 RF RF rfl RM (Nat.le_of_ble_eq_true rfl) rfl ?_
      refine sq_store_to (cs' := #[.slice none 0 0]) Try.sizeOf64 RF RF rfl RM (Nat.le_of_ble_eq_true rfl) rfl ?_
      refine sq_store_to (cs' := #[.int .i64 0]) Try.sizeOf3 RF RF rfl RM (Nat.le_of_ble_eq_true rfl) rfl ?_
      refine qs (y_assign RF) ?_
      refine sq_nil ?_
      refine sx_then ?_
      refine sc_ret ?_
      refine sx_then_ret ?_
      refine sx_retM (.inl rfl) rfl RM _ (res_ccct Try.results16 Try.underlying64 rfl Try.underlying64 rfl Try.underlying3 rfl RF MM RF MM RF MM RF) ?_
      intro w' hw'
      have h0 : solL z = [] := by rw [← hds]; exact List.eq_nil_of_length_eq_zero (by omega)
      refine ⟨(.slice none 0 0, .slice none 0 0), ?_, hw'.below MM, ?_, ?_⟩
      · unfold manyS errS; rw [h0]; rfl
      · rw [h0]; exact own_new_mem hw' (v := .slice none 0 0) (xs := []) MM MM
      · rw [h0]; exact own_new_mem hw' (v := .slice none 0 0) (xs := []) MM MM
    ·
      refine sc_skip ?_
      refine sx_then ?_
      refine sc_seq ?_
      refine sc_drawX ([.blk b2 (.cells #[v1] 64 (0, 0)), .blk b3 (.cells #[v2] 64 (0, 0)), .blk b4 (.cells #[.int .i64 ((ds.length : Nat) : Int)] 3 (0, 0)), .reg 0 w]) (by kernel_rfl) ?_
      refine xj_s 0 RF (by kernel_rfl) SR LD64 rfl ?_
      refine xj_s 1 RF (by kernel_rfl) SR LD64 rfl ?_
      refine xj_s 2 RF (by kernel_rfl) SR LD3 rfl ?_
      refine xj_one 3 RF (by kernel_rfl) ?_
      refine sq_store_to (cs' := #[v1]) Try.sizeOf64 RF RF (by assumption) RM (Nat.le_of_ble_eq_true rfl) rfl ?_
      refine sq_nil ?_
      refine sx_xp SR ?_
      refine xj_one 4 RF (by kernel_rfl) ?_
      refine sq_store_to (cs' := #[v2]) Try.sizeOf64 RF RF (by assumption) RM (Nat.le_of_ble_eq_true rfl) rfl ?_
      refine sq_nil ?_
      refine sx_xp SR ?_
      refine xj_one 5 RF (by kernel_rfl) ?_
      refine sq_store_to (cs' := #[.int .i64 ((ds.length : Nat) : Int)]) Try.sizeOf3 RF RF rfl RM (Nat.le_of_ble_eq_true rfl) rfl ?_
      refine sq_nil ?_
      refine sx_xp SR ?_
      refine xj_s 6 RF (by kernel_rfl) SR (y_assign RF) rfl ?_
      refine xj_done (by kernel_rfl) ?_
      refine sx_then ?_
      refine sc_ret ?_
      refine sx_retM (.inl rfl) rfl RM _ (res_ccct Try.results16 Try.underlying64 rfl Try.underlying64 rfl Try.underlying3 rfl RF MM RF MM RF MM RF) ?_
      intro w' hw'
      refine ⟨(v1, v2), ?_, hw'.below MM, ?_, ?_⟩
      · unfold manyS errS; rw [← hds, if_neg (by omega), if_neg (by omega)]
      · rw [← hds]; exact own_new_mem hw' (v := v1) (xs := (ds.getD 0 []).flatMap lyRow) MM MM
      · rw [← hds]; exact own_new_mem hw' (v := v2) (xs := (ds.getD 1 []).flatMap lyRow) MM MM
  ·
    rintro D1 ⟨v1, v2, ds⟩ ⟨hpre, hdl, hv1, hv2⟩
    dsimp only at hpre hdl hv1 hv2 ⊢
    refine sx_blk_hit ?_
    refine sx_then ?_
    refine sc_seq ?_
    refine sc_seq ?_
    refine sc_region ?_
    refine qs LD3 ?_
    refine qs (y_eql RF RF) ?_
    refine sq_nil ?_
    refine sx_then ?_
    refine scp (fun hc4 => ?_) (fun hc4 => ?_)
    ·
      omega
    ·
      refine sc_skip ?_
      refine sx_then ?_
      refine sc_seq ?_
      refine sc_drawX ([.blk b2 (.cells #[v1] 64 (0, 0)), .blk b3 (.cells #[v2] 64 (0, 0)), .blk b4 (.cells #[.int .i64 ((ds.length : Nat) : Int)] 3 (0, 0)), .reg 0 w]) (by kernel_rfl) ?_
      refine xj_s 0 RF (by kernel_rfl) SR LD64 rfl ?_
      refine xj_s 1 RF (by kernel_rfl) SR LD64 rfl ?_
      refine xj_s 2 RF (by kernel_rfl) SR LD3 rfl ?_
      refine xj_one 3 RF (by kernel_rfl) ?_
      refine sq_store_to (cs' := #[v1]) Try.sizeOf64 RF RF (by assumption) RM (Nat.le_of_ble_eq_true rfl) rfl ?_
      refine sq_nil ?_
      refine sx_xp SR ?_
      refine xj_one 4 RF (by kernel_rfl) ?_
      refine sq_store_to (cs' := #[v2]) Try.sizeOf64 RF RF (by assumption) RM (Nat.le_of_ble_eq_true rfl) rfl ?_
      refine sq_nil ?_
      refine sx_xp SR ?_
      refine xj_one 5 RF (by kernel_rfl) ?_
      refine sq_store_to (cs' := #[.int .i64 ((ds.length : Nat) : Int)]) Try.sizeOf3 RF RF rfl RM (Nat.le_of_ble_eq_true rfl) rfl ?_
      refine sq_nil ?_
      refine sx_xp SR ?_
      refine xj_s 6 RF (by kernel_rfl) SR (y_assign RF) rfl ?_
      refine xj_done (by kernel_rfl) ?_
      refine sx_then ?_
      refine sc_ret ?_
      refine sx_retM (.inl rfl) rfl RM _ (res_ccct Try.results16 Try.underlying64 rfl Try.underlying64 rfl Try.underlying3 rfl RF MM RF MM RF MM RF) ?_
      intro w' hw'
      have hle := hpre.length_le
      refine ⟨(v1, v2), ?_, hw'.below MM, ?_, ?_⟩
      · unfold manyS errS; rw [if_pos (by omega), if_neg (by omega), hdl]; rfl
      · rw [getD_pre hpre (by omega)]; exact own_new_mem hw' (v := v1) (xs := (ds.getD 0 []).flatMap lyRow) MM MM
      · rw [getD_pre hpre (by omega)]; exact own_new_mem hw' (v := v2) (xs := (ds.getD 1 []).flatMap lyRow) MM MM
end Go.Proofs.Ytfceajkofpafpaa
