/- The walk of the saw, of a cut whose pieces are cells. -/
import Derived.Test.YtfceajkofpafpaaFW14
namespace Go.Proofs.Ytfceajkofpafpaa
open Go Go.Eng Go.RowKit Go.Proofs
open Go.Proofs.Ytfceajkofpafpaa.Sc (iRow spRow sp0 Sp getD_of get_of_lt any_range_get all_not_any all_getD)
set_option maxRecDepth 100000
def plcI (i : Nat) (x y : Int) : Int := if i = 0 then y else x
theorem call_rc {i : Nat} (hi : i < 2) : ∀ args w, (callFunc (91 + i) args).run Try.prog w = .ok (.enter (91 + i) args) w := by
  rcases (by omega : i = 0 ∨ i = 1) with rfl | rfl
  · exact Try.call91
  · exact Try.call92
theorem place_rc (w : World) {i : Nat} (hi : i < 2) (x y : Int) : Calls Try.prog (91 + i) #[.agg #[.int .i64 x, .int .i64 y]] w fun e w' => e = .returned (.int .i64 (plcI i x y)) ∧ Below w.heap.size w w' := by
  rcases (by omega : i = 0 ∨ i = 1) with rfl | rfl
  · exact row91 w x y
  · exact column92 w x y
theorem fn_rc {i : Nat} (hi : i < 2) : (#[.func (.func 91) #[] #[], .func (.func 92) #[] #[]] : Array Value)[0 + i * 1]? = some (.func (.func (91 + i)) #[] #[]) := by
  rcases (by omega : i = 0 ∨ i = 1) with rfl | rfl <;> rfl
theorem spl_gen {c : Ct} {R : Rc} (h : RcIn c R) {i : Nat} (hi : i < 2) (h2 : plcI i R.x0 R.y0 + 1 < plcI i R.x1 R.y1) : RcIn c (splA R (decide ((i : Int) = 1)) (plcI i R.x0 R.y0 + 1)) ∧ RcIn c (splB R (decide ((i : Int) = 1)) (plcI i R.x0 R.y0 + 1)) ∧ (splA R (decide ((i : Int) = 1)) (plcI i R.x0 R.y0 + 1)).area + (splB R (decide ((i : Int) = 1)) (plcI i R.x0 R.y0 + 1)).area = R.area := by
  rcases (by omega : i = 0 ∨ i = 1) with rfl | rfl
  · exact spl_row h h2
  · exact spl_col h h2
theorem plc_bd {c : Ct} {R : Rc} (hF : CtF c) (h : RcIn c R) (i : Nat) : (0 ≤ plcI i R.x0 R.y0 ∧ plcI i R.x0 R.y0 ≤ 12) ∧ (0 ≤ plcI i R.x1 R.y1 ∧ plcI i R.x1 R.y1 ≤ 12) := by
  have hx := h.x
  have hy := h.y
  have := hF.w2
  have := hF.h2
  unfold plcI
  split <;> omega
theorem pcL_len (c : Ct) (ds : List (Int × Int)) : (pcL c ds).length = ds.length := List.length_map ..
theorem cells_nd (R : Rc) : (cellsR R).Nodup := by
  have : ∀ n, (cellsJ R n).Nodup := by
    intro n
    induction n with
    | zero => exact List.nodup_nil
    | succ n ih =>
      rw [cellsJ_succ]
      have : ∀ m, (cellsJ R n ++ rowC R n m).Nodup := by
        intro m
        induction m with
        | zero => rw [show rowC R n 0 = [] from rfl, List.append_nil]; exact ih
        | succ m ih2 =>
          rw [rowC_succ, ← List.append_assoc]
          exact List.nodup_append.2 ⟨ih2, by simp, fun x hx y hy e => cellIJ_new (by rw [List.mem_singleton.1 hy] at e; rw [← e]; exact hx)⟩
      exact this _
  exact this _
theorem key_none {c : Ct} (hD : Dist c) {R : Rc} {up : Bool} {k0 : Int} (hA : RcIn c (splA R up k0)) (hB : RcIn c (splB R up k0)) {k v : Int} (h : (k, v) ∈ pcL c (cellsR (splA R up k0))) : mvGet (pcL c (cellsR (splB R up k0))) k = none := by
  obtain ⟨q, hq, e⟩ := List.mem_map.1 h
  injection e with e1 _
  rw [← e1]
  exact pcL_no hD (fun q hq => cells_in hB hq) (cells_in hA hq) (spl_apart hq)
theorem saw55 {w0 wr : World} {lo : Nat} {c : Ct} (hD : Dist c) (a : Option Addr) (cp b : Nat) (hb : MpA lo wr b c) (bl : Nat) : ∀ (f : Nat) (R : Rc), R.area ≤ f → RcIn c R → ∀ n xs v w T, v.oneCell' = true → n + R.area ≤ 1000 → Hp w0 (.own v 196 4 n xs :: .blk bl (.cells #[v] 77 (0, 0)) :: .reg lo wr :: .reg 0 w0 :: T) w →
    Calls Try.prog 55 #[.agg (picV c a cp b).toArray, .agg (rcRow R).toArray, .pointer (some ⟨bl, 0, none⟩)] w fun e w' => ∃ y : Value × List Value, e = .returned (.bool true) ∧ y.1.oneCell' = true ∧ Hp w0 (.own y.1 196 4 (n + (R.area - 1)) y.2 :: .blk bl (.cells #[y.1] 77 (0, 0)) :: .reg lo wr :: .reg 0 w0 :: T) w' := by
  have hF := hD.ok.ok
  intro f
  induction f with
  | zero => intro R h1 h2; have := area_pos h2; omega
  | succ f ih =>
    intro R hRf hR n xs v w T hv1 hnb hw
    have hpos := area_pos hR
    have hlenR : (pcL c (cellsR R)).length = R.area := by rw [pcL_len, cellsR_len]
    refine calls_of_SCrm (args := [.agg (picV c a cp b).toArray, .agg (rcRow R).toArray, .pointer (some ⟨bl, 0, none⟩)]) Try.func55 rfl Try.ntmps55 hw rfl ?_
    simp only [argL, Nat.reduceAdd, Nat.zero_add]
    refine sc_seq ?_
    refine sc_region ?_
    refine sq_box RF rfl (fun b3 => ?_)
    refine sq_box RF rfl (fun b4 => ?_)
    refine qs (y_assign RF) ?_
    refine sq_nil ?_
    refine sx_then ?_
    refine sc_seq ?_
    refine sc_region ?_
    refine qs LD90 ?_
    refine qs LD143 ?_
    refine sq_call_new (first := []) (caps := []) (Z := Nat) (fun q => .map (some q)) (fun lo w' q => lo ≤ q ∧ w'.heap[q]? = some (mvM iV iV (pcL c (cellsR R)))) RF Try.call90 (EvL.cons RF (EvL.cons RF EvL.nil)) (fun w1 hw1 => pieces90 w1 c hD a cp b (hb.at hw1 MM) R hR) rfl (fun lo1 wr1 qr hqr => ?_)
    refine qs (y_assign RF) ?_
    refine sq_nil ?_
    refine sx_then ?_
    refine sc_seq ?_
    refine sc_seq ?_
    refine sc_region ?_
    refine qs (y_move RF) ?_
    refine qs (y_lenM (kf := iV) (vf := iV) (l := pcL c (cellsR R)) Try.underlying186 RF (fun _ hw => heap_reg hw MM hqr.1 hqr.2)) ?_
    rw [hlenR]
    refine qs (y_eql RF RF) ?_
    refine sq_nil ?_
    refine sx_then ?_
    refine scp (fun hc0 => ?_) (fun hc0 => ?_)
    ·
      have har : R.area = 1 := by omega
      refine sc_seq ?_
      refine sc_region ?_
      refine qs (y_assign RF) ?_
      refine sq_nil ?_
      refine sx_then ?_
      refine sc_ret ?_
      refine sx_then_ret ?_
      refine sx_retM0 (.inl rfl) rfl (.bool true) (fun a1 w1 ha1 _ => by
        have h9 : a1.tmps[6]? = some (.bool true) := ha1.get _ _ rfl
        simp [results, Try.results55, h9]) ?_
      intro w' hw'
      exact ⟨(v, xs), rfl, hv1, by rw [har]; exact hw'.sel SR⟩
    ·
      have har : 2 ≤ R.area := by omega
      refine sc_skip ?_
      refine sx_then ?_
      refine sc_seq ?_
      refine sc_seq ?_
      refine sc_region ?_
      refine sq_bs Try.underlying189 ei135 (EvI.cons RF (EvI.cons RF EvI.nil)) (by first | (simp [Value.cells]; done) | (simp [Value.cells]; rfl) | (simp [Value.cells]; and_intros <;> rfl)) rfl rfl rfl (fun b23 => ?_)
      refine qs (y_len Try.underlying189 RF) ?_
      refine qs (y_move RF) ?_
      refine sq_nil ?_
      refine sx_then ?_
      refine sc_block ?_
      refine sc_loopD (σ := Nat) (fun s => ([] : List Deferred))
        (fun s => [(2, .pointer (some ⟨bl, 0, none⟩)), (3, .pointer (some ⟨b3, 0, none⟩)), (4, .pointer (some ⟨b4, 0, none⟩)), (23, .slice (some ⟨b23, 0, none⟩) 2 2), (24, .int .i64 2), (25, .int .i64 s)])
        (fun s => .own v 196 4 n xs :: .blk bl (.cells #[v] 77 (0, 0)) :: .blk b23 (.cells #[.func (.func 91) #[] #[], .func (.func 92) #[] #[]] 135 (0, 0)) :: .blk b4 (.cells (rcRow R).toArray 143 (0, 0)) :: .blk b3 (.cells (picV c a cp b).toArray 90 (0, 0)) :: .reg lo wr :: .reg 0 w0 :: T)
        (fun s => s ≤ 1 ∧ (s = 1 → ¬ R.y0 + 1 < R.y1))
        (fun s => 2 - s)
        (0) ?_ rfl SU SR ?_
      · exact ⟨by omega, fun h => by omega⟩
      rintro i ⟨hi, hrow⟩
      refine sc_seq ?_
      refine sc_region ?_
      refine qs (y_lss RF RF) ?_
      refine sq_nil ?_
      refine sx_then ?_
      refine sc_seq ?_
      refine scp (fun hc1 => ?_) (fun hc1 => ?_)
      ·
        have hi' : i < 2 := by omega
        have hpb := plc_bd hF hR i
        refine sc_skip ?_
        refine sx_then ?_
        refine sc_seq ?_
        refine sc_block ?_
        refine sc_seq ?_
        refine sc_region ?_
        refine qs (y_move RF) ?_
        refine qs (y_ia_blk (i := i) Try.underlying189 Try.sizeOf135 RF RF hi') ?_
        refine qs (by first | exact y_load_blk Try.underlying135 rfl RF MM (fn_rc hi') | exact LD135) ?_
        refine qs (y_assign RF) ?_
        refine qs (y_assign RF) ?_
        refine sq_nil ?_
        refine sx_then ?_
        refine sc_scope ?_
        refine sc_seq ?_
        refine sc_region ?_
        refine qs (y_move RF) ?_
        refine qs (y_eql RF RF) ?_
        refine qs (y_assign RF) ?_
        refine sq_nil ?_
        refine sx_then ?_
        refine sc_seq ?_
        refine sc_label ?_
        refine sx_then ?_
        refine sc_seq ?_
        refine sc_region ?_
        refine qs (y_move RF) ?_
        refine qs FA143_137 ?_
        refine qs LD137 ?_
        refine qy (y_call (first := []) (caps := []) (by exact rfl) (call_rc hi') E1 (fun w1 _ => place_rc w1 hi' R.x0 R.y0)) ?_
        refine qs (y_add RF RF (by omega)) ?_
        refine qs (y_assign RF) ?_
        refine sq_nil ?_
        refine sx_then ?_
        refine sc_block ?_
        refine sc_loopD (σ := Unit) (fun s => ([] : List Deferred))
          (fun s => [(2, .pointer (some ⟨bl, 0, none⟩)), (3, .pointer (some ⟨b3, 0, none⟩)), (4, .pointer (some ⟨b4, 0, none⟩)), (9, .func (.func (91 + i)) #[] #[]), (10, .bool (decide ((i : Int) = 1))), (11, .int .i64 (plcI i R.x0 R.y0 + 1)), (23, .slice (some ⟨b23, 0, none⟩) 2 2), (24, .int .i64 2), (25, .int .i64 i)])
          (fun s => .own v 196 4 n xs :: .blk bl (.cells #[v] 77 (0, 0)) :: .blk b23 (.cells #[.func (.func 91) #[] #[], .func (.func 92) #[] #[]] 135 (0, 0)) :: .blk b4 (.cells (rcRow R).toArray 143 (0, 0)) :: .blk b3 (.cells (picV c a cp b).toArray 90 (0, 0)) :: .reg lo wr :: .reg 0 w0 :: T)
          (fun s => True)
          (fun s => 0)
          (()) ?_ rfl SU SR ?_
        · trivial
        rintro _ _
        refine sc_seq ?_
        refine sc_seq ?_
        refine sc_region ?_
        refine qs (y_move RF) ?_
        refine qs (y_move RF) ?_
        refine qs FA143_137 ?_
        refine qs LD137 ?_
        refine qy (y_call (first := []) (caps := []) (by exact rfl) (call_rc hi') E1 (fun w1 _ => place_rc w1 hi' R.x1 R.y1)) ?_
        refine qs (y_lss RF RF) ?_
        refine sq_nil ?_
        refine sx_then ?_
        refine scp (fun hc2 => ?_) (fun hc2 => ?_)
        ·
          have hsp := spl_gen hR hi' hc2
          have hpa := area_pos hsp.1
          have hpb2 := area_pos hsp.2.1
          refine sc_skip ?_
          refine sx_then ?_
          refine sc_seq ?_
          refine sc_block ?_
          refine sc_seq ?_
          refine sc_region ?_
          refine qs LD143 ?_
          refine qs (y_move RF) ?_
          refine qs (y_move RF) ?_
          refine qy (yc Try.call93 E3 (fun w1 _ => split93 w1 R (decide ((i : Int) = 1)) (plcI i R.x0 R.y0 + 1))) ?_
          refine qs (y_move RF) ?_
          refine qs (y_extract RF RF) ?_
          refine qs (y_extract RF RF) ?_
          refine sq_alloc Try.zeroValue143 rfl (fun b12 => ?_)
          refine sq_alloc Try.zeroValue143 rfl (fun b13 => ?_)
          refine sq_store_all (vs := rcRow (splA R (decide ((i : Int) = 1)) (plcI i R.x0 R.y0 + 1))) Try.sizeOf143 RF RF rfl RM rfl rfl ?_
          refine sq_store_all (vs := rcRow (splB R (decide ((i : Int) = 1)) (plcI i R.x0 R.y0 + 1))) Try.sizeOf143 RF RF rfl RM rfl rfl ?_
          refine sq_nil ?_
          refine sx_then ?_
          refine sc_seq ?_
          refine sc_region ?_
          refine qs LD90 ?_
          refine qs LD143 ?_
          refine sq_call_new (first := []) (caps := []) (Z := Nat) (fun q => .map (some q)) (fun lo w' q => lo ≤ q ∧ w'.heap[q]? = some (mvM iV iV (pcL c (cellsR (splB R (decide ((i : Int) = 1)) (plcI i R.x0 R.y0 + 1)))))) RF Try.call90 (EvL.cons RF (EvL.cons RF EvL.nil)) (fun w1 hw1 => pieces90 w1 c hD a cp b (hb.at hw1 MM) (splB R (decide ((i : Int) = 1)) (plcI i R.x0 R.y0 + 1)) hsp.2.1) rfl (fun lo2 wr2 qb hqb => ?_)
          refine sq_alloc Try.zeroValue186 rfl (fun b14 => ?_)
          refine sq_store_to (cs' := #[.map (some qb)]) Try.sizeOf186 RF RF rfl RM (Nat.le_of_ble_eq_true rfl) rfl ?_
          refine sq_nil ?_
          refine sx_then ?_
          refine sc_seq ?_
          refine sc_seq ?_
          refine sc_region ?_
          refine qs LD90 ?_
          refine qs LD143 ?_
          refine sq_call_new (first := []) (caps := []) (Z := Nat) (fun q => .map (some q)) (fun lo w' q => lo ≤ q ∧ w'.heap[q]? = some (mvM iV iV (pcL c (cellsR (splA R (decide ((i : Int) = 1)) (plcI i R.x0 R.y0 + 1)))))) RF Try.call90 (EvL.cons RF (EvL.cons RF EvL.nil)) (fun w1 hw1 => pieces90 w1 c hD a cp b (hb.at hw1 MM) (splA R (decide ((i : Int) = 1)) (plcI i R.x0 R.y0 + 1)) hsp.1) rfl (fun lo3 wr3 qa hqa => ?_)
          refine sq_call_new (first := []) (caps := []) (Z := Addr) (fun q => .func (.func 113) #[] #[.pointer (some q)]) (fun lo w' q => CA lo w' q [.map (some qa)]) RF Try.call94 (EvL.cons RF EvL.nil) (fun w1 _ => keys94 w1 qa) rfl (fun lo4 wr4 pk hpk => ?_)
          refine sq_nil ?_
          refine sx_then ?_
          refine sc_block ?_
          refine sc_rangeFunc (Z := Unit) (ps := [59]) (lb := [.pointer (some pk)]) (fun _ => .reg lo3 wr3 :: .reg lo4 wr4 :: .reg lo2 wr2 :: .blk b14 (.cells #[.map (some qb)] 186 (0, 0)) :: .blk b13 (.cells (rcRow (splB R (decide ((i : Int) = 1)) (plcI i R.x0 R.y0 + 1))).toArray 143 (0, 0)) :: .blk b12 (.cells (rcRow (splA R (decide ((i : Int) = 1)) (plcI i R.x0 R.y0 + 1))).toArray 143 (0, 0)) :: .own v 196 4 n xs :: .blk bl (.cells #[v] 77 (0, 0)) :: .blk b4 (.cells (rcRow R).toArray 143 (0, 0)) :: .blk b3 (.cells (picV c a cp b).toArray 90 (0, 0)) :: .reg lo wr :: .reg 0 w0 :: T) (fun _ => True) rfl RF Try.call113 ?_ ?_
          ·
            intro fn tm l D hts htL w1 hw1
            refine keys113q hw1 (.head _) hqa pk hpk { Z := Unit, UR := fun _ => .blk l (.loop (LP fn tm [59] _ _ D)) :: .blk D (.deferred (some [])) :: .reg lo2 wr2 :: .blk b14 (.cells #[.map (some qb)] 186 (0, 0)) :: .blk b13 (.cells (rcRow (splB R (decide ((i : Int) = 1)) (plcI i R.x0 R.y0 + 1))).toArray 143 (0, 0)) :: .blk b12 (.cells (rcRow (splA R (decide ((i : Int) = 1)) (plcI i R.x0 R.y0 + 1))).toArray 143 (0, 0)) :: .own v 196 4 n xs :: .blk bl (.cells #[v] 77 (0, 0)) :: .blk b4 (.cells (rcRow R).toArray 143 (0, 0)) :: .blk b3 (.cells (picV c a cp b).toArray 90 (0, 0)) :: .reg lo wr :: .reg 0 w0 :: T, Inv := fun _ => True, loop := fun _ => .head _, one := rfl, round := ?_ } () trivial (hw1.sel SR) ?_
            rotate_left
            · intro e w' hv y h1 h2
              exact ⟨(), trivial, hv, h2.sel SR⟩
            rintro ⟨⟩ k v9 _ hkv F w2 hw2
            rw [fold1]
            obtain ⟨hs2, hL2⟩ := one_param (p := 59) (u := .int .i64 k) hts htL (Nat.le_of_ble_eq_true rfl)
            refine round_of_SC (N := 101) hs2 hL2 hw2 ?_
            dsimp only [List.cons_append, List.nil_append]
            refine sc_region ?_
            refine qs (y_assign RF) ?_
            refine sq_nil ?_
            refine sx_begin rfl RM rfl ?_
            refine sc_block ?_
            refine sc_seq ?_
            refine sc_region ?_
            refine qs LD186 ?_
            refine qs (y_move RF) ?_
            refine qs (y_lookupV (l := pcL c (cellsR (splB R (decide ((i : Int) = 1)) (plcI i R.x0 R.y0 + 1)))) (kf := iV) (vf := iV) (x0 := k) (b0 := 0) kf3 (fun _ _ => trivial) (pcL_nd hD (fun q hq => cells_in hsp.2.1 hq) (cells_nd _)) trivial Try.underlying186 Try.zeroValue3 RF (fun _ hw => heap_reg hw MM hqb.1 hqb.2) RF) ?_
            rw [show iV ((mvGet (pcL c (cellsR (splB R (decide ((i : Int) = 1)) (plcI i R.x0 R.y0 + 1)))) k).getD 0) = .int .i64 0 from by rw [key_none hD hsp.1 hsp.2.1 hkv]; rfl]
            refine qs (y_gtr RF RF) ?_
            refine sq_nil ?_
            refine sx_then ?_
            refine sc_f (lk_bool rfl (decide_eq_false (by omega))) ?_
            refine sc_skip ?_
            refine sx_blk ?_
            refine sx_endround RM ?_
            intro w' hw'
            exact ⟨(), trivial, rfl, hw'.sel SR⟩
          ·
            rintro D ⟨⟩ _
            refine sx_blk ?_
            refine sx_then ?_
            refine sc_seq ?_
            refine sc_region ?_
            refine qs (y_move RF) ?_
            refine qs (y_move RF) ?_
            refine qs FA143_137 ?_
            refine qs FA137_3 ?_
            refine qs LD3 ?_
            refine qs FA143_137 ?_
            refine qs FA137_3 ?_
            refine qs LD3 ?_
            refine qs (y_build (cells := #[.bool (decide ((i : Int) = 1)), .int .i64 (plcI i R.x0 R.y0 + 1), .int .i64 R.x0, .int .i64 R.x1]) bt196 (EvP.cons RF (EvP.cons RF (EvP.cons RF (EvP.cons RF EvP.nil)))) (by kernel_rfl)) ?_
            refine sq_alloc Try.zeroValue196 rfl (fun b16 => ?_)
            refine sq_store_all (vs := [.bool (decide ((i : Int) = 1)), .int .i64 (plcI i R.x0 R.y0 + 1), .int .i64 R.x0, .int .i64 R.x1]) Try.sizeOf196 RF RF rfl RM rfl rfl ?_
            refine sq_nil ?_
            refine sx_then ?_
            refine sc_seq ?_
            refine sc_seq ?_
            refine sc_region ?_
            refine qs (y_move RF) ?_
            refine sq_nil ?_
            refine sx_then ?_
            refine scp (fun hc4 => ?_) (fun hc4 => ?_)
            ·
              refine sc_drawX ([.blk b4 (.cells (rcRow R).toArray 143 (0, 0)), .reg 0 w0]) (by kernel_rfl) ?_
              refine xj_s 0 RF (by kernel_rfl) SR FA143_137 rfl ?_
              refine xj_s 1 RF (by kernel_rfl) SR FA137_3 rfl ?_
              refine xj_s 2 RF (by kernel_rfl) SR LD3 rfl ?_
              refine xj_s 3 RF (by kernel_rfl) SR FA143_137 rfl ?_
              refine xj_s 4 RF (by kernel_rfl) SR FA137_3 rfl ?_
              refine xj_s 5 RF (by kernel_rfl) SR LD3 rfl ?_
              refine xj_s 6 RF (by kernel_rfl) SR FA196_3 rfl ?_
              refine xj_one 7 RF (by kernel_rfl) ?_
              refine sq_store_to (cs' := #[.bool (decide ((i : Int) = 1)), .int .i64 (plcI i R.x0 R.y0 + 1), .int .i64 R.y0, .int .i64 R.x1]) Try.sizeOf3 RF RF rfl RM (Nat.le_of_ble_eq_true rfl) rfl ?_
              refine sq_nil ?_
              refine sx_xp SR ?_
              refine xj_s 8 RF (by kernel_rfl) SR FA196_3 rfl ?_
              refine xj_one 9 RF (by kernel_rfl) ?_
              refine sq_store_to (cs' := #[.bool (decide ((i : Int) = 1)), .int .i64 (plcI i R.x0 R.y0 + 1), .int .i64 R.y0, .int .i64 R.y1]) Try.sizeOf3 RF RF rfl RM (Nat.le_of_ble_eq_true rfl) rfl ?_
              refine sq_nil ?_
              refine sx_xpl (by kernel_rfl) ?_
              refine xj_done (by kernel_rfl) ?_
              refine sx_then ?_
              refine sc_seq ?_
              refine sc_drawX ([.blk bl (.cells #[v] 77 (0, 0)), .blk b16 (.cells #[.bool (decide ((i : Int) = 1)), .int .i64 (plcI i R.x0 R.y0 + 1), .int .i64 R.y0, .int .i64 R.y1] 196 (0, 0)), .reg 0 w0]) (by kernel_rfl) ?_
              refine xj_s 0 RF (by kernel_rfl) SR (y_move RF) rfl ?_
              refine xj_s 1 RF (by kernel_rfl) SR (y_move RF) rfl ?_
              refine xj_s 2 RF (by kernel_rfl) SR (y_nilCheck RF) rfl ?_
              refine xj_s 3 RF (by kernel_rfl) SR LD77 rfl ?_
              refine xj_s 4 RF (by kernel_rfl) SR LD196 rfl ?_
              refine xj_one 5 RF (by kernel_rfl) ?_
              refine sq_bs Try.underlying77 ei196 (EvI.cons RF EvI.nil) (by first | (simp [Value.cells]; done) | (simp [Value.cells]; rfl) | (simp [Value.cells]; and_intros <;> rfl)) rfl rfl rfl (fun b87 => ?_)
              refine sq_nil ?_
              refine sx_xp SR ?_
              refine xj_one 6 RF (by kernel_rfl) ?_
              refine sq_append (news := [.bool (decide ((i : Int) = 1)), .int .i64 (plcI i R.x0 R.y0 + 1), .int .i64 R.y0, .int .i64 R.y1]) Try.underlying77 ei196 rfl (by decide) RF RM RF rfl (fun _ hw => news_blk hw MM) (by simp [Value.oneCell']) (by omega) rfl (fun v88 ho88 => ?_)
              refine sq_nil ?_
              refine sx_xp SR ?_
              refine xj_s 7 RF (by kernel_rfl) SR (y_nilCheck RF) rfl ?_
              refine xj_one 8 RF (by kernel_rfl) ?_
              refine sq_store_to (cs' := #[v88]) Try.sizeOf77 RF RF (by assumption) RM (Nat.le_of_ble_eq_true rfl) rfl ?_
              refine sq_nil ?_
              refine sx_xpl (by kernel_rfl) ?_
              refine xj_done (by kernel_rfl) ?_
              refine sx_then ?_
              refine sc_seq ?_
              refine sc_region ?_
              refine qs LD90 ?_
              refine qs LD143 ?_
              refine qs (y_move RF) ?_
              refine sq_call (first := []) (caps := []) (Z := Value × List Value) (fun _ => .bool true) (fun y => .own y.1 196 4 ((n + 1) + ((splA R (decide ((i : Int) = 1)) (plcI i R.x0 R.y0 + 1)).area - 1)) y.2 :: .blk bl (.cells #[y.1] 77 (0, 0)) :: .reg lo wr :: .reg 0 w0 :: (.blk D (.deferred (some [])) :: .blk b13 (.cells (rcRow (splB R (decide ((i : Int) = 1)) (plcI i R.x0 R.y0 + 1))).toArray 143 (0, 0)) :: .blk b12 (.cells (rcRow (splA R (decide ((i : Int) = 1)) (plcI i R.x0 R.y0 + 1))).toArray 143 (0, 0)) :: .blk b4 (.cells (rcRow R).toArray 143 (0, 0)) :: .blk b3 (.cells (picV c a cp b).toArray 90 (0, 0)) :: T)) (fun y => y.1.oneCell' = true) RF Try.call55 (EvL.cons RF (EvL.cons RF (EvL.cons RF EvL.nil))) (fun w1 hw1 => (ih (splA R (decide ((i : Int) = 1)) (plcI i R.x0 R.y0 + 1)) (by omega) hsp.1 ((n + 1)) _ v88 w1 (.blk D (.deferred (some [])) :: .blk b13 (.cells (rcRow (splB R (decide ((i : Int) = 1)) (plcI i R.x0 R.y0 + 1))).toArray 143 (0, 0)) :: .blk b12 (.cells (rcRow (splA R (decide ((i : Int) = 1)) (plcI i R.x0 R.y0 + 1))).toArray 143 (0, 0)) :: .blk b4 (.cells (rcRow R).toArray 143 (0, 0)) :: .blk b3 (.cells (picV c a cp b).toArray 90 (0, 0)) :: T) ho88 (by omega) (hw1.sel SR)).mono (fun e w' ⟨y, h1, h2, h3⟩ => ⟨y, h2, h1, h3⟩)) rfl (fun y1 hy1 => ?_)
              refine qs (y_move RF) ?_
              refine sq_known (tt := 94) (b' := true) RF (rfl) ?_
              refine qg LD90 ?_
              refine qg LD143 ?_
              refine qg (y_move RF) ?_
              refine sq_guard RF RF ?_
              refine sq_call (first := []) (caps := []) (Z := Value × List Value) (fun _ => .bool true) (fun y => .own y.1 196 4 ((n + 1 + ((splA R (decide ((i : Int) = 1)) (plcI i R.x0 R.y0 + 1)).area - 1)) + ((splB R (decide ((i : Int) = 1)) (plcI i R.x0 R.y0 + 1)).area - 1)) y.2 :: .blk bl (.cells #[y.1] 77 (0, 0)) :: .reg lo wr :: .reg 0 w0 :: (.blk D (.deferred (some [])) :: .blk b13 (.cells (rcRow (splB R (decide ((i : Int) = 1)) (plcI i R.x0 R.y0 + 1))).toArray 143 (0, 0)) :: .blk b12 (.cells (rcRow (splA R (decide ((i : Int) = 1)) (plcI i R.x0 R.y0 + 1))).toArray 143 (0, 0)) :: .blk b4 (.cells (rcRow R).toArray 143 (0, 0)) :: .blk b3 (.cells (picV c a cp b).toArray 90 (0, 0)) :: T)) (fun y => y.1.oneCell' = true) RF Try.call55 (EvL.cons RF (EvL.cons RF (EvL.cons RF EvL.nil))) (fun w1 hw1 => (ih (splB R (decide ((i : Int) = 1)) (plcI i R.x0 R.y0 + 1)) (by omega) hsp.2.1 ((n + 1 + ((splA R (decide ((i : Int) = 1)) (plcI i R.x0 R.y0 + 1)).area - 1))) _ y1.1 w1 (.blk D (.deferred (some [])) :: .blk b13 (.cells (rcRow (splB R (decide ((i : Int) = 1)) (plcI i R.x0 R.y0 + 1))).toArray 143 (0, 0)) :: .blk b12 (.cells (rcRow (splA R (decide ((i : Int) = 1)) (plcI i R.x0 R.y0 + 1))).toArray 143 (0, 0)) :: .blk b4 (.cells (rcRow R).toArray 143 (0, 0)) :: .blk b3 (.cells (picV c a cp b).toArray 90 (0, 0)) :: T) hy1 (by omega) (hw1.sel SR)).mono (fun e w' ⟨y, h1, h2, h3⟩ => ⟨y, h2, h1, h3⟩)) rfl (fun y2 hy2 => ?_)
              refine qs (y_pick_t RF RF) ?_
              refine qs (y_assign RF) ?_
              refine sq_nil ?_
              refine sx_then ?_
              refine sc_ret ?_
              refine sx_blk_ret ?_
              refine sx_then_ret ?_
              refine sx_roundD_ret ?_
              refine sx_blk_ret ?_
              refine sx_scope_ret ?_
              refine sx_blk_ret ?_
              refine sx_then_ret ?_
              refine sx_roundD_ret ?_
              refine sx_blk_ret ?_
              refine sx_then_ret ?_
              refine sx_retM (.inl rfl) rfl RM (.bool true) (fun a1 w1 ha1 _ => by
                have h9 : a1.tmps[6]? = some (.bool true) := ha1.get _ _ rfl
                simp [results, Try.results55, h9]) ?_
              intro w' hw'
              exact ⟨(y2.1, y2.2), rfl, hy2, by rw [show n + (R.area - 1) = n + 1 + ((splA R (decide ((i : Int) = 1)) (plcI i R.x0 R.y0 + 1)).area - 1) + ((splB R (decide ((i : Int) = 1)) (plcI i R.x0 R.y0 + 1)).area - 1) by omega]; exact hw'.sel SR⟩
            ·
              refine sc_skip ?_
              refine sx_then ?_
              refine sc_seq ?_
              refine sc_drawX ([.blk bl (.cells #[v] 77 (0, 0)), .blk b16 (.cells #[.bool (decide ((i : Int) = 1)), .int .i64 (plcI i R.x0 R.y0 + 1), .int .i64 R.x0, .int .i64 R.x1] 196 (0, 0)), .reg 0 w0]) (by kernel_rfl) ?_
              refine xj_s 0 RF (by kernel_rfl) SR (y_move RF) rfl ?_
              refine xj_s 1 RF (by kernel_rfl) SR (y_move RF) rfl ?_
              refine xj_s 2 RF (by kernel_rfl) SR (y_nilCheck RF) rfl ?_
              refine xj_s 3 RF (by kernel_rfl) SR LD77 rfl ?_
              refine xj_s 4 RF (by kernel_rfl) SR LD196 rfl ?_
              refine xj_one 5 RF (by kernel_rfl) ?_
              refine sq_bs Try.underlying77 ei196 (EvI.cons RF EvI.nil) (by first | (simp [Value.cells]; done) | (simp [Value.cells]; rfl) | (simp [Value.cells]; and_intros <;> rfl)) rfl rfl rfl (fun b87 => ?_)
              refine sq_nil ?_
              refine sx_xp SR ?_
              refine xj_one 6 RF (by kernel_rfl) ?_
              refine sq_append (news := [.bool (decide ((i : Int) = 1)), .int .i64 (plcI i R.x0 R.y0 + 1), .int .i64 R.x0, .int .i64 R.x1]) Try.underlying77 ei196 rfl (by decide) RF RM RF rfl (fun _ hw => news_blk hw MM) (by simp [Value.oneCell']) (by omega) rfl (fun v88 ho88 => ?_)
              refine sq_nil ?_
              refine sx_xp SR ?_
              refine xj_s 7 RF (by kernel_rfl) SR (y_nilCheck RF) rfl ?_
              refine xj_one 8 RF (by kernel_rfl) ?_
              refine sq_store_to (cs' := #[v88]) Try.sizeOf77 RF RF (by assumption) RM (Nat.le_of_ble_eq_true rfl) rfl ?_
              refine sq_nil ?_
              refine sx_xpl (by kernel_rfl) ?_
              refine xj_done (by kernel_rfl) ?_
              refine sx_then ?_
              refine sc_seq ?_
              refine sc_region ?_
              refine qs LD90 ?_
              refine qs LD143 ?_
              refine qs (y_move RF) ?_
              refine sq_call (first := []) (caps := []) (Z := Value × List Value) (fun _ => .bool true) (fun y => .own y.1 196 4 ((n + 1) + ((splA R (decide ((i : Int) = 1)) (plcI i R.x0 R.y0 + 1)).area - 1)) y.2 :: .blk bl (.cells #[y.1] 77 (0, 0)) :: .reg lo wr :: .reg 0 w0 :: (.blk D (.deferred (some [])) :: .blk b13 (.cells (rcRow (splB R (decide ((i : Int) = 1)) (plcI i R.x0 R.y0 + 1))).toArray 143 (0, 0)) :: .blk b12 (.cells (rcRow (splA R (decide ((i : Int) = 1)) (plcI i R.x0 R.y0 + 1))).toArray 143 (0, 0)) :: .blk b4 (.cells (rcRow R).toArray 143 (0, 0)) :: .blk b3 (.cells (picV c a cp b).toArray 90 (0, 0)) :: T)) (fun y => y.1.oneCell' = true) RF Try.call55 (EvL.cons RF (EvL.cons RF (EvL.cons RF EvL.nil))) (fun w1 hw1 => (ih (splA R (decide ((i : Int) = 1)) (plcI i R.x0 R.y0 + 1)) (by omega) hsp.1 ((n + 1)) _ v88 w1 (.blk D (.deferred (some [])) :: .blk b13 (.cells (rcRow (splB R (decide ((i : Int) = 1)) (plcI i R.x0 R.y0 + 1))).toArray 143 (0, 0)) :: .blk b12 (.cells (rcRow (splA R (decide ((i : Int) = 1)) (plcI i R.x0 R.y0 + 1))).toArray 143 (0, 0)) :: .blk b4 (.cells (rcRow R).toArray 143 (0, 0)) :: .blk b3 (.cells (picV c a cp b).toArray 90 (0, 0)) :: T) ho88 (by omega) (hw1.sel SR)).mono (fun e w' ⟨y, h1, h2, h3⟩ => ⟨y, h2, h1, h3⟩)) rfl (fun y1 hy1 => ?_)
              refine qs (y_move RF) ?_
              refine sq_known (tt := 94) (b' := true) RF (rfl) ?_
              refine qg LD90 ?_
              refine qg LD143 ?_
              refine qg (y_move RF) ?_
              refine sq_guard RF RF ?_
              refine sq_call (first := []) (caps := []) (Z := Value × List Value) (fun _ => .bool true) (fun y => .own y.1 196 4 ((n + 1 + ((splA R (decide ((i : Int) = 1)) (plcI i R.x0 R.y0 + 1)).area - 1)) + ((splB R (decide ((i : Int) = 1)) (plcI i R.x0 R.y0 + 1)).area - 1)) y.2 :: .blk bl (.cells #[y.1] 77 (0, 0)) :: .reg lo wr :: .reg 0 w0 :: (.blk D (.deferred (some [])) :: .blk b13 (.cells (rcRow (splB R (decide ((i : Int) = 1)) (plcI i R.x0 R.y0 + 1))).toArray 143 (0, 0)) :: .blk b12 (.cells (rcRow (splA R (decide ((i : Int) = 1)) (plcI i R.x0 R.y0 + 1))).toArray 143 (0, 0)) :: .blk b4 (.cells (rcRow R).toArray 143 (0, 0)) :: .blk b3 (.cells (picV c a cp b).toArray 90 (0, 0)) :: T)) (fun y => y.1.oneCell' = true) RF Try.call55 (EvL.cons RF (EvL.cons RF (EvL.cons RF EvL.nil))) (fun w1 hw1 => (ih (splB R (decide ((i : Int) = 1)) (plcI i R.x0 R.y0 + 1)) (by omega) hsp.2.1 ((n + 1 + ((splA R (decide ((i : Int) = 1)) (plcI i R.x0 R.y0 + 1)).area - 1))) _ y1.1 w1 (.blk D (.deferred (some [])) :: .blk b13 (.cells (rcRow (splB R (decide ((i : Int) = 1)) (plcI i R.x0 R.y0 + 1))).toArray 143 (0, 0)) :: .blk b12 (.cells (rcRow (splA R (decide ((i : Int) = 1)) (plcI i R.x0 R.y0 + 1))).toArray 143 (0, 0)) :: .blk b4 (.cells (rcRow R).toArray 143 (0, 0)) :: .blk b3 (.cells (picV c a cp b).toArray 90 (0, 0)) :: T) hy1 (by omega) (hw1.sel SR)).mono (fun e w' ⟨y, h1, h2, h3⟩ => ⟨y, h2, h1, h3⟩)) rfl (fun y2 hy2 => ?_)
              refine qs (y_pick_t RF RF) ?_
              refine qs (y_assign RF) ?_
              refine sq_nil ?_
              refine sx_then ?_
              refine sc_ret ?_
              refine sx_blk_ret ?_
              refine sx_then_ret ?_
              refine sx_roundD_ret ?_
              refine sx_blk_ret ?_
              refine sx_scope_ret ?_
              refine sx_blk_ret ?_
              refine sx_then_ret ?_
              refine sx_roundD_ret ?_
              refine sx_blk_ret ?_
              refine sx_then_ret ?_
              refine sx_retM (.inl rfl) rfl RM (.bool true) (fun a1 w1 ha1 _ => by
                have h9 : a1.tmps[6]? = some (.bool true) := ha1.get _ _ rfl
                simp [results, Try.results55, h9]) ?_
              intro w' hw'
              exact ⟨(y2.1, y2.2), rfl, hy2, by rw [show n + (R.area - 1) = n + 1 + ((splA R (decide ((i : Int) = 1)) (plcI i R.x0 R.y0 + 1)).area - 1) + ((splB R (decide ((i : Int) = 1)) (plcI i R.x0 R.y0 + 1)).area - 1) by omega]; exact hw'.sel SR⟩
        ·
          refine sc_exit ?_
          refine sx_then_exit ?_
          refine sx_roundD_exit ?_
          refine sx_blk_hit ?_
          refine sx_scope ?_
          refine sx_blk ?_
          refine sx_then ?_
          refine sc_region ?_
          refine qs (y_add RF RF (by omega)) ?_
          refine qs (y_move RF) ?_
          refine sq_nil ?_
          rcases (by omega : i = 0 ∨ i = 1) with rfl | rfl
          · refine sx_roundD 1 ?_ ?_ rfl SU SR
            · exact ⟨Nat.le_refl _, fun _ => hc2⟩
            · omega
          · exact absurd (area_one hR (hrow rfl) hc2) (by omega)
      ·
        omega
def fullR (c : Ct) : Rc := ⟨0, 0, c.wide, c.high⟩
theorem full_in {c : Ct} (h : CtF c) : RcIn c (fullR c) := ⟨⟨Int.le_refl _, by have := h.w1; show (0 : Int) < c.wide; omega, Int.le_refl _⟩, ⟨Int.le_refl _, by have := h.h1; show (0 : Int) < c.high; omega, Int.le_refl _⟩⟩
theorem full_area {c : Ct} (h : CtF c) : (fullR c).area = c.piece.length := by
  have hl := h.len
  have h1 := h.w1
  have h2 := h.h1
  have e1 : ((fullR c).w : Int) = c.wide := by show ((c.wide - 0).toNat : Int) = c.wide; omega
  have e2 : ((fullR c).h : Int) = c.high := by show ((c.high - 0).toNat : Int) = c.high; omega
  have : (((fullR c).area : Nat) : Int) = (c.piece.length : Int) := by
    rw [hl, ← e1, ← e2]; exact Int.natCast_mul ..
  omega
theorem Saw20 (w : World) (c : Ct) (hD : Dist c) (a : Option Addr) (cp : Nat) (hp : RowsA iRow 1 0 w a c.piece) : Calls Try.prog 20 #[.agg (ctV c a cp).toArray] w fun e w' => ∃ q : Option Addr × Nat, e = .returned (.tuple #[.slice q.1 (c.piece.length - 1) q.2, .int .i64 0]) ∧ Below w.heap.size w w' := by
  unfold ctV
  refine calls_of_SC (args := [.agg #[.int .i64 c.wide, .int .i64 c.high, .slice a c.piece.length cp]]) Try.func20 rfl Try.ntmps20 rfl ?_
  simp only [argL]
  refine sc_seq ?_
  refine sc_region ?_
  refine sq_box RF rfl (fun b1 => ?_)
  refine sq_alloc Try.zeroValue77 rfl (fun b2 => ?_)
  refine qs (y_assign RF) ?_
  refine sq_nil ?_
  refine sx_then ?_
  refine sc_seq ?_
  refine sc_region ?_
  refine qs LD24 ?_
  refine sq_call_new (first := []) (caps := []) (Z := Nat × Int) (opV c a cp) (fun lo w' z => OpenF c 0 lo w' z) RF Try.call21 (EvL.cons RF (EvL.cons RF EvL.nil)) (fun w1 hw1 => open21 w1 c a cp (hp.at hw1 MM) 0) rfl (fun lo1 wr1 z hz => ?_)
  refine qs (y_move RF) ?_
  refine qs (y_extract RF RF) ?_
  refine qs (y_extract RF RF) ?_
  refine qs (y_extract RF RF) ?_
  refine sq_alloc Try.zeroValue90 rfl (fun b4 => ?_)
  refine sq_store_all (vs := opP c a cp z) Try.sizeOf90 RF RF (opP_one c a cp z) RM (opP_len c a cp z) rfl ?_
  refine qs (y_assign RF) ?_
  refine qs (y_assign RF) ?_
  refine sq_nil ?_
  refine sx_then ?_
  refine sc_seq ?_
  refine sc_seq ?_
  refine sc_region ?_
  refine qs (y_move RF) ?_
  refine qs (y_neq RF RF) ?_
  refine sq_nil ?_
  refine sx_then ?_
  refine scp (fun hc0 => ?_) (fun hc0 => ?_)
  ·
    exact absurd ⟨hD.ok, Int.le_refl _, by have := nP_eq hD.ok.ok; omega⟩ (hz.2 hc0)
  ·
    obtain ⟨hgd, hbm⟩ := hz.1 hc0
    have hok := hgd.1
    have hF := hok.ok
    have hn0 := hF.n0
    rw [show opN c z = ((nP c : Nat) : Int) from if_pos hc0, show opP c a cp z = picV c a cp z.1 from if_pos hc0, hc0]
    refine sc_skip ?_
    refine sx_then ?_
    refine sc_seq ?_
    refine sc_seq ?_
    refine sc_nil_own 196 4 ?_
    refine sc_region ?_
    refine qs LD90 ?_
    refine qs (y_build bt137 (EvP.cons RF (EvP.cons RF EvP.nil)) RF) ?_
    refine qs FA24_3 ?_
    refine qs LD3 ?_
    refine qs FA24_3 ?_
    refine qs LD3 ?_
    refine qs (y_build bt137 (EvP.cons RF (EvP.cons RF EvP.nil)) RF) ?_
    refine qs (y_build (cells := (rcRow (fullR c)).toArray) bt143 (EvP.cons RF (EvP.cons RF EvP.nil)) (by kernel_rfl)) ?_
    refine sq_call (first := []) (caps := []) (Z := Value × List Value) (fun _ => .bool true) (fun y => .own y.1 196 4 (0 + ((fullR c).area - 1)) y.2 :: .blk b2 (.cells #[y.1] 77 (0, 0)) :: .reg lo1 wr1 :: .reg 0 w :: (.blk b4 (.cells (picV c a cp z.1).toArray 90 (0, 0)) :: .blk b1 (.cells #[.int .i64 c.wide, .int .i64 c.high, .slice a c.piece.length cp] 24 (0, 0)) :: [])) (fun y => y.1.oneCell' = true) RF Try.call55 (EvL.cons RF (EvL.cons RF (EvL.cons RF EvL.nil))) (fun w1 hw1 => (saw55 hD a cp z.1 hbm b2 _ (fullR c) (Nat.le_refl _) (full_in hF) 0 [] (.slice none 0 0) w1 (.blk b4 (.cells (picV c a cp z.1).toArray 90 (0, 0)) :: .blk b1 (.cells #[.int .i64 c.wide, .int .i64 c.high, .slice a c.piece.length cp] 24 (0, 0)) :: []) rfl (by rw [full_area hF]; omega) (hw1.sel SR)).mono (fun e w' ⟨y, h1, h2, h3⟩ => ⟨y, h2, h1, h3⟩)) rfl (fun y hy => ?_)
    refine qs (y_not RF) ?_
    refine sq_nil ?_
    refine sx_then ?_
    refine sc_f (lk_bool rfl (rfl)) ?_
    refine sc_skip ?_
    refine sx_then ?_
    refine sc_seq ?_
    refine sc_region ?_
    refine qs LD77 ?_
    refine sq_store_to (cs' := #[y.1]) Try.sizeOf77 RF RF (by assumption) RM (Nat.le_of_ble_eq_true rfl) rfl ?_
    refine qs (y_assign RF) ?_
    refine sq_nil ?_
    refine sx_then ?_
    refine sc_ret ?_
    refine sx_retr (.inl rfl) rfl (res_sct Try.results20 Try.underlying77 rfl RF MM RF) ?_
    intro w' hw'
    obtain ⟨sa, cs, hv, _, _⟩ := own_dest hw' (v := y.1) (m := 0 + ((fullR c).area - 1)) (xs := y.2) (e := 196) (sz := 4) MM
    rw [full_area hF, Nat.zero_add] at hv
    exact ⟨(sa, cs), by rw [hv], hw'.below MM⟩
end Go.Proofs.Ytfceajkofpafpaa
