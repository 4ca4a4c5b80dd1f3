/- The walks of Check, and of what opens a cut. -/
import Derived.Test.YtfceajkofpafpaaHW4
namespace Go.Proofs.Ytfceajkofpafpaa
open Go Go.Eng Go.RowKit Go.Proofs
open Go.Proofs.Ytfceajkofpafpaa.Sc (iRow spRow sp0 Sp getD_of get_of_lt any_range_get all_not_any all_getD)
set_option maxRecDepth 100000
/-- how many pieces a cut has -/
def nP (c : Ct) : Nat := (mxK c.piece (c.piece.length - 1) + 1).toNat
theorem nP_eq {c : Ct} (h : CtF c) : mxK c.piece (c.piece.length - 1) + 1 = ((nP c : Nat) : Int) ∧ 1 ≤ nP c ∧ nP c ≤ 40 := by
  obtain ⟨i, hi, he⟩ := mxK_in c.piece (c.piece.length - 1)
  have hn := h.n0
  have h1 := h.bd _ (getD_in (show i < c.piece.length by omega))
  rw [← he] at h1
  unfold nP
  omega
theorem nP_all {c : Ct} (h : CtF c) (p : Int × Int) (hp : inC c p) : atC c p < (nP c : Nat) := by
  obtain ⟨h1, h2⟩ := cell_idx h hp
  have h3 := (mxK_le c.piece _ (c.piece.length - 1)).1 (Int.le_refl _) (idx c p) (by omega)
  rw [← atC_cell h h1, h2] at h3
  have := (nP_eq h).1
  omega
/-- the numbers of parts, in memory -/
theorem cntA {w0 w : World} {rs : List Res} (hw : Hp w0 rs w) {b n : Nat} {c : Ct} {S : List (Int × Int)} (hm : Res.blk b (.cells (cntV c S).toArray 99 (0, 0)) ∈ rs) (hn : n ≤ 40) : RowsA iRow 1 0 w (some ⟨b, 0, none⟩) (cntL c S n) :=
  blk_rowsA iRow_len hw hm (n := n) (l := cntL c S n) (by show (cntV c S).take n = _; unfold cntV; rw [flat_imap, flat_imap, ← List.map_take, cntL_take c S hn]) (by rw [cntL_len]; omega)
theorem index29c {w0 w : World} {rs : List Res} (hw : Hp w0 rs w) {b n : Nat} {c : Ct} {S : List (Int × Int)} (hm : Res.blk b (.cells (cntV c S).toArray 99 (0, 0)) ∈ rs) (hn : n ≤ 40) : Calls Try.prog 29 #[.slice (some ⟨b, 0, none⟩) n 40, .int .i64 0] w fun e w' => ∃ z : Int, e = .returned (.int .i64 z) ∧ Below w.heap.size w w' ∧ (0 ≤ z ↔ ∃ k, k < n ∧ cntP c S k = 0) := by
  have h9 := index29 w (some ⟨b, 0, none⟩) 40 (cntL c S n) (cntA hw hm hn) 0
  rw [cntL_len] at h9
  refine h9.mono ?_
  rintro e w' ⟨⟨z, h1, h2⟩, h3⟩
  refine ⟨z, h1, h3, h2.trans ?_⟩
  rw [cntL_mem]
  constructor
  · rintro ⟨k, hk, e⟩; exact ⟨k, hk, by omega⟩
  · rintro ⟨k, hk, e⟩; exact ⟨k, hk, by omega⟩
theorem index30c {w0 w : World} {rs : List Res} (hw : Hp w0 rs w) {b n : Nat} {c : Ct} {S : List (Int × Int)} (hm : Res.blk b (.cells (cntV c S).toArray 99 (0, 0)) ∈ rs) (hn : n ≤ 40) : Calls Try.prog 30 #[.slice (some ⟨b, 0, none⟩) n 40, .func (.func 31) #[] #[]] w fun e w' => ∃ z : Int, e = .returned (.int .i64 z) ∧ Below w.heap.size w w' ∧ (0 ≤ z ↔ ∃ k, k < n ∧ 1 < cntP c S k) := by
  have hr := cntA hw hm hn
  refine (indexInt 31 [] (fun k => decide (1 < (cntL c S n).getD k 0)) w (some ⟨b, 0, none⟩) n 40 (fun k => .int .i64 ((cntL c S n).getD k 0)) (by omega) (fun i hi => ⟨rfl, (hr.get 0 (by rw [cntL_len]; exact hi)).2⟩) Try.call31 (fun i _ w1 _ => big31 _ w1)).mono ?_
  rintro e w' ⟨⟨z, h1, h2⟩, h3⟩
  refine ⟨z, h1, h3, h2.trans ?_⟩
  rw [List.any_eq_true]
  constructor
  · rintro ⟨k, hk, e⟩
    have hk' := List.mem_range.1 hk
    have := of_decide_eq_true e
    rw [List.getD_eq_getElem?_getD, cntL_at c S hk'] at this
    exact ⟨k, hk', by have h5 : (1 : Int) < ((cntP c S k : Nat) : Int) := this; omega⟩
  · rintro ⟨k, hk, e⟩
    refine ⟨k, List.mem_range.2 hk, decide_eq_true ?_⟩
    rw [List.getD_eq_getElem?_getD, cntL_at c S hk]
    show (1 : Int) < ((cntP c S k : Nat) : Int)
    omega
/-- Check's answer -/
def ChkR (c : Ct) (n e : Int) : Prop := (e = 0 → CutOk c (nP c) ∧ n = (nP c : Nat)) ∧ (e ≠ 0 → ¬ CutOk c (nP c))
theorem chk_bad {c : Ct} {n e : Int} (he : e ≠ 0) (h : ¬ CutOk c (nP c)) : ChkR c n e := ⟨fun h1 => absurd h1 he, fun _ => h⟩
theorem chk_of {c : Ct} (h : CtF c) {S : List (Int × Int)} (hs : PartsOk c S) : (∀ k, k < nP c → cntP c S k = 1) ↔ CutOk c (nP c) := by
  obtain ⟨R, hp, hall⟩ := hs
  exact parts_ok h hp hall (nP_all h)
theorem check7 (w : World) (c : Ct) (a : Option Addr) (cp : Nat) (hp : RowsA iRow 1 0 w a c.piece) : Calls Try.prog 7 #[.agg (ctV c a cp).toArray] w fun e w' => ∃ y : Int × Int, e = .returned (.tuple #[.int .i64 y.1, .int .i64 y.2]) ∧ Below w.heap.size w w' ∧ ChkR c y.1 y.2 := by
  unfold ctV
  refine calls_of_SC (args := [.agg #[.int .i64 c.wide, .int .i64 c.high, .slice a c.piece.length cp]]) Try.func7 rfl Try.ntmps7 rfl ?_
  simp only [argL]
  refine sc_seq ?_
  refine sc_region ?_
  refine sq_box RF rfl (fun b1 => ?_)
  refine qs (y_assign RF) ?_
  refine qs (y_assign RF) ?_
  refine sq_nil ?_
  refine sx_then ?_
  refine sc_seq ?_
  refine sc_seq ?_
  refine sc_region ?_
  refine qs LD24 ?_
  refine qy (yc Try.call25 E1 (fun w1 hw1 => isCut25 w1 c a cp (hp.at hw1 MM))) ?_
  refine qs (y_not RF) ?_
  refine sq_nil ?_
  refine sx_then ?_
  refine scp (fun hc0 => ?_) (fun hc0 => ?_)
  ·
    have hbad : ¬ CutOk c (nP c) := fun hk => by
      rw [ctF.2 hk.ok] at hc0; cases hc0
    refine sc_seq ?_
    refine sc_region ?_
    refine qs (y_assign RF) ?_
    refine qs (y_assign RF) ?_
    refine sq_nil ?_
    refine sx_then ?_
    refine sc_ret ?_
    refine sx_then_ret ?_
    refine sx_ret2 (.inl rfl) rfl Try.results7 RF RF ?_
    intro w' hw'
    exact ⟨(0, 1), rfl, hw'.below MM, chk_bad (show (1 : Int) ≠ 0 by decide) hbad⟩
  ·
    have h : CtF c := ctF.1 (by cases hb : ctB c with
      | true => rfl
      | false => rw [hb] at hc0; exact absurd hc0 (by decide))
    have hn := h.n0
    have hnP := nP_eq h
    refine sc_skip ?_
    refine sx_then ?_
    refine sc_seq ?_
    refine sc_region ?_
    refine qs LD24 ?_
    refine sq_call_new (first := []) (caps := []) (Z := Nat) (fun b => .agg (picV c a cp b).toArray) (fun lo w' b => MpA lo w' b c) RF Try.call26 (EvL.cons RF EvL.nil) (fun w1 hw1 => newPicture26 w1 c h a cp (hp.at hw1 MM)) rfl (fun lo3 wr3 bm hbm => ?_)
    refine sq_call_new (first := []) (caps := []) (Z := List (Int × Int)) (fun S => .agg (cntV c S).toArray) (fun _ _ S => PartsOk c S) RF Try.call27 (EvL.cons RF EvL.nil) (fun w1 hw1 => (parts27 w1 c h a cp bm (hbm.at hw1 MM)).mono (fun e w' ⟨S, h1, h2, h3⟩ => ⟨S, h2, h3, h1⟩)) rfl (fun lo4 wr4 S hS => ?_)
    refine sq_alloc Try.zeroValue99 rfl (fun b4 => ?_)
    refine sq_store_all (vs := cntV c S) Try.sizeOf99 RF RF (cntV_one c S) RM (cntV_len c S) rfl ?_
    refine sq_nil ?_
    refine sx_then ?_
    refine sc_seq ?_
    refine sc_region ?_
    refine qs FA24_22 ?_
    refine qs LD22 ?_
    refine qy (yc Try.call28 E1 (fun w1 hw1 => max28 w1 a cp c.piece (hp.at hw1 MM) hn.1)) ?_
    refine qs (y_add RF RF (by omega)) ?_
    rw [hnP.1]
    refine qs (y_assign RF) ?_
    refine sq_nil ?_
    refine sx_then ?_
    refine sc_seq ?_
    refine sc_seq ?_
    refine sc_region ?_
    refine qs (y_move RF) ?_
    refine qs (y_slice_arr Try.underlying99 Try.sizeOf3 RF RF (by omega)) ?_
    refine sq_call_new (first := []) (caps := []) (Z := Int) (fun z => .int .i64 z) (fun _ _ z => (0 ≤ z ↔ ∃ k, k < nP c ∧ cntP c S k = 0)) RF Try.call29 (EvL.cons RF (EvL.cons RF EvL.nil)) (fun w1 hw1 => index29c hw1 MM hnP.2.2) rfl (fun lo5 wr5 z1 hz1 => ?_)
    refine qs (y_assign RF) ?_
    refine sq_nil ?_
    refine sx_then ?_
    refine sc_seq ?_
    refine sc_region ?_
    refine qs (y_move RF) ?_
    refine qs (y_geq RF RF) ?_
    refine sq_nil ?_
    refine sx_then ?_
    refine scp (fun hc1 => ?_) (fun hc1 => ?_)
    ·
      have hbad : ¬ CutOk c (nP c) := fun hk => by
        obtain ⟨k, h1, h2⟩ := hz1.1 hc1
        rw [(chk_of h hS).2 hk k h1] at h2; cases h2
      refine sc_seq ?_
      refine sc_region ?_
      refine qs (y_move RF) ?_
      refine qs (y_assign RF) ?_
      refine qs (y_assign RF) ?_
      refine sq_nil ?_
      refine sx_then ?_
      refine sc_ret ?_
      refine sx_then_ret ?_
      refine sx_ret2 (.inl rfl) rfl Try.results7 RF RF ?_
      intro w' hw'
      exact ⟨(z1, 4), rfl, hw'.below MM, chk_bad (show (4 : Int) ≠ 0 by decide) hbad⟩
    ·
      refine sc_skip ?_
      refine sx_then ?_
      refine sc_seq ?_
      refine sc_seq ?_
      refine sc_region ?_
      refine qs (y_move RF) ?_
      refine qs (y_slice_arr Try.underlying99 Try.sizeOf3 RF RF (by omega)) ?_
      refine sq_call_new (first := []) (caps := []) (Z := Int) (fun z => .int .i64 z) (fun _ _ z => (0 ≤ z ↔ ∃ k, k < nP c ∧ 1 < cntP c S k)) RF Try.call30 (EvL.cons RF (EvL.cons RF EvL.nil)) (fun w1 hw1 => index30c hw1 MM hnP.2.2) rfl (fun lo6 wr6 z2 hz2 => ?_)
      refine qs (y_assign RF) ?_
      refine sq_nil ?_
      refine sx_then ?_
      refine sc_seq ?_
      refine sc_region ?_
      refine qs (y_move RF) ?_
      refine qs (y_geq RF RF) ?_
      refine sq_nil ?_
      refine sx_then ?_
      refine scp (fun hc2 => ?_) (fun hc2 => ?_)
      ·
        have hbad : ¬ CutOk c (nP c) := fun hk => by
          obtain ⟨k, h1, h2⟩ := hz2.1 hc2
          rw [(chk_of h hS).2 hk k h1] at h2; omega
        refine sc_seq ?_
        refine sc_region ?_
        refine qs (y_move RF) ?_
        refine qs (y_assign RF) ?_
        refine qs (y_assign RF) ?_
        refine sq_nil ?_
        refine sx_then ?_
        refine sc_ret ?_
        refine sx_then_ret ?_
        refine sx_ret2 (.inl rfl) rfl Try.results7 RF RF ?_
        intro w' hw'
        exact ⟨(z2, 6), rfl, hw'.below MM, chk_bad (show (6 : Int) ≠ 0 by decide) hbad⟩
      ·
        have hgood : CutOk c (nP c) := (chk_of h hS).1 fun k hk => by
          have h1 : ¬ cntP c S k = 0 := fun e => hc1 (hz1.2 ⟨k, hk, e⟩)
          have h2 : ¬ 1 < cntP c S k := fun e => hc2 (hz2.2 ⟨k, hk, e⟩)
          omega
        refine sc_skip ?_
        refine sx_then ?_
        refine sc_seq ?_
        refine sc_region ?_
        refine qs (y_move RF) ?_
        refine qs (y_assign RF) ?_
        refine qs (y_assign RF) ?_
        refine sq_nil ?_
        refine sx_then ?_
        refine sc_ret ?_
        refine sx_ret2 (.inl rfl) rfl Try.results7 RF RF ?_
        intro w' hw'
        exact ⟨((nP c : Nat), 0), rfl, hw'.below MM, fun _ => ⟨hgood, rfl⟩, fun h => absurd rfl h⟩
/-- a cut that is open -/
def opP (c : Ct) (a : Option Addr) (cp : Nat) (z : Nat × Int) : List Value := if z.2 = 0 then picV c a cp z.1 else [.int .i64 0, .int .i64 0, .slice none 0 0, .map none]
theorem opP_len (c : Ct) (a : Option Addr) (cp : Nat) (z : Nat × Int) : (opP c a cp z).length = 4 := by unfold opP; split <;> rfl
theorem opP_one (c : Ct) (a : Option Addr) (cp : Nat) (z : Nat × Int) : (opP c a cp z).all (·.oneCell') = true := by unfold opP; split <;> rfl
def opN (c : Ct) (z : Nat × Int) : Int := if z.2 = 0 then (nP c : Nat) else 0
def opV (c : Ct) (a : Option Addr) (cp : Nat) (z : Nat × Int) : Value := .tuple #[.agg (opP c a cp z).toArray, .int .i64 (opN c z), .int .i64 z.2]
abbrev OpenF (c : Ct) (piece : Int) (lo : Nat) (w' : World) (z : Nat × Int) : Prop := (z.2 = 0 → (CutOk c (nP c) ∧ 0 ≤ piece ∧ piece < (nP c : Nat)) ∧ MpA lo w' z.1 c) ∧ (z.2 ≠ 0 → ¬ (CutOk c (nP c) ∧ 0 ≤ piece ∧ piece < (nP c : Nat)))
theorem open21 (w : World) (c : Ct) (a : Option Addr) (cp : Nat) (hp : RowsA iRow 1 0 w a c.piece) (piece : Int) : Calls Try.prog 21 #[.agg (ctV c a cp).toArray, .int .i64 piece] w fun e w' => ∃ z, e = .returned (opV c a cp z) ∧ Below w.heap.size w w' ∧ OpenF c piece w.heap.size w' z := by
  unfold ctV
  refine calls_of_SC (args := [.agg #[.int .i64 c.wide, .int .i64 c.high, .slice a c.piece.length cp], .int .i64 piece]) Try.func21 rfl Try.ntmps21 rfl ?_
  simp only [argL, Nat.zero_add]
  refine sc_seq ?_
  refine sc_region ?_
  refine sq_box RF rfl (fun b2 => ?_)
  refine sq_alloc Try.zeroValue90 rfl (fun b4 => ?_)
  refine qs (y_assign RF) ?_
  refine qs (y_assign RF) ?_
  refine sq_nil ?_
  refine sx_then ?_
  refine sc_seq ?_
  refine sc_region ?_
  refine qs LD24 ?_
  refine sq_call_new (first := []) (caps := []) (Z := Int × Int) (fun y => .tuple #[.int .i64 y.1, .int .i64 y.2]) (fun _ _ y => ChkR c y.1 y.2) RF Try.call7 (EvL.cons RF EvL.nil) (fun w1 hw1 => check7 w1 c a cp (hp.at hw1 MM)) rfl (fun lo1 wr1 y hy => ?_)
  refine qs (y_move RF) ?_
  refine qs (y_extract RF RF) ?_
  refine qs (y_extract RF RF) ?_
  refine qs (y_assign RF) ?_
  refine qs (y_assign RF) ?_
  refine sq_nil ?_
  refine sx_then ?_
  refine sc_seq ?_
  refine sc_block ?_
  refine sc_seq ?_
  refine sc_region ?_
  refine qs (y_move RF) ?_
  refine qs (y_neq RF RF) ?_
  refine qs (y_assign RF) ?_
  refine sq_nil ?_
  refine sx_then ?_
  refine scp (fun hc0 => ?_) (fun hc0 => ?_)
  ·
    have hbad : ¬ (CutOk c (nP c) ∧ 0 ≤ piece ∧ piece < (nP c : Nat)) := fun hk => hy.2 hc0 hk.1
    refine sc_seq ?_
    refine sc_region ?_
    refine qs LD90 ?_
    refine qs (y_move RF) ?_
    refine sq_store_all Try.sizeOf90 RF RF rfl RM rfl rfl ?_
    refine qs (y_assign RF) ?_
    refine qs (y_assign RF) ?_
    refine sq_nil ?_
    refine sx_then ?_
    refine sc_ret ?_
    refine sx_blk_ret ?_
    refine sx_then_ret ?_
    refine sx_retctt (.inl rfl) rfl Try.results21 Try.underlying90 rfl Try.sizeOf90 RF MM rfl RF RF ?_
    intro w' hw'
    exact ⟨(0, y.2), by unfold opV opP opN; rw [if_neg hc0, if_neg hc0]; rfl, hw'.below MM, fun h => absurd h hc0, fun _ => hbad⟩
  ·
    obtain ⟨hok, hyn⟩ := hy.1 hc0
    rw [hyn]
    refine sc_seq ?_
    refine sc_region ?_
    refine qs (y_move RF) ?_
    refine qs (y_move RF) ?_
    refine qs (y_sub RF RF (by have := nP_eq hok.ok; omega)) ?_
    refine qy (yc Try.call22 E3 (fun w1 hw1 => within22 _ _ _ w1)) ?_
    refine qs (y_not RF) ?_
    refine qs (y_assign RF) ?_
    refine sq_nil ?_
    refine sx_then ?_
    refine scp (fun hc1 => ?_) (fun hc1 => ?_)
    ·
      have hbad : ¬ (CutOk c (nP c) ∧ 0 ≤ piece ∧ piece < (nP c : Nat)) := fun hk => hc1 ⟨hk.2.1, by omega⟩
      refine sc_seq ?_
      refine sc_region ?_
      refine qs LD90 ?_
      refine sq_store_all Try.sizeOf90 RF RF rfl RM rfl rfl ?_
      refine qs (y_assign RF) ?_
      refine qs (y_assign RF) ?_
      refine sq_nil ?_
      refine sx_then ?_
      refine sc_ret ?_
      refine sx_blk_ret ?_
      refine sx_then_ret ?_
      refine sx_retctt (.inl rfl) rfl Try.results21 Try.underlying90 rfl Try.sizeOf90 RF MM rfl RF RF ?_
      intro w' hw'
      exact ⟨(0, 2), rfl, hw'.below MM, fun h => absurd h (show ¬ (2 : Int) = 0 by decide), fun _ => hbad⟩
    ·
      refine sc_skip ?_
      refine sx_blk ?_
      refine sx_then ?_
      refine sc_seq ?_
      refine sc_region ?_
      refine qs LD24 ?_
      refine sq_call_new (first := []) (caps := []) (Z := Nat) (fun b => .agg (picV c a cp b).toArray) (fun lo w' b => w.heap.size ≤ lo ∧ MpA lo w' b c) RF Try.call26 (EvL.cons RF EvL.nil) (fun w1 hw1 => (newPicture26 w1 c hok.ok a cp (hp.at hw1 MM)).mono (fun e w' ⟨b, h1, h2, h3⟩ => ⟨b, h1, h2, hw1.size, h3⟩)) rfl (fun lo6 wr6 bm hbm => ?_)
      refine qs (y_move RF) ?_
      refine sq_store_all Try.sizeOf90 RF RF rfl RM rfl rfl ?_
      refine qs (y_assign RF) ?_
      refine qs (y_assign RF) ?_
      refine sq_nil ?_
      refine sx_then ?_
      refine sc_ret ?_
      refine sx_retctt (.inl rfl) rfl Try.results21 Try.underlying90 rfl Try.sizeOf90 RF MM rfl RF RF ?_
      intro w' hw'
      exact ⟨(bm, 0), rfl, hw'.below MM, fun _ => ⟨⟨hok, by omega, by omega⟩, Nat.le_trans hbm.1 hbm.2.1, hbm.2.hp MM hw'⟩, fun h => absurd rfl h⟩
end Go.Proofs.Ytfceajkofpafpaa
