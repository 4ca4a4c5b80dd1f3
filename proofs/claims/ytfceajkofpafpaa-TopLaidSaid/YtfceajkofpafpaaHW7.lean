/- The walks of Sides, Join; of the document's Cut and Cells. -/
import Derived.Test.YtfceajkofpafpaaHW6
namespace Go.Proofs.Ytfceajkofpafpaa
open Go Go.Eng Go.RowKit Go.Proofs
open Go.Proofs.Ytfceajkofpafpaa.Sc (iRow spRow sp0 Sp getD_of get_of_lt any_range_get all_not_any all_getD)
set_option maxRecDepth 100000
def sdRow (q : Int × Int) : List Value := [.int .i64 q.1, .int .i64 q.2]
theorem sdRow_len (q : Int × Int) : (sdRow q).length = 2 := rfl
/-- what a piece has in common with the border and with the first pieces -/
def sdN (c : Ct) (piece : Int) (m : Nat) : List (Int × Int) := ((List.range m).map fun (i : Nat) => ((i : Int) - 1, ((edgeN c ((i : Int) - 1) piece : Nat) : Int))).filter fun q => decide (0 < q.2)
theorem sdN_succ (c : Ct) (piece : Int) (m : Nat) : sdN c piece (m + 1) = sdN c piece m ++ if 0 < edgeN c ((m : Int) - 1) piece then [((m : Int) - 1, ((edgeN c ((m : Int) - 1) piece : Nat) : Int))] else [] := by
  unfold sdN
  rw [List.range_succ, List.map_append, List.filter_append]
  congr 1
  by_cases h : 0 < edgeN c ((m : Int) - 1) piece
  · rw [if_pos h, List.map_singleton, List.filter_cons, if_pos (decide_eq_true (by dsimp only; omega))]; rfl
  · rw [if_neg h, List.map_singleton, List.filter_cons, if_neg (by simp; omega)]; rfl
theorem sdN_le (c : Ct) (piece : Int) (m : Nat) : (sdN c piece m).length ≤ m := by
  unfold sdN; exact Nat.le_trans (List.length_filter_le _ _) (by simp)
/-- a piece of a good cut -/
def Good (c : Ct) (piece : Int) : Prop := CutOk c (nP c) ∧ 0 ≤ piece ∧ piece < (nP c : Nat)
/-- a list of which the first ones are turned -/
def mixL (f : Int → Int) (l : List Int) (s : Nat) : List Int := (l.take s).map f ++ l.drop s
theorem mix_len (f : Int → Int) (l : List Int) (s : Nat) : (mixL f l s).length = l.length := by unfold mixL; simp; omega
theorem mix_at (f : Int → Int) (l : List Int) {s i : Nat} (h : i < l.length) : (mixL f l s)[i]? = some (if i < s then f (l.getD i 0) else l.getD i 0) := by
  unfold mixL
  rcases Nat.lt_or_ge i s with hi | hi
  · rw [if_pos hi, List.getElem?_append_left (by simp; omega), List.getElem?_map, List.getElem?_take, if_pos hi, get_of_lt 0 h]; rfl
  · rw [if_neg (by omega), List.getElem?_append_right (by simp; omega), List.getElem?_drop, List.length_map, List.length_take, show s + (i - min s l.length) = i by omega, get_of_lt 0 h]
theorem mix_set (f : Int → Int) (l : List Int) {s : Nat} (h : s < l.length) : (mixL f l s).set s (f (l.getD s 0)) = mixL f l (s + 1) := by
  apply List.ext_getElem?
  intro i
  rw [List.getElem?_set]
  rcases Nat.lt_or_ge i l.length with hi | hi
  · rw [mix_at f l hi, mix_at f l hi]
    by_cases e : s = i
    · subst e; rw [if_pos rfl, if_pos (by rw [mix_len]; exact h), if_pos (by omega)]
    · rw [if_neg e]
      rcases Nat.lt_or_ge i s with h2 | h2
      · rw [if_pos h2, if_pos (by omega)]
      · rw [if_neg (by omega), if_neg (by omega)]
  · rw [List.getElem?_eq_none (by rw [mix_len]; exact hi), List.getElem?_eq_none (by rw [mix_len]; exact hi), if_neg (by omega)]
theorem mix_skip {f : Int → Int} {l : List Int} {s : Nat} (h : s < l.length) (e : f (l.getD s 0) = l.getD s 0) : mixL f l (s + 1) = mixL f l s := by
  rw [← mix_set f l h, e]
  apply List.ext_getElem?
  intro i
  rw [List.getElem?_set]
  by_cases e2 : s = i
  · subst e2; rw [if_pos rfl, if_pos (by rw [mix_len]; exact h), mix_at f l h, if_neg (by omega)]
  · rw [if_neg e2]
theorem mix_zero (f : Int → Int) (l : List Int) : mixL f l 0 = l := by unfold mixL; simp
theorem mix_all (f : Int → Int) (l : List Int) : mixL f l l.length = l.map f := by unfold mixL; simp
theorem iset {l : List Int} {k : Nat} (x : Int) : (l.flatMap iRow).set (k * 1 + 0) (.int .i64 x) = (l.set k x).flatMap iRow := by
  rw [Nat.mul_one, Nat.add_zero, flat_imap, flat_imap, List.map_set]
/-- the piece that a piece becomes where b is joined to a -/
def jn (a b k : Int) : Int := if k = b then a else if b < k then k - 1 else k
def joinC (c : Ct) (a b : Int) : Ct := ⟨c.wide, c.high, c.piece.map (jn (min a b) (max a b))⟩
def JoinOk (c : Ct) (a b : Int) : Prop := Good c a ∧ (0 ≤ b ∧ b < (nP c : Nat)) ∧ a ≠ b ∧ edgeN c a b ≠ 0
def jnV (c : Ct) (y : Value × Int) : List Value := if y.2 = 0 then [.int .i64 c.wide, .int .i64 c.high, y.1] else [.int .i64 0, .int .i64 0, .slice none 0 0]
theorem clone24o (w : World) (a : Option Addr) (c : Nat) (l : List Int) (hl : RowsA iRow 1 0 w a l) (hb : l.length ≤ 100000) (h0 : 0 < l.length) : Calls Try.prog 24 #[.slice a l.length c] w fun e w' => ∃ v, e = .returned v ∧ Below w.heap.size w w' ∧ v.oneCell' = true ∧ w'.ownsRow w.heap.size 3 1 v l.length (l.flatMap iRow) := by
  refine calls_of_SC (args := [.slice a l.length c]) Try.func24 rfl Try.ntmps24 rfl ?_
  simp only [argL]
  refine sc_seq ?_
  refine sc_region ?_
  refine qs (y_assign RF) ?_
  refine sq_nil ?_
  refine sx_then ?_
  refine sc_seq ?_
  refine sc_seq ?_
  refine sc_region ?_
  refine qs (y_move RF) ?_
  refine qs (y_eqlnilA Try.underlying22 RF RF) ?_
  refine sq_nil ?_
  refine sx_then ?_
  refine scp (fun hc0 => ?_) (fun hc0 => ?_)
  ·
    have han : a = none := by cases a with | none => rfl | some ad => cases hc0
    exact absurd (hl.noa han) (by omega)
  ·
    refine sc_skip ?_
    refine sx_then ?_
    refine sc_seq ?_
    refine sc_region ?_
    refine sq_bs Try.underlying22 ei3 (EvI.nil) (by simp) rfl rfl rfl (fun b5 => ?_)
    refine sq_blk_own0 (sz := 1) (c := 0) RM rfl (Nat.zero_le _) ?_
    refine qs (y_move RF) ?_
    refine sq_append_rows (news := l.flatMap iRow) Try.underlying22 ei3 Try.sizeOf3 rfl (by decide) RF RM RF hl.noa (by rw [iflat_len, Nat.mul_one]) (fun ad had w1 hw1 => RowsA.cells (row := iRow) iRow_len (by decide) (by rw [← had]; exact hl.at hw1 MM)) (iflat_one _) (by omega) rfl (fun v7 ho7 => ?_)
    rw [Nat.zero_add l.length, List.nil_append]
    refine qs (y_assign RF) ?_
    refine sq_nil ?_
    refine sx_then ?_
    refine sc_ret ?_
    refine sx_ret1 (.inl rfl) rfl Try.results24 RF ?_
    intro w' hw'
    have ho := own_new_mem hw' (v := v7) (xs := l.flatMap iRow) MM MM
    exact ⟨v7, rfl, hw'.below MM, ho7, ho⟩
theorem sides9 (w : World) (c : Ct) (a : Option Addr) (cp : Nat) (hp : RowsA iRow 1 0 w a c.piece) (piece : Int) : Calls Try.prog 9 #[.agg (ctV c a cp).toArray, .int .i64 piece] w fun e w' => ∃ y : Value × Int, e = .returned (.tuple #[y.1, .int .i64 y.2]) ∧ Below w.heap.size w w' ∧ (y.2 = 0 → Good c piece ∧ w'.ownsRow w.heap.size 42 2 y.1 (sdN c piece (nP c + 1)).length ((sdN c piece (nP c + 1)).flatMap sdRow)) ∧ (y.2 ≠ 0 → ¬ Good c piece) := by
  unfold ctV
  refine calls_of_SC (args := [.agg #[.int .i64 c.wide, .int .i64 c.high, .slice a c.piece.length cp], .int .i64 piece]) Try.func9 rfl Try.ntmps9 rfl ?_
  simp only [argL, Nat.zero_add]
  refine sc_seq ?_
  refine sc_region ?_
  refine sq_box RF rfl (fun b2 => ?_)
  refine qs (y_assign RF) ?_
  refine qs (y_assign RF) ?_
  refine sq_nil ?_
  refine sx_then ?_
  refine sc_seq ?_
  refine sc_region ?_
  refine qs LD24 ?_
  refine qs (y_move RF) ?_
  refine sq_call_new (first := []) (caps := []) (Z := Nat × Int) (opV c a cp) (fun lo w' z => OpenF c piece lo w' z) RF Try.call21 (EvL.cons RF (EvL.cons RF EvL.nil)) (fun w1 hw1 => open21 w1 c a cp (hp.at hw1 MM) piece) rfl (fun lo1 wr1 z hz => ?_)
  refine qs (y_move RF) ?_
  refine qs (y_extract RF RF) ?_
  refine qs (y_extract RF RF) ?_
  refine qs (y_extract RF RF) ?_
  refine sq_alloc Try.zeroValue90 rfl (fun b6 => ?_)
  refine sq_store_all (vs := opP c a cp z) Try.sizeOf90 RF RF (opP_one c a cp z) RM (opP_len c a cp z) rfl ?_
  refine qs (y_assign RF) ?_
  refine qs (y_assign RF) ?_
  refine sq_nil ?_
  refine sx_then ?_
  refine sc_seq ?_
  refine sc_seq ?_
  refine sc_region ?_
  refine qs (y_move RF) ?_
  refine qs (y_neq RF RF) ?_
  refine sq_nil ?_
  refine sx_then ?_
  refine scp (fun hc0 => ?_) (fun hc0 => ?_)
  ·
    refine sc_seq ?_
    refine sc_region ?_
    refine qs (y_move RF) ?_
    refine qs (y_assign RF) ?_
    refine qs (y_assign RF) ?_
    refine sq_nil ?_
    refine sx_then ?_
    refine sc_ret ?_
    refine sx_then_ret ?_
    refine sx_ret2 (.inl rfl) rfl Try.results9 RF RF ?_
    intro w' hw'
    exact ⟨(.slice none 0 0, z.2), rfl, hw'.below MM, fun h => absurd h hc0, fun h => hz.2 h⟩
  ·
    obtain ⟨hgd, hbm⟩ := hz.1 hc0
    have hok := hgd.1
    have hnP := nP_eq hok.ok
    rw [show opN c z = ((nP c : Nat) : Int) from if_pos hc0, show opP c a cp z = picV c a cp z.1 from if_pos hc0, hc0]
    unfold picV
    refine sc_skip ?_
    refine sx_then ?_
    refine sc_seq ?_
    refine sc_region ?_
    refine qs LD90 ?_
    refine sq_call_new (first := []) (caps := []) (Z := Nat × List ((Int × Int) × Int)) (fun y => .map (some y.1)) (fun lo w' y => lo ≤ y.1 ∧ w'.heap[y.1]? = some (mvM cK iV y.2) ∧ Em (edgeN c) y.2) RF Try.call23 (EvL.cons RF EvL.nil) (fun w1 hw1 => edges23 w1 c hok.ok a cp z.1 (hbm.at hw1 MM)) rfl (fun lo2 wr2 y hy => ?_)
    refine qs (y_assign RF) ?_
    refine sq_nil ?_
    refine sx_then ?_
    refine sc_seq ?_
    refine sc_seq ?_
    refine sc_nil_own 42 2 ?_
    refine sc_region ?_
    refine qs (y_assign RF) ?_
    refine sq_nil ?_
    refine sx_then ?_
    refine sc_block ?_
    refine sc_loop (σ := Nat × Value)
      (fun s => [(1, .int .i64 piece), (4, s.2), (7, .int .i64 ((nP c : Nat) : Int)), (8, .map (some y.1)), (9, .int .i64 ((s.1 : Int) - 1))])
      (fun s => [.own s.2 42 2 (sdN c piece s.1).length ((sdN c piece s.1).flatMap sdRow), .reg lo2 wr2, .reg 0 w])
      (fun s => s.1 ≤ nP c + 1 ∧ s.2.oneCell' = true)
      (fun s => nP c + 1 - s.1)
      ((0, .slice none 0 0)) ?_ SU SR ?_
    · exact ⟨Nat.zero_le _, rfl⟩
    rintro ⟨s, v⟩ ⟨hs, hv1⟩
    dsimp only at hs hv1 ⊢
    refine sc_seq ?_
    refine sc_seq ?_
    refine sc_region ?_
    refine qs (y_move RF) ?_
    refine qs (y_move RF) ?_
    refine qs (y_lss RF RF) ?_
    refine sq_nil ?_
    refine sx_then ?_
    refine scp (fun hc1 => ?_) (fun hc1 => ?_)
    ·
      have hs' : s < nP c + 1 := by omega
      refine sc_skip ?_
      refine sx_then ?_
      refine sc_seq ?_
      refine sc_block ?_
      refine sc_seq ?_
      refine sc_region ?_
      refine qs (y_move RF) ?_
      refine qs (y_move RF) ?_
      refine qs (y_move RF) ?_
      refine qs (y_build bt97 (EvP.cons RF (EvP.cons RF EvP.nil)) RF) ?_
      refine qs (y_lookupV (l := y.2) (kf := cK) (vf := iV) (x0 := ((s : Int) - 1, piece)) (b0 := 0) kv97.toKF hy.2.2.ok hy.2.2.nd (⟨⟨by omega, by omega⟩, ⟨by omega, by omega⟩⟩) Try.underlying94 Try.zeroValue3 RF (fun _ hw => heap_reg hw MM hy.1 hy.2.1) RF) ?_
      rw [show iV ((mvGet y.2 ((s : Int) - 1, piece)).getD 0) = .int .i64 ((edgeN c ((s : Int) - 1) piece : Nat) : Int) from by rw [hy.2.2.get]; rfl]
      refine qs (y_assign RF) ?_
      refine sq_nil ?_
      refine sx_then ?_
      refine sc_seq ?_
      refine sc_region ?_
      refine qs (y_move RF) ?_
      refine qs (y_gtr RF RF) ?_
      refine sq_nil ?_
      refine sx_then ?_
      refine scp (fun hc2 => ?_) (fun hc2 => ?_)
      ·
        have hpos : 0 < edgeN c ((s : Int) - 1) piece := by omega
        refine sc_region ?_
        refine qs (y_move RF) ?_
        refine qs (y_move RF) ?_
        refine qs (y_move RF) ?_
        refine qs (y_build bt42 (EvP.cons RF (EvP.cons RF EvP.nil)) RF) ?_
        refine sq_bs Try.underlying33 ei42 (EvI.cons RF EvI.nil) (by first | (simp [Value.cells]; done) | (simp [Value.cells]; rfl) | (simp [Value.cells]; and_intros <;> rfl)) rfl rfl rfl (fun b39 => ?_)
        refine sq_append (news := [Value.int .i64 ((s : Int) - 1), .int .i64 ((edgeN c ((s : Int) - 1) piece : Nat) : Int)]) Try.underlying33 ei42 rfl (by decide) RF RM RF rfl (fun _ hw => news_blk hw MM) (by simp [Value.oneCell']) (by have := sdN_le c piece s; omega) rfl (fun v40 ho40 => ?_)
        rw [show (sdN c piece s).flatMap sdRow ++ [Value.int .i64 ((s : Int) - 1), .int .i64 ((edgeN c ((s : Int) - 1) piece : Nat) : Int)] = (sdN c piece (s + 1)).flatMap sdRow from by rw [sdN_succ, if_pos hpos, List.flatMap_append]; rfl, show (sdN c piece s).length + 1 = (sdN c piece (s + 1)).length from by rw [sdN_succ, if_pos hpos]; simp]
        refine qs (y_assign RF) ?_
        refine sq_nil ?_
        refine sx_blk ?_
        refine sx_then ?_
        refine sc_region ?_
        refine qs (y_move RF) ?_
        refine qs (y_add RF RF (by omega)) ?_
        refine qs (y_assign RF) ?_
        refine sq_nil ?_
        refine sx_round ((s + 1, v40)) ?_ ?_ SU SR
        · exact ⟨by dsimp only; omega, ho40⟩
        · dsimp only; omega
      ·
        refine sc_skip ?_
        refine sx_blk ?_
        refine sx_then ?_
        refine sc_region ?_
        refine qs (y_move RF) ?_
        refine qs (y_add RF RF (by omega)) ?_
        refine qs (y_assign RF) ?_
        refine sq_nil ?_
        rw [show sdN c piece s = sdN c piece (s + 1) from by rw [sdN_succ, if_neg (by omega), List.append_nil]]
        refine sx_round ((s + 1, v)) ?_ ?_ SU SR
        · exact ⟨by dsimp only; omega, hv1⟩
        · dsimp only; omega
    ·
      have hsn : s = nP c + 1 := by omega
      subst hsn
      refine sc_exit ?_
      refine sx_then_exit ?_
      refine sx_round_exit ?_
      refine sx_blk_hit ?_
      refine sx_then ?_
      refine sc_seq ?_
      refine sc_region ?_
      refine qs (y_move RF) ?_
      refine qs (y_assign RF) ?_
      refine qs (y_assign RF) ?_
      refine sq_nil ?_
      refine sx_then ?_
      refine sc_ret ?_
      refine sx_ret2 (.inl rfl) rfl Try.results9 RF RF ?_
      intro w' hw'
      have ho := own_new_mem hw' (v := v) (xs := (sdN c piece (nP c + 1)).flatMap sdRow) MM MM
      exact ⟨(v, 0), rfl, hw'.below MM, fun _ => ⟨hgd, ho⟩, fun h => absurd rfl h⟩
end Go.Proofs.Ytfceajkofpafpaa
