/- The walks of how many pieces a person can have lost, of who has the puzzle, and of the look that clashes. -/
import Derived.Test.YtpijahglojichaaDoorWalkL9
import Derived.Test.YtpijahglojichaaDoorWalk13
namespace Go.Proofs.YtpijahglojichaaDoor
open Go Go.Eng Go.RowKit Go.Proofs
set_option maxRecDepth 100000
/-- the list while numbers are tried -/
def tryL (np q s : Nat) : List Int := if s = 0 then admL np np 0 else admL np q (s - 1)
theorem tryL_len (np q s : Nat) : (tryL np q s).length = np := by unfold tryL; split <;> exact admL_len ..
theorem tryL_set {np q : Nat} (s : Nat) (hq : q < np) : (tryL np q s).set q (s : Int) = admL np q s := by
  have key : ∀ (l : List Int), l.length = np → (∀ p, p < np → p ≠ q → l.getD p 0 = -1) → l.set q (s : Int) = admL np q s := fun l hl h => by
    apply List.ext_getElem?
    intro p
    rw [List.getElem?_set]
    rcases Nat.lt_or_ge p np with hp | hp
    · have h1 := admL_get (np := np) (q := q) (n := s) hp
      rw [get_of_lt (l := admL np q s) 0 (by rw [admL_len]; exact hp), h1]
      by_cases e : q = p
      · subst e; rw [if_pos rfl, if_pos (by omega), if_pos rfl]
      · rw [if_neg e, get_of_lt (l := l) 0 (by omega), h p hp (fun h => e h.symm), if_neg (fun h => e h.symm)]
    · rw [if_neg (by omega), List.getElem?_eq_none (l := l) (by omega), List.getElem?_eq_none (l := admL np q s) (by rw [admL_len]; exact hp)]
  unfold tryL
  split
  · exact key _ (admL_len ..) fun p hp _ => by rw [admL_get hp, if_neg (by omega)]
  · exact key _ (admL_len ..) fun p hp hne => by rw [admL_get hp, if_neg hne]

theorem Lost39 (w : World) (z : TlA) (t : Tl) (hz : TlAt 0 w z t) (np : Nat) (h : TaF t np) (q : Nat) (hq : q < np) (S : Nat) (hS : S ≤ t.pieces) (hF : ∀ n, n ≤ t.pieces → fitsB (canL t t.pieces) (freeN (admL np q n) np) q n t.pieces = decide (n = S)) : Calls Tryd.prog 39 #[.agg (tlV z t).toArray, .int .i64 (q : Int)] w fun e w' => e = .returned (.tuple #[.agg #[.int .i64 (S : Int), .int .i64 (S : Int)], .int .i64 0]) ∧ Below w.heap.size w w' := by
  have hal : t.admits.length = np := by rw [h.ad, admL_len]
  have hp1 := h.ok.p1
  have hp16 := h.ok.p16
  have hn6 := h.np6
  have hqa : q < t.admits.length := by omega
  have hsq := (hz.ad.get 0 (show q < t.admits.length by omega)).1
  have hcq := (hz.ad.get 0 (show q < t.admits.length by omega)).2
  rw [show t.admits.getD q 0 = -1 by rw [h.ad, admL_get hq, if_neg (by omega)]] at hcq
  refine calls_of_SC (args := [.agg (tlV z t).toArray, .int .i64 (q : Int)]) Tryd.func39 rfl Tryd.ntmps39 rfl ?_
  simp only [argL, Nat.zero_add]
  refine sc_seq ?_
  refine sc_region ?_
  refine sq_box RF rfl (fun b2 => ?_)
  refine sq_box RF rfl (fun b3 => ?_)
  refine sq_alloc Tryd.zeroValue68 rfl (fun b4 => ?_)
  refine qs (y_assign RF) ?_
  refine sq_nil ?_
  refine sx_then ?_
  refine sc_seq ?_
  refine sc_region ?_
  refine qs LD61 ?_
  refine qs (y_makeFunc EvL.nil (EvL.cons RF (EvL.cons RF EvL.nil))) ?_
  refine qy (yc Tryd.call70 E2 (fun w1 hw1 => check70 w1 z t (hz.at hw1 MM) np h 74 [.pointer (some ⟨b3, 0, none⟩), .pointer (some ⟨b2, 0, none⟩)] Tryd.call74 (fun w2 hw2 => lost74 w2 z t ⟨b3, 0, none⟩ ⟨b2, 0, none⟩ q (CA.blk (vs := [.int .i64 (q : Int)]) (hw1.ext hw2) MM) (CA.blk (hw1.ext hw2) MM) (by omega) (by omega)))) ?_
  refine qs (y_move RF) ?_
  refine qs (y_extract RF RF) ?_
  refine qs (y_extract RF RF) ?_
  refine sq_alloc Tryd.zeroValue118 rfl (fun b6 => ?_)
  refine sq_store_all (vs := (bkV z t (canL t t.pieces))) Tryd.sizeOf118 RF RF (by rfl) RM (bkV_len z t (canL_len _ _)) rfl ?_
  refine qs (y_assign RF) ?_
  refine sq_nil ?_
  refine sx_then ?_
  refine sc_seq ?_
  refine sc_seq ?_
  refine sc_region ?_
  refine qs (y_move RF) ?_
  refine qs (y_neq RF RF) ?_
  refine sq_nil ?_
  refine sx_then ?_
  refine sc_f (lk_bool rfl (rfl)) ?_
  refine sc_skip ?_
  refine sx_then ?_
  refine sc_seq ?_
  refine sc_seq ?_
  refine sc_region ?_
  refine qs FA61_25 ?_
  refine qs LD25 ?_
  refine qs LD3 ?_
  refine qs IA25 ?_
  refine qs (by first | exact y_load_ca0 Tryd.underlying3 rfl RF MM hcq rfl | exact LD3) ?_
  refine qs (y_assign RF) ?_
  refine sq_nil ?_
  refine sx_then ?_
  refine sc_seq ?_
  refine sc_region ?_
  refine qs (y_move RF) ?_
  refine qs (y_neq RF RF) ?_
  refine sq_nil ?_
  refine sx_then ?_
  refine sc_f (lk_bool rfl (rfl)) ?_
  refine sc_skip ?_
  refine sx_then ?_
  refine sc_seq ?_
  refine sc_region ?_
  refine qs FA61_25 ?_
  refine qs LD25 ?_
  refine sq_call_own (first := []) (caps := []) (e := 3) (sz := 1) (n := t.admits.length) (Z := Value) (fun x => x) (fun x => x) (fun _ => t.admits.flatMap iRow) (fun x => x.oneCell' = true) RF Tryd.call53 E1 (fun w1 hw1 => (clone53o w1 z.aa z.ac t.admits (hz.ad.at hw1 MM) (by omega) (by omega)).mono (fun e w' ⟨x, h1, h2, h3, h4⟩ => ⟨x, h1, h2, h3, h4⟩)) rfl (fun v33 ho33 => ?_)
  refine sq_own_dest (v := v33) (e := 3) (sz := 1) (m := t.admits.length) (xs := t.admits.flatMap iRow) MM (fun a33 c33 hv33 hmc33 hn33 => ?_)
  subst hv33
  refine qs FA118_61 ?_
  refine qs FA61_25 ?_
  refine sq_store_eq (cs' := (bkV ({ z with aa := a33, ac := c33 } : TlA) t (canL t t.pieces)).toArray) Tryd.sizeOf25 RF RF rfl RM (by show 0 + 0 + 3 < (bkV z t (canL t t.pieces)).toArray.size; rw [List.size_toArray, bkV_len _ _ (canL_len _ _)]; decide) (by show (bkV z t (canL t t.pieces)).toArray.setIfInBounds 3 _ = _; rw [List.setIfInBounds_toArray]; rfl) ?_
  rw [show t.admits.flatMap iRow = (tryL np q 0).flatMap iRow from by rw [h.ad]; rfl]
  refine sq_nil ?_
  refine sx_then ?_
  refine sc_seq ?_
  refine sc_region ?_
  refine qs (y_build bt68 (EvP.cons RF EvP.nil) RF) ?_
  refine sq_alloc Tryd.zeroValue68 rfl (fun b9 => ?_)
  refine sq_store_all Tryd.sizeOf68 RF RF rfl RM rfl rfl ?_
  refine sq_nil ?_
  refine sx_then ?_
  refine sc_seq ?_
  refine sc_seq ?_
  refine sc_region ?_
  refine qs FA61_3 ?_
  refine qs LD3 ?_
  refine qs (y_add RF RF (by omega)) ?_
  refine qs (y_move RF) ?_
  refine sq_nil ?_
  refine sx_then ?_
  refine sc_block ?_
  refine sc_loop (σ := Nat)
    (fun s_ => [(2, .pointer (some ⟨b2, 0, none⟩)), (3, .pointer (some ⟨b3, 0, none⟩)), (4, .pointer (some ⟨b4, 0, none⟩)), (6, .pointer (some ⟨b6, 0, none⟩)), (9, .pointer (some ⟨b9, 0, none⟩)), (39, .int .i64 ((t.pieces : Int) + 1)), (40, .int .i64 s_)])
    (fun s_ => [.own (.slice a33 t.admits.length c33) 3 1 t.admits.length ((tryL np q s_).flatMap iRow), .blk b9 (.cells #[.int .i64 (if s_ ≤ S then (-1 : Int) else (S : Int)), .int .i64 (if s_ ≤ S then (0 : Int) else (S : Int))] 68 (0, 0)), .blk b6 (.cells (bkV ({ z with aa := a33, ac := c33 } : TlA) t (canL t t.pieces)).toArray 118 (0, 0)), .blk b4 (.cells #[.int .i64 0, .int .i64 0] 68 (0, 0)), .blk b3 (.cells #[.int .i64 (q : Int)] 3 (0, 0)), .blk b2 (.cells (tlV z t).toArray 61 (0, 0)), .reg 0 w])
    (fun s_ => s_ ≤ t.pieces + 1)
    (fun s_ => t.pieces + 1 - s_)
    (0) ?_ SU SR ?_
  · exact Nat.zero_le _
  rintro s hs
  refine sc_seq ?_
  refine sc_region ?_
  refine qs (y_lss RF RF) ?_
  refine sq_nil ?_
  refine sx_then ?_
  refine sc_seq ?_
  refine scp (fun hc2 => ?_) (fun hc2 => ?_)
  ·
    have hs' : s ≤ t.pieces := by omega
    refine sc_skip ?_
    refine sx_then ?_
    refine sc_seq ?_
    refine sc_block ?_
    refine sc_seq ?_
    refine sc_region ?_
    refine qs (y_move RF) ?_
    refine qs (y_assign RF) ?_
    refine sq_nil ?_
    refine sx_then ?_
    refine sc_seq ?_
    refine sc_region ?_
    refine qs FA118_61 ?_
    refine qs FA61_25 ?_
    refine qs LD25 ?_
    refine qs LD3 ?_
    refine qs (y_move RF) ?_
    refine qs (y_ia_own (v := .slice a33 t.admits.length c33) (i := q) Tryd.underlying25 Tryd.sizeOf3 RF MM RF hqa) ?_
    refine sq_store_own (v := .slice a33 t.admits.length c33) (i := q) (j := 0) (sz := 1) Tryd.sizeOf3 RF RF rfl RM hqa (by decide) ?_
    rw [iset, tryL_set s hq]
    refine sq_nil ?_
    refine sx_then ?_
    refine sc_seq ?_
    refine sc_region ?_
    refine qs (by first | exact y_load_all Tryd.underlying118 rfl Tryd.sizeOf118 RF MM (bkV_len _ _ (canL_len _ _)) | exact LD118) ?_
    refine sq_y (y_call (first := []) (caps := []) RF Tryd.call69 (EvL.cons RF EvL.nil) (fun w1 hw1 => by
      have hf := fits69 w1 ({ z with aa := a33, ac := c33 } : TlA) ({ t with admits := admL np q s } : Tl) ⟨hz.ln.at hw1 MM, hz.sg.at hw1 MM, own_at (c := c33) (e := 3) hw1 (show (admL np q s).length = t.admits.length by rw [admL_len, hal]) MM⟩ np q s rfl hn6 (by omega) (by omega) hp16 (canL t t.pieces) (canL_len _ _) h.lt
      rw [show bkV ({ z with aa := a33, ac := c33 } : TlA) ({ t with admits := admL np q s } : Tl) (canL t t.pieces) = (bkV ({ z with aa := a33, ac := c33 } : TlA) t (canL t t.pieces)) from by unfold bkV tlV; dsimp only; rw [admL_len, hal], show (({ t with admits := admL np q s } : Tl) : Tl).admits = admL np q s from rfl, admL_len, show cntS np q s = s from if_pos hq, show (({ t with admits := admL np q s } : Tl) : Tl).pieces = t.pieces from rfl, hF s (by omega)] at hf
      exact hf)) rfl ?_
    refine sq_nil ?_
    refine sx_then ?_
    refine scp (fun hc3 => ?_) (fun hc3 => ?_)
    ·
      have hsS : s = S := by first | exact hc3 | simpa using hc3
      rw [show (if s ≤ S then (-1 : Int) else (S : Int)) = -1 from if_pos (by omega), show (if s ≤ S then (0 : Int) else (S : Int)) = 0 from if_pos (by omega)]
      refine sc_seq ?_
      refine sc_seq ?_
      refine sc_region ?_
      refine qs FA68_3 ?_
      refine qs LD3 ?_
      refine qs (y_lss RF RF) ?_
      refine sq_nil ?_
      refine sx_then ?_
      refine sc_t (lk_bool rfl (rfl)) ?_
      refine sc_region ?_
      refine qs (y_move RF) ?_
      refine qs FA68_3 ?_
      refine sq_store Tryd.sizeOf3 RF RF (by first | rfl | assumption) RM (by first | exact Nat.le_of_ble_eq_true rfl | simp | omega) ?_
      refine sq_nil ?_
      refine sx_then ?_
      refine sc_region ?_
      refine qs (y_move RF) ?_
      refine qs FA68_3 ?_
      refine sq_store Tryd.sizeOf3 RF RF (by first | rfl | assumption) RM (by first | exact Nat.le_of_ble_eq_true rfl | simp | omega) ?_
      refine sq_nil ?_
      refine sx_blk ?_
      refine sx_then ?_
      refine sc_region ?_
      refine qs (y_add RF RF (by omega)) ?_
      refine qs (y_move RF) ?_
      refine sq_nil ?_
      refine sx_sub (rs' := [.own (.slice a33 t.admits.length c33) 3 1 t.admits.length ((tryL np q (s + 1)).flatMap iRow), .blk b9 (.cells #[.int .i64 (if (s + 1) ≤ S then (-1 : Int) else (S : Int)), .int .i64 (if (s + 1) ≤ S then (0 : Int) else (S : Int))] 68 (0, 0)), .blk b6 (.cells (bkV ({ z with aa := a33, ac := c33 } : TlA) t (canL t t.pieces)).toArray 118 (0, 0)), .blk b4 (.cells #[.int .i64 0, .int .i64 0] 68 (0, 0)), .blk b3 (.cells #[.int .i64 (q : Int)] 3 (0, 0)), .blk b2 (.cells (tlV z t).toArray 61 (0, 0)), .reg 0 w]) (SubL.refl _) (by rw [show (if (s + 1) ≤ S then (-1 : Int) else (S : Int)) = (s : Int) from by rw [if_neg (by omega), hsS], show (if (s + 1) ≤ S then (0 : Int) else (S : Int)) = (s : Int) from by rw [if_neg (by omega), hsS], show tryL np q (s + 1) = admL np q s from if_neg (Nat.succ_ne_zero s)]; exact SR) ?_
      exact sx_round (s + 1) (by omega) (by omega) SU SR
    ·
      have hsS : s ≠ S := by first | exact hc3 | simpa using hc3
      refine sc_skip ?_
      refine sx_blk ?_
      refine sx_then ?_
      refine sc_region ?_
      refine qs (y_add RF RF (by omega)) ?_
      refine qs (y_move RF) ?_
      refine sq_nil ?_
      rw [show admL np q s = tryL np q (s + 1) from (if_neg (Nat.succ_ne_zero s)).symm, show (if s ≤ S then (-1 : Int) else (S : Int)) = (if (s + 1) ≤ S then (-1 : Int) else (S : Int)) from by first | rfl | (split <;> split <;> omega), show (if s ≤ S then (0 : Int) else (S : Int)) = (if (s + 1) ≤ S then (0 : Int) else (S : Int)) from by first | rfl | (split <;> split <;> omega)]
      exact sx_round (s + 1) (by omega) (by omega) SU SR
  ·
    have hsn : s = t.pieces + 1 := by omega
    rw [show (if s ≤ S then (-1 : Int) else (S : Int)) = (S : Int) from if_neg (by omega), show (if s ≤ S then (0 : Int) else (S : Int)) = (S : Int) from if_neg (by omega)]
    refine sc_exit ?_
    refine sx_then_exit ?_
    refine sx_round_exit ?_
    refine sx_blk_hit ?_
    refine sx_then ?_
    refine sc_seq ?_
    refine sc_region ?_
    refine qs LD68 ?_
    refine sq_store_all Tryd.sizeOf68 RF RF rfl RM rfl rfl ?_
    refine qs (y_assign RF) ?_
    refine sq_nil ?_
    refine sx_then ?_
    refine sc_ret ?_
    refine sx_retct (.inl rfl) rfl Tryd.results39 Tryd.underlying68 rfl Tryd.sizeOf68 RF MM rfl RF ?_
    intro w' hw'
    exact ⟨rfl, hw'.below MM⟩
end Go.Proofs.YtpijahglojichaaDoor
