/- The walk of what gives a piece to one who can have lost it, where all are silent. -/
import Derived.Test.YtpijahglojichaaDoorWalkL7
namespace Go.Proofs.YtpijahglojichaaDoor
open Go Go.Eng Go.RowKit Go.Proofs
set_option maxRecDepth 100000
theorem cntM_none (R : List (List Int)) (i : Nat) : cntM R 0 i = 0 := by have := (cntM_le R 0 i).1; omega
/-- where all are silent, some truth fits, if each piece can have been lost by somebody -/
theorem fits_silent {cs : List Nat} {fr q p : Nat} (h : ∀ k, k < p → cs.getD k 0 &&& fr ≠ 0) : fitsB cs fr q 0 p = true := by
  have hm : ∀ k, k ≤ p → mustR cs fr q 0 k = [] := fun k => by
    induction k with
    | zero => intro _; rfl
    | succ k ih =>
      intro hk
      show (if cs.getD k 0 &&& fr = 0 then _ else _) = _
      rw [if_neg (h k (by omega))]; exact ih (by omega)
  unfold fitsB
  rw [cntM_none, cntM_none, hm p (Nat.le_refl _)]; rfl
theorem bkV_zero (z : TlA) (t : Tl) {cs : List Nat} (h : cs.length = 16) : (bkV z t cs).take 4 ++ [.int .i64 0, .int .i64 0, .int .i64 0, .int .i64 0, .int .i64 0, .int .i64 0, .int .i64 0, .int .i64 0, .int .i64 0, .int .i64 0, .int .i64 0, .int .i64 0, .int .i64 0, .int .i64 0, .int .i64 0, .int .i64 0] ++ (bkV z t cs).drop (4 + 16) = bkV z t (List.replicate 16 0) := by
  have h1 : (bkV z t cs).drop (4 + 16) = [] := List.drop_of_length_le (by rw [bkV_len z t h]; exact Nat.le_refl _)
  rw [h1, List.append_nil]; rfl
/-- the sets of pieces, less one of them -/
def canCut (cs : List Nat) (p g : Nat) : List Nat := (cs.take p).take g ++ (cs.take p).drop (g + 1) ++ List.replicate (17 - p) 0
def castI (cs : List Nat) : List Int := cs.map fun (n : Nat) => (n : Int)
theorem castI_flat (cs : List Nat) : (castI cs).flatMap iRow = cs.map fun (n : Nat) => Value.int .i64 (n : Int) := by
  unfold castI
  induction cs with
  | nil => rfl
  | cons a l ih => rw [List.map_cons, List.flatMap_cons, ih]; rfl
theorem cut_cast (cs : List Nat) (g : Nat) : cutO g (castI cs) = castI (cs.take g ++ cs.drop (g + 1)) := by
  unfold cutO castI; rw [← List.map_take, ← List.map_drop, ← List.map_append]
theorem canCut_len {cs : List Nat} {p g : Nat} (hcs : cs.length = 16) (hp : p ≤ 16) (hg : g < p) : (canCut cs p g).length = 16 := by
  unfold canCut
  simp only [List.length_append, List.length_take, List.length_drop, List.length_replicate]
  omega
theorem canCut_get {cs : List Nat} {p g k : Nat} (hcs : cs.length = 16) (hp : p ≤ 16) (hg : g < p) (hk : k < p - 1) : ∃ k', k' < p ∧ (canCut cs p g).getD k 0 = cs.getD k' 0 := by
  have hl1 : ((cs.take p).take g).length = g := by simp only [List.length_take]; omega
  have hl2 : ((cs.take p).drop (g + 1)).length = p - (g + 1) := by simp only [List.length_drop, List.length_take]; omega
  unfold canCut
  rw [List.getD_eq_getElem?_getD, List.getElem?_append_left (by rw [List.length_append]; omega)]
  by_cases h : k < g
  · refine ⟨k, by omega, ?_⟩
    rw [List.getElem?_append_left (by omega), List.getElem?_take, if_pos h, List.getElem?_take, if_pos (by omega), ← List.getD_eq_getElem?_getD]
  · refine ⟨k + 1, by omega, ?_⟩
    rw [List.getElem?_append_right (by omega), hl1, List.getElem?_drop, List.getElem?_take, if_pos (by omega), show g + 1 + (k - g) = k + 1 by omega, ← List.getD_eq_getElem?_getD]
theorem canCut_lt {cs : List Nat} {p g : Nat} (h : ∀ k, cs.getD k 0 < 256) (hcs : cs.length = 16) (hp : p ≤ 16) (hg : g < p) (k : Nat) : (canCut cs p g).getD k 0 < 256 := by
  by_cases hk : k < p - 1
  · obtain ⟨k', _, e⟩ := canCut_get hcs hp hg hk; rw [e]; exact h k'
  · have hl1 : ((cs.take p).take g ++ (cs.take p).drop (g + 1)).length = p - 1 := by simp only [List.length_append, List.length_take, List.length_drop]; omega
    unfold canCut
    rw [List.getD_eq_getElem?_getD, List.getElem?_append_right (by omega), List.getElem?_replicate]
    split
    · decide
    · decide
theorem copyC (z : TlA) (t : Tl) {cs : List Nat} {p g : Nat} (hcs : cs.length = 16) (hp : p ≤ 16) (hg : g < p) : ((bkV z t (List.replicate 16 0)).toArray.toList.take 4 ++ (cutO g (castI (cs.take p))).flatMap iRow ++ (bkV z t (List.replicate 16 0)).toArray.toList.drop (4 + ((cutO g (castI (cs.take p))).flatMap iRow).length)).toArray = (bkV z t (canCut cs p g)).toArray := by
  have hd : ∀ (M : List Value) (n : Nat), (tlV z t ++ M).drop (4 + n) = M.drop n := fun M n => List.drop_length_add_append (l₁ := tlV z t) n
  have hl : ((cs.take p).take g ++ (cs.take p).drop (g + 1)).length = p - 1 := by simp only [List.length_append, List.length_take, List.length_drop]; omega
  have e1 : (bkV z t (List.replicate 16 0)).take 4 = tlV z t := rfl
  have e2 : (bkV z t (List.replicate 16 0)).drop (4 + (p - 1)) = (List.replicate (17 - p) 0).map fun (n : Nat) => Value.int .i64 (n : Int) := by
    unfold bkV
    rw [hd, ← List.map_drop, List.drop_replicate, show 16 - (p - 1) = 17 - p by omega]
  rw [cut_cast, castI_flat, List.length_map, hl, List.toList_toArray, e1, e2]
  congr 1
  unfold bkV canCut
  rw [List.map_append (l₁ := (cs.take p).take g ++ (cs.take p).drop (g + 1)), List.append_assoc]
theorem can_rows {w0 w : World} {rs : List Res} (hw : Hp w0 rs w) {b : Nat} {z : TlA} {t : Tl} {cs : List Nat} {e : TypeId} {fz : Nat × Nat} (hm : Res.blk b (.cells (bkV z t cs).toArray e fz) ∈ rs) (p : Nat) (hp : p ≤ 16) : RowsA iRow 1 0 w (some ⟨b, 4, none⟩) (castI (cs.take p)) := by
  unfold castI
  refine ⟨fun i x hi => ⟨rfl, Nat.zero_le _, fun j v hj => ?_⟩, ?_⟩
  · rw [List.getElem?_map] at hi
    obtain ⟨n, hn, rfl⟩ := Option.map_eq_some_iff.1 hi
    rw [List.getElem?_take] at hn
    split at hn
    · have hlt := (List.getElem?_eq_some_iff.1 hn).1
      have hj0 : j = 0 := by have := (List.getElem?_eq_some_iff.1 hj).1; simp [iRow] at this; exact this
      subst hj0
      have hv : v = .int .i64 (n : Int) := by simp [iRow] at hj; exact hj.symm
      subst hv
      have e : (elt (some (⟨b, 4, none⟩ : Addr)) i 1).add 0 = ⟨b, 4 + i, none⟩ := by simp [elt, Addr.add_lit]
      rw [e, cell_blk hw hm, List.getElem?_toArray, bkV_get z t hlt, getD_of hn]
    · cases hn
  · rw [List.length_map, List.length_take]; omega
theorem without99n (w : World) (a : Option Addr) (c n : Nat) (l : List Int) (hn : l.length = n) (hl : RowsA iRow 1 0 w a l) (hc : l.length ≤ c) (h16 : l.length ≤ 16) (g : Nat) (hg : g < l.length) : Calls Tryd.prog 99 #[.slice a n c, .int .i64 (g : Int)] w fun e w' => ∃ y : Option Addr × Nat, e = .returned (.slice y.1 (n - 1) y.2) ∧ Below w.heap.size w w' ∧ RowsA iRow 1 w.heap.size w' y.1 (cutO g l) := by
  subst hn; exact without99 w a c l hl hc h16 g hg

theorem gives73 (w : World) (z : TlA) (t : Tl) (hz : TlAt 0 w z t) (np : Nat) (had : t.admits = admL np np 0) (hnp : np ≤ 6) (hp1 : 1 ≤ t.pieces) (hp : t.pieces ≤ 16) (cs : List Nat) (hcs : cs.length = 16) (hc8 : ∀ k, cs.getD k 0 < 256) (hfree : ∀ k, k < t.pieces → cs.getD k 0 &&& freeN t.admits t.admits.length ≠ 0) (g : Nat) (hg : g < t.pieces) (i : Nat) : Calls Tryd.prog 73 #[.agg (bkV z t cs).toArray, .int .i64 (g : Int), .int .i64 (i : Int)] w fun e w' => e = .returned (.bool true) ∧ Below w.heap.size w w' := by
  have hbl := bkV_len z t hcs
  have hal : t.admits.length = np := by rw [had, admL_len]
  have hll : (castI (cs.take t.pieces)).length = t.pieces := by unfold castI; rw [List.length_map, List.length_take]; omega
  have hcl := canCut_len hcs hp hg
  have hcl2 := cutO_len (g := g) (l := (castI (cs.take t.pieces))) (by omega)
  have hccl := fun k => canCut_lt hc8 hcs hp hg k
  have hcf : ∀ k, k < t.pieces - 1 → (canCut cs t.pieces g).getD k 0 &&& freeN t.admits t.admits.length ≠ 0 := fun k hk => by
    obtain ⟨k', h1, h2⟩ := canCut_get hcs hp hg hk
    rw [h2]; exact hfree k' h1
  have hfit : fitsB (canCut cs t.pieces g) (freeN t.admits t.admits.length) np (cntS np np 0) (t.pieces - 1) = true := by
    rw [show cntS np np 0 = 0 from if_neg (Nat.lt_irrefl _)]; exact fits_silent hcf
  refine calls_of_SC (args := [.agg (bkV z t cs).toArray, .int .i64 (g : Int), .int .i64 (i : Int)]) Tryd.func73 rfl Tryd.ntmps73 rfl ?_
  simp only [argL, Nat.reduceAdd, Nat.zero_add]
  refine sc_seq ?_
  refine sc_region ?_
  refine sq_box RF rfl (fun b3 => ?_)
  refine qs (y_assign RF) ?_
  refine sq_nil ?_
  refine sx_then ?_
  refine sc_seq ?_
  refine sc_region ?_
  refine qs FA118_116 ?_
  refine qs FA118_61 ?_
  refine qs FA61_3 ?_
  refine qs LD3 ?_
  refine qs (y_slice_arrO (h := t.pieces) Tryd.underlying116 Tryd.sizeOf3 RF RF (by omega)) ?_
  refine qs (y_assign RF) ?_
  refine sq_nil ?_
  refine sx_then ?_
  refine sc_seq ?_
  refine sc_region ?_
  refine qs FA118_61 ?_
  refine qs FA61_25 ?_
  refine qs LD25 ?_
  refine sq_call_new (first := []) (caps := []) (Z := Option Addr × Nat) (fun q => .slice q.1 t.admits.length q.2) (fun lo w' q => RowsA iRow 1 lo w' q.1 t.admits) RF Tryd.call53 (EvL.cons RF EvL.nil) (fun w1 hw1 => clone53 w1 z.aa z.ac t.admits (hz.ad.at hw1 MM) (by omega)) rfl (fun lo2 wr2 y2 hy2 => ?_)
  refine qs FA118_61 ?_
  refine qs FA61_25 ?_
  refine sq_store_eq (cs' := (bkV ({ z with aa := y2.1, ac := y2.2 } : TlA) t cs).toArray) Tryd.sizeOf25 RF RF rfl RM (by show 0 + 0 + 3 < (bkV z t cs).toArray.size; rw [List.size_toArray, hbl]; decide) (by show (bkV z t cs).toArray.setIfInBounds 3 _ = _; rw [List.setIfInBounds_toArray]; rfl) ?_
  refine sq_nil ?_
  refine sx_then ?_
  refine sc_seq ?_
  refine sc_seq ?_
  have hadm := fun (h : (i : Int) < (t.admits.length : Int)) => hy2.get 0 (show i < t.admits.length by omega)
  have hval := fun (h : (i : Int) < (t.admits.length : Int)) => show t.admits.getD i 0 = -1 by rw [had, admL_get (by omega), if_neg (by omega)]
  refine sc_region ?_
  refine qs (y_move RF) ?_
  refine qs FA118_61 ?_
  refine qs FA61_25 ?_
  refine qs LD25 ?_
  refine qs (y_len Tryd.underlying25 RF) ?_
  refine qs (y_lss RF RF) ?_
  refine qs (y_move RF) ?_
  refine sp 26 (fun hg3_6 => ?_) (fun hg3_6 => ?_)
  ·
    refine qg FA118_61 ?_
    refine qg FA61_25 ?_
    refine qg LD25 ?_
    refine qg (y_move RF) ?_
    refine qg (y_ia_el (i := i) Tryd.underlying25 Tryd.sizeOf3 RF RF (by omega) (hadm hg3_6).1) ?_
    refine qg (by first | exact y_load_ca0 Tryd.underlying3 rfl RF MM (hadm hg3_6).2 rfl | exact LD3) ?_
    refine qg (y_neq RF RF) ?_
    refine qs (y_pick_t RF RF) ?_
    refine sq_nil ?_
    refine sx_then ?_
    refine sc_f (lk_bool rfl (by first | rfl | (rw [hval hg3_6]; rfl))) ?_
    refine sc_skip ?_
    refine sx_then ?_
    refine sc_seq ?_
    refine sc_region ?_
    refine qs (y_move RF) ?_
    refine qs (y_move RF) ?_
    refine sq_call_new (first := []) (caps := []) (Z := Option Addr × Nat) (fun q => .slice q.1 (t.pieces - 1) q.2) (fun lo w' q => RowsA iRow 1 lo w' q.1 (cutO g (castI (cs.take t.pieces)))) RF Tryd.call99 (EvL.cons RF (EvL.cons RF EvL.nil)) (fun w1 hw1 => without99n w1 (some ⟨b3, 4, none⟩) 16 t.pieces (castI (cs.take t.pieces)) hll (can_rows (z := ({ z with aa := y2.1, ac := y2.2 } : TlA)) (t := t) hw1 MM t.pieces hp) (by omega) (by omega) g (by omega)) rfl (fun lo7 wr7 y7 hy7 => ?_)
    refine qs (y_assign RF) ?_
    refine sq_nil ?_
    refine sx_then ?_
    refine sc_seq ?_
    refine sc_region ?_
    refine qs FA118_61 ?_
    refine qs FA61_3 ?_
    refine qs LD3 ?_
    refine qs (y_sub RF RF (by omega)) ?_
    rw [show (t.pieces : Int) - 1 = ((t.pieces - 1 : Nat) : Int) by omega]
    refine qs FA118_61 ?_
    refine qs FA61_3 ?_
    refine sq_store_eq (cs' := (bkV ({ z with aa := y2.1, ac := y2.2 } : TlA) ({ t with pieces := t.pieces - 1 } : Tl) cs).toArray) Tryd.sizeOf3 RF RF rfl RM (by show 0 + 0 + 0 < (bkV ({ z with aa := y2.1, ac := y2.2 } : TlA) t cs).toArray.size; rw [List.size_toArray, bkV_len _ _ hcs]; decide) (by show (bkV ({ z with aa := y2.1, ac := y2.2 } : TlA) t cs).toArray.setIfInBounds 0 _ = _; rw [List.setIfInBounds_toArray]; rfl) ?_
    refine sq_nil ?_
    refine sx_then ?_
    refine sc_seq ?_
    refine sc_region ?_
    refine qs (y_build_arr Tryd.underlying116 Tryd.zeroValue116 Tryd.sizeOf3 EvP.nil RF) ?_
    refine qs FA118_116 ?_
    refine sq_store_part (cs := bkV ({ z with aa := y2.1, ac := y2.2 } : TlA) ({ t with pieces := t.pieces - 1 } : Tl) cs) (cs' := bkV ({ z with aa := y2.1, ac := y2.2 } : TlA) ({ t with pieces := t.pieces - 1 } : Tl) (List.replicate 16 0)) Tryd.sizeOf116 RF RF (by rfl) RM rfl (by show 0 + 4 + 16 ≤ _; rw [bkV_len _ _ hcs]; decide) (bkV_zero _ _ hcs) ?_
    refine sq_nil ?_
    refine sx_then ?_
    refine sc_seq ?_
    refine sc_region ?_
    refine qs FA118_116 ?_
    refine qs (y_slice_fullO Tryd.underlying116 Tryd.sizeOf3 RF) ?_
    refine qs (y_move RF) ?_
    refine sq_copy_opt (o := 4) (cs := (cutO g (castI (cs.take t.pieces))).flatMap iRow) Tryd.underlying25 Tryd.sizeOf3 (by kernel_rfl) RF RF RM (fun h => by have := hy7.noa h; omega) (by rw [iflat_len]; omega) (fun ad had2 w1 hw1 => RowsA.cells (row := iRow) iRow_len (by decide) (by rw [← had2]; exact hy7.at hw1 MM)) (by rw [iflat_len, List.size_toArray, bkV_len _ _ (by simp)]; omega) (iflat_one _) rfl ?_
    rw [copyC _ _ hcs hp hg]
    refine sq_nil ?_
    refine sx_then ?_
    refine sc_seq ?_
    refine sc_region ?_
    refine qs (by first | exact y_load_all Tryd.underlying118 rfl Tryd.sizeOf118 RF MM (bkV_len _ _ hcl) | exact LD118) ?_
    refine qy (yc Tryd.call69 E1 (fun w1 hw1 => fits69 w1 ({ z with aa := y2.1, ac := y2.2 } : TlA) ({ t with pieces := t.pieces - 1 } : Tl) ⟨hz.ln.at hw1 MM, hz.sg.at hw1 MM, hy2.at hw1 MM⟩ np np 0 had hnp hnp (by omega) (by show t.pieces - 1 ≤ 16; omega) (canCut cs t.pieces g) hcl hccl)) ?_
    refine qs (y_assign RF) ?_
    refine sq_nil ?_
    refine sx_then ?_
    refine sc_ret ?_
    refine sx_ret1 (.inl rfl) rfl Tryd.results73 RF ?_
    intro w' hw'
    refine ⟨?_, hw'.below MM⟩
    show Ending.returned (.bool (fitsB (canCut cs t.pieces g) (freeN t.admits t.admits.length) np (cntS np np 0) (t.pieces - 1))) = _
    rw [hfit]
  ·
    refine qf ?_
    refine qf ?_
    refine qf ?_
    refine qf ?_
    refine qf ?_
    refine qf ?_
    refine qf ?_
    refine qs (y_pick_f RF RF) ?_
    refine sq_nil ?_
    refine sx_then ?_
    refine sc_f RF ?_
    refine sc_skip ?_
    refine sx_then ?_
    refine sc_seq ?_
    refine sc_region ?_
    refine qs (y_move RF) ?_
    refine qs (y_move RF) ?_
    refine sq_call_new (first := []) (caps := []) (Z := Option Addr × Nat) (fun q => .slice q.1 (t.pieces - 1) q.2) (fun lo w' q => RowsA iRow 1 lo w' q.1 (cutO g (castI (cs.take t.pieces)))) RF Tryd.call99 (EvL.cons RF (EvL.cons RF EvL.nil)) (fun w1 hw1 => without99n w1 (some ⟨b3, 4, none⟩) 16 t.pieces (castI (cs.take t.pieces)) hll (can_rows (z := ({ z with aa := y2.1, ac := y2.2 } : TlA)) (t := t) hw1 MM t.pieces hp) (by omega) (by omega) g (by omega)) rfl (fun lo7 wr7 y7 hy7 => ?_)
    refine qs (y_assign RF) ?_
    refine sq_nil ?_
    refine sx_then ?_
    refine sc_seq ?_
    refine sc_region ?_
    refine qs FA118_61 ?_
    refine qs FA61_3 ?_
    refine qs LD3 ?_
    refine qs (y_sub RF RF (by omega)) ?_
    rw [show (t.pieces : Int) - 1 = ((t.pieces - 1 : Nat) : Int) by omega]
    refine qs FA118_61 ?_
    refine qs FA61_3 ?_
    refine sq_store_eq (cs' := (bkV ({ z with aa := y2.1, ac := y2.2 } : TlA) ({ t with pieces := t.pieces - 1 } : Tl) cs).toArray) Tryd.sizeOf3 RF RF rfl RM (by show 0 + 0 + 0 < (bkV ({ z with aa := y2.1, ac := y2.2 } : TlA) t cs).toArray.size; rw [List.size_toArray, bkV_len _ _ hcs]; decide) (by show (bkV ({ z with aa := y2.1, ac := y2.2 } : TlA) t cs).toArray.setIfInBounds 0 _ = _; rw [List.setIfInBounds_toArray]; rfl) ?_
    refine sq_nil ?_
    refine sx_then ?_
    refine sc_seq ?_
    refine sc_region ?_
    refine qs (y_build_arr Tryd.underlying116 Tryd.zeroValue116 Tryd.sizeOf3 EvP.nil RF) ?_
    refine qs FA118_116 ?_
    refine sq_store_part (cs := bkV ({ z with aa := y2.1, ac := y2.2 } : TlA) ({ t with pieces := t.pieces - 1 } : Tl) cs) (cs' := bkV ({ z with aa := y2.1, ac := y2.2 } : TlA) ({ t with pieces := t.pieces - 1 } : Tl) (List.replicate 16 0)) Tryd.sizeOf116 RF RF (by rfl) RM rfl (by show 0 + 4 + 16 ≤ _; rw [bkV_len _ _ hcs]; decide) (bkV_zero _ _ hcs) ?_
    refine sq_nil ?_
    refine sx_then ?_
    refine sc_seq ?_
    refine sc_region ?_
    refine qs FA118_116 ?_
    refine qs (y_slice_fullO Tryd.underlying116 Tryd.sizeOf3 RF) ?_
    refine qs (y_move RF) ?_
    refine sq_copy_opt (o := 4) (cs := (cutO g (castI (cs.take t.pieces))).flatMap iRow) Tryd.underlying25 Tryd.sizeOf3 (by kernel_rfl) RF RF RM (fun h => by have := hy7.noa h; omega) (by rw [iflat_len]; omega) (fun ad had2 w1 hw1 => RowsA.cells (row := iRow) iRow_len (by decide) (by rw [← had2]; exact hy7.at hw1 MM)) (by rw [iflat_len, List.size_toArray, bkV_len _ _ (by simp)]; omega) (iflat_one _) rfl ?_
    rw [copyC _ _ hcs hp hg]
    refine sq_nil ?_
    refine sx_then ?_
    refine sc_seq ?_
    refine sc_region ?_
    refine qs (by first | exact y_load_all Tryd.underlying118 rfl Tryd.sizeOf118 RF MM (bkV_len _ _ hcl) | exact LD118) ?_
    refine qy (yc Tryd.call69 E1 (fun w1 hw1 => fits69 w1 ({ z with aa := y2.1, ac := y2.2 } : TlA) ({ t with pieces := t.pieces - 1 } : Tl) ⟨hz.ln.at hw1 MM, hz.sg.at hw1 MM, hy2.at hw1 MM⟩ np np 0 had hnp hnp (by omega) (by show t.pieces - 1 ≤ 16; omega) (canCut cs t.pieces g) hcl hccl)) ?_
    refine qs (y_assign RF) ?_
    refine sq_nil ?_
    refine sx_then ?_
    refine sc_ret ?_
    refine sx_ret1 (.inl rfl) rfl Tryd.results73 RF ?_
    intro w' hw'
    refine ⟨?_, hw'.below MM⟩
    show Ending.returned (.bool (fitsB (canCut cs t.pieces g) (freeN t.admits t.admits.length) np (cntS np np 0) (t.pieces - 1))) = _
    rw [hfit]
end Go.Proofs.YtpijahglojichaaDoor
