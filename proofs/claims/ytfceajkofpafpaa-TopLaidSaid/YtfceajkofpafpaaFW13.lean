/- The walk of Lines, of a cut whose pieces are cells. -/
import Derived.Test.YtfceajkofpafpaaCutDat
import Derived.Test.YtfceajkofpafpaaEng26
namespace Go.Proofs.Ytfceajkofpafpaa
open Go Go.Eng Go.RowKit Go.Proofs
open Go.Proofs.Ytfceajkofpafpaa.Sc (iRow spRow sp0 Sp getD_of get_of_lt any_range_get all_not_any all_getD)
set_option maxRecDepth 100000
def corV (c : Ct) (x y : Int) : List Value := [.int .i64 (atC c (cP x y 0)), .int .i64 (atC c (cP x y 1)), .int .i64 (atC c (cP x y 2)), .int .i64 (atC c (cP x y 3))]
theorem cor_at {c : Ct} {x y : Int} {i : Nat} (h : i < 4) : (corV c x y).toArray[i]? = some (.int .i64 (atC c (cP x y i))) := by
  rcases (by omega : i = 0 ∨ i = 1 ∨ i = 2 ∨ i = 3) with rfl | rfl | rfl | rfl <;> rfl
theorem cor_at' {c : Ct} {x y : Int} {i : Nat} (h : i < 4) : (corV c x y).toArray[0 + i * 1]? = some (.int .i64 (atC c (cP x y i))) := by
  rw [Nat.zero_add, Nat.mul_one]; exact cor_at h
theorem okC_cP {x y : Int} (hx : 0 ≤ x ∧ x ≤ 100) (hy : 0 ≤ y ∧ y ≤ 100) (i : Nat) : okC (cP x y i) := by
  unfold cP okC
  split
  · dsimp only; omega
  · split
    · dsimp only; omega
    · split <;> (dsimp only; omega)
theorem contains54 (w : World) (a : Option Addr) (c : Nat) (l : List Int) (hl : RowsA iRow 1 0 w a l) (v : Int) : Calls Try.prog 54 #[.slice a l.length c, .int .i64 v] w fun e w' => e = .returned (.bool (decide (v ∈ l))) ∧ Below w.heap.size w w' := by
  refine calls_of_SC (args := [.slice a l.length c, .int .i64 v]) Try.func54 rfl Try.ntmps54 rfl ?_
  simp only [argL, Nat.zero_add]
  refine sc_seq ?_
  refine sc_region ?_
  refine qs (y_assign RF) ?_
  refine sq_nil ?_
  refine sx_then ?_
  refine sc_seq ?_
  refine sc_region ?_
  refine qs (y_move RF) ?_
  refine qs (y_move RF) ?_
  refine sq_call_new (first := []) (caps := []) (Z := Int) (fun z => .int .i64 z) (fun _ _ z => (0 ≤ z ↔ v ∈ l)) RF Try.call29 (EvL.cons RF (EvL.cons RF EvL.nil)) (fun w1 hw1 => (index29 w1 a c l (hl.at hw1 MM) v).mono (fun e w' ⟨⟨z, h1, h2⟩, h3⟩ => ⟨z, h1, h3, h2⟩)) rfl (fun lo1 wr1 z hz => ?_)
  refine qs (y_geq RF RF) ?_
  refine qs (y_assign RF) ?_
  refine sq_nil ?_
  refine sx_then ?_
  refine sc_ret ?_
  refine sx_ret1 (.inl rfl) rfl Try.results54 RF ?_
  intro w' hw'
  refine ⟨?_, hw'.below MM⟩
  congr 2
  rw [decide_eq_decide]; exact hz
theorem Lines19 (w : World) (c : Ct) (hD : Dist c) (a : Option Addr) (cp : Nat) (hp : RowsA iRow 1 0 w a c.piece) : Calls Try.prog 19 #[.agg (ctV c a cp).toArray] w fun e w' => ∃ q : Int × Int × Int, e = .returned (.tuple #[.agg #[.int .i64 q.1, .int .i64 0, .int .i64 q.2.1, .int .i64 q.2.2], .int .i64 0]) ∧ Below w.heap.size w w' ∧ ∃ l, Em (edgeN c) l ∧ q.1 = sumE l := by
  unfold ctV
  refine calls_of_SC (args := [.agg #[.int .i64 c.wide, .int .i64 c.high, .slice a c.piece.length cp]]) Try.func19 rfl Try.ntmps19 rfl ?_
  simp only [argL]
  refine sc_seq ?_
  refine sc_region ?_
  refine sq_box RF rfl (fun b1 => ?_)
  refine sq_alloc Try.zeroValue74 rfl (fun b2 => ?_)
  refine qs (y_assign RF) ?_
  refine sq_nil ?_
  refine sx_then ?_
  refine sc_seq ?_
  refine sc_region ?_
  refine qs LD24 ?_
  refine sq_call_new (first := []) (caps := []) (Z := Nat × Int) (opV c a cp) (fun lo w' z => OpenF c 0 lo w' z) RF Try.call21 (EvL.cons RF (EvL.cons RF EvL.nil)) (fun w1 hw1 => open21 w1 c a cp (hp.at hw1 MM) 0) rfl (fun lo1 wr1 z hz => ?_)
  refine qs (y_move RF) ?_
  refine qs (y_extract RF RF) ?_
  refine qs (y_extract RF RF) ?_
  refine qs (y_extract RF RF) ?_
  refine sq_alloc Try.zeroValue90 rfl (fun b4 => ?_)
  refine sq_store_all (vs := opP c a cp z) Try.sizeOf90 RF RF (opP_one c a cp z) RM (opP_len c a cp z) rfl ?_
  refine qs (y_assign RF) ?_
  refine qs (y_assign RF) ?_
  refine sq_nil ?_
  refine sx_then ?_
  refine sc_seq ?_
  refine sc_seq ?_
  refine sc_region ?_
  refine qs (y_move RF) ?_
  refine qs (y_neq RF RF) ?_
  refine sq_nil ?_
  refine sx_then ?_
  refine scp (fun hc0 => ?_) (fun hc0 => ?_)
  ·
    exact absurd ⟨hD.ok, Int.le_refl _, by have := nP_eq hD.ok.ok; omega⟩ (hz.2 hc0)
  ·
    obtain ⟨hgd, hbm⟩ := hz.1 hc0
    have hok := hgd.1
    have hF := hok.ok
    have hnP := nP_eq hF
    have hn0 := hF.n0
    have hww := hF.w1
    have hww2 := hF.w2
    have hhh := hF.h1
    have hhh2 := hF.h2
    rw [show opN c z = ((nP c : Nat) : Int) from if_pos hc0, show opP c a cp z = picV c a cp z.1 from if_pos hc0, hc0]
    refine sc_skip ?_
    refine sx_then ?_
    refine sc_seq ?_
    refine sc_seq ?_
    refine sc_region ?_
    refine qs LD90 ?_
    refine sq_call_new (first := []) (caps := []) (Z := Nat × List ((Int × Int) × Int)) (fun y => .map (some y.1)) (fun lo w' y => lo ≤ y.1 ∧ w'.heap[y.1]? = some (mvM cK iV y.2) ∧ Em (edgeN c) y.2) RF Try.call23 (EvL.cons RF EvL.nil) (fun w1 hw1 => edges23 w1 c hok.ok a cp z.1 (hbm.at hw1 MM)) rfl (fun lo2 wr2 y hy => ?_)
    refine sq_range (kf := cK) (vf := iV) (l := y.2) (b := y.1) Try.underlying94 RF (fun _ hw => heap_reg hw MM hy.1 hy.2.1) rfl (fun r => ?_)
    refine sq_nil ?_
    refine sx_then ?_
    refine sc_block ?_
    refine sc_loop (σ := List Nat × Int)
      (fun s => [(1, .pointer (some ⟨b1, 0, none⟩)), (2, .pointer (some ⟨b2, 0, none⟩)), (4, .pointer (some ⟨b4, 0, none⟩)), (32, .pointer (some ⟨r, 0, none⟩))])
      (fun s => [.blk r (iterObj y.1 y.2.length s.1), .reg lo2 wr2, .blk b2 (.cells #[.int .i64 s.2, .int .i64 0, .int .i64 0, .int .i64 0] 74 (0, 0)), .blk b4 (.cells (picV c a cp z.1).toArray 90 (0, 0)), .blk b1 (.cells #[.int .i64 c.wide, .int .i64 c.high, .slice a c.piece.length cp] 24 (0, 0)), .reg lo1 wr1, .reg 0 w])
      (fun s => s.1.Nodup ∧ (∀ i, i ∈ s.1 → i < y.2.length) ∧ s.2 = (s.1.map (valE y.2)).sum ∧ (0 ≤ s.2 ∧ s.2 ≤ 576 * (s.1.length : Int)))
      (fun s => y.2.length - s.1.length)
      (([], 0)) ?_ SU SR ?_
    · exact ⟨List.nodup_nil, fun _ h => (by cases h), rfl, by decide, by decide⟩
    have hlL := em_len hy.2.2
    rintro ⟨ss, tot⟩ ⟨hm1, hm2, hm3, hm4⟩
    dsimp only at hm1 hm2 hm3 hm4 ⊢
    refine sc_seq ?_
    refine sc_region ?_
    refine sq_next (kf := cK) (vf := iV) (l := y.2) (b := y.1) (ss := ss) RF RM (fun _ hw => heap_reg hw MM hy.1 hy.2.1) rfl (fun o ho => ?_)
    refine qs (y_nextOk (kf := cK) (vf := iV) (l := y.2) (o := o) RF) ?_
    refine sq_nil ?_
    refine sx_then ?_
    refine sc_seq ?_
    refine scp (fun hc1 => ?_) (fun hc1 => ?_)
    ·
      obtain ⟨i, rfl⟩ := Option.isSome_iff_exists.1 hc1
      obtain ⟨hi', hno⟩ := ho
      dsimp only [Option.toList]
      obtain ⟨⟨x0, b0⟩, hxi⟩ : ∃ p, y.2[i]? = some p := ⟨_, List.getElem?_eq_getElem hi'⟩
      have hb0 : 0 ≤ b0 ∧ b0 ≤ 576 := by
        have := em_val hy.2.2 (List.mem_of_getElem? hxi)
        have := edgeN_le hF x0.1 x0.2
        omega
      have hsl := seen_lt hm1 hm2 hi' hno
      have hve : valE y.2 i = if x0.1 ≠ -1 ∧ x0.1 < x0.2 then b0 else 0 := by unfold valE; rw [getD_of hxi]
      refine sc_skip ?_
      refine sx_then ?_
      refine sc_block ?_
      refine sc_seq ?_
      refine sc_region ?_
      refine qs (y_entry (kf := cK) (vf := iV) (l := y.2) (b := y.1) (i := i) (ss := ss) (x0 := x0) (b1 := b0) RF (fun _ hw => hw.ok (Res.blk r (iterObj y.1 y.2.length (ss ++ [i]))) MM) (fun _ hw => heap_reg hw MM hy.1 hy.2.1) hxi) ?_
      rw [show cK x0 = .agg #[.int .i64 x0.1, .int .i64 x0.2] from rfl, show iV b0 = .int .i64 b0 from rfl]
      refine qs (y_extract RF RF) ?_
      refine qs (y_extract RF RF) ?_
      refine sq_alloc Try.zeroValue97 rfl (fun b6 => ?_)
      refine sq_store_all Try.sizeOf97 RF RF rfl RM rfl rfl ?_
      refine qs (y_assign RF) ?_
      refine sq_nil ?_
      refine sx_then ?_
      refine sc_seq ?_
      refine sc_region ?_
      refine qs FA97_3 ?_
      refine qs LD3 ?_
      refine qs (y_neq RF RF) ?_
      refine qs (y_move RF) ?_
      refine sp 41 (fun hg7_3 => ?_) (fun hg7_3 => ?_)
      ·
        refine qg FA97_3 ?_
        refine qg LD3 ?_
        refine qg FA97_3 ?_
        refine qg LD3 ?_
        refine qg (y_lss RF RF) ?_
        refine qs (y_pick_t RF RF) ?_
        refine sq_nil ?_
        refine sx_then ?_
        refine scp (fun hc2 => ?_) (fun hc2 => ?_)
        ·
          refine sc_region ?_
          refine qs FA74_3 ?_
          refine qs LD3 ?_
          refine qs (y_move RF) ?_
          refine qs (y_add RF RF (by omega)) ?_
          refine qs FA74_3 ?_
          refine sq_store_to (cs' := #[.int .i64 (tot + b0), .int .i64 0, .int .i64 0, .int .i64 0]) Try.sizeOf3 RF RF rfl RM (Nat.le_of_ble_eq_true rfl) rfl ?_
          refine sq_nil ?_
          refine sx_blk ?_
          refine sx_round ((ss ++ [i], tot + b0)) ?_ ?_ SU SR
          · refine ⟨seen_snoc hm1 hno, fun k hk => ?_, ?_, ?_⟩
            · rcases List.mem_append.1 hk with hk | hk
              · exact hm2 k hk
              · simp at hk; omega
            · rw [sum_snoc, hve, if_pos ⟨hg7_3, hc2⟩, ← hm3]
            · rw [List.length_append]; simp only [List.length_cons, List.length_nil]; omega
          · have := seen_lt hm1 hm2 hi' hno; simp; omega
        ·
          refine sc_skip ?_
          refine sx_blk ?_
          refine sx_round ((ss ++ [i], tot)) ?_ ?_ SU SR
          · refine ⟨seen_snoc hm1 hno, fun k hk => ?_, ?_, ?_⟩
            · rcases List.mem_append.1 hk with hk | hk
              · exact hm2 k hk
              · simp at hk; omega
            · rw [sum_snoc, hve, if_neg (fun h => hc2 h.2), ← hm3]; omega
            · rw [List.length_append]; simp only [List.length_cons, List.length_nil]; omega
          · have := seen_lt hm1 hm2 hi' hno; simp; omega
      ·
        refine qf ?_
        refine qf ?_
        refine qf ?_
        refine qf ?_
        refine qf ?_
        refine qs (y_pick_f RF RF) ?_
        refine sq_nil ?_
        refine sx_then ?_
        refine sc_f RF ?_
        refine sc_skip ?_
        refine sx_blk ?_
        refine sx_round ((ss ++ [i], tot)) ?_ ?_ SU SR
        · refine ⟨seen_snoc hm1 hno, fun k hk => ?_, ?_, ?_⟩
          · rcases List.mem_append.1 hk with hk | hk
            · exact hm2 k hk
            · simp at hk; omega
          · rw [sum_snoc, hve, if_neg (fun h => h.1 hg7_3), ← hm3]; omega
          · rw [List.length_append]; simp only [List.length_cons, List.length_nil]; omega
        · have := seen_lt hm1 hm2 hi' hno; simp; omega
    ·
      have hon : o = none := by cases o with
        | none => rfl
        | some i => cases hc1
      subst hon
      have htot := sum_seen hm1 hm2 ho
      rw [← hm3] at htot
      have htl : ss.length ≤ y.2.length := by have := nodup_len (l := ss) (m := List.range y.2.length) hm1 (fun i hi => List.mem_range.2 (hm2 i hi)); simpa using this
      refine sc_exit ?_
      refine sx_then_exit ?_
      refine sx_round_exit ?_
      refine sx_blk_hit ?_
      refine sx_then ?_
      refine sc_seq ?_
      refine sc_seq ?_
      refine sc_region ?_
      refine qs (y_assign RF) ?_
      refine sq_nil ?_
      refine sx_then ?_
      refine sc_block ?_
      refine sc_loop (σ := Nat × Int × Int)
        (fun s => [(1, .pointer (some ⟨b1, 0, none⟩)), (2, .pointer (some ⟨b2, 0, none⟩)), (4, .pointer (some ⟨b4, 0, none⟩)), (8, .int .i64 s.1)])
        (fun s => [.blk b2 (.cells #[.int .i64 tot, .int .i64 0, .int .i64 s.2.2, .int .i64 s.2.1] 74 (0, 0)), .blk b4 (.cells (picV c a cp z.1).toArray 90 (0, 0)), .blk b1 (.cells #[.int .i64 c.wide, .int .i64 c.high, .slice a c.piece.length cp] 24 (0, 0)), .reg lo1 wr1, .reg 0 w])
        (fun s => (s.1 : Int) ≤ c.high + 1 ∧ (0 ≤ s.2.1 ∧ s.2.1 ≤ 60 * (s.1 : Int)) ∧ (0 ≤ s.2.2 ∧ s.2.2 ≤ 60 * (s.1 : Int)))
        (fun s => (c.high + 1).toNat - s.1)
        ((0, 0, 0)) ?_ SU SR ?_
      · exact ⟨by dsimp only; omega, ⟨Int.le_refl _, by decide⟩, ⟨Int.le_refl _, by decide⟩⟩
      rintro ⟨y0, S, J⟩ ⟨hy0, hS, hJ⟩
      dsimp only at hy0 hS hJ ⊢
      refine sc_seq ?_
      refine sc_seq ?_
      refine sc_region ?_
      refine qs (y_move RF) ?_
      refine qs FA24_3 ?_
      refine qs LD3 ?_
      refine qs (y_leq RF RF) ?_
      refine sq_nil ?_
      refine sx_then ?_
      refine scp (fun hc3 => ?_) (fun hc3 => ?_)
      ·
        have hy0' : (y0 : Int) ≤ c.high := by omega
        refine sc_skip ?_
        refine sx_then ?_
        refine sc_seq ?_
        refine sc_block ?_
        refine sc_seq ?_
        refine sc_region ?_
        refine qs (y_assign RF) ?_
        refine sq_nil ?_
        refine sx_then ?_
        refine sc_block ?_
        refine sc_loop (σ := Nat × Int × Int)
          (fun s => [(1, .pointer (some ⟨b1, 0, none⟩)), (2, .pointer (some ⟨b2, 0, none⟩)), (4, .pointer (some ⟨b4, 0, none⟩)), (8, .int .i64 y0), (9, .int .i64 s.1)])
          (fun s => [.blk b2 (.cells #[.int .i64 tot, .int .i64 0, .int .i64 s.2.2, .int .i64 s.2.1] 74 (0, 0)), .blk b4 (.cells (picV c a cp z.1).toArray 90 (0, 0)), .blk b1 (.cells #[.int .i64 c.wide, .int .i64 c.high, .slice a c.piece.length cp] 24 (0, 0)), .reg lo1 wr1, .reg 0 w])
          (fun s => (s.1 : Int) ≤ c.wide + 1 ∧ (0 ≤ s.2.1 ∧ s.2.1 ≤ 60 * (y0 : Int) + 4 * (s.1 : Int)) ∧ (0 ≤ s.2.2 ∧ s.2.2 ≤ 60 * (y0 : Int) + 4 * (s.1 : Int)))
          (fun s => (c.wide + 1).toNat - s.1)
          ((0, S, J)) ?_ SU SR ?_
        · exact ⟨by dsimp only; omega, by dsimp only; omega, by dsimp only; omega⟩
        rintro ⟨x, S, J⟩ ⟨hx, hS, hJ⟩
        dsimp only at hx hS hJ ⊢
        refine sc_seq ?_
        refine sc_seq ?_
        refine sc_region ?_
        refine qs (y_move RF) ?_
        refine qs FA24_3 ?_
        refine qs LD3 ?_
        refine qs (y_leq RF RF) ?_
        refine sq_nil ?_
        refine sx_then ?_
        refine scp (fun hc4 => ?_) (fun hc4 => ?_)
        ·
          have hx' : (x : Int) ≤ c.wide := by omega
          refine sc_skip ?_
          refine sx_then ?_
          refine sc_seq ?_
          refine sc_block ?_
          refine sc_seq ?_
          refine sc_drawR (by kernel_rfl) ?_
          refine xj_s 0 RF (by kernel_rfl) SR LD90 rfl ?_
          refine xj_s 1 RF (by kernel_rfl) SR (y_move RF) rfl ?_
          refine xj_s 2 RF (by kernel_rfl) SR (y_sub RF RF (by omega)) rfl ?_
          refine xj_s 3 RF (by kernel_rfl) SR (y_move RF) rfl ?_
          refine xj_s 4 RF (by kernel_rfl) SR (y_sub RF RF (by omega)) rfl ?_
          refine xj_s 5 RF (by kernel_rfl) SR (y_build bt137 (EvP.cons RF (EvP.cons RF EvP.nil)) RF) rfl ?_
          refine xj_s 7 RF (by kernel_rfl) SR LD90 rfl ?_
          refine xj_s 8 RF (by kernel_rfl) SR (y_move RF) rfl ?_
          refine xj_s 9 RF (by kernel_rfl) SR (y_move RF) rfl ?_
          refine xj_s 10 RF (by kernel_rfl) SR (y_sub RF RF (by omega)) rfl ?_
          refine xj_s 11 RF (by kernel_rfl) SR (y_build bt137 (EvP.cons RF (EvP.cons RF EvP.nil)) RF) rfl ?_
          refine xj_s 13 RF (by kernel_rfl) SR LD90 rfl ?_
          refine xj_s 14 RF (by kernel_rfl) SR (y_move RF) rfl ?_
          refine xj_s 15 RF (by kernel_rfl) SR (y_sub RF RF (by omega)) rfl ?_
          refine xj_s 16 RF (by kernel_rfl) SR (y_move RF) rfl ?_
          refine xj_s 17 RF (by kernel_rfl) SR (y_build bt137 (EvP.cons RF (EvP.cons RF EvP.nil)) RF) rfl ?_
          refine xj_s 19 RF (by kernel_rfl) SR LD90 rfl ?_
          refine xj_s 20 RF (by kernel_rfl) SR (y_move RF) rfl ?_
          refine xj_s 21 RF (by kernel_rfl) SR (y_move RF) rfl ?_
          refine xj_s 22 RF (by kernel_rfl) SR (y_build bt137 (EvP.cons RF (EvP.cons RF EvP.nil)) RF) rfl ?_
          refine xj_one 6 RF (by kernel_rfl) ?_
          refine qy (yc Try.call53 E2 (fun w1 hw1 => piece53 w1 c hF a cp z.1 (hbm.at hw1 MM) (cP x y0 0) (okC_cP (by omega) (by omega) 0))) ?_
          refine sq_nil ?_
          refine sx_xp SR ?_
          refine xj_one 12 RF (by kernel_rfl) ?_
          refine qy (yc Try.call53 E2 (fun w1 hw1 => piece53 w1 c hF a cp z.1 (hbm.at hw1 MM) (cP x y0 1) (okC_cP (by omega) (by omega) 1))) ?_
          refine sq_nil ?_
          refine sx_xp SR ?_
          refine xj_one 18 RF (by kernel_rfl) ?_
          refine qy (yc Try.call53 E2 (fun w1 hw1 => piece53 w1 c hF a cp z.1 (hbm.at hw1 MM) (cP x y0 3) (okC_cP (by omega) (by omega) 3))) ?_
          refine sq_nil ?_
          refine sx_xp SR ?_
          refine xj_one 23 RF (by kernel_rfl) ?_
          refine qy (yc Try.call53 E2 (fun w1 hw1 => piece53 w1 c hF a cp z.1 (hbm.at hw1 MM) (cP x y0 2) (okC_cP (by omega) (by omega) 2))) ?_
          refine sq_nil ?_
          refine sx_xp SR ?_
          refine xj_s 24 RF (by kernel_rfl) SR (y_assign RF) rfl ?_
          refine xj_s 25 RF (by kernel_rfl) SR (y_assign RF) rfl ?_
          refine xj_s 26 RF (by kernel_rfl) SR (y_assign RF) rfl ?_
          refine xj_s 27 RF (by kernel_rfl) SR (y_assign RF) rfl ?_
          refine xj_done (by kernel_rfl) ?_
          refine sx_then ?_
          refine sc_seq ?_
          refine sc_region ?_
          refine qs (y_move RF) ?_
          refine qs (y_move RF) ?_
          refine qs (y_move RF) ?_
          refine qs (y_move RF) ?_
          refine qs (y_build_arr (cells := (corV c x y0).toArray) Try.underlying138 Try.zeroValue138 Try.sizeOf3 (EvP.cons RF (EvP.cons RF (EvP.cons RF (EvP.cons RF EvP.nil)))) (by kernel_rfl)) ?_
          refine sq_alloc Try.zeroValue138 rfl (fun b14 => ?_)
          refine sq_store_all (vs := corV c x y0) Try.sizeOf138 RF RF rfl RM rfl rfl ?_
          refine sq_nil ?_
          refine sx_then ?_
          refine sc_seq ?_
          refine sc_region ?_
          refine sq_alloc Try.zeroValue139 rfl (fun b15 => ?_)
          refine sq_nil ?_
          refine sx_then ?_
          refine sc_seq ?_
          refine sc_region ?_
          refine qs (y_assign RF) ?_
          refine sq_nil ?_
          refine sx_then ?_
          refine sc_seq ?_
          refine sc_seq ?_
          refine sc_region ?_
          refine qs LD138 ?_
          refine qs (y_move RF) ?_
          refine sq_nil ?_
          refine sx_then ?_
          refine sc_block ?_
          refine sc_loop (σ := Nat × Array Value × Nat)
            (fun s => [(1, .pointer (some ⟨b1, 0, none⟩)), (2, .pointer (some ⟨b2, 0, none⟩)), (4, .pointer (some ⟨b4, 0, none⟩)), (8, .int .i64 y0), (9, .int .i64 x), (14, .pointer (some ⟨b14, 0, none⟩)), (15, .pointer (some ⟨b15, 0, none⟩)), (94, .agg (corV c x y0).toArray), (95, .int .i64 s.1), (16, .int .i64 (s.2.2 : Nat))])
            (fun s => [.blk b15 (.cells s.2.1 139 (0, 0)), .blk b14 (.cells (corV c x y0).toArray 138 (0, 0)), .blk b2 (.cells #[.int .i64 tot, .int .i64 0, .int .i64 J, .int .i64 S] 74 (0, 0)), .blk b4 (.cells (picV c a cp z.1).toArray 90 (0, 0)), .blk b1 (.cells #[.int .i64 c.wide, .int .i64 c.high, .slice a c.piece.length cp] 24 (0, 0)), .reg lo1 wr1, .reg 0 w])
            (fun s => s.1 ≤ 4 ∧ s.2.1.size = 4 ∧ s.2.2 ≤ s.1 ∧ (-1 ∉ [atC c (cP x y0 0), atC c (cP x y0 1), atC c (cP x y0 2), atC c (cP x y0 3)] → s.2.2 = s.1))
            (fun s => 4 - s.1)
            ((0, #[.bool false, .bool false, .bool false, .bool false], 0)) ?_ SU SR ?_
          · exact ⟨Nat.zero_le _, rfl, Nat.le_refl _, fun _ => rfl⟩
          rintro ⟨i, q, many⟩ ⟨hi, hq, hml, hmn⟩
          dsimp only at hi hq hml hmn ⊢
          refine sc_seq ?_
          refine sc_region ?_
          refine qs (y_lss RF RF) ?_
          refine sq_nil ?_
          refine sx_then ?_
          refine sc_seq ?_
          refine scp (fun hc5 => ?_) (fun hc5 => ?_)
          ·
            have hi' : i < 4 := by omega
            refine sc_skip ?_
            refine sx_then ?_
            refine sc_seq ?_
            refine sc_block ?_
            refine sc_seq ?_
            refine sc_region ?_
            refine qs (y_move RF) ?_
            refine qs (y_index (i := i) Try.underlying138 Try.sizeOf3 Try.underlying3 rfl RF RF hi' (cor_at hi')) ?_
            refine qs (y_assign RF) ?_
            refine qs (y_assign RF) ?_
            refine sq_nil ?_
            refine sx_then ?_
            refine sc_seq ?_
            refine sc_region ?_
            refine qs (y_move RF) ?_
            refine qs (y_add RF RF (by omega)) ?_
            refine qs (y_rem RF RF (by omega) (by omega)) ?_
            refine qs (y_ia_arr (i := (i + 1) % 4) Try.underlying138 Try.sizeOf3 RF (ev_int RF (by omega)) (Nat.mod_lt _ (by decide))) ?_
            refine qs (by first | exact y_load_blk Try.underlying3 rfl RF MM (cor_at' (Nat.mod_lt _ (by decide))) | exact LD3) ?_
            refine qs (y_assign RF) ?_
            refine sq_nil ?_
            refine sx_then ?_
            refine sc_seq ?_
            refine sc_region ?_
            refine qs (y_move RF) ?_
            refine qs (y_move RF) ?_
            refine qs (y_neq RF RF) ?_
            refine qs (y_move RF) ?_
            refine sp 107 (fun hg23_3 => ?_) (fun hg23_3 => ?_)
            ·
              refine qg (y_move RF) ?_
              refine qg (y_neq RF RF) ?_
              refine qs (y_pick_t RF RF) ?_
              refine qs (y_move RF) ?_
              refine sp 111 (fun hg23_7 => ?_) (fun hg23_7 => ?_)
              ·
                refine qg (y_move RF) ?_
                refine qg (y_neq RF RF) ?_
                refine qs (y_pick_t RF RF) ?_
                refine sq_nil ?_
                refine sx_then ?_
                refine scp (fun hc6 => ?_) (fun hc6 => ?_)
                ·
                  refine sc_seq ?_
                  refine sc_region ?_
                  refine qs (y_move RF) ?_
                  refine qs (y_ia_arr (i := i) Try.underlying139 Try.sizeOf4 RF RF hi') ?_
                  refine sq_store Try.sizeOf4 RF RF rfl RM (by rw [hq]; omega) ?_
                  refine sq_nil ?_
                  refine sx_then ?_
                  refine sc_region ?_
                  refine qs (y_move RF) ?_
                  refine qs (y_add RF RF (by omega)) ?_
                  refine qs (y_assign RF) ?_
                  refine sq_nil ?_
                  refine sx_blk ?_
                  refine sx_then ?_
                  refine sc_region ?_
                  refine qs (y_add RF RF (by omega)) ?_
                  refine qs (y_move RF) ?_
                  refine sq_nil ?_
                  refine sx_round ((i + 1, q.setIfInBounds (0 + i * 1) (.bool true), many + 1)) ?_ ?_ SU SR
                  · exact ⟨by dsimp only; omega, by dsimp only; rw [Array.size_setIfInBounds]; exact hq, by dsimp only; omega, fun hn => by have := hmn hn; dsimp only; omega⟩
                  · dsimp only; omega
                ·
                  refine sc_skip ?_
                  refine sx_blk ?_
                  refine sx_then ?_
                  refine sc_region ?_
                  refine qs (y_add RF RF (by omega)) ?_
                  refine qs (y_move RF) ?_
                  refine sq_nil ?_
                  refine sx_round ((i + 1, q, many)) ?_ ?_ SU SR
                  · exact ⟨by dsimp only; omega, hq, by dsimp only; omega, fun hn => by have h9 := cor_ok hD hn hi'; omega⟩
                  · dsimp only; omega
              ·
                refine qf ?_
                refine qf ?_
                refine qs (y_pick_f RF RF) ?_
                refine sq_nil ?_
                refine sx_then ?_
                refine sc_f RF ?_
                refine sc_skip ?_
                refine sx_blk ?_
                refine sx_then ?_
                refine sc_region ?_
                refine qs (y_add RF RF (by omega)) ?_
                refine qs (y_move RF) ?_
                refine sq_nil ?_
                refine sx_round ((i + 1, q, many)) ?_ ?_ SU SR
                · exact ⟨by dsimp only; omega, hq, by dsimp only; omega, fun hn => by have h9 := cor_ok hD hn hi'; omega⟩
                · dsimp only; omega
            ·
              refine qf ?_
              refine qf ?_
              refine qs (y_pick_f RF RF) ?_
              refine qs (y_move RF) ?_
              refine qf ?_
              refine qf ?_
              refine qs (y_pick_f RF RF) ?_
              refine sq_nil ?_
              refine sx_then ?_
              refine sc_f RF ?_
              refine sc_skip ?_
              refine sx_blk ?_
              refine sx_then ?_
              refine sc_region ?_
              refine qs (y_add RF RF (by omega)) ?_
              refine qs (y_move RF) ?_
              refine sq_nil ?_
              refine sx_round ((i + 1, q, many)) ?_ ?_ SU SR
              · exact ⟨by dsimp only; omega, hq, by dsimp only; omega, fun hn => by have h9 := cor_ok hD hn hi'; omega⟩
              · dsimp only; omega
          ·
            have hi4 : i = 4 := by omega
            refine sc_exit ?_
            refine sx_then_exit ?_
            refine sx_round_exit ?_
            refine sx_blk_hit ?_
            refine sx_then ?_
            refine sc_block ?_
            refine sc_seq ?_
            refine sc_region ?_
            refine qs (y_slice_full Try.underlying138 Try.sizeOf3 RF) ?_
            refine qy (yc Try.call54 E2 (fun w1 hw1 => contains54 w1 (some ⟨b14, 0, none⟩) 4 [atC c (cP x y0 0), atC c (cP x y0 1), atC c (cP x y0 2), atC c (cP x y0 3)] (lit_rowsA (row := iRow) iRow_len hw1 MM rfl (by simp)) (-1))) ?_
            refine qs (y_assign RF) ?_
            refine sq_nil ?_
            refine sx_then ?_
            refine scp (fun hc7 => ?_) (fun hc7 => ?_)
            ·
              refine sc_region ?_
              refine qs FA74_3 ?_
              refine qs LD3 ?_
              refine qs (y_move RF) ?_
              refine qs (y_add RF RF (by omega)) ?_
              refine qs FA74_3 ?_
              refine sq_store_to (cs' := #[.int .i64 tot, .int .i64 0, .int .i64 J, .int .i64 (S + (many : Nat))]) Try.sizeOf3 RF RF rfl RM (Nat.le_of_ble_eq_true rfl) rfl ?_
              refine sq_nil ?_
              refine sx_blk ?_
              refine sx_blk ?_
              refine sx_then ?_
              refine sc_region ?_
              refine qs (y_move RF) ?_
              refine qs (y_add RF RF (by omega)) ?_
              refine qs (y_assign RF) ?_
              refine sq_nil ?_
              refine sx_round ((x + 1, S + (many : Nat), J)) ?_ ?_ SU SR
              · exact ⟨by dsimp only; omega, by dsimp only; omega, by dsimp only; omega⟩
              · dsimp only; omega
            ·
              have hm4 : many = 4 := by have := hmn hc7; omega
              refine sc_seq ?_
              refine sc_region ?_
              refine qs (y_move RF) ?_
              refine qs (y_gtr RF RF) ?_
              refine qs (y_assign RF) ?_
              refine sq_nil ?_
              refine sx_then ?_
              refine sc_t (lk_bool rfl (decide_eq_true (by omega))) ?_
              refine sc_region ?_
              refine qs FA74_3 ?_
              refine qs LD3 ?_
              refine qs (y_add RF RF (by omega)) ?_
              refine qs FA74_3 ?_
              refine sq_store_to (cs' := #[.int .i64 tot, .int .i64 0, .int .i64 (J + 1), .int .i64 S]) Try.sizeOf3 RF RF rfl RM (Nat.le_of_ble_eq_true rfl) rfl ?_
              refine sq_nil ?_
              refine sx_blk ?_
              refine sx_blk ?_
              refine sx_then ?_
              refine sc_region ?_
              refine qs (y_move RF) ?_
              refine qs (y_add RF RF (by omega)) ?_
              refine qs (y_assign RF) ?_
              refine sq_nil ?_
              refine sx_round ((x + 1, S, J + 1)) ?_ ?_ SU SR
              · exact ⟨by dsimp only; omega, by dsimp only; omega, by dsimp only; omega⟩
              · dsimp only; omega
        ·
          refine sc_exit ?_
          refine sx_then_exit ?_
          refine sx_round_exit ?_
          refine sx_blk_hit ?_
          refine sx_blk ?_
          refine sx_then ?_
          refine sc_region ?_
          refine qs (y_move RF) ?_
          refine qs (y_add RF RF (by omega)) ?_
          refine qs (y_assign RF) ?_
          refine sq_nil ?_
          refine sx_round ((y0 + 1, S, J)) ?_ ?_ SU SR
          · exact ⟨by dsimp only; omega, by dsimp only; omega, by dsimp only; omega⟩
          · dsimp only; omega
      ·
        refine sc_exit ?_
        refine sx_then_exit ?_
        refine sx_round_exit ?_
        refine sx_blk_hit ?_
        refine sx_then ?_
        refine sc_seq ?_
        refine sc_region ?_
        refine qs (by first | exact y_load_all (vs := [.int .i64 tot, .int .i64 0, .int .i64 J, .int .i64 S]) Try.underlying74 rfl Try.sizeOf74 RF MM rfl | exact LD74) ?_
        refine sq_store_all (vs := [.int .i64 tot, .int .i64 0, .int .i64 J, .int .i64 S]) Try.sizeOf74 RF RF rfl RM rfl rfl ?_
        refine qs (y_assign RF) ?_
        refine sq_nil ?_
        refine sx_then ?_
        refine sc_ret ?_
        refine sx_retct (.inl rfl) rfl Try.results19 Try.underlying74 rfl Try.sizeOf74 RF MM rfl RF ?_
        intro w' hw'
        exact ⟨(tot, J, S), rfl, hw'.below MM, y.2, hy.2.2, htot⟩
end Go.Proofs.Ytfceajkofpafpaa
