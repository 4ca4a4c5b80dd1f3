/- The walk of the law RingApart. -/
import Derived.Test.YtpijahglojichaaDoorWalk30
import Derived.Test.YtpijahglojichaaDoorLawV
namespace Go.Proofs.YtpijahglojichaaDoor
open Go Go.Eng Go.RowKit Go.Proofs
set_option maxRecDepth 100000
theorem best23n (w : World) (z : MA) (m : Mt) {n : Nat} (hn : m.length = n) (hz : MtA 0 w z m) (hT : TabAt w) : Calls Tryd.prog 23 #[.agg #[.slice z.a n z.c]] w fun e w' => ∃ q : Option Addr × Nat, e = .returned (.tuple #[.slice q.1 (bestA m).1.length q.2, .int .i64 (bestA m).2.1, .int .i64 (bestA m).2.2]) ∧ Below w.heap.size w w' ∧ RowsA iRow 1 w.heap.size w' q.1 (bestA m).1 := by
  subst hn; exact Best23 w _ _ hz hT
theorem prices25n (w : World) (z : MA) (m : Mt) {n : Nat} (hn : m.length = n) (hz : MtA 0 w z m) (hT : TabAt w) : Calls Tryd.prog 25 #[.agg #[.slice z.a n z.c]] w fun e w' => ∃ y : Option Addr × Nat, e = .returned (.tuple #[.slice y.1 (priceA m).1.length y.2, .int .i64 (priceA m).2]) ∧ Below w.heap.size w w' ∧ RowsA iRow 1 w.heap.size w' y.1 (priceA m).1 := by
  subst hn; exact Prices25 w _ _ hz hT
/-- each row's room is no less than its length -/
def CapF (z : MA) (m : Mt) : Prop := ∀ i, i < m.length → (m.getD i []).length ≤ z.cf i
def hdM (v : Nat → Value) (j : Nat) : List Value := (List.range j).map v
theorem hdM_len (v : Nat → Value) (j : Nat) : (hdM v j).length = j := by simp [hdM]
theorem hdM_hdL (v : Nat → Value) (n : Nat) : hdM v n = hdL v n n := List.map_congr_left fun a ha => by rw [if_pos (List.mem_range.1 ha)]
theorem hdM_more (v : Nat → Value) (j : Nat) (u : Value) : hdM v j ++ [u] = hdM (updF v j u) (j + 1) := by
  unfold hdM
  rw [List.range_succ, List.map_append, List.map_congr_left (g := updF v j u) fun a ha => (updF_ne _ _ (by have := List.mem_range.1 ha; omega)).symm]
  rw [List.map_cons, List.map_nil, updF_at]
theorem zrep (n : Nat) : (List.replicate n (0 : Int)).flatMap iRow = List.replicate n (Value.int .i64 0) := (flat_rep n).symm
theorem copyA {m o : Mt} (hm : MkF m) {i : Nat} (hi : i < m.length) : (((List.replicate (m.length + o.length) (0 : Int)).flatMap iRow).toArray.toList.take 0 ++ (m.getD i []).flatMap iRow ++ ((List.replicate (m.length + o.length) (0 : Int)).flatMap iRow).toArray.toList.drop (0 + ((m.getD i []).flatMap iRow).length)).toArray = ((apartX m o i).flatMap iRow).toArray := by
  unfold apartX
  rw [if_pos hi, iflat_len, hm.row i hi, List.take_zero, List.nil_append, List.flatMap_append, zrep, zrep, List.toList_toArray, List.drop_replicate, show m.length + o.length - (0 + m.length) = o.length by omega]
theorem copyB {m o : Mt} (ho : MkF o) {i j : Nat} (hi : m.length ≤ i) (hj : i - m.length = j) (hjl : j < o.length) : (((List.replicate (m.length + o.length) (0 : Int)).flatMap iRow).toArray.toList.take m.length ++ (o.getD j []).flatMap iRow ++ ((List.replicate (m.length + o.length) (0 : Int)).flatMap iRow).toArray.toList.drop (m.length + ((o.getD j []).flatMap iRow).length)).toArray = ((apartX m o i).flatMap iRow).toArray := by
  unfold apartX
  rw [if_neg (by omega), hj, iflat_len, ho.row j hjl, List.flatMap_append, zrep, zrep, List.toList_toArray, List.take_replicate, List.drop_replicate, show min m.length (m.length + o.length) = m.length by omega, show m.length + o.length - (m.length + o.length) = 0 by omega, List.replicate_zero, List.append_nil]
def cntN (g i : Nat) : Nat := if i ≤ g then i else i - 1
theorem cnt_skip (g : Nat) : cntN g (g + 1) = cntN g g := by unfold cntN; rw [if_neg (by omega), if_pos (Nat.le_refl _)]; omega
theorem cnt_next {g i : Nat} (h : i ≠ g) : cntN g (i + 1) = cntN g i + 1 := by unfold cntN; split <;> split <;> omega
theorem up_cnt {g i : Nat} (h : i ≠ g) : upN g (cntN g i) = i := by unfold upN cntN; split <;> split <;> omega
theorem cnt_lt {g i n : Nat} (hi : i < n) (hg : g < n) (h : i ≠ g) : cntN g i < n - 1 := by unfold cntN; split <;> omega
theorem cnt_all {g n : Nat} (hg : g < n) : cntN g n = n - 1 := by unfold cntN; rw [if_neg (by omega)]
theorem lessX_cnt (m : Mt) {g i : Nat} (h : i ≠ g) : lessX m g (cntN g i) = cutR g (m.getD i []) := by unfold lessX; rw [up_cnt h]
theorem worth_bd {m : Mt} (hm : MkF m) {t : Td} (B : BestF m t) : 0 ≤ t.worth ∧ t.worth ≤ 7000 := by
  have h1 := worthN_bd hm t.gets t.gets.length
  have h2 := ord_len B.ord
  have h3 := hm.n7
  have h4 := B.worth
  unfold worthL at h4
  omega
/-- what is said of markets side by side -/
structure ApF (m o : Mt) : Prop where
  ok : mkB (apartM m o) = true
  best : bestA (apartM m o) = (joinO m.length (bestM m).gets (bestM o).gets, (bestM m).worth + (bestM o).worth, 0)
  price : priceA (apartM m o) = (priceN m (bestM m).gets m.length ++ priceN o (bestM o).gets o.length, 0)
theorem apart_law {m o : Mt} (hm : mkB m = true) (ho : mkB o = true) (h7 : m.length + o.length ≤ 7) : ApF m o := by
  have hk := apart_mk hm ho h7
  have B := bestM_F (mkF hm)
  have C := bestM_F (mkF ho)
  have A := bestM_F (mkF hk)
  have e := A.unique (apart_best (mkF hm) B C)
  refine ⟨hk, by rw [bestA_ok hk, e], ?_⟩
  have P := price_F (mkF hk) A
  rw [priceA_ok hk]
  rw [e] at P ⊢
  rw [P.unique (apart_price (mkF hm) B.ord C.ord (price_F (mkF hm) B) (price_F (mkF ho) C))]

theorem apart12 (w : World) (z : MA) (m : Mt) (hz : MtA 0 w z m) (hcap : CapF z m) (y : MA) (o : Mt) (hy : MtA 0 w y o) (hT : TabAt w) (out : Nat) (hout : out ≤ 255) : Calls Tryd.prog 12 #[.agg (mV z m).toArray, .agg (mV y o).toArray, .int .u8 out] w fun e w' => e = .returned (.bool true) ∧ Below w.heap.size w w' := by
  refine calls_of_SC (args := [.agg (mV z m).toArray, .agg (mV y o).toArray, .int .u8 out]) Tryd.func12 rfl Tryd.ntmps12 rfl ?_
  simp only [argL, Nat.reduceAdd, Nat.zero_add]
  refine sc_seq ?_
  refine sc_region ?_
  refine sq_box RF rfl (fun b3 => ?_)
  refine sq_box RF rfl (fun b4 => ?_)
  refine qs (y_assign RF) ?_
  refine sq_nil ?_
  refine sx_then ?_
  refine sc_seq ?_
  refine sc_seq ?_
  have hlz := hz.len
  have hly := hy.len
  refine sc_region ?_
  refine qs LD24 ?_
  refine qy (yc Tryd.call14 E1 (fun w1 hw1 => far14 w1 z m (hz.at hw1 MM))) ?_
  refine qs (y_move RF) ?_
  refine sp 35 (fun hg1_2 => ?_) (fun hg1_2 => ?_)
  ·
    refine qf ?_
    refine qf ?_
    refine qs (y_pick_t RF RF) ?_
    refine qs (y_move RF) ?_
    refine qf ?_
    refine qf ?_
    refine qf ?_
    refine qs (y_pick_t RF RF) ?_
    refine qs (y_move RF) ?_
    refine qf ?_
    refine qf ?_
    refine qf ?_
    refine qs (y_pick_t RF RF) ?_
    refine qs (y_move RF) ?_
    refine qf ?_
    refine qf ?_
    refine qf ?_
    refine qf ?_
    refine qf ?_
    refine qf ?_
    refine qf ?_
    refine qf ?_
    refine qs (y_pick_t RF RF) ?_
    refine sq_nil ?_
    refine sx_then ?_
    refine sc_t RF ?_
    refine sc_seq ?_
    refine sc_region ?_
    refine qy (yc Tryd.call15 E0 (fun w1 hw1 => awake15 w1 (CA.at hT hw1 MM))) ?_
    refine qs (y_assign RF) ?_
    refine sq_nil ?_
    refine sx_then ?_
    refine sc_ret ?_
    refine sx_then_ret ?_
    refine sx_ret1 (.inl rfl) rfl Tryd.results12 RF ?_
    intro w' hw'
    exact ⟨rfl, hw'.below MM⟩
  ·
    refine qg LD24 ?_
    refine sq_gt RF RF (y_call (first := []) (caps := []) RF Tryd.call14 (EvL.cons RF EvL.nil) (fun w1 hw1 => far14 w1 y o (hy.at hw1 MM))) rfl ?_
    refine qs (y_pick_f RF RF) ?_
    refine qs (y_move RF) ?_
    refine sp 39 (fun hg1_6 => ?_) (fun hg1_6 => ?_)
    ·
      refine qf ?_
      refine qf ?_
      refine qf ?_
      refine qs (y_pick_t RF RF) ?_
      refine qs (y_move RF) ?_
      refine qf ?_
      refine qf ?_
      refine qf ?_
      refine qs (y_pick_t RF RF) ?_
      refine qs (y_move RF) ?_
      refine qf ?_
      refine qf ?_
      refine qf ?_
      refine qf ?_
      refine qf ?_
      refine qf ?_
      refine qf ?_
      refine qf ?_
      refine qs (y_pick_t RF RF) ?_
      refine sq_nil ?_
      refine sx_then ?_
      refine sc_t RF ?_
      refine sc_seq ?_
      refine sc_region ?_
      refine qy (yc Tryd.call15 E0 (fun w1 hw1 => awake15 w1 (CA.at hT hw1 MM))) ?_
      refine qs (y_assign RF) ?_
      refine sq_nil ?_
      refine sx_then ?_
      refine sc_ret ?_
      refine sx_then_ret ?_
      refine sx_ret1 (.inl rfl) rfl Tryd.results12 RF ?_
      intro w' hw'
      exact ⟨rfl, hw'.below MM⟩
    ·
      refine qg LD24 ?_
      refine sq_gt RF RF (y_call (first := []) (caps := []) RF Tryd.call30 (EvL.cons RF EvL.nil) (fun w1 hw1 => market30 w1 z m (hz.at hw1 MM))) rfl ?_
      refine qg (y_not RF) ?_
      refine qs (y_pick_f RF RF) ?_
      refine qs (y_move RF) ?_
      refine sp 44 (fun hg1_11 => ?_) (fun hg1_11 => ?_)
      ·
        refine qf ?_
        refine qf ?_
        refine qf ?_
        refine qs (y_pick_t RF RF) ?_
        refine qs (y_move RF) ?_
        refine qf ?_
        refine qf ?_
        refine qf ?_
        refine qf ?_
        refine qf ?_
        refine qf ?_
        refine qf ?_
        refine qf ?_
        refine qs (y_pick_t RF RF) ?_
        refine sq_nil ?_
        refine sx_then ?_
        refine sc_t RF ?_
        refine sc_seq ?_
        refine sc_region ?_
        refine qy (yc Tryd.call15 E0 (fun w1 hw1 => awake15 w1 (CA.at hT hw1 MM))) ?_
        refine qs (y_assign RF) ?_
        refine sq_nil ?_
        refine sx_then ?_
        refine sc_ret ?_
        refine sx_then_ret ?_
        refine sx_ret1 (.inl rfl) rfl Tryd.results12 RF ?_
        intro w' hw'
        exact ⟨rfl, hw'.below MM⟩
      ·
        refine qg LD24 ?_
        refine sq_gt RF RF (y_call (first := []) (caps := []) RF Tryd.call30 (EvL.cons RF EvL.nil) (fun w1 hw1 => market30 w1 y o (hy.at hw1 MM))) rfl ?_
        refine qg (y_not RF) ?_
        refine qs (y_pick_f RF RF) ?_
        refine qs (y_move RF) ?_
        refine sp 49 (fun hg1_16 => ?_) (fun hg1_16 => ?_)
        ·
          refine qf ?_
          refine qf ?_
          refine qf ?_
          refine qf ?_
          refine qf ?_
          refine qf ?_
          refine qf ?_
          refine qf ?_
          refine qs (y_pick_t RF RF) ?_
          refine sq_nil ?_
          refine sx_then ?_
          refine sc_t RF ?_
          refine sc_seq ?_
          refine sc_region ?_
          refine qy (yc Tryd.call15 E0 (fun w1 hw1 => awake15 w1 (CA.at hT hw1 MM))) ?_
          refine qs (y_assign RF) ?_
          refine sq_nil ?_
          refine sx_then ?_
          refine sc_ret ?_
          refine sx_then_ret ?_
          refine sx_ret1 (.inl rfl) rfl Tryd.results12 RF ?_
          intro w' hw'
          exact ⟨rfl, hw'.below MM⟩
        ·
          refine qg FA24_22 ?_
          refine qg LD22 ?_
          refine qg (y_len Tryd.underlying22 RF) ?_
          refine qg FA24_22 ?_
          refine qg LD22 ?_
          refine qg (y_len Tryd.underlying22 RF) ?_
          refine qg (y_add RF RF (by have h1 := (mkF (show mkB m = true by simpa using hg1_11)).n7; have h2 := (mkF (show mkB o = true by simpa using hg1_16)).n7; omega)) ?_
          refine qg (y_gtr RF RF) ?_
          refine qs (y_pick_f RF RF) ?_
          refine sq_nil ?_
          refine sx_then ?_
          refine scp (fun hc0 => ?_) (fun hc0 => ?_)
          ·
            refine sc_seq ?_
            refine sc_region ?_
            refine qy (yc Tryd.call15 E0 (fun w1 hw1 => awake15 w1 (CA.at hT hw1 MM))) ?_
            refine qs (y_assign RF) ?_
            refine sq_nil ?_
            refine sx_then ?_
            refine sc_ret ?_
            refine sx_then_ret ?_
            refine sx_ret1 (.inl rfl) rfl Tryd.results12 RF ?_
            intro w' hw'
            exact ⟨rfl, hw'.below MM⟩
          ·
            refine sc_skip ?_
            refine sx_then ?_
            refine sc_seq ?_
            have hbm : mkB m = true := by simpa using hg1_11
            have hbo : mkB o = true := by simpa using hg1_16
            have hm := mkF hbm
            have ho := mkF hbo
            have h7 : m.length + o.length ≤ 7 := by omega
            refine sc_draw rfl (by kernel_rfl) (by kernel_rfl) ?_
            refine qq_y (OpY.s FA24_22) rfl ?_
            refine qq_y (OpY.s LD22) rfl ?_
            refine qq_y (OpY.s (y_len Tryd.underlying22 RF)) rfl ?_
            refine qq_y (OpY.s FA24_22) rfl ?_
            refine qq_y (OpY.s LD22) rfl ?_
            refine qq_y (OpY.s (y_len Tryd.underlying22 RF)) rfl ?_
            refine qq_y (OpY.s (y_assign RF)) rfl ?_
            refine qq_y (OpY.s (y_assign RF)) rfl ?_
            refine qq_nil ?_
            refine sx_then ?_
            refine sc_seq ?_
            refine sc_region ?_
            refine qs (y_move RF) ?_
            refine qs (y_move RF) ?_
            refine qs (y_add RF RF (by omega)) ?_
            rw [show (m.length : Int) + (o.length : Int) = ((m.length + o.length : Nat) : Int) by omega]
            refine sq_make Tryd.underlying22 ei25 RF RF (by omega) (by omega) (by omega) rfl (fun b69 => ?_)
            rw [hdL_zero (fun _ => .nilFunc)]
            refine sq_blk_own (n := (m.length + o.length)) (sz := 1) (xs := hdL (fun _ => .nilFunc) (m.length + o.length) 0) RM (by rw [hdL_len, Nat.mul_one]) (by unfold maxLen; omega) ?_
            refine qs (y_build (cells := #[.slice (some ⟨b69, 0, none⟩) (m.length + o.length) (m.length + o.length)]) bt24 (EvP.cons RF EvP.nil) (by kernel_rfl)) ?_
            refine sq_alloc Tryd.zeroValue24 rfl (fun b9 => ?_)
            refine sq_store_all Tryd.sizeOf24 RF RF rfl RM rfl rfl ?_
            refine sq_nil ?_
            refine sx_then ?_
            refine sc_seq ?_
            refine sc_seq ?_
            refine sc_region ?_
            refine qs (y_assign RF) ?_
            refine sq_nil ?_
            refine sx_then ?_
            refine sc_block ?_
            refine sc_loop (σ := Nat × (Nat → Value))
              (fun s_ => [(2, .int .u8 out), (3, .pointer (some ⟨b3, 0, none⟩)), (4, .pointer (some ⟨b4, 0, none⟩)), (7, .int .i64 m.length), (8, .int .i64 o.length), (9, .pointer (some ⟨b9, 0, none⟩)), (10, .int .i64 s_.1)])
              (fun s_ => [.own (.slice (some ⟨b69, 0, none⟩) (m.length + o.length) (m.length + o.length)) 25 1 (m.length + o.length) (hdL s_.2 (m.length + o.length) s_.1), .blk b9 (.cells #[.slice (some ⟨b69, 0, none⟩) (m.length + o.length) (m.length + o.length)] 24 (0, 0)), .blk b3 (.cells (mV z m).toArray 24 (0, 0)), .blk b4 (.cells (mV y o).toArray 24 (0, 0)), .reg 0 w] ++ famR 3 1 (m.length + o.length) s_.2 (fun a => (apartX m o a).flatMap iRow) s_.1)
              (fun s_ => s_.1 ≤ (m.length + o.length))
              (fun s_ => (m.length + o.length) - s_.1)
              ((0, fun _ => .nilFunc)) ?_ SU SR ?_
            · exact Nat.zero_le _
            rintro ⟨i, vf⟩ hi
            dsimp only at hi ⊢
            refine sc_seq ?_
            refine sc_seq ?_
            refine sc_region ?_
            refine qs (y_move RF) ?_
            refine qs (y_move RF) ?_
            refine qs (y_move RF) ?_
            refine qs (y_add RF RF (by omega)) ?_
            refine qs (y_lss RF RF) ?_
            refine sq_nil ?_
            refine sx_then ?_
            refine scp (fun hc1 => ?_) (fun hc1 => ?_)
            ·
              have hi' : i < (m.length + o.length) := by omega
              refine sc_skip ?_
              refine sx_then ?_
              refine sc_seq ?_
              refine sc_block ?_
              refine sc_seq ?_
              refine sc_drawX (([.own (.slice (some ⟨b69, 0, none⟩) (m.length + o.length) (m.length + o.length)) 25 1 (m.length + o.length) (hdL vf (m.length + o.length) i), .blk b9 (.cells #[.slice (some ⟨b69, 0, none⟩) (m.length + o.length) (m.length + o.length)] 24 (0, 0)), .blk b3 (.cells (mV z m).toArray 24 (0, 0)), .blk b4 (.cells (mV y o).toArray 24 (0, 0)), .reg 0 w] ++ famR 3 1 (m.length + o.length) vf (fun a => (apartX m o a).flatMap iRow) i)) (by kernel_rfl) ?_
              refine xj_s 0 RF (by kernel_rfl) SR FA24_22 rfl ?_
              refine xj_s 1 RF (by kernel_rfl) SR LD22 rfl ?_
              refine xj_s 2 RF (by kernel_rfl) SR (y_move RF) rfl ?_
              refine xj_s 3 RF (by kernel_rfl) SR (y_move RF) rfl ?_
              refine xj_s 4 RF (by kernel_rfl) SR (y_move RF) rfl ?_
              refine xj_s 5 RF (by kernel_rfl) SR (y_add RF RF (by omega)) rfl ?_
              rw [show (m.length : Int) + (o.length : Int) = ((m.length + o.length : Nat) : Int) by omega]
              refine xj_one 6 RF (by kernel_rfl) ?_
              refine sq_make Tryd.underlying25 ei3 RF RF (by omega) (by omega) (by omega) rfl (fun b84 => ?_)
              rw [irep]
              refine sq_nil ?_
              refine sx_xp SR ?_
              refine xj_s 7 RF (by kernel_rfl) SR (y_ia_own (v := .slice (some ⟨b69, 0, none⟩) (m.length + o.length) (m.length + o.length)) (i := i) Tryd.underlying22 Tryd.sizeOf25 RF MM RF hi') rfl ?_
              refine xj_one 8 RF (by kernel_rfl) ?_
              refine sq_store_own (v := .slice (some ⟨b69, 0, none⟩) (m.length + o.length) (m.length + o.length)) (i := i) (j := 0) (sz := 1) Tryd.sizeOf25 RF RF rfl RM hi' (by decide) ?_
              rw [hdL_set]
              refine sq_nil ?_
              refine sx_xpl (by kernel_rfl) ?_
              refine xj_done (by kernel_rfl) ?_
              refine sx_then ?_
              refine sc_seq ?_
              refine sc_region ?_
              refine qs (y_move RF) ?_
              refine qs (y_move RF) ?_
              refine qs (y_lss RF RF) ?_
              refine sq_nil ?_
              refine sx_then ?_
              refine scp (fun hc2 => ?_) (fun hc2 => ?_)
              ·
                have hi2 : i < m.length := by omega
                obtain ⟨hs1, hr1, hrow⟩ := hz.row hi2
                have hrli := hm.row i hi2
                have hs3 := (hrow.get 0 (show 0 < (m.getD i []).length by omega)).1
                refine sc_drawX ([.own (.slice (some ⟨b69, 0, none⟩) (m.length + o.length) (m.length + o.length)) 25 1 (m.length + o.length) (hdL (updF vf i (.slice (some ⟨b84, 0, none⟩) (m.length + o.length) (m.length + o.length))) (m.length + o.length) (i + 1)), .blk b9 (.cells #[.slice (some ⟨b69, 0, none⟩) (m.length + o.length) (m.length + o.length)] 24 (0, 0)), .blk b3 (.cells (mV z m).toArray 24 (0, 0)), .reg 0 w]) (by kernel_rfl) ?_
                refine xj_s 0 RF (by kernel_rfl) SR FA24_22 rfl ?_
                refine xj_s 1 RF (by kernel_rfl) SR LD22 rfl ?_
                refine xj_s 2 RF (by kernel_rfl) SR (y_move RF) rfl ?_
                refine xj_s 3 RF (by kernel_rfl) SR (y_ia_own (v := .slice (some ⟨b69, 0, none⟩) (m.length + o.length) (m.length + o.length)) (i := i) Tryd.underlying22 Tryd.sizeOf25 RF MM RF hi') rfl ?_
                refine xj_s 4 RF (by kernel_rfl) SR (by first | exact y_load_own0 (v := .slice (some ⟨b69, 0, none⟩) (m.length + o.length) (m.length + o.length)) (u := (.slice (some ⟨b84, 0, none⟩) (m.length + o.length) (m.length + o.length))) Tryd.underlying25 rfl RF MM hi' (by rw [hdL_get _ hi', if_pos (by omega), updF_at]) | exact LD25) rfl ?_
                refine xj_s 5 RF (by kernel_rfl) SR FA24_22 rfl ?_
                refine xj_s 6 RF (by kernel_rfl) SR LD22 rfl ?_
                refine xj_s 7 RF (by kernel_rfl) SR (y_move RF) rfl ?_
                refine xj_s 8 RF (by kernel_rfl) SR IA22 rfl ?_
                refine xj_s 9 RF (by kernel_rfl) SR (by first | exact y_load_ca0 Tryd.underlying25 rfl RF MM hr1 rfl | exact LD25) rfl ?_
                refine xj_one 10 RF (by kernel_rfl) ?_
                obtain ⟨ad, had⟩ := Option.isSome_iff_exists.1 hs3
                rw [had]
                refine sq_copy (cs := (m.getD i []).flatMap iRow) (ad := ad) Tryd.underlying25 (by kernel_rfl) RF RF RM (by rw [iflat_len, hrli]; omega) (fun w1 hw1 => RowsA.cells (row := iRow) iRow_len (by decide) (by rw [← had]; exact hrow.at hw1 MM)) (by rw [iflat_len, hrli]; simp only [List.size_toArray, iflat_len, List.length_replicate]; omega) (iflat_one _) rfl ?_
                rw [copyA hm hi2]
                refine sq_nil ?_
                refine sx_xp SR ?_
                refine xj_done (by kernel_rfl) ?_
                refine sx_blk ?_
                refine sx_then ?_
                refine sc_region ?_
                refine qs (y_move RF) ?_
                refine qs (y_add RF RF (by omega)) ?_
                refine qs (y_assign RF) ?_
                refine sq_nil ?_
                refine sx_blk_own (b := b84) (n := (m.length + o.length)) (sz := 1) (xs := (apartX m o i).flatMap iRow) RM (by rw [iflat_len, apartX_len hm ho hi', Nat.mul_one]) (by unfold maxLen; omega) ?_
                refine sx_sub (rs' := .own (.slice (some ⟨b84, 0, none⟩) (m.length + o.length) (m.length + o.length)) 3 1 (m.length + o.length) ((apartX m o i).flatMap iRow) :: ([.own (.slice (some ⟨b69, 0, none⟩) (m.length + o.length) (m.length + o.length)) 25 1 (m.length + o.length) (hdL (updF vf i (.slice (some ⟨b84, 0, none⟩) (m.length + o.length) (m.length + o.length))) (m.length + o.length) (i + 1)), .blk b9 (.cells #[.slice (some ⟨b69, 0, none⟩) (m.length + o.length) (m.length + o.length)] 24 (0, 0)), .blk b3 (.cells (mV z m).toArray 24 (0, 0)), .blk b4 (.cells (mV y o).toArray 24 (0, 0)), .reg 0 w] ++ famR 3 1 (m.length + o.length) vf (fun a => (apartX m o a).flatMap iRow) i)) (SubL.refl _) SR ?_
                have hfm := fam_more (e := 3) (sz := 1) (n := (m.length + o.length)) (k := i) (v := vf) (v' := (updF vf i (.slice (some ⟨b84, 0, none⟩) (m.length + o.length) (m.length + o.length)))) (xs := fun a => (apartX m o a).flatMap iRow) (xs' := fun a => (apartX m o a).flatMap iRow) [.own (.slice (some ⟨b69, 0, none⟩) (m.length + o.length) (m.length + o.length)) 25 1 (m.length + o.length) (hdL (updF vf i (.slice (some ⟨b84, 0, none⟩) (m.length + o.length) (m.length + o.length))) (m.length + o.length) (i + 1)), .blk b9 (.cells #[.slice (some ⟨b69, 0, none⟩) (m.length + o.length) (m.length + o.length)] 24 (0, 0)), .blk b3 (.cells (mV z m).toArray 24 (0, 0)), .blk b4 (.cells (mV y o).toArray 24 (0, 0)), .reg 0 w] fun j hj => ⟨updF_ne _ _ (by omega), rfl⟩
                rw [updF_at] at hfm
                refine sx_fam hfm ?_
                exact sx_round (i + 1, (updF vf i (.slice (some ⟨b84, 0, none⟩) (m.length + o.length) (m.length + o.length)))) (by dsimp only; omega) (by dsimp only; omega) SU SR
              ·
                have hni : m.length ≤ i := by omega
                refine sc_drawX ([.own (.slice (some ⟨b69, 0, none⟩) (m.length + o.length) (m.length + o.length)) 25 1 (m.length + o.length) (hdL (updF vf i (.slice (some ⟨b84, 0, none⟩) (m.length + o.length) (m.length + o.length))) (m.length + o.length) (i + 1)), .blk b9 (.cells #[.slice (some ⟨b69, 0, none⟩) (m.length + o.length) (m.length + o.length)] 24 (0, 0)), .blk b4 (.cells (mV y o).toArray 24 (0, 0)), .reg 0 w]) (by kernel_rfl) ?_
                refine xj_s 0 RF (by kernel_rfl) SR FA24_22 rfl ?_
                refine xj_s 1 RF (by kernel_rfl) SR LD22 rfl ?_
                refine xj_s 2 RF (by kernel_rfl) SR (y_move RF) rfl ?_
                refine xj_s 3 RF (by kernel_rfl) SR (y_ia_own (v := .slice (some ⟨b69, 0, none⟩) (m.length + o.length) (m.length + o.length)) (i := i) Tryd.underlying22 Tryd.sizeOf25 RF MM RF hi') rfl ?_
                refine xj_s 4 RF (by kernel_rfl) SR (by first | exact y_load_own0 (v := .slice (some ⟨b69, 0, none⟩) (m.length + o.length) (m.length + o.length)) (u := (.slice (some ⟨b84, 0, none⟩) (m.length + o.length) (m.length + o.length))) Tryd.underlying25 rfl RF MM hi' (by rw [hdL_get _ hi', if_pos (by omega), updF_at]) | exact LD25) rfl ?_
                refine xj_s 5 RF (by kernel_rfl) SR (y_move RF) rfl ?_
                refine xj_s 6 RF (by kernel_rfl) SR (y_slice_from (lo := m.length) Tryd.underlying25 Tryd.sizeOf3 RF RF (by omega)) rfl ?_
                rw [show loA (some ⟨b84, 0, none⟩) (m.length + o.length) m.length 1 = some ⟨b84, m.length, none⟩ by unfold loA; rw [if_neg (by omega), Option.map_some, Addr.add_lit, Nat.zero_add, Nat.mul_one]]
                refine xj_s 7 RF (by kernel_rfl) SR FA24_22 rfl ?_
                refine xj_s 8 RF (by kernel_rfl) SR LD22 rfl ?_
                refine xj_s 9 RF (by kernel_rfl) SR (y_move RF) rfl ?_
                refine xj_s 10 RF (by kernel_rfl) SR (y_move RF) rfl ?_
                refine xj_s 11 RF (by kernel_rfl) SR (y_sub RF RF (by omega)) rfl ?_
                obtain ⟨j, hj⟩ : ∃ j : Nat, i - m.length = j := ⟨_, rfl⟩
                have hjo : j < o.length := by omega
                rw [show (i : Int) - (m.length : Int) = (j : Int) by omega]
                obtain ⟨hs1, hr1, hrow⟩ := hy.row hjo
                have hrli := ho.row j hjo
                have hs3 := (hrow.get 0 (show 0 < (o.getD j []).length by omega)).1
                refine xj_s 12 RF (by kernel_rfl) SR IA22 rfl ?_
                refine xj_s 13 RF (by kernel_rfl) SR (by first | exact y_load_ca0 Tryd.underlying25 rfl RF MM hr1 rfl | exact LD25) rfl ?_
                refine xj_one 14 RF (by kernel_rfl) ?_
                obtain ⟨ad, had⟩ := Option.isSome_iff_exists.1 hs3
                rw [had]
                refine sq_copy (cs := (o.getD j []).flatMap iRow) (ad := ad) Tryd.underlying25 (by kernel_rfl) RF RF RM (by rw [iflat_len, hrli]; omega) (fun w1 hw1 => RowsA.cells (row := iRow) iRow_len (by decide) (by rw [← had]; exact hrow.at hw1 MM)) (by rw [iflat_len, hrli]; simp only [List.size_toArray, iflat_len, List.length_replicate]; omega) (iflat_one _) rfl ?_
                rw [copyB ho hni hj hjo]
                refine sq_nil ?_
                refine sx_xp SR ?_
                refine xj_done (by kernel_rfl) ?_
                refine sx_blk ?_
                refine sx_then ?_
                refine sc_region ?_
                refine qs (y_move RF) ?_
                refine qs (y_add RF RF (by omega)) ?_
                refine qs (y_assign RF) ?_
                refine sq_nil ?_
                refine sx_blk_own (b := b84) (n := (m.length + o.length)) (sz := 1) (xs := (apartX m o i).flatMap iRow) RM (by rw [iflat_len, apartX_len hm ho hi', Nat.mul_one]) (by unfold maxLen; omega) ?_
                refine sx_sub (rs' := .own (.slice (some ⟨b84, 0, none⟩) (m.length + o.length) (m.length + o.length)) 3 1 (m.length + o.length) ((apartX m o i).flatMap iRow) :: ([.own (.slice (some ⟨b69, 0, none⟩) (m.length + o.length) (m.length + o.length)) 25 1 (m.length + o.length) (hdL (updF vf i (.slice (some ⟨b84, 0, none⟩) (m.length + o.length) (m.length + o.length))) (m.length + o.length) (i + 1)), .blk b9 (.cells #[.slice (some ⟨b69, 0, none⟩) (m.length + o.length) (m.length + o.length)] 24 (0, 0)), .blk b3 (.cells (mV z m).toArray 24 (0, 0)), .blk b4 (.cells (mV y o).toArray 24 (0, 0)), .reg 0 w] ++ famR 3 1 (m.length + o.length) vf (fun a => (apartX m o a).flatMap iRow) i)) (SubL.refl _) SR ?_
                have hfm := fam_more (e := 3) (sz := 1) (n := (m.length + o.length)) (k := i) (v := vf) (v' := (updF vf i (.slice (some ⟨b84, 0, none⟩) (m.length + o.length) (m.length + o.length)))) (xs := fun a => (apartX m o a).flatMap iRow) (xs' := fun a => (apartX m o a).flatMap iRow) [.own (.slice (some ⟨b69, 0, none⟩) (m.length + o.length) (m.length + o.length)) 25 1 (m.length + o.length) (hdL (updF vf i (.slice (some ⟨b84, 0, none⟩) (m.length + o.length) (m.length + o.length))) (m.length + o.length) (i + 1)), .blk b9 (.cells #[.slice (some ⟨b69, 0, none⟩) (m.length + o.length) (m.length + o.length)] 24 (0, 0)), .blk b3 (.cells (mV z m).toArray 24 (0, 0)), .blk b4 (.cells (mV y o).toArray 24 (0, 0)), .reg 0 w] fun j hj => ⟨updF_ne _ _ (by omega), rfl⟩
                rw [updF_at] at hfm
                refine sx_fam hfm ?_
                exact sx_round (i + 1, (updF vf i (.slice (some ⟨b84, 0, none⟩) (m.length + o.length) (m.length + o.length)))) (by dsimp only; omega) (by dsimp only; omega) SU SR
            ·
              have hin : i = (m.length + o.length) := by omega
              subst hin
              refine sc_exit ?_
              refine sx_then_exit ?_
              refine sx_round_exit ?_
              refine sx_blk_hit ?_
              refine sx_then ?_
              refine sc_seq ?_
              refine sc_region ?_
              refine qs LD24 ?_
              refine sq_call_new (first := []) (caps := []) (Z := Option Addr × Nat) (fun q => .tuple #[.slice q.1 (bestA m).1.length q.2, .int .i64 (bestA m).2.1, .int .i64 (bestA m).2.2]) (fun lo w' q => RowsA iRow 1 lo w' q.1 (bestA m).1) RF Tryd.call23 (EvL.cons RF EvL.nil) (fun w1 hw1 => Best23 w1 z m (hz.at hw1 MM) (CA.at hT hw1 MM)) rfl (fun lo12 wr12 y12 hy12 => ?_)
              refine qs (y_move RF) ?_
              refine qs (y_extract RF RF) ?_
              refine qs (y_extract RF RF) ?_
              refine qs (y_extract RF RF) ?_
              refine qs (y_assign RF) ?_
              refine qs (y_assign RF) ?_
              refine qs (y_assign RF) ?_
              refine sq_nil ?_
              refine sx_then ?_
              refine sc_seq ?_
              refine sc_region ?_
              refine qs LD24 ?_
              refine sq_call_new (first := []) (caps := []) (Z := Option Addr × Nat) (fun q => .tuple #[.slice q.1 (bestA o).1.length q.2, .int .i64 (bestA o).2.1, .int .i64 (bestA o).2.2]) (fun lo w' q => RowsA iRow 1 lo w' q.1 (bestA o).1) RF Tryd.call23 (EvL.cons RF EvL.nil) (fun w1 hw1 => Best23 w1 y o (hy.at hw1 MM) (CA.at hT hw1 MM)) rfl (fun lo13 wr13 y13 hy13 => ?_)
              refine qs (y_move RF) ?_
              refine qs (y_extract RF RF) ?_
              refine qs (y_extract RF RF) ?_
              refine qs (y_extract RF RF) ?_
              refine qs (y_assign RF) ?_
              refine qs (y_assign RF) ?_
              refine qs (y_assign RF) ?_
              refine sq_nil ?_
              refine sx_then ?_
              refine sc_seq ?_
              refine sc_region ?_
              refine qs LD24 ?_
              refine sq_call_new (first := []) (caps := []) (Z := Option Addr × Nat) (fun q => .tuple #[.slice q.1 (bestA (apartM m o)).1.length q.2, .int .i64 (bestA (apartM m o)).2.1, .int .i64 (bestA (apartM m o)).2.2]) (fun lo w' q => RowsA iRow 1 lo w' q.1 (bestA (apartM m o)).1) RF Tryd.call23 (EvL.cons RF EvL.nil) (fun w1 hw1 => best23n w1 ⟨some ⟨b69, 0, none⟩, (m.length + o.length), fun a => slA (vf a), fun a => slC (vf a)⟩ (apartM m o) apartM_len (rows_at hw1 (e2 := 3) (n := (m.length + o.length)) (v := vf) (X := apartX m o) (fun a ha => apartX_len hm ho ha) MM (fun a ha => by repeat (first | exact fam_mem (v := vf) (xs := fun a => (apartX m o a).flatMap iRow) ha | refine .tail _ ?_)) (by omega)) (CA.at hT hw1 MM)) rfl (fun lo14 wr14 y14 hy14 => ?_)
              refine qs (y_move RF) ?_
              refine qs (y_extract RF RF) ?_
              refine qs (y_extract RF RF) ?_
              refine qs (y_extract RF RF) ?_
              refine qs (y_assign RF) ?_
              refine qs (y_assign RF) ?_
              refine qs (y_assign RF) ?_
              refine sq_nil ?_
              refine sx_then ?_
              refine sc_seq ?_
              refine sc_seq ?_
              have A := apart_law hbm hbo h7
              have B := bestM_F hm
              have C := bestM_F ho
              have hwm := worth_bd hm B
              have hwo := worth_bd ho C
              have hlm := ord_len B.ord
              have hlo := ord_len C.ord
              rw [A.best] at hy14 ⊢
              rw [bestA_ok hbm] at hy12 ⊢
              rw [bestA_ok hbo] at hy13 ⊢
              have hlj : (joinO m.length (bestM m).gets (bestM o).gets).length = m.length + o.length := by rw [joinO_len, hlm, hlo]
              replace hy12 : RowsA iRow 1 lo12 wr12 y12.1 (bestM m).gets := hy12
              replace hy13 : RowsA iRow 1 lo13 wr13 y13.1 (bestM o).gets := hy13
              replace hy14 : RowsA iRow 1 lo14 wr14 y14.1 (joinO m.length (bestM m).gets (bestM o).gets) := hy14
              refine sc_region ?_
              refine qs (y_move RF) ?_
              refine qs (y_neq RF RF) ?_
              refine qs (y_move RF) ?_
              refine sq_known (tt := 135) (b' := false) RF (rfl) ?_
              refine qg (y_move RF) ?_
              refine qg (y_neq RF RF) ?_
              refine qs (y_pick_f RF RF) ?_
              refine qs (y_move RF) ?_
              refine sq_known (tt := 139) (b' := false) RF (rfl) ?_
              refine qg (y_move RF) ?_
              refine qg (y_neq RF RF) ?_
              refine qs (y_pick_f RF RF) ?_
              refine qs (y_move RF) ?_
              refine sq_known (tt := 143) (b' := false) RF (rfl) ?_
              refine qg (y_move RF) ?_
              refine qg (y_move RF) ?_
              refine qg (y_move RF) ?_
              refine qg (y_add RF RF (by dsimp only; omega)) ?_
              refine qg (y_neq RF RF) ?_
              refine qs (y_pick_f RF RF) ?_
              refine qs (y_move RF) ?_
              refine sq_known (tt := 150) (b' := false) RF (by simp) ?_
              refine qg (y_move RF) ?_
              refine qg (y_len Tryd.underlying25 RF) ?_
              refine qg (y_move RF) ?_
              refine qg (y_neq RF RF) ?_
              refine qs (y_pick_f RF RF) ?_
              refine qs (y_move RF) ?_
              refine sq_known (tt := 156) (b' := false) RF (by simp [hlm]) ?_
              refine qg (y_move RF) ?_
              refine qg (y_len Tryd.underlying25 RF) ?_
              refine qg (y_move RF) ?_
              refine qg (y_neq RF RF) ?_
              refine qs (y_pick_f RF RF) ?_
              refine qs (y_move RF) ?_
              refine sq_known (tt := 162) (b' := false) RF (by simp [hlo]) ?_
              refine qg (y_move RF) ?_
              refine qg (y_len Tryd.underlying25 RF) ?_
              refine qg (y_move RF) ?_
              refine qg (y_move RF) ?_
              refine qg (y_add RF RF (by omega)) ?_
              refine qg (y_neq RF RF) ?_
              refine qs (y_pick_f RF RF) ?_
              refine sq_nil ?_
              refine sx_then ?_
              refine sc_f (lk_bool rfl (by first | rfl | (simp [hlj]))) ?_
              refine sc_skip ?_
              refine sx_then ?_
              refine sc_seq ?_
              refine sc_region ?_
              refine qs LD24 ?_
              refine sq_call_new (first := []) (caps := []) (Z := Option Addr × Nat) (fun q => .tuple #[.slice q.1 (priceA m).1.length q.2, .int .i64 (priceA m).2]) (fun lo w' q => RowsA iRow 1 lo w' q.1 (priceA m).1) RF Tryd.call25 (EvL.cons RF EvL.nil) (fun w1 hw1 => Prices25 w1 z m (hz.at hw1 MM) (CA.at hT hw1 MM)) rfl (fun lo17 wr17 y17 hy17 => ?_)
              refine qs (y_move RF) ?_
              refine qs (y_extract RF RF) ?_
              refine qs (y_extract RF RF) ?_
              refine qs (y_assign RF) ?_
              refine qs (y_assign RF) ?_
              refine sq_nil ?_
              refine sx_then ?_
              refine sc_seq ?_
              refine sc_region ?_
              refine qs LD24 ?_
              refine sq_call_new (first := []) (caps := []) (Z := Option Addr × Nat) (fun q => .tuple #[.slice q.1 (priceA o).1.length q.2, .int .i64 (priceA o).2]) (fun lo w' q => RowsA iRow 1 lo w' q.1 (priceA o).1) RF Tryd.call25 (EvL.cons RF EvL.nil) (fun w1 hw1 => Prices25 w1 y o (hy.at hw1 MM) (CA.at hT hw1 MM)) rfl (fun lo18 wr18 y18 hy18 => ?_)
              refine qs (y_move RF) ?_
              refine qs (y_extract RF RF) ?_
              refine qs (y_extract RF RF) ?_
              refine qs (y_assign RF) ?_
              refine qs (y_assign RF) ?_
              refine sq_nil ?_
              refine sx_then ?_
              refine sc_seq ?_
              refine sc_region ?_
              refine qs LD24 ?_
              refine sq_call_new (first := []) (caps := []) (Z := Option Addr × Nat) (fun q => .tuple #[.slice q.1 (priceA (apartM m o)).1.length q.2, .int .i64 (priceA (apartM m o)).2]) (fun lo w' q => RowsA iRow 1 lo w' q.1 (priceA (apartM m o)).1) RF Tryd.call25 (EvL.cons RF EvL.nil) (fun w1 hw1 => prices25n w1 ⟨some ⟨b69, 0, none⟩, (m.length + o.length), fun a => slA (vf a), fun a => slC (vf a)⟩ (apartM m o) apartM_len (rows_at hw1 (e2 := 3) (n := (m.length + o.length)) (v := vf) (X := apartX m o) (fun a ha => apartX_len hm ho ha) MM (fun a ha => by repeat (first | exact fam_mem (v := vf) (xs := fun a => (apartX m o a).flatMap iRow) ha | refine .tail _ ?_)) (by omega)) (CA.at hT hw1 MM)) rfl (fun lo19 wr19 y19 hy19 => ?_)
              refine qs (y_move RF) ?_
              refine qs (y_extract RF RF) ?_
              refine qs (y_extract RF RF) ?_
              refine qs (y_assign RF) ?_
              refine qs (y_assign RF) ?_
              refine sq_nil ?_
              refine sx_then ?_
              refine sc_seq ?_
              refine sc_seq ?_
              have hpm := price_F hm B
              have hpo := price_F ho C
              rw [A.price] at hy19 ⊢
              rw [priceA_ok hbm] at hy17 ⊢
              rw [priceA_ok hbo] at hy18 ⊢
              have hlpm := hpm.len
              have hlpo := hpo.len
              have hlpx : ((priceN m (bestM m).gets m.length) ++ (priceN o (bestM o).gets o.length)).length = m.length + o.length := by rw [List.length_append, hlpm, hlpo]
              replace hy17 : RowsA iRow 1 lo17 wr17 y17.1 (priceN m (bestM m).gets m.length) := hy17
              replace hy18 : RowsA iRow 1 lo18 wr18 y18.1 (priceN o (bestM o).gets o.length) := hy18
              replace hy19 : RowsA iRow 1 lo19 wr19 y19.1 ((priceN m (bestM m).gets m.length) ++ (priceN o (bestM o).gets o.length)) := hy19
              refine sc_region ?_
              refine qs (y_move RF) ?_
              refine qs (y_neq RF RF) ?_
              refine qs (y_move RF) ?_
              refine sq_known (tt := 187) (b' := false) RF (rfl) ?_
              refine qg (y_move RF) ?_
              refine qg (y_neq RF RF) ?_
              refine qs (y_pick_f RF RF) ?_
              refine qs (y_move RF) ?_
              refine sq_known (tt := 191) (b' := false) RF (rfl) ?_
              refine qg (y_move RF) ?_
              refine qg (y_neq RF RF) ?_
              refine qs (y_pick_f RF RF) ?_
              refine qs (y_move RF) ?_
              refine sq_known (tt := 195) (b' := false) RF (rfl) ?_
              refine qg (y_move RF) ?_
              refine qg (y_len Tryd.underlying25 RF) ?_
              refine qg (y_move RF) ?_
              refine qg (y_neq RF RF) ?_
              refine qs (y_pick_f RF RF) ?_
              refine qs (y_move RF) ?_
              refine sq_known (tt := 201) (b' := false) RF (by simp [hlpm]) ?_
              refine qg (y_move RF) ?_
              refine qg (y_len Tryd.underlying25 RF) ?_
              refine qg (y_move RF) ?_
              refine qg (y_neq RF RF) ?_
              refine qs (y_pick_f RF RF) ?_
              refine qs (y_move RF) ?_
              refine sq_known (tt := 207) (b' := false) RF (by simp [hlpo]) ?_
              refine qg (y_move RF) ?_
              refine qg (y_len Tryd.underlying25 RF) ?_
              refine qg (y_move RF) ?_
              refine qg (y_move RF) ?_
              refine qg (y_add RF RF (by omega)) ?_
              refine qg (y_neq RF RF) ?_
              refine qs (y_pick_f RF RF) ?_
              refine sq_nil ?_
              refine sx_then ?_
              refine sc_f (lk_bool rfl (by first | rfl | (simp [hlpx]))) ?_
              refine sc_skip ?_
              refine sx_then ?_
              refine sc_seq ?_
              refine sc_seq ?_
              refine sc_region ?_
              refine qs (y_assign RF) ?_
              refine sq_nil ?_
              refine sx_then ?_
              refine sc_block ?_
              refine sc_loop (σ := Nat)
                (fun s_ => [(2, .int .u8 out), (3, .pointer (some ⟨b3, 0, none⟩)), (4, .pointer (some ⟨b4, 0, none⟩)), (7, .int .i64 m.length), (8, .int .i64 o.length), (9, .pointer (some ⟨b9, 0, none⟩)), (11, .slice y12.1 (bestM m).gets.length y12.2), (12, .int .i64 (bestM m).worth), (14, .slice y13.1 (bestM o).gets.length y13.2), (17, .slice y14.1 (joinO m.length (bestM m).gets (bestM o).gets).length y14.2), (20, .slice y17.1 (priceN m (bestM m).gets m.length).length y17.2), (22, .slice y18.1 (priceN o (bestM o).gets o.length).length y18.2), (24, .slice y19.1 ((priceN m (bestM m).gets m.length) ++ (priceN o (bestM o).gets o.length)).length y19.2), (26, .int .i64 s_)])
                (fun s_ => [.reg lo12 wr12, .reg lo13 wr13, .reg lo14 wr14, .reg lo17 wr17, .reg lo18 wr18, .reg lo19 wr19, .blk b3 (.cells (mV z m).toArray 24 (0, 0)), .reg 0 w])
                (fun s_ => s_ ≤ (m.length + o.length))
                (fun s_ => (m.length + o.length) - s_)
                (0) ?_ SU SR ?_
              · exact Nat.zero_le _
              rintro s hs
              refine sc_seq ?_
              refine sc_seq ?_
              refine sc_region ?_
              refine qs (y_move RF) ?_
              refine qs (y_move RF) ?_
              refine qs (y_move RF) ?_
              refine qs (y_add RF RF (by omega)) ?_
              refine qs (y_lss RF RF) ?_
              refine sq_nil ?_
              refine sx_then ?_
              refine scp (fun hc5 => ?_) (fun hc5 => ?_)
              ·
                have hs' : s < m.length + o.length := by omega
                have hsc := (hy14.get 0 (show s < (joinO m.length (bestM m).gets (bestM o).gets).length by omega)).1
                have hcz := (hy14.get 0 (show s < (joinO m.length (bestM m).gets (bestM o).gets).length by omega)).2
                have hsw := (hy19.get 0 (show s < ((priceN m (bestM m).gets m.length) ++ (priceN o (bestM o).gets o.length)).length by omega)).1
                have hwz := (hy19.get 0 (show s < ((priceN m (bestM m).gets m.length) ++ (priceN o (bestM o).gets o.length)).length by omega)).2
                have haz := fun (h : (s : Int) < (m.length : Int)) => hy12.get 0 (show s < (bestM m).gets.length by omega)
                have huz := fun (h : (s : Int) < (m.length : Int)) => hy17.get 0 (show s < (priceN m (bestM m).gets m.length).length by omega)
                have hbz := fun {j : Nat} (h : j < o.length) => hy13.get 0 (show j < (bestM o).gets.length by omega)
                have hvz := fun {j : Nat} (h : j < o.length) => hy18.get 0 (show j < (priceN o (bestM o).gets o.length).length by omega)
                refine sc_skip ?_
                refine sx_then ?_
                refine sc_seq ?_
                refine sc_block ?_
                refine sc_seq ?_
                refine sc_draw rfl (by kernel_rfl) (by kernel_rfl) ?_
                refine qq_y (OpY.s (y_move RF)) rfl ?_
                refine qq_y (OpY.s (y_move RF)) rfl ?_
                refine qq_y (OpY.s (y_lss RF RF)) rfl ?_
                refine qq_y (OpY.s (y_move RF)) rfl ?_
                first | refine qq_splitd (tt := 225) RF (fun hg25_3 => ?_) (fun hg25_3 => ?_) | refine qq_splitn (tt := 225) RF (fun hg25_3 => ?_) (fun hg25_3 => ?_) | refine qq_split (tt := 225) RF (fun hg25_3 => ?_) (fun hg25_3 => ?_)
                ·
                  refine qq_gt RF RF (OpY.s (y_move RF)) rfl ?_
                  refine qq_gt RF RF (OpY.s (y_move RF)) rfl ?_
                  refine qq_gt RF RF (OpY.s IA25) rfl ?_
                  refine qq_gt RF RF (OpY.s (by first | exact y_load_ca0 Tryd.underlying3 rfl RF MM hcz rfl | exact LD3)) rfl ?_
                  refine qq_gt RF RF (OpY.s (y_move RF)) rfl ?_
                  refine qq_gt RF RF (OpY.s (y_move RF)) rfl ?_
                  refine qq_gt RF RF (OpY.s (y_ia_el (i := s) Tryd.underlying25 Tryd.sizeOf3 RF RF (by omega) (haz hg25_3).1)) rfl ?_
                  refine qq_gt RF RF (OpY.s (by first | exact y_load_ca0 Tryd.underlying3 rfl RF MM (haz hg25_3).2 rfl | exact LD3)) rfl ?_
                  refine qq_gt RF RF (OpY.s (y_neq RF RF)) rfl ?_
                  refine qq_gt RF RF (OpY.s (y_move RF)) rfl ?_
                  refine qq_known (tt := 235) (b' := false) RF (by rw [joinO_l (show s < (bestM m).gets.length by omega)]; simp) ?_
                  refine qq_gt RF RF (OpY.s (y_move RF)) rfl ?_
                  refine qq_gt RF RF (OpY.s (y_move RF)) rfl ?_
                  refine qq_gt RF RF (OpY.s IA25) rfl ?_
                  refine qq_gt RF RF (OpY.s (by first | exact y_load_ca0 Tryd.underlying3 rfl RF MM hwz rfl | exact LD3)) rfl ?_
                  refine qq_gt RF RF (OpY.s (y_move RF)) rfl ?_
                  refine qq_gt RF RF (OpY.s (y_move RF)) rfl ?_
                  refine qq_gt RF RF (OpY.s (y_ia_el (i := s) Tryd.underlying25 Tryd.sizeOf3 RF RF (by omega) (huz hg25_3).1)) rfl ?_
                  refine qq_gt RF RF (OpY.s (by first | exact y_load_ca0 Tryd.underlying3 rfl RF MM (huz hg25_3).2 rfl | exact LD3)) rfl ?_
                  refine qq_gt RF RF (OpY.s (y_neq RF RF)) rfl ?_
                  refine qq_gt RF RF (OpY.s (y_pick_f RF RF)) rfl ?_
                  refine qq_y (OpY.s (y_pick_t RF RF)) rfl ?_
                  refine qq_y (OpY.s (y_move RF)) rfl ?_
                  refine qq_known (tt := 247) (b' := false) RF (by rw [getD_appL (show s < (priceN m (bestM m).gets m.length).length by omega)]; simp) ?_
                  refine qq_gt RF RF (OpY.s (y_move RF)) rfl ?_
                  refine qq_gt RF RF (OpY.s (y_move RF)) rfl ?_
                  refine qq_gt RF RF (OpY.s (y_geq RF RF)) rfl ?_
                  refine qq_gt RF RF (OpY.s (y_move RF)) rfl ?_
                  refine qq_known (tt := 251) (b' := false) RF (decide_eq_false (by omega)) ?_
                  refine qq_gf RF RF RF rfl ?_
                  refine qq_gf RF RF RF rfl ?_
                  refine qq_gf RF RF RF rfl ?_
                  refine qq_gf RF RF RF rfl ?_
                  refine qq_gf RF RF RF rfl ?_
                  refine qq_gf RF RF RF rfl ?_
                  refine qq_gf RF RF RF rfl ?_
                  refine qq_gf RF RF RF rfl ?_
                  refine qq_gf RF RF RF rfl ?_
                  refine qq_gf RF RF RF rfl ?_
                  refine qq_gf RF RF RF rfl ?_
                  refine qq_gf RF RF RF rfl ?_
                  refine qq_gf RF RF RF rfl ?_
                  refine qq_gf RF RF RF rfl ?_
                  refine qq_gu RF RF rfl ?_
                  refine qq_gu RF RF rfl ?_
                  refine qq_gu RF RF rfl ?_
                  refine qq_gu RF RF rfl ?_
                  refine qq_gu RF RF rfl ?_
                  refine qq_gu RF RF rfl ?_
                  refine qq_gu RF RF rfl ?_
                  refine qq_gu RF RF rfl ?_
                  refine qq_gu RF RF rfl ?_
                  refine qq_gu RF RF rfl ?_
                  refine qq_gu RF RF rfl ?_
                  refine qq_gf RF RF RF rfl ?_
                  refine qq_gt RF RF (OpY.s (y_pick_f RF RF)) rfl ?_
                  refine qq_y (OpY.s (y_pick_f RF RF)) rfl ?_
                  refine qq_nil ?_
                  refine sx_then ?_
                  refine sc_f RF ?_
                  refine sc_skip ?_
                  refine sx_blk ?_
                  refine sx_then ?_
                  refine sc_region ?_
                  refine qs (y_move RF) ?_
                  refine qs (y_add RF RF (by omega)) ?_
                  refine qs (y_assign RF) ?_
                  refine sq_nil ?_
                  refine sx_round (s + 1) ?_ ?_ SU SR
                  · omega
                  · omega
                ·
                  refine qq_gf RF RF RF rfl ?_
                  refine qq_gf RF RF RF rfl ?_
                  refine qq_gf RF RF RF rfl ?_
                  refine qq_gf RF RF RF rfl ?_
                  refine qq_gf RF RF RF rfl ?_
                  refine qq_gf RF RF RF rfl ?_
                  refine qq_gf RF RF RF rfl ?_
                  refine qq_gf RF RF RF rfl ?_
                  refine qq_gf RF RF RF rfl ?_
                  refine qq_gf RF RF RF rfl ?_
                  refine qq_gu RF RF rfl ?_
                  refine qq_gu RF RF rfl ?_
                  refine qq_gu RF RF rfl ?_
                  refine qq_gu RF RF rfl ?_
                  refine qq_gu RF RF rfl ?_
                  refine qq_gu RF RF rfl ?_
                  refine qq_gu RF RF rfl ?_
                  refine qq_gu RF RF rfl ?_
                  refine qq_gu RF RF rfl ?_
                  refine qq_gf RF RF RF rfl ?_
                  refine qq_y (OpY.s (y_pick_f RF RF)) rfl ?_
                  refine qq_y (OpY.s (y_move RF)) rfl ?_
                  refine qq_gt RF RF (OpY.s (y_move RF)) rfl ?_
                  refine qq_gt RF RF (OpY.s (y_move RF)) rfl ?_
                  refine qq_gt RF RF (OpY.s (y_geq RF RF)) rfl ?_
                  refine qq_gt RF RF (OpY.s (y_move RF)) rfl ?_
                  refine qq_known (tt := 251) (b' := true) RF (decide_eq_true (by omega)) ?_
                  refine qq_gt RF RF (OpY.s (y_move RF)) rfl ?_
                  refine qq_gt RF RF (OpY.s (y_move RF)) rfl ?_
                  refine qq_gt RF RF (OpY.s IA25) rfl ?_
                  refine qq_gt RF RF (OpY.s (by first | exact y_load_ca0 Tryd.underlying3 rfl RF MM hcz rfl | exact LD3)) rfl ?_
                  refine qq_gt RF RF (OpY.s (y_move RF)) rfl ?_
                  refine qq_gt RF RF (OpY.s (y_move RF)) rfl ?_
                  refine qq_gt RF RF (OpY.s (y_move RF)) rfl ?_
                  refine qq_gt RF RF (OpY.s (y_move RF)) rfl ?_
                  refine qq_gt RF RF (OpY.s (y_sub RF RF (by omega))) rfl ?_
                  obtain ⟨j, hj⟩ : ∃ j : Nat, s = m.length + j := ⟨s - m.length, by omega⟩
                  have hjo : j < o.length := by omega
                  have hcj : (joinO m.length (bestM m).gets (bestM o).gets).getD s 0 = (m.length : Int) + (bestM o).gets.getD j 0 := by
                    have h := joinO_r (n := m.length) (a := (bestM m).gets) (b := (bestM o).gets) (i := j) (by omega)
                    rw [hlm] at h
                    rw [hj]; exact h
                  have hwj : ((priceN m (bestM m).gets m.length) ++ (priceN o (bestM o).gets o.length)).getD s 0 = (priceN o (bestM o).gets o.length).getD j 0 := by rw [hj, getD_appR (by omega), hlpm, Nat.add_sub_cancel_left]
                  rw [show (s : Int) - (m.length : Int) = (j : Int) by omega]
                  refine qq_gt RF RF (OpY.s (y_ia_el (i := j) Tryd.underlying25 Tryd.sizeOf3 RF RF (by omega) (hbz hjo).1)) rfl ?_
                  refine qq_gt RF RF (OpY.s (by first | exact y_load_ca0 Tryd.underlying3 rfl RF MM (hbz hjo).2 rfl | exact LD3)) rfl ?_
                  refine qq_gt RF RF (OpY.s (y_add RF RF (by have := (ord_get C.ord hjo); omega))) rfl ?_
                  refine qq_gt RF RF (OpY.s (y_neq RF RF)) rfl ?_
                  refine qq_gt RF RF (OpY.s (y_move RF)) rfl ?_
                  refine qq_known (tt := 265) (b' := false) RF (by rw [hcj]; simp) ?_
                  refine qq_gt RF RF (OpY.s (y_move RF)) rfl ?_
                  refine qq_gt RF RF (OpY.s (y_move RF)) rfl ?_
                  refine qq_gt RF RF (OpY.s IA25) rfl ?_
                  refine qq_gt RF RF (OpY.s (by first | exact y_load_ca0 Tryd.underlying3 rfl RF MM hwz rfl | exact LD3)) rfl ?_
                  refine qq_gt RF RF (OpY.s (y_move RF)) rfl ?_
                  refine qq_gt RF RF (OpY.s (y_move RF)) rfl ?_
                  refine qq_gt RF RF (OpY.s (y_move RF)) rfl ?_
                  refine qq_gt RF RF (OpY.s (y_sub RF RF (by omega))) rfl ?_
                  rw [show (s : Int) - (m.length : Int) = (j : Int) by omega]
                  refine qq_gt RF RF (OpY.s (y_ia_el (i := j) Tryd.underlying25 Tryd.sizeOf3 RF RF (by omega) (hvz hjo).1)) rfl ?_
                  refine qq_gt RF RF (OpY.s (by first | exact y_load_ca0 Tryd.underlying3 rfl RF MM (hvz hjo).2 rfl | exact LD3)) rfl ?_
                  refine qq_gt RF RF (OpY.s (y_neq RF RF)) rfl ?_
                  refine qq_gt RF RF (OpY.s (y_pick_f RF RF)) rfl ?_
                  refine qq_gt RF RF (OpY.s (y_pick_t RF RF)) rfl ?_
                  refine qq_y (OpY.s (y_pick_f RF RF)) rfl ?_
                  refine qq_nil ?_
                  refine sx_then ?_
                  refine sc_f (lk_bool rfl (by rw [hwj]; simp)) ?_
                  refine sc_skip ?_
                  refine sx_blk ?_
                  refine sx_then ?_
                  refine sc_region ?_
                  refine qs (y_move RF) ?_
                  refine qs (y_add RF RF (by omega)) ?_
                  refine qs (y_assign RF) ?_
                  refine sq_nil ?_
                  refine sx_round (s + 1) ?_ ?_ SU SR
                  · omega
                  · omega
              ·
                refine sc_exit ?_
                refine sx_then_exit ?_
                refine sx_round_exit ?_
                refine sx_blk_hit ?_
                refine sx_then ?_
                refine sc_seq ?_
                refine sc_seq ?_
                refine sc_region ?_
                refine qs (y_move RF) ?_
                refine qs (y_eql RF RF) ?_
                refine sq_nil ?_
                refine sx_then ?_
                refine scp (fun hc7 => ?_) (fun hc7 => ?_)
                ·
                  refine sc_seq ?_
                  refine sc_region ?_
                  refine qy (yc Tryd.call15 E0 (fun w1 hw1 => awake15 w1 (CA.at hT hw1 MM))) ?_
                  refine qs (y_assign RF) ?_
                  refine sq_nil ?_
                  refine sx_then ?_
                  refine sc_ret ?_
                  refine sx_then_ret ?_
                  refine sx_ret1 (.inl rfl) rfl Tryd.results12 RF ?_
                  intro w' hw'
                  exact ⟨rfl, hw'.below MM⟩
                ·
                  refine sc_skip ?_
                  refine sx_then ?_
                  refine sc_seq ?_
                  refine sc_region ?_
                  refine qs (y_build (cells := #[.slice none 0 0]) bt24 EvP.nil (by kernel_rfl)) ?_
                  refine sq_alloc Tryd.zeroValue24 rfl (fun b27 => ?_)
                  refine sq_store_all Tryd.sizeOf24 RF RF rfl RM rfl rfl ?_
                  refine sq_nil ?_
                  refine sx_then ?_
                  refine sc_seq ?_
                  refine sc_region ?_
                  refine qs (y_move RF) ?_
                  refine qs (y_conv Tryd.underlying5 Tryd.underlying3 RF (wrap64_in (by omega) (by omega))) ?_
                  refine qs (y_move RF) ?_
                  refine qs (y_rem RF RF (by omega) (by omega)) ?_
                  obtain ⟨g, hgd⟩ : ∃ g : Nat, (out : Int) % (m.length : Int) = (g : Int) ∧ g < m.length := ⟨out % m.length, (Int.natCast_emod _ _).symm, Nat.mod_lt _ (by omega)⟩
                  rw [hgd.1]
                  have hg := hgd.2
                  refine qs (y_assign RF) ?_
                  refine sq_nil ?_
                  refine sx_then ?_
                  refine sc_seq ?_
                  refine sc_seq ?_
                  refine sc_nil_own 25 1 ?_
                  refine sc_region ?_
                  refine qs (y_assign RF) ?_
                  refine sq_nil ?_
                  refine sx_then ?_
                  refine sc_block ?_
                  refine sc_loop (σ := Nat × Value × (Nat → Value))
                    (fun s_ => [(3, .pointer (some ⟨b3, 0, none⟩)), (7, .int .i64 m.length), (12, .int .i64 (bestM m).worth), (27, .pointer (some ⟨b27, 0, none⟩)), (28, .int .i64 g), (29, .int .i64 s_.1)])
                    (fun s_ => [.own s_.2.1 25 1 (cntN g s_.1) (hdM s_.2.2 (cntN g s_.1)), .blk b27 (.cells #[s_.2.1] 24 (0, 0)), .blk b3 (.cells (mV z m).toArray 24 (0, 0)), .reg 0 w] ++ famR 3 1 (m.length - 1) s_.2.2 (fun a => (lessX m g a).flatMap iRow) (cntN g s_.1))
                    (fun s_ => s_.1 ≤ m.length ∧ s_.2.1.oneCell' = true)
                    (fun s_ => m.length - s_.1)
                    ((0, .slice none 0 0, fun _ => .nilFunc)) ?_ SU SR ?_
                  · exact ⟨Nat.zero_le _, rfl⟩
                  rintro ⟨i, sv, vv⟩ ⟨hi, hsv⟩
                  dsimp only at hi hsv ⊢
                  refine sc_seq ?_
                  refine sc_seq ?_
                  refine sc_region ?_
                  refine qs (y_move RF) ?_
                  refine qs (y_move RF) ?_
                  refine qs (y_lss RF RF) ?_
                  refine sq_nil ?_
                  refine sx_then ?_
                  refine scp (fun hc8 => ?_) (fun hc8 => ?_)
                  ·
                    have hi2 : i < m.length := by omega
                    refine sc_skip ?_
                    refine sx_then ?_
                    refine sc_seq ?_
                    refine sc_block ?_
                    refine sc_seq ?_
                    refine sc_region ?_
                    refine qs (y_move RF) ?_
                    refine qs (y_move RF) ?_
                    refine qs (y_neq RF RF) ?_
                    refine sq_nil ?_
                    refine sx_then ?_
                    refine scp (fun hc9 => ?_) (fun hc9 => ?_)
                    ·
                      have hne : i ≠ g := by omega
                      obtain ⟨hs1, hr1, hrow⟩ := hz.row hi2
                      have hrli := hm.row i hi2
                      have hcl := cnt_lt hi2 hg hne
                      have hcc := hcap i hi2
                      refine sc_drawX ([.blk b27 (.cells #[sv] 24 (0, 0)), .blk b3 (.cells (mV z m).toArray 24 (0, 0)), .reg 0 w]) (by kernel_rfl) ?_
                      refine xj_s 0 RF (by kernel_rfl) SR FA24_22 rfl ?_
                      refine xj_s 1 RF (by kernel_rfl) SR LD22 rfl ?_
                      refine xj_s 3 RF (by kernel_rfl) SR FA24_22 rfl ?_
                      refine xj_s 4 RF (by kernel_rfl) SR LD22 rfl ?_
                      refine xj_s 5 RF (by kernel_rfl) SR (y_move RF) rfl ?_
                      refine xj_s 6 RF (by kernel_rfl) SR IA22 rfl ?_
                      refine xj_s 7 RF (by kernel_rfl) SR (by first | exact y_load_ca0 Tryd.underlying25 rfl RF MM hr1 rfl | exact LD25) rfl ?_
                      refine xj_s 8 RF (by kernel_rfl) SR (y_move RF) rfl ?_
                      refine xj_s 9 RF (by kernel_rfl) SR (y_slice_h Tryd.underlying25 Tryd.sizeOf3 RF RF (by omega)) rfl ?_
                      refine xj_s 11 RF (by kernel_rfl) SR FA24_22 rfl ?_
                      refine xj_s 12 RF (by kernel_rfl) SR LD22 rfl ?_
                      refine xj_s 13 RF (by kernel_rfl) SR (y_move RF) rfl ?_
                      refine xj_s 14 RF (by kernel_rfl) SR IA22 rfl ?_
                      refine xj_s 15 RF (by kernel_rfl) SR (by first | exact y_load_ca0 Tryd.underlying25 rfl RF MM hr1 rfl | exact LD25) rfl ?_
                      refine xj_s 16 RF (by kernel_rfl) SR (y_move RF) rfl ?_
                      refine xj_s 17 RF (by kernel_rfl) SR (y_add RF RF (by omega)) rfl ?_
                      rw [show (g : Int) + 1 = ((g + 1 : Nat) : Int) from rfl]
                      refine xj_s 18 RF (by kernel_rfl) SR (y_slice_from (lo := g + 1) Tryd.underlying25 Tryd.sizeOf3 RF RF (by omega)) rfl ?_
                      refine xj_one 2 RF (by kernel_rfl) ?_
                      refine sq_bs Tryd.underlying25 ei3 (EvI.nil) (by simp) rfl rfl rfl (fun b298 => ?_)
                      refine sq_blk_own0 (sz := 1) (c := 0) RM rfl (Nat.zero_le _) ?_
                      refine sq_nil ?_
                      refine sx_xp SR ?_
                      refine xj_one 10 RF (by kernel_rfl) ?_
                      refine sq_append_rows (news := ((m.getD i []).take g).flatMap iRow) (mm := g) Tryd.underlying25 ei3 Tryd.sizeOf3 rfl (by decide) RF RM RF (fun h => by have := hrow.noa h; omega) (by rw [iflat_len, List.length_take, hrli, Nat.mul_one]; omega) (fun ad had w1 hw1 => RowsA.cells (row := iRow) iRow_len (by decide) (by rw [← had]; exact (rows_take hrow g).at hw1 MM)) (iflat_one _) (by omega) rfl (fun v306 ho306 => ?_)
                      rw [Nat.zero_add g, List.nil_append]
                      refine sq_nil ?_
                      refine sx_xp SR ?_
                      refine xj_one 19 RF (by kernel_rfl) ?_
                      refine sq_append_rows (news := ((m.getD i []).drop (g + 1)).flatMap iRow) (mm := (m.getD i []).length - (g + 1)) Tryd.underlying25 ei3 Tryd.sizeOf3 rfl (by decide) RF RM RF (fun h => loA_none (fun h2 => by have := hrow.noa h2; omega) h) (by rw [iflat_len, List.length_drop, Nat.mul_one]) (fun ad had w1 hw1 => rows_from iRow_len (hrow.at hw1 MM) (hcap i hi2) ad had) (iflat_one _) (by omega) rfl (fun v315 ho315 => ?_)
                      rw [show g + ((m.getD i []).length - (g + 1)) = m.length - 1 by omega, ← List.flatMap_append, show (m.getD i []).take g ++ (m.getD i []).drop (g + 1) = lessX m g (cntN g i) from (lessX_cnt m hne).symm]
                      refine sq_own_dest (v := v315) (e := 3) (sz := 1) (m := m.length - 1) (xs := (lessX m g (cntN g i)).flatMap iRow) MM (fun a315 c315 hv315 hmc315 hn315 => ?_)
                      subst hv315
                      refine sq_nil ?_
                      refine sx_xp SR ?_
                      refine xj_one 20 RF (by kernel_rfl) ?_
                      refine sq_bs Tryd.underlying22 ei25 (EvI.cons RF EvI.nil) (by first | (simp [Value.cells]; done) | (simp [Value.cells]; rfl) | (simp [Value.cells]; and_intros <;> rfl)) rfl rfl rfl (fun b316 => ?_)
                      refine sq_nil ?_
                      refine sx_xp SR ?_
                      refine xj_one 21 RF (by kernel_rfl) ?_
                      refine sq_append (news := [(.slice a315 (m.length - 1) c315)]) Tryd.underlying22 ei25 rfl (by decide) RF RM RF rfl (fun _ hw => news_blk hw MM) (by simp [Value.oneCell']) (by omega) rfl (fun v317 ho317 => ?_)
                      rw [hdM_more]
                      refine sq_nil ?_
                      refine sx_xp SR ?_
                      refine xj_s 22 RF (by kernel_rfl) SR FA24_22 rfl ?_
                      refine xj_one 23 RF (by kernel_rfl) ?_
                      refine sq_store Tryd.sizeOf22 RF RF (by first | rfl | assumption) RM (by first | exact Nat.le_of_ble_eq_true rfl | simp | omega) ?_
                      refine sq_nil ?_
                      refine sx_xpl (by kernel_rfl) ?_
                      refine xj_done (by kernel_rfl) ?_
                      refine sx_blk ?_
                      refine sx_then ?_
                      refine sc_region ?_
                      refine qs (y_move RF) ?_
                      refine qs (y_add RF RF (by omega)) ?_
                      refine qs (y_assign RF) ?_
                      refine sq_nil ?_
                      refine sx_sub (rs' := .own (.slice a315 (m.length - 1) c315) 3 1 (m.length - 1) ((lessX m g (cntN g i)).flatMap iRow) :: ([.own v317 25 1 ((cntN g i) + 1) (hdM (updF vv (cntN g i) (.slice a315 (m.length - 1) c315)) ((cntN g i) + 1)), .blk b27 (.cells #[v317] 24 (0, 0)), .blk b3 (.cells (mV z m).toArray 24 (0, 0)), .reg 0 w] ++ famR 3 1 (m.length - 1) vv (fun a => (lessX m g a).flatMap iRow) (cntN g i))) (SubL.refl _) SR ?_
                      have hfm := fam_more (e := 3) (sz := 1) (n := m.length - 1) (k := (cntN g i)) (v := vv) (v' := updF vv (cntN g i) (.slice a315 (m.length - 1) c315)) (xs := fun a => (lessX m g a).flatMap iRow) (xs' := fun a => (lessX m g a).flatMap iRow) [.own v317 25 1 ((cntN g i) + 1) (hdM (updF vv (cntN g i) (.slice a315 (m.length - 1) c315)) ((cntN g i) + 1)), .blk b27 (.cells #[v317] 24 (0, 0)), .blk b3 (.cells (mV z m).toArray 24 (0, 0)), .reg 0 w] fun j hj => ⟨updF_ne _ _ (by omega), rfl⟩
                      rw [updF_at] at hfm
                      refine sx_fam hfm ?_
                      rw [← cnt_next hne]
                      exact sx_round (i + 1, v317, updF vv (cntN g i) (.slice a315 (m.length - 1) c315)) (by exact ⟨by dsimp only; omega, ho317⟩) (by dsimp only; omega) SU SR
                    ·
                      have hie : i = g := by omega
                      subst hie
                      refine sc_skip ?_
                      refine sx_blk ?_
                      refine sx_then ?_
                      refine sc_region ?_
                      refine qs (y_move RF) ?_
                      refine qs (y_add RF RF (by omega)) ?_
                      refine qs (y_assign RF) ?_
                      refine sq_nil ?_
                      rw [← cnt_skip]
                      exact sx_round (i + 1, sv, vv) (by exact ⟨by dsimp only; omega, hsv⟩) (by dsimp only; omega) SU SR
                  ·
                    have hin : i = m.length := by omega
                    subst hin
                    rw [cnt_all hg]
                    rw [hdM_hdL]
                    refine sc_own_dest (v := sv) (e := 25) (sz := 1) (m := m.length - 1) (xs := hdL vv (m.length - 1) (m.length - 1)) MM (fun af cf' hvf hmcf hnf => ?_)
                    subst hvf
                    refine sc_exit ?_
                    refine sx_then_exit ?_
                    refine sx_round_exit ?_
                    refine sx_blk_hit ?_
                    refine sx_then ?_
                    refine sc_seq ?_
                    refine sc_region ?_
                    refine qs LD24 ?_
                    refine sq_call_new (first := []) (caps := []) (Z := Option Addr × Nat) (fun q => .tuple #[.slice q.1 (bestA (lessM m g)).1.length q.2, .int .i64 (bestA (lessM m g)).2.1, .int .i64 (bestA (lessM m g)).2.2]) (fun lo w' q => RowsA iRow 1 lo w' q.1 (bestA (lessM m g)).1) RF Tryd.call23 (EvL.cons RF EvL.nil) (fun w1 hw1 => best23n w1 ⟨af, cf', fun a => slA (vv a), fun a => slC (vv a)⟩ (lessM m g) lessM_len (rows_at hw1 (e2 := 3) (n := m.length - 1) (v := vv) (X := lessX m g) (fun a ha => lessX_len hm hg ha) MM (fun a ha => by repeat (first | exact fam_mem (v := vv) (xs := fun a => (lessX m g a).flatMap iRow) ha | refine .tail _ ?_)) (by omega)) (CA.at hT hw1 MM)) rfl (fun lo36 wr36 y36 hy36 => ?_)
                    refine qs (y_move RF) ?_
                    refine qs (y_extract RF RF) ?_
                    refine qs (y_extract RF RF) ?_
                    refine qs (y_extract RF RF) ?_
                    refine qs (y_assign RF) ?_
                    refine qs (y_assign RF) ?_
                    refine qs (y_assign RF) ?_
                    refine sq_nil ?_
                    refine sx_then ?_
                    refine sc_seq ?_
                    have hlk := less_mk hbm hg
                    have hle := less_le hbm hg B (bestM_F (mkF hlk))
                    rw [bestA_ok hlk]
                    refine sc_region ?_
                    refine qs (y_move RF) ?_
                    refine qs (y_eql RF RF) ?_
                    refine qs (y_move RF) ?_
                    refine sq_known (tt := 327) (b' := true) RF (rfl) ?_
                    refine qg (y_move RF) ?_
                    refine qg (y_move RF) ?_
                    refine qg (y_leq RF RF) ?_
                    refine qs (y_pick_t RF RF) ?_
                    refine qs (y_move RF) ?_
                    refine sq_known (tt := 332) (b' := true) RF (decide_eq_true hle) ?_
                    refine sq_gt RF RF (y_call (first := []) (caps := []) RF Tryd.call15 EvL.nil (fun w1 hw1 => awake15 w1 (CA.at hT hw1 MM))) rfl ?_
                    refine qs (y_pick_t RF RF) ?_
                    refine qs (y_assign RF) ?_
                    refine sq_nil ?_
                    refine sx_then ?_
                    refine sc_ret ?_
                    refine sx_ret1 (.inl rfl) rfl Tryd.results12 RF ?_
                    intro w' hw'
                    exact ⟨rfl, hw'.below MM⟩
end Go.Proofs.YtpijahglojichaaDoor
