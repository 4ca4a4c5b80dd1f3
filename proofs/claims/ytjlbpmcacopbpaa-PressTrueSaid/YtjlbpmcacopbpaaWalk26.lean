/- The walk of the law PressTrue. -/
import Derived.Test.YtjlbpmcacopbpaaLawM
import Derived.Test.YtjlbpmcacopbpaaWalk23
import Derived.Test.YtjlbpmcacopbpaaOpen
namespace Go.Proofs.Ytjlbpmcacopbpaa
open Go Go.Eng Go.RowKit Go.Proofs
set_option maxRecDepth 100000

theorem tru_take2 {by_ : List Int} {l : List Jb} {k : Nat} (hk' : k < l.length) : (((truT by_ l).map (fun (t : Tm) => t.2)).take k).flatMap iRow ++ [.int .i64 (pickV (l.getD k jb0).lay (byK by_ (2 * k + 1)))] = (((truT by_ l).map (fun (t : Tm) => t.2)).take (k + 1)).flatMap iRow := by
  rw [List.take_add_one, List.getElem?_map]
  unfold truT
  rw [List.getElem?_map, List.getElem?_range hk']; simp [iRow]
theorem tru_take1 {by_ : List Int} {l : List Jb} {k : Nat} (hk' : k < l.length) : (((truT by_ l).map (fun (t : Tm) => t.1)).take k).flatMap iRow ++ [.int .i64 (pickV (l.getD k jb0).print (byK by_ (2 * k)))] = (((truT by_ l).map (fun (t : Tm) => t.1)).take (k + 1)).flatMap iRow := by
  rw [List.take_add_one, List.getElem?_map]
  unfold truT
  rw [List.getElem?_map, List.getElem?_range hk']; simp [iRow]
theorem pick32 (w : World) (q : Sp) (b : Int) (h1 : -1048576 ≤ q.lo) (h2 : q.lo ≤ q.hi) (h3 : q.hi ≤ 1048576) (hb : isH b) : Calls Try.prog 32 #[.agg (spRow q).toArray, .int .u16 b] w fun e w' => e = .returned (.int .i64 (pickV q b)) ∧ Below w.heap.size w w' := by
  unfold isH at hb
  have hr := pick_in h2 b
  unfold pickV at hr
  refine calls_of_SC (args := [.agg (spRow q).toArray, .int .u16 b]) Try.func32 rfl Try.ntmps32 rfl ?_
  simp only [argL, Nat.zero_add]
  refine sc_seq ?_
  refine sc_region ?_
  refine sq_box RF rfl (fun b2 => ?_)
  refine qs (y_assign RF) ?_
  refine sq_nil ?_
  refine sx_then ?_
  refine sc_seq ?_
  refine sc_draw rfl (by kernel_rfl) (by kernel_rfl) ?_
  refine qq_y (OpY.s FA24_3) rfl ?_
  refine qq_y (OpY.s LD3) rfl ?_
  refine qq_y (OpY.s (y_move RF)) rfl ?_
  refine qq_y (OpY.s (y_conv Try.underlying52 Try.underlying3 RF (wrap64_in (by omega) (by omega)))) rfl ?_
  refine qq_y (OpY.s FA24_3) rfl ?_
  refine qq_y (OpY.s LD3) rfl ?_
  refine qq_y (OpY.s FA24_3) rfl ?_
  refine qq_y (OpY.s LD3) rfl ?_
  refine qq_y (OpY.s (y_sub RF RF (by omega))) rfl ?_
  refine qq_y (OpY.s (y_add RF RF (by omega))) rfl ?_
  refine qq_y (OpY.s (y_rem RF RF (by omega) (by omega))) rfl ?_
  refine qq_y (OpY.s (y_add RF RF (by omega))) rfl ?_
  refine qq_y (OpY.s (y_assign RF)) rfl ?_
  refine qq_nil ?_
  refine sx_then ?_
  refine sc_ret ?_
  refine sx_ret1 (.inl rfl) rfl Try.results32 RF ?_
  intro w' hw'
  exact ⟨rfl, hw'.below MM⟩
theorem true6 (w : World) (a : Option Addr) (c : Nat) (l : List Jb) (hl : RowsA jbRow 5 0 w a l) (ah : Option Addr) (ch : Nat) (ls : List Sf) (hs : RowsA sfRow 4 0 w ah ls) (q : Sp) (sheets need : Int) (ay : Option Addr) (cy : Nat) (by_ : List Int) (hy : RowsA hRow 1 0 w ay by_) (iny : ∀ x, x ∈ by_ → isH x) : Calls Try.prog 6 #[.slice a l.length c, .slice ah ls.length ch, .agg (spRow q).toArray, .int .i64 sheets, .int .i64 need, .slice ay by_.length cy] w fun e w' => e = .returned (.bool true) ∧ Below w.heap.size w w' := by
  have hlen := hl.len
  have hlens := hs.len
  have hleny := hy.len
  refine calls_of_SC (args := [.slice a l.length c, .slice ah ls.length ch, .agg (spRow q).toArray, .int .i64 sheets, .int .i64 need, .slice ay by_.length cy]) Try.func6 rfl Try.ntmps6 rfl ?_
  simp only [argL, Nat.reduceAdd, Nat.zero_add]
  refine sc_seq ?_
  refine sc_region ?_
  refine sq_box RF rfl (fun b8 => ?_)
  refine qs (y_assign RF) ?_
  refine sq_nil ?_
  refine sx_then ?_
  refine sc_seq ?_
  refine sc_seq ?_
  refine sc_midE (Z := {v : Bool // v = (decide (12 < (l.length : Int)) || (decide (20 < (ls.length : Int)) || (decide ((by_.length : Int) = 0) || !jobsB l)))}) (fun v => [(0, .slice a l.length c), (1, .slice ah ls.length ch), (3, .int .i64 sheets), (4, .int .i64 need), (5, .slice ay by_.length cy), (8, .pointer (some ⟨b8, 0, none⟩)), (56, .bool v.1)]) (fun _ => [.blk b8 (.cells (spRow q).toArray 24 (0, 0)), .reg 0 w]) ?_ ?_
  ·
    refine sc_region ?_
    refine qs (y_move RF) ?_
    refine qs (y_len Try.underlying34 RF) ?_
    refine qs (y_gtr RF RF) ?_
    refine qs (y_move RF) ?_
    refine sp 42 (fun hg1_3 => ?_) (fun hg1_3 => ?_)
    ·
      refine qf ?_
      refine qf ?_
      refine qf ?_
      refine qs (y_pick_t RF RF) ?_
      refine qs (y_move RF) ?_
      refine qf ?_
      refine qf ?_
      refine qf ?_
      refine qs (y_pick_t RF RF) ?_
      refine qs (y_move RF) ?_
      refine qf ?_
      refine qf ?_
      refine qf ?_
      refine qs (y_pick_t RF RF) ?_
      refine sq_nil ?_
      exact sx_midE (⟨true, by rw [decide_eq_true (show 12 < (l.length : Int) by omega)]; rfl⟩) SU SR
    ·
      refine qg (y_move RF) ?_
      refine qg (y_len Try.underlying22 RF) ?_
      refine qg (y_gtr RF RF) ?_
      refine qs (y_pick_f RF RF) ?_
      refine qs (y_move RF) ?_
      refine sp 47 (fun hg1_8 => ?_) (fun hg1_8 => ?_)
      ·
        refine qf ?_
        refine qf ?_
        refine qf ?_
        refine qs (y_pick_t RF RF) ?_
        refine qs (y_move RF) ?_
        refine qf ?_
        refine qf ?_
        refine qf ?_
        refine qs (y_pick_t RF RF) ?_
        refine sq_nil ?_
        exact sx_midE (⟨true, by rw [decide_eq_true (show 20 < (ls.length : Int) by omega)]; simp⟩) SU SR
      ·
        refine qg (y_move RF) ?_
        refine qg (y_len Try.underlying47 RF) ?_
        refine qg (y_eql RF RF) ?_
        refine qs (y_pick_f RF RF) ?_
        refine qs (y_move RF) ?_
        refine sp 52 (fun hg1_13 => ?_) (fun hg1_13 => ?_)
        ·
          refine qf ?_
          refine qf ?_
          refine qf ?_
          refine qs (y_pick_t RF RF) ?_
          refine sq_nil ?_
          exact sx_midE (⟨true, by rw [decide_eq_true (show (by_.length : Int) = 0 by omega)]; simp⟩) SU SR
        ·
          refine qg (y_move RF) ?_
          refine sq_gt RF RF (y_call (first := []) (caps := []) RF Try.call30 (EvL.cons RF EvL.nil) (fun w1 hw1 => jobs30 w1 a c l (hl.at hw1 MM))) rfl ?_
          refine qg (y_not RF) ?_
          refine qs (y_pick_f RF RF) ?_
          refine sq_nil ?_
          exact sx_midE (⟨_, by rw [decide_eq_false (show ¬ 12 < (l.length : Int) by omega), decide_eq_false (show ¬ 20 < (ls.length : Int) by omega), decide_eq_false (show ¬ (by_.length : Int) = 0 by omega), Bool.false_or, Bool.false_or, Bool.false_or]⟩) SU SR
  rintro ⟨vb, hvb⟩
  try dsimp only
  refine sx_then ?_
  refine scp (fun hc0 => ?_) (fun hc0 => ?_)
  ·
    refine sc_seq ?_
    refine sc_region ?_
    refine qy (yc Try.call13 E0 (fun w1 _ => awake13 w1)) ?_
    refine qs (y_assign RF) ?_
    refine sq_nil ?_
    refine sx_then ?_
    refine sc_ret ?_
    refine sx_then_ret ?_
    refine sx_ret1 (.inl rfl) rfl Try.results6 RF ?_
    intro w' hw'
    exact ⟨rfl, hw'.below MM⟩
  ·
    have hv2 : vb = false := hc0
    rw [hvb, Bool.or_eq_false_iff, Bool.or_eq_false_iff, Bool.or_eq_false_iff] at hv2
    have hl20 : ls.length ≤ 20 := by have := of_decide_eq_false hv2.2.1; omega
    have hyne : 0 < by_.length := by have := of_decide_eq_false hv2.2.2.1; omega
    have hj : jobsB l = true := by simpa using hv2.2.2.2
    have h7 := (jobsB_parts hj).1
    have hjp := (jobsB_parts hj).2
    have hbyk : ∀ i, isH (byK by_ i) := fun i => iny _ (getD_mem (Nat.mod_lt _ hyne))
    have hbys : ∀ i : Nat, ay.isSome = true ∧ CA 0 w (elt ay (i % by_.length) 1) (hRow (byK by_ i)) := fun i => hy.get 0 (Nat.mod_lt _ hyne)
    have hfe := fringe_err ls
    have hF := best_jobs hj
    have hord := (ordB_iff _ _).2 hF.best.perm
    have hch := chk_perm hj hF.best.perm
    obtain ⟨hr1, hr2⟩ := run_ok hch
    have hsl : (runR l (bestR l).1).1.length = l.length := by rw [hr1, spansV_len]
    have hbl : (bestR l).1.length = l.length := by rw [hF.best.perm.length_eq, rngI_len]
    have hhour := hF.hour
    have hTl := truT_len by_ l
    have hTs := truT_sm hj by_
    have hTle := truT_le hj by_
    have hokT : ordOk (truT by_ l) (bestR l).1 := ordOk_perm hTl h7 hTs hF.best.perm
    refine sc_skip ?_
    refine sx_then ?_
    refine sc_seq ?_
    refine sc_region ?_
    refine qs (y_move RF) ?_
    refine qy (yc Try.call14 E1 (fun w1 hw1 => fringe14 w1 ah ch ls (hs.at hw1 MM))) ?_
    refine qs (y_move RF) ?_
    refine qs (y_extract RF RF) ?_
    refine qs (y_extract RF RF) ?_
    refine qs (y_extract RF RF) ?_
    refine sq_alloc Try.zeroValue24 rfl (fun b13 => ?_)
    refine sq_alloc Try.zeroValue24 rfl (fun b14 => ?_)
    refine sq_store_all Try.sizeOf24 RF RF rfl RM rfl rfl ?_
    refine sq_store_all Try.sizeOf24 RF RF rfl RM rfl rfl ?_
    refine qs (y_assign RF) ?_
    refine sq_nil ?_
    refine sx_then ?_
    refine sc_seq ?_
    refine sc_seq ?_
    refine sc_region ?_
    refine qs (y_move RF) ?_
    refine qs (y_eql RF RF) ?_
    refine qs (y_move RF) ?_
    refine qy (yc Try.call31 E1 (fun w1 hw1 => shifts31 w1 ah ch ls (hs.at hw1 MM))) ?_
    refine qs (y_neqb Try.underlying4 RF RF) ?_
    refine sq_nil ?_
    refine sx_then ?_
    refine sc_f (lk_bool rfl (by rw [hfe]; simp)) ?_
    refine sc_skip ?_
    refine sx_then ?_
    refine sc_seq ?_
    refine sc_seq ?_
    refine sc_region ?_
    refine qs (y_move RF) ?_
    refine qs (y_eql RF RF) ?_
    refine sq_nil ?_
    refine sx_then ?_
    refine sc_midE (Z := Unit) (fun _ => [(0, .slice a l.length c), (1, .slice ah ls.length ch), (3, .int .i64 sheets), (4, .int .i64 need), (5, .slice ay by_.length cy), (8, .pointer (some ⟨b8, 0, none⟩))]) (fun _ => [.blk b8 (.cells (spRow q).toArray 24 (0, 0)), .reg 0 w]) ?_ ?_
    ·
      refine scp (fun hc2 => ?_) (fun hc2 => ?_)
      ·
        have hsB : shB ls = true := by rw [← hfe]; exact decide_eq_true (by simpa using hc2)
        have hsP := shB_parts hsB
        have h0 : 0 < ls.length := by omega
        have hfx : (fringeV ls).1 = apartV (ls.map (·.x)) := by unfold fringeV; rw [if_pos hsB]
        have hfy : (fringeV ls).2.1 = apartV (ls.map (·.y)) := by unfold fringeV; rw [if_pos hsB]
        have hxl : (ls.map (·.x)).length = ls.length := List.length_map _
        have hyl : (ls.map (·.y)).length = ls.length := List.length_map _
        have hxg : ∀ i, i < ls.length → (ls.getD i sf0).x = (ls.map (·.x)).getD i sp0 := fun i hi => by rw [List.getD_eq_getElem?_getD, List.getD_eq_getElem?_getD, List.getElem?_map, List.getElem?_eq_getElem hi]; rfl
        have hyg : ∀ i, i < ls.length → (ls.getD i sf0).y = (ls.map (·.y)).getD i sp0 := fun i hi => by rw [List.getD_eq_getElem?_getD, List.getD_eq_getElem?_getD, List.getElem?_map, List.getElem?_eq_getElem hi]; rfl
        have hbx := shB_bd hsB (·.x) (.inl rfl)
        have hby := shB_bd hsB (·.y) (.inr rfl)
        have hX := span_true (xs := (ls.map (·.x))) (by omega) (fun i hi => hbx i (by omega)) (fun i => pickV ((ls.map (·.x)).getD i sp0) (byK by_ i)) (fun i hi => pick_in (by have := hbx i (by omega); omega) _)
        have hY := span_true (xs := (ls.map (·.y))) (by omega) (fun i hi => hby i (by omega)) (fun i => pickV ((ls.map (·.y)).getD i sp0) (byK by_ (i + 1))) (fun i hi => pick_in (by have := hby i (by omega); omega) _)
        rw [hxl, ← hfx] at hX
        rw [hyl, ← hfy] at hY
        refine sc_seq ?_
        refine sc_region ?_
        refine qs (y_build (cells := (spRow ⟨minK (fun i => pickV ((ls.map (·.x)).getD i sp0) (byK by_ i)) 0, maxK (fun i => pickV ((ls.map (·.x)).getD i sp0) (byK by_ i)) 0⟩).toArray) bt24 (EvP.cons RF (EvP.cons RF EvP.nil)) (by kernel_rfl)) ?_
        refine qs (y_build (cells := (spRow ⟨minK (fun i => pickV ((ls.map (·.y)).getD i sp0) (byK by_ (i + 1))) 0, maxK (fun i => pickV ((ls.map (·.y)).getD i sp0) (byK by_ (i + 1))) 0⟩).toArray) bt24 (EvP.cons RF (EvP.cons RF EvP.nil)) (by kernel_rfl)) ?_
        refine sq_alloc Try.zeroValue24 rfl (fun b16 => ?_)
        refine sq_alloc Try.zeroValue24 rfl (fun b17 => ?_)
        refine sq_store_all Try.sizeOf24 RF RF rfl RM rfl rfl ?_
        refine sq_store_all Try.sizeOf24 RF RF rfl RM rfl rfl ?_
        refine sq_nil ?_
        refine sx_then ?_
        refine sc_seq ?_
        refine sc_seq ?_
        refine sc_region ?_
        refine qs (y_assign RF) ?_
        refine sq_nil ?_
        refine sx_then ?_
        refine sc_block ?_
        refine sc_loop (σ := Nat)
          (fun s => [(0, .slice a l.length c), (1, .slice ah ls.length ch), (3, .int .i64 sheets), (4, .int .i64 need), (5, .slice ay by_.length cy), (8, .pointer (some ⟨b8, 0, none⟩)), (13, .pointer (some ⟨b13, 0, none⟩)), (14, .pointer (some ⟨b14, 0, none⟩)), (16, .pointer (some ⟨b16, 0, none⟩)), (17, .pointer (some ⟨b17, 0, none⟩)), (18, .int .i64 s)])
          (fun s => [.blk b16 (.cells (spRow ⟨minK (fun i => pickV ((ls.map (·.x)).getD i sp0) (byK by_ i)) s, maxK (fun i => pickV ((ls.map (·.x)).getD i sp0) (byK by_ i)) s⟩).toArray 24 (0, 0)), .blk b17 (.cells (spRow ⟨minK (fun i => pickV ((ls.map (·.y)).getD i sp0) (byK by_ (i + 1))) s, maxK (fun i => pickV ((ls.map (·.y)).getD i sp0) (byK by_ (i + 1))) s⟩).toArray 24 (0, 0)), .blk b13 (.cells (spRow (fringeV ls).1).toArray 24 (0, 0)), .blk b14 (.cells (spRow (fringeV ls).2.1).toArray 24 (0, 0)), .blk b8 (.cells (spRow q).toArray 24 (0, 0)), .reg 0 w])
          (fun s => s ≤ ls.length)
          (fun s => ls.length - s)
          (0) ?_ SU SR ?_
        · exact Nat.zero_le _
        rintro i hi
        refine sc_seq ?_
        refine sc_seq ?_
        refine sc_region ?_
        refine qs (y_move RF) ?_
        refine qs (y_move RF) ?_
        refine qs (y_len Try.underlying22 RF) ?_
        refine qs (y_lss RF RF) ?_
        refine sq_nil ?_
        refine sx_then ?_
        refine scp (fun hc3 => ?_) (fun hc3 => ?_)
        ·
          have hi' : i < ls.length := by omega
          have hsm := (hs.get sf0 hi').1
          have hca := (hs.get sf0 hi').2
          have hsb := (hbys i).1
          have hcb1 := (hbys i).2
          have hcb2 := (hbys (i + 1)).2
          have hb1 := hbx i hi'
          have hb2 := hby i hi'
          have hgx := hxg i hi'
          have hgy := hyg i hi'
          refine sc_skip ?_
          refine sx_then ?_
          refine sc_seq ?_
          refine sc_block ?_
          refine sc_seq ?_
          refine sc_draw rfl (by kernel_rfl) (by kernel_rfl) ?_
          refine qq_y (OpY.s (y_move RF)) rfl ?_
          refine qq_y (OpY.s (y_move RF)) rfl ?_
          refine qq_y (OpY.s IA22) rfl ?_
          refine qq_y (OpY.s FA51_24) rfl ?_
          refine qq_y (OpY.s (by first | exact y_load_capart (vs := spRow (ls.getD i sf0).x) Try.underlying24 rfl Try.sizeOf24 RF MM hca rfl | exact LD24)) rfl ?_
          refine qq_y (OpY.s (y_move RF)) rfl ?_
          refine qq_y (OpY.s (y_move RF)) rfl ?_
          refine qq_y (OpY.s (y_move RF)) rfl ?_
          refine qq_y (OpY.s (y_len Try.underlying47 RF)) rfl ?_
          refine qq_y (OpY.s (y_rem RF RF (by omega) (by omega))) rfl ?_
          refine qq_y (OpY.s (by first | exact y_ia_blk Try.underlying47 Try.sizeOf52 RF (by exact lk_int rfl ((Int.natCast_emod (i) by_.length).symm)) (Nat.mod_lt _ hyne) | exact y_ia_el Try.underlying47 Try.sizeOf52 RF (by exact lk_int rfl ((Int.natCast_emod (i) by_.length).symm)) (Nat.mod_lt _ hyne) (by first | assumption | simp))) rfl ?_
          refine qq_y (OpY.s (by first | exact y_load_ca0 (vs := hRow (byK by_ i)) Try.underlying52 rfl RF MM hcb1 rfl | exact LD52)) rfl ?_
          refine qq_y (y_call (first := []) (caps := []) RF Try.call32 (EvL.cons RF (EvL.cons RF EvL.nil)) (fun w1 _ => pick32 w1 _ _ (by rw [hgx]; omega) (by rw [hgx]; omega) (by rw [hgx]; omega) (hbyk i))) rfl ?_
          refine qq_y (OpY.s (y_move RF)) rfl ?_
          refine qq_y (OpY.s (y_move RF)) rfl ?_
          refine qq_y (OpY.s IA22) rfl ?_
          refine qq_y (OpY.s FA51_24) rfl ?_
          refine qq_y (OpY.s (by first | exact y_load_capart (vs := spRow (ls.getD i sf0).y) Try.underlying24 rfl Try.sizeOf24 RF MM hca rfl | exact LD24)) rfl ?_
          refine qq_y (OpY.s (y_move RF)) rfl ?_
          refine qq_y (OpY.s (y_move RF)) rfl ?_
          refine qq_y (OpY.s (y_add RF RF (by omega))) rfl ?_
          refine qq_y (OpY.s (y_move RF)) rfl ?_
          refine qq_y (OpY.s (y_len Try.underlying47 RF)) rfl ?_
          refine qq_y (OpY.s (y_rem RF RF (by omega) (by omega))) rfl ?_
          refine qq_y (OpY.s (by first | exact y_ia_blk Try.underlying47 Try.sizeOf52 RF (by exact lk_int rfl ((Int.natCast_emod (i + 1) by_.length).symm)) (Nat.mod_lt _ hyne) | exact y_ia_el Try.underlying47 Try.sizeOf52 RF (by exact lk_int rfl ((Int.natCast_emod (i + 1) by_.length).symm)) (Nat.mod_lt _ hyne) (by first | assumption | simp))) rfl ?_
          refine qq_y (OpY.s (by first | exact y_load_ca0 (vs := hRow (byK by_ (i + 1))) Try.underlying52 rfl RF MM hcb2 rfl | exact LD52)) rfl ?_
          refine qq_y (y_call (first := []) (caps := []) RF Try.call32 (EvL.cons RF (EvL.cons RF EvL.nil)) (fun w1 _ => pick32 w1 _ _ (by rw [hgy]; omega) (by rw [hgy]; omega) (by rw [hgy]; omega) (hbyk (i + 1)))) rfl ?_
          refine qq_y (OpY.s (y_assign RF)) rfl ?_
          refine qq_y (OpY.s (y_assign RF)) rfl ?_
          rw [hgx, hgy]
          refine qq_nil ?_
          refine sx_then ?_
          refine sc_drawX ([.blk b17 (.cells (spRow ⟨minK (fun i => pickV ((ls.map (·.y)).getD i sp0) (byK by_ (i + 1))) i, maxK (fun i => pickV ((ls.map (·.y)).getD i sp0) (byK by_ (i + 1))) i⟩).toArray 24 (0, 0)), .reg 0 w]) (by kernel_rfl) ?_
          refine xj_s 0 RF (by kernel_rfl) SR FA24_3 rfl ?_
          refine xj_s 2 RF (by kernel_rfl) SR (y_move RF) rfl ?_
          refine xj_s 4 RF (by kernel_rfl) SR FA24_3 rfl ?_
          refine xj_s 6 RF (by kernel_rfl) SR (y_move RF) rfl ?_
          refine xj_s 9 RF (by kernel_rfl) SR FA24_3 rfl ?_
          refine xj_s 10 RF (by kernel_rfl) SR LD3 rfl ?_
          refine xj_s 11 RF (by kernel_rfl) SR (y_move RF) rfl ?_
          refine xj_s 12 RF (by kernel_rfl) SR (y_min RF RF) rfl ?_
          refine xj_s 13 RF (by kernel_rfl) SR FA24_3 rfl ?_
          refine xj_s 14 RF (by kernel_rfl) SR LD3 rfl ?_
          refine xj_s 15 RF (by kernel_rfl) SR (y_move RF) rfl ?_
          refine xj_s 16 RF (by kernel_rfl) SR (y_max RF RF) rfl ?_
          refine xj_all (l := [1, 5]) (by kernel_rfl) (by simp) (Each.cons ⟨_, rfl, ?_⟩ (Each.cons ⟨_, rfl, ?_⟩ Each.nil))
          ·
            refine qs LD3 ?_
            refine sq_nil ?_
            refine sx_xp SR ?_
            refine xj_s 3 RF (by kernel_rfl) SR (y_min RF RF) rfl ?_
            refine xj_one 5 RF (by kernel_rfl) ?_
            refine qs LD3 ?_
            refine sq_nil ?_
            refine sx_xp SR ?_
            refine xj_s 7 RF (by kernel_rfl) SR (y_max RF RF) rfl ?_
            refine xj_one 8 RF (by kernel_rfl) ?_
            refine qy (yc Try.call33 E2 (fun w1 _ => span33 w1 _ _)) ?_
            refine sq_nil ?_
            refine sx_xp SR ?_
            refine xj_one 17 RF (by kernel_rfl) ?_
            refine qy (yc Try.call33 E2 (fun w1 _ => span33 w1 _ _)) ?_
            refine sq_nil ?_
            refine sx_xp SR ?_
            refine xj_one 18 RF (by kernel_rfl) ?_
            refine sq_store_all Try.sizeOf24 RF RF rfl RM rfl rfl ?_
            refine sq_nil ?_
            refine sx_xp SR ?_
            refine xj_one 19 RF (by kernel_rfl) ?_
            refine sq_store_all Try.sizeOf24 RF RF rfl RM rfl rfl ?_
            refine sq_nil ?_
            refine sx_xpl (by kernel_rfl) ?_
            refine xj_done (by kernel_rfl) ?_
            refine sx_blk ?_
            refine sx_then ?_
            refine sc_region ?_
            refine qs (y_move RF) ?_
            refine qs (y_add RF RF (by omega)) ?_
            refine qs (y_assign RF) ?_
            refine sq_nil ?_
            refine sx_round (i + 1) ?_ ?_ SU SR
            · omega
            · omega
          ·
            refine qs LD3 ?_
            refine sq_nil ?_
            refine sx_xp SR ?_
            refine xj_s 7 RF (by kernel_rfl) SR (y_max RF RF) rfl ?_
            refine xj_one 1 RF (by kernel_rfl) ?_
            refine qs LD3 ?_
            refine sq_nil ?_
            refine sx_xp SR ?_
            refine xj_s 3 RF (by kernel_rfl) SR (y_min RF RF) rfl ?_
            refine xj_one 8 RF (by kernel_rfl) ?_
            refine qy (yc Try.call33 E2 (fun w1 _ => span33 w1 _ _)) ?_
            refine sq_nil ?_
            refine sx_xp SR ?_
            refine xj_one 17 RF (by kernel_rfl) ?_
            refine qy (yc Try.call33 E2 (fun w1 _ => span33 w1 _ _)) ?_
            refine sq_nil ?_
            refine sx_xp SR ?_
            refine xj_one 18 RF (by kernel_rfl) ?_
            refine sq_store_all Try.sizeOf24 RF RF rfl RM rfl rfl ?_
            refine sq_nil ?_
            refine sx_xp SR ?_
            refine xj_one 19 RF (by kernel_rfl) ?_
            refine sq_store_all Try.sizeOf24 RF RF rfl RM rfl rfl ?_
            refine sq_nil ?_
            refine sx_xpl (by kernel_rfl) ?_
            refine xj_done (by kernel_rfl) ?_
            refine sx_blk ?_
            refine sx_then ?_
            refine sc_region ?_
            refine qs (y_move RF) ?_
            refine qs (y_add RF RF (by omega)) ?_
            refine qs (y_assign RF) ?_
            refine sq_nil ?_
            refine sx_round (i + 1) ?_ ?_ SU SR
            · omega
            · omega
        ·
          have hin : i = ls.length := by omega
          subst hin
          refine sc_exit ?_
          refine sx_then_exit ?_
          refine sx_round_exit ?_
          refine sx_blk_hit ?_
          refine sx_then ?_
          refine sc_seq ?_
          refine sc_region ?_
          refine qs FA24_3 ?_
          refine qs LD3 ?_
          refine qs FA24_3 ?_
          refine qs LD3 ?_
          refine qs (y_sub RF RF (by dsimp only; omega)) ?_
          refine qs FA24_3 ?_
          refine qs LD3 ?_
          refine qs (y_lss RF RF) ?_
          refine qs (y_move RF) ?_
          refine sq_known (tt := 132) (b' := false) RF (decide_eq_false (by dsimp only; omega)) ?_
          refine qg FA24_3 ?_
          refine qg LD3 ?_
          refine qg FA24_3 ?_
          refine qg LD3 ?_
          refine qg (y_sub RF RF (by dsimp only; omega)) ?_
          refine qg FA24_3 ?_
          refine qg LD3 ?_
          refine qg (y_gtr RF RF) ?_
          refine qs (y_pick_f RF RF) ?_
          refine qs (y_move RF) ?_
          refine sq_known (tt := 142) (b' := false) RF (decide_eq_false (by dsimp only; omega)) ?_
          refine qg FA24_3 ?_
          refine qg LD3 ?_
          refine qg FA24_3 ?_
          refine qg LD3 ?_
          refine qg (y_sub RF RF (by dsimp only; omega)) ?_
          refine qg FA24_3 ?_
          refine qg LD3 ?_
          refine qg (y_lss RF RF) ?_
          refine qs (y_pick_f RF RF) ?_
          refine qs (y_move RF) ?_
          refine sq_known (tt := 152) (b' := false) RF (decide_eq_false (by dsimp only; omega)) ?_
          refine qg FA24_3 ?_
          refine qg LD3 ?_
          refine qg FA24_3 ?_
          refine qg LD3 ?_
          refine qg (y_sub RF RF (by dsimp only; omega)) ?_
          refine qg FA24_3 ?_
          refine qg LD3 ?_
          refine qg (y_gtr RF RF) ?_
          refine qs (y_pick_f RF RF) ?_
          refine sq_nil ?_
          refine sx_then ?_
          refine sc_f (lk_bool rfl (decide_eq_false (by dsimp only; omega))) ?_
          refine sc_skip ?_
          exact sx_midE (()) SU SR
      ·
        refine sc_skip ?_
        exact sx_midE (()) SU SR
    rintro ⟨⟩
    try dsimp only
    refine sx_then ?_
    refine sc_seq ?_
    refine sc_region ?_
    refine qs LD24 ?_
    refine qs (y_move RF) ?_
    refine qy (yc Try.call18 E2 (fun w1 _ => sheets18 w1 q need)) ?_
    refine qs (y_move RF) ?_
    refine qs (y_extract RF RF) ?_
    refine qs (y_extract RF RF) ?_
    refine qs (y_assign RF) ?_
    refine qs (y_assign RF) ?_
    refine sq_nil ?_
    refine sx_then ?_
    refine sc_seq ?_
    refine sc_seq ?_
    refine sc_region ?_
    refine qs (y_move RF) ?_
    refine qs (y_eql RF RF) ?_
    refine sq_nil ?_
    refine sx_then ?_
    refine sc_midE (Z := {sh : Int // (sheetsR q need).2 = 0 → sh = (sheetsR q need).1}) (fun z => [(0, .slice a l.length c), (1, .slice ah ls.length ch), (3, .int .i64 z.1), (4, .int .i64 need), (5, .slice ay by_.length cy), (8, .pointer (some ⟨b8, 0, none⟩)), (22, .int .i64 (sheetsR q need).2)]) (fun _ => [.blk b8 (.cells (spRow q).toArray 24 (0, 0)), .reg 0 w]) ?_ ?_
    ·
      refine scp (fun hc5 => ?_) (fun hc5 => ?_)
      ·
        refine sc_region ?_
        refine qs (y_move RF) ?_
        refine qs (y_assign RF) ?_
        refine sq_nil ?_
        exact sx_midE (⟨(sheetsR q need).1, fun _ => rfl⟩) SU SR
      ·
        refine sc_skip ?_
        exact sx_midE (⟨sheets, fun h => absurd h hc5⟩) SU SR
    rintro ⟨sh, hsh⟩
    try dsimp only
    refine sx_then ?_
    refine sc_seq ?_
    refine sc_region ?_
    refine qs LD24 ?_
    refine qs (y_move RF) ?_
    refine qy (yc Try.call16 E2 (fun w1 _ => good16 w1 q sh)) ?_
    refine qs (y_move RF) ?_
    refine qs (y_extract RF RF) ?_
    refine qs (y_extract RF RF) ?_
    refine sq_alloc Try.zeroValue24 rfl (fun b23 => ?_)
    refine sq_store_all Try.sizeOf24 RF RF rfl RM rfl rfl ?_
    refine qs (y_assign RF) ?_
    refine sq_nil ?_
    refine sx_then ?_
    refine sc_seq ?_
    refine sc_seq ?_
    refine sc_region ?_
    refine qs (y_move RF) ?_
    refine qs (y_eql RF RF) ?_
    refine sq_nil ?_
    refine sx_then ?_
    refine sc_midE (Z := Unit) (fun _ => [(0, .slice a l.length c), (1, .slice ah ls.length ch), (3, .int .i64 sh), (4, .int .i64 need), (5, .slice ay by_.length cy), (8, .pointer (some ⟨b8, 0, none⟩))]) (fun _ => [.blk b8 (.cells (spRow q).toArray 24 (0, 0)), .reg 0 w]) ?_ ?_
    ·
      refine scp (fun hc6 => ?_) (fun hc6 => ?_)
      ·
        obtain ⟨hgs, hsr, hgv⟩ := good_yes (s := q) (n := sh) (by simpa using hc6)
        rw [hgv]
        have hqp := spB_parts hgs
        have hmm := mul_mono hsr hqp.1 hqp.2.1 hqp.2.2
        have hsb := (hbys 0).1
        have hcb0 := (hy.get 0 hyne).2
        have hib0 := iny _ (getD_mem (d := 0) hyne)
        obtain ⟨bd, hbd⟩ : ∃ b, pickV ⟨sh * q.lo / 1000, (sh * q.hi + 999) / 1000⟩ (by_.getD 0 0) = b := ⟨_, rfl⟩
        have hbi := pick_in (s := ⟨sh * q.lo / 1000, (sh * q.hi + 999) / 1000⟩) (by dsimp only; omega) (by_.getD 0 0)
        rw [hbd] at hbi
        dsimp only at hbi
        obtain ⟨g, hg⟩ : ∃ g, goodV q sh = g := ⟨_, rfl⟩
        have hglo : g.lo = sh - (sh * q.hi + 999) / 1000 := by rw [← hg]; rfl
        have hghi : g.hi = sh - sh * q.lo / 1000 := by rw [← hg]; rfl
        rw [hg]
        have hnd : (sheetsR q need).2 = 0 → ¬ sh - bd < need := fun h => by
          have hSF := sheets_ok h
          have h1 := hSF.enough
          have h2 := hSF.val
          rw [← h2, ← hsh h, hg, hglo] at h1
          omega
        refine sc_seq ?_
        refine sc_seq ?_
        refine sc_region ?_
        refine qs LD24 ?_
        refine qy (yc Try.call34 E1 (fun w1 _ => spoil34 w1 q)) ?_
        refine qs (y_not RF) ?_
        refine qs (y_move RF) ?_
        refine sq_known (tt := 182) (b' := false) RF (by simp [hgs]) ?_
        refine qg (y_move RF) ?_
        refine qg (y_lss RF RF) ?_
        refine qs (y_pick_f RF RF) ?_
        refine qs (y_move RF) ?_
        refine sq_known (tt := 186) (b' := false) RF (decide_eq_false (by omega)) ?_
        refine qg (y_move RF) ?_
        refine qg (y_gtr RF RF) ?_
        refine qs (y_pick_f RF RF) ?_
        refine sq_nil ?_
        refine sx_then ?_
        refine sc_f (lk_bool rfl (decide_eq_false (by omega))) ?_
        refine sc_skip ?_
        refine sx_then ?_
        refine sc_seq ?_
        refine sc_draw rfl (by kernel_rfl) (by kernel_rfl) ?_
        refine qq_y (OpY.s (y_move RF)) rfl ?_
        refine qq_y (OpY.s FA24_3) rfl ?_
        refine qq_y (OpY.s LD3) rfl ?_
        refine qq_y (OpY.s (y_mul RF RF (by omega))) rfl ?_
        refine qq_y (OpY.s (y_quo RF RF (by omega) (by omega))) rfl ?_
        refine qq_y (OpY.s (y_move RF)) rfl ?_
        refine qq_y (OpY.s FA24_3) rfl ?_
        refine qq_y (OpY.s LD3) rfl ?_
        refine qq_y (OpY.s (y_mul RF RF (by omega))) rfl ?_
        refine qq_y (OpY.s (y_add RF RF (by omega))) rfl ?_
        refine qq_y (OpY.s (y_quo RF RF (by omega) (by omega))) rfl ?_
        refine qq_y (y_call (first := []) (caps := []) RF Try.call33 (EvL.cons RF (EvL.cons RF EvL.nil)) (fun w1 _ => span33 w1 _ _)) rfl ?_
        refine qq_y (OpY.s (y_move RF)) rfl ?_
        refine qq_y (OpY.s (by first | exact y_ia_blk Try.underlying47 Try.sizeOf52 RF (show _ = some (Value.int .i64 ((0 : Nat) : Int)) from rfl) (by omega) | exact y_ia_el Try.underlying47 Try.sizeOf52 RF (show _ = some (Value.int .i64 ((0 : Nat) : Int)) from rfl) (by omega) (by first | assumption | simp))) rfl ?_
        refine qq_y (OpY.s (by first | exact y_load_ca0 (vs := hRow (by_.getD 0 0)) Try.underlying52 rfl RF MM hcb0 rfl | exact LD52)) rfl ?_
        refine qq_y (y_call (first := []) (caps := []) RF Try.call32 (EvL.cons RF (EvL.cons RF EvL.nil)) (fun w1 _ => pick32 w1 ⟨sh * q.lo / 1000, (sh * q.hi + 999) / 1000⟩ _ (by dsimp only; omega) (by dsimp only; omega) (by dsimp only; omega) hib0)) rfl ?_
        rw [hbd]
        refine qq_y (OpY.s (y_assign RF)) rfl ?_
        refine qq_nil ?_
        refine sx_then ?_
        refine sc_seq ?_
        refine sc_midE (Z := {v : Bool // v = false}) (fun v => [(0, .slice a l.length c), (1, .slice ah ls.length ch), (3, .int .i64 sh), (4, .int .i64 need), (5, .slice ay by_.length cy), (8, .pointer (some ⟨b8, 0, none⟩)), (230, .bool v.1)]) (fun _ => [.blk b8 (.cells (spRow q).toArray 24 (0, 0)), .reg 0 w]) ?_ ?_
        ·
          refine sc_region ?_
          refine qs (y_move RF) ?_
          refine qs (y_move RF) ?_
          refine qs (y_sub RF RF (by omega)) ?_
          refine qs FA24_3 ?_
          refine qs LD3 ?_
          refine qs (y_lss RF RF) ?_
          refine qs (y_move RF) ?_
          refine sq_known (tt := 212) (b' := false) RF (decide_eq_false (by rw [hglo]; omega)) ?_
          refine qg (y_move RF) ?_
          refine qg (y_move RF) ?_
          refine qg (y_sub RF RF (by omega)) ?_
          refine qg FA24_3 ?_
          refine qg LD3 ?_
          refine qg (y_gtr RF RF) ?_
          refine qs (y_pick_f RF RF) ?_
          refine qs (y_move RF) ?_
          refine sq_known (tt := 220) (b' := false) RF (decide_eq_false (by rw [hghi]; omega)) ?_
          refine qg (y_move RF) ?_
          refine qg (y_eql RF RF) ?_
          refine qg (y_move RF) ?_
          refine sp 223 (fun hg23_17 => ?_) (fun hg23_17 => ?_)
          ·
            refine qg (y_move RF) ?_
            refine qg (y_move RF) ?_
            refine qg (y_sub RF RF (by omega)) ?_
            refine qg (y_move RF) ?_
            refine qg (y_lss RF RF) ?_
            refine qg (y_pick_t RF RF) ?_
            refine qs (y_pick_f RF RF) ?_
            refine sq_nil ?_
            exact sx_midE (⟨decide (sh - bd < need), decide_eq_false (hnd hg23_17)⟩) SU SR
          ·
            refine qf ?_
            refine qf ?_
            refine qf ?_
            refine qf ?_
            refine qf ?_
            refine qg (y_pick_f RF RF) ?_
            refine qs (y_pick_f RF RF) ?_
            refine sq_nil ?_
            exact sx_midE (⟨false, rfl⟩) SU SR
        rintro ⟨_, rfl⟩
        try dsimp only
        refine sx_then ?_
        refine sc_f (lk_bool rfl (rfl)) ?_
        refine sc_skip ?_
        exact sx_midE (()) SU SR
      ·
        refine sc_skip ?_
        exact sx_midE (()) SU SR
    rintro ⟨⟩
    try dsimp only
    refine sx_then ?_
    refine sc_seq ?_
    refine sc_region ?_
    refine qs (y_move RF) ?_
    refine sq_call_new (first := []) (caps := []) (Z := Option Addr × Nat) (fun z => .tuple #[.slice z.1 (bestR l).1.length z.2, .int .i64 (bestR l).2.1, .int .i64 (bestR l).2.2]) (fun lo w' z => RowsA iRow 1 lo w' z.1 (bestR l).1) RF Try.call27 (EvL.cons RF EvL.nil) (fun w1 hw1 => best27s w1 a c l (hl.at hw1 MM)) rfl (fun lo25 wr25 z25 hz25 => ?_)
    refine qs (y_move RF) ?_
    refine qs (y_extract RF RF) ?_
    refine qs (y_extract RF RF) ?_
    refine qs (y_extract RF RF) ?_
    refine qs (y_assign RF) ?_
    refine qs (y_assign RF) ?_
    refine qs (y_assign RF) ?_
    refine sq_nil ?_
    refine sx_then ?_
    refine sc_seq ?_
    refine sc_seq ?_
    refine sc_region ?_
    refine qs (y_move RF) ?_
    refine qs (y_neq RF RF) ?_
    refine sq_nil ?_
    refine sx_then ?_
    refine sc_f (lk_bool rfl (by simp [(best_jobs hj).err])) ?_
    refine sc_skip ?_
    refine sx_then ?_
    refine sc_seq ?_
    refine sc_region ?_
    refine sq_alloc Try.zeroValue56 rfl (fun b29 => ?_)
    refine sq_nil ?_
    refine sx_then ?_
    refine sc_seq ?_
    refine sc_seq ?_
    refine sc_nil_own 3 1 ?_
    refine sc_nil_own 3 1 ?_
    refine sc_region ?_
    refine qs (y_assign RF) ?_
    refine sq_nil ?_
    refine sx_then ?_
    refine sc_block ?_
    refine sc_loop (σ := Nat × Value × Value)
      (fun s => [(0, .slice a l.length c), (5, .slice ay by_.length cy), (26, .slice z25.1 (bestR l).1.length z25.2), (27, .int .i64 (bestR l).2.1), (29, .pointer (some ⟨b29, 0, none⟩)), (30, .int .i64 s.1)])
      (fun s => [.own s.2.1 3 1 s.1 ((((truT by_ l).map (fun (t : Tm) => t.1)).take s.1).flatMap iRow), .own s.2.2 3 1 s.1 ((((truT by_ l).map (fun (t : Tm) => t.2)).take s.1).flatMap iRow), .blk b29 (.cells #[s.2.1, s.2.2] 56 (0, 0)), .reg lo25 wr25, .reg 0 w])
      (fun s => s.1 ≤ l.length ∧ s.2.1.oneCell' = true ∧ s.2.2.oneCell' = true)
      (fun s => l.length - s.1)
      ((0, .slice none 0 0, .slice none 0 0)) ?_ SU SR ?_
    · exact ⟨Nat.zero_le _, rfl, rfl⟩
    rintro ⟨k, v1, v2⟩ ⟨hk, hv1, hv2⟩
    dsimp only at hk hv1 hv2 ⊢
    refine sc_seq ?_
    refine sc_seq ?_
    refine sc_region ?_
    refine qs (y_move RF) ?_
    refine qs (y_move RF) ?_
    refine qs (y_len Try.underlying34 RF) ?_
    refine qs (y_lss RF RF) ?_
    refine sq_nil ?_
    refine sx_then ?_
    refine scp (fun hc10 => ?_) (fun hc10 => ?_)
    ·
      have hk' : k < l.length := by omega
      have hsm := (hl.get jb0 hk').1
      have hca := (hl.get jb0 hk').2
      have hsb := (hbys (2 * k)).1
      have hcb1 := (hbys (2 * k)).2
      have hcb2 := (hbys (2 * k + 1)).2
      have hjk := hjp _ (getD_mem (d := jb0) hk')
      refine sc_skip ?_
      refine sx_then ?_
      refine sc_seq ?_
      refine sc_block ?_
      refine sc_seq ?_
      refine sc_drawX ([.blk b29 (.cells #[v1, v2] 56 (0, 0)), .reg 0 w]) (by kernel_rfl) ?_
      refine xj_s 0 RF (by kernel_rfl) SR FA56_35 rfl ?_
      refine xj_s 1 RF (by kernel_rfl) SR LD35 rfl ?_
      refine xj_s 2 RF (by kernel_rfl) SR (y_move RF) rfl ?_
      refine xj_s 3 RF (by kernel_rfl) SR (y_move RF) rfl ?_
      refine xj_s 4 RF (by kernel_rfl) SR IA34 rfl ?_
      refine xj_s 5 RF (by kernel_rfl) SR FA58_24 rfl ?_
      refine xj_s 6 RF (by kernel_rfl) SR LD24 rfl ?_
      refine xj_s 7 RF (by kernel_rfl) SR (y_move RF) rfl ?_
      refine xj_s 8 RF (by kernel_rfl) SR (y_move RF) rfl ?_
      refine xj_s 9 RF (by kernel_rfl) SR (y_mul RF RF (by omega)) rfl ?_
      refine xj_s 10 RF (by kernel_rfl) SR (y_move RF) rfl ?_
      refine xj_s 11 RF (by kernel_rfl) SR (y_len Try.underlying47 RF) rfl ?_
      refine xj_s 12 RF (by kernel_rfl) SR (y_rem RF RF (by omega) (by omega)) rfl ?_
      refine xj_s 13 RF (by kernel_rfl) SR (by first | exact y_ia_blk Try.underlying47 Try.sizeOf52 RF (by exact lk_int rfl ((Int.natCast_emod (2 * k) by_.length).symm)) (Nat.mod_lt _ hyne) | exact y_ia_el Try.underlying47 Try.sizeOf52 RF (by exact lk_int rfl ((Int.natCast_emod (2 * k) by_.length).symm)) (Nat.mod_lt _ hyne) (by first | assumption | simp)) rfl ?_
      refine xj_s 14 RF (by kernel_rfl) SR (by first | exact y_load_ca0 (vs := hRow (byK by_ (2 * k))) Try.underlying52 rfl RF MM hcb1 rfl | exact LD52) rfl ?_
      refine xj_one 15 RF (by kernel_rfl) ?_
      refine qy (yc Try.call32 E2 (fun w1 _ => pick32 w1 _ _ (by omega) (by omega) (by omega) (hbyk (2 * k)))) ?_
      refine sq_nil ?_
      refine sx_xp SR ?_
      refine xj_one 16 RF (by kernel_rfl) ?_
      refine sq_bs Try.underlying35 ei3 (EvI.cons RF EvI.nil) (by first | (simp [Value.cells]; done) | (simp [Value.cells]; rfl) | (simp [Value.cells]; and_intros <;> rfl)) rfl rfl rfl (fun b261 => ?_)
      refine sq_nil ?_
      refine sx_xp SR ?_
      refine xj_one 17 RF (by kernel_rfl) ?_
      refine sq_append (news := [.int .i64 (pickV (l.getD k jb0).print (byK by_ (2 * k)))]) Try.underlying35 ei3 rfl (by decide) RF RM RF rfl (fun _ hw => news_blk hw MM) (by simp [Value.oneCell']) (by omega) rfl (fun v262 ho262 => ?_)
      rw [tru_take1 hk']
      refine sq_nil ?_
      refine sx_xp SR ?_
      refine xj_s 18 RF (by kernel_rfl) SR FA56_35 rfl ?_
      refine xj_one 19 RF (by kernel_rfl) ?_
      refine sq_store Try.sizeOf35 RF RF (by first | rfl | assumption) RM (by first | exact Nat.le_of_ble_eq_true rfl | simp | omega) ?_
      refine sq_nil ?_
      refine sx_xpl (by kernel_rfl) ?_
      refine xj_done (by kernel_rfl) ?_
      refine sx_then ?_
      refine sc_drawX ([.blk b29 (.cells #[v262, v2] 56 (0, 0)), .reg 0 w]) (by kernel_rfl) ?_
      refine xj_s 0 RF (by kernel_rfl) SR FA56_35 rfl ?_
      refine xj_s 1 RF (by kernel_rfl) SR LD35 rfl ?_
      refine xj_s 2 RF (by kernel_rfl) SR (y_move RF) rfl ?_
      refine xj_s 3 RF (by kernel_rfl) SR (y_move RF) rfl ?_
      refine xj_s 4 RF (by kernel_rfl) SR IA34 rfl ?_
      refine xj_s 5 RF (by kernel_rfl) SR FA58_24 rfl ?_
      refine xj_s 6 RF (by kernel_rfl) SR LD24 rfl ?_
      refine xj_s 7 RF (by kernel_rfl) SR (y_move RF) rfl ?_
      refine xj_s 8 RF (by kernel_rfl) SR (y_move RF) rfl ?_
      refine xj_s 9 RF (by kernel_rfl) SR (y_mul RF RF (by omega)) rfl ?_
      refine xj_s 10 RF (by kernel_rfl) SR (y_add RF RF (by omega)) rfl ?_
      refine xj_s 11 RF (by kernel_rfl) SR (y_move RF) rfl ?_
      refine xj_s 12 RF (by kernel_rfl) SR (y_len Try.underlying47 RF) rfl ?_
      refine xj_s 13 RF (by kernel_rfl) SR (y_rem RF RF (by omega) (by omega)) rfl ?_
      refine xj_s 14 RF (by kernel_rfl) SR (by first | exact y_ia_blk Try.underlying47 Try.sizeOf52 RF (by exact lk_int rfl ((Int.natCast_emod (2 * k + 1) by_.length).symm)) (Nat.mod_lt _ hyne) | exact y_ia_el Try.underlying47 Try.sizeOf52 RF (by exact lk_int rfl ((Int.natCast_emod (2 * k + 1) by_.length).symm)) (Nat.mod_lt _ hyne) (by first | assumption | simp)) rfl ?_
      refine xj_s 15 RF (by kernel_rfl) SR (by first | exact y_load_ca0 (vs := hRow (byK by_ (2 * k + 1))) Try.underlying52 rfl RF MM hcb2 rfl | exact LD52) rfl ?_
      refine xj_one 16 RF (by kernel_rfl) ?_
      refine qy (yc Try.call32 E2 (fun w1 _ => pick32 w1 _ _ (by omega) (by omega) (by omega) (hbyk (2 * k + 1)))) ?_
      refine sq_nil ?_
      refine sx_xp SR ?_
      refine xj_one 17 RF (by kernel_rfl) ?_
      refine sq_bs Try.underlying35 ei3 (EvI.cons RF EvI.nil) (by first | (simp [Value.cells]; done) | (simp [Value.cells]; rfl) | (simp [Value.cells]; and_intros <;> rfl)) rfl rfl rfl (fun b281 => ?_)
      refine sq_nil ?_
      refine sx_xp SR ?_
      refine xj_one 18 RF (by kernel_rfl) ?_
      refine sq_append (news := [.int .i64 (pickV (l.getD k jb0).lay (byK by_ (2 * k + 1)))]) Try.underlying35 ei3 rfl (by decide) RF RM RF rfl (fun _ hw => news_blk hw MM) (by simp [Value.oneCell']) (by omega) rfl (fun v282 ho282 => ?_)
      rw [tru_take2 hk']
      refine sq_nil ?_
      refine sx_xp SR ?_
      refine xj_s 19 RF (by kernel_rfl) SR FA56_35 rfl ?_
      refine xj_one 20 RF (by kernel_rfl) ?_
      refine sq_store Try.sizeOf35 RF RF (by first | rfl | assumption) RM (by first | exact Nat.le_of_ble_eq_true rfl | simp | omega) ?_
      refine sq_nil ?_
      refine sx_xpl (by kernel_rfl) ?_
      refine xj_done (by kernel_rfl) ?_
      refine sx_blk ?_
      refine sx_then ?_
      refine sc_region ?_
      refine qs (y_move RF) ?_
      refine qs (y_add RF RF (by omega)) ?_
      refine qs (y_assign RF) ?_
      refine sq_nil ?_
      refine sx_round ((k + 1, v262, v282)) ?_ ?_ SU SR
      · exact ⟨by dsimp only; omega, ho262, ho282⟩
      · dsimp only; omega
    ·
      have hkn : k = l.length := by omega
      refine sc_own_dest (v := v1) (e := 3) (sz := 1) (m := k) (xs := (((truT by_ l).map (fun (t : Tm) => t.1)).take k).flatMap iRow) MM (fun a1 c1 hv_1 _ _ => ?_)
      subst hv_1
      clear hv1
      refine sc_own_dest (v := v2) (e := 3) (sz := 1) (m := k) (xs := (((truT by_ l).map (fun (t : Tm) => t.2)).take k).flatMap iRow) MM (fun a2 c2 hv_2 _ _ => ?_)
      subst hv_2
      clear hv2
      rw [show (((truT by_ l).map (fun (t : Tm) => t.1)).take k) = (truT by_ l).map (fun (t : Tm) => t.1) from List.take_of_length_le (by rw [List.length_map]; omega), show (((truT by_ l).map (fun (t : Tm) => t.2)).take k) = (truT by_ l).map (fun (t : Tm) => t.2) from List.take_of_length_le (by rw [List.length_map]; omega), hkn]
      refine sc_exit ?_
      refine sx_then_exit ?_
      refine sx_round_exit ?_
      refine sx_blk_hit ?_
      refine sx_then ?_
      refine sc_seq ?_
      refine sc_region ?_
      refine qs (y_move RF) ?_
      refine qs (y_move RF) ?_
      refine sq_call_new (first := []) (caps := []) (Z := Option Addr × Nat) (fun z => .tuple #[.slice z.1 (runR l (bestR l).1).1.length z.2, .int .i64 (runR l (bestR l).1).2]) (fun lo w' z => RowsA spRow 2 lo w' z.1 (runR l (bestR l).1).1) RF Try.call20 (EvL.cons RF (EvL.cons RF EvL.nil)) (fun w1 hw1 => run20s w1 a c l (hl.at hw1 MM) z25.1 z25.2 (bestR l).1 (hz25.at hw1 MM) (by omega)) rfl (fun lo34 wr34 z34 hz34 => ?_)
      refine qs (y_move RF) ?_
      refine qs (y_extract RF RF) ?_
      refine qs (y_extract RF RF) ?_
      refine qs (y_assign RF) ?_
      refine qs (y_assign RF) ?_
      refine sq_nil ?_
      refine sx_then ?_
      refine sc_seq ?_
      refine sc_region ?_
      refine qs (y_move RF) ?_
      refine qs (y_move RF) ?_
      refine qy (yc Try.call22 E2 (fun w1 hw1 => late22m rfl rfl hch w1 a c (hl.at hw1 MM) z25.1 z25.2 (hz25.at hw1 MM) (by omega))) ?_
      refine qs (y_move RF) ?_
      refine qs (y_extract RF RF) ?_
      refine qs (y_extract RF RF) ?_
      refine qs (y_extract RF RF) ?_
      refine qs (y_assign RF) ?_
      refine qs (y_assign RF) ?_
      refine qs (y_assign RF) ?_
      refine sq_nil ?_
      refine sx_then ?_
      refine sc_seq ?_
      refine sc_seq ?_
      refine sc_region ?_
      refine qs (y_move RF) ?_
      refine qs (y_neq RF RF) ?_
      refine qs (y_move RF) ?_
      refine sq_known (tt := 299) (b' := false) RF (by simp [hr2]) ?_
      refine qg (y_move RF) ?_
      refine qg (y_neq RF RF) ?_
      refine qs (y_pick_f RF RF) ?_
      refine qs (y_move RF) ?_
      refine sq_known (tt := 303) (b' := false) RF (by simp) ?_
      refine qg (y_move RF) ?_
      refine qg (y_len Try.underlying36 RF) ?_
      refine qg (y_move RF) ?_
      refine qg (y_len Try.underlying34 RF) ?_
      refine qg (y_neq RF RF) ?_
      refine qs (y_pick_f RF RF) ?_
      refine qs (y_move RF) ?_
      refine sq_known (tt := 310) (b' := false) RF (by rw [hsl]; simp) ?_
      refine qg (y_move RF) ?_
      refine qg (y_move RF) ?_
      refine qg (y_len Try.underlying34 RF) ?_
      refine sq_gt RF RF (y_call (first := []) (caps := []) RF Try.call35 (EvL.cons RF (EvL.cons RF EvL.nil)) (fun w1 hw1 => order35 w1 z25.1 z25.2 _ (hz25.at hw1 MM) l.length (by omega))) rfl ?_
      refine qg (y_not RF) ?_
      refine qs (y_pick_f RF RF) ?_
      refine sq_nil ?_
      refine sx_then ?_
      refine sc_f (lk_bool rfl (by simp [hord])) ?_
      refine sc_skip ?_
      refine sx_then ?_
      refine sc_seq ?_
      refine sc_region ?_
      refine qs LD56 ?_
      refine qs (y_move RF) ?_
      refine sq_call_own (first := []) (caps := []) (Z := Value) (e := 3) (sz := 1) (n := l.length) (fun z => z) (fun z => z) (fun _ => (endsV (truT by_ l) (bestR l).1).flatMap iRow) (fun z => z.oneCell' = true) RF Try.call36 (EvL.cons RF (EvL.cons RF EvL.nil)) (fun w1 hw1 => ends36n (ts := (truT by_ l)) (o := (bestR l).1) l.length hTl (own_atR (row := iRow) (fun _ => rfl) hw1 (a := a1) (c := c1) (m := l.length) (e := 3) MM (by simp [hTl])) (own_atR (row := iRow) (fun _ => rfl) hw1 (a := a2) (c := c2) (m := l.length) (e := 3) MM (by simp [hTl])) (hz25.at hw1 MM) hokT) rfl (fun v319 hv319 => ?_)
      refine qs (y_assign RF) ?_
      refine sq_nil ?_
      refine sx_then ?_
      refine sc_seq ?_
      refine sc_seq ?_
      refine sc_region ?_
      refine qs (y_assign RF) ?_
      refine sq_nil ?_
      refine sx_then ?_
      refine sc_block ?_
      refine sc_loop (σ := Nat)
        (fun s => [(0, .slice a l.length c), (5, .slice ay by_.length cy), (26, .slice z25.1 (bestR l).1.length z25.2), (27, .int .i64 (bestR l).2.1), (29, .pointer (some ⟨b29, 0, none⟩)), (31, .slice z34.1 (runR l (bestR l).1).1.length z34.2), (33, .int .i64 ((lateN (sureF l (bestR l).1) l.length : Nat) : Int)), (34, .int .i64 ((lateN (canF l (bestR l).1) l.length : Nat) : Int)), (36, v319), (37, .int .i64 s)])
        (fun s => [.own v319 3 1 l.length ((endsV (truT by_ l) (bestR l).1).flatMap iRow), .reg lo34 wr34, .reg lo25 wr25, .reg 0 w])
        (fun s => s ≤ l.length)
        (fun s => l.length - s)
        (0) ?_ SU SR ?_
      · exact Nat.zero_le _
      rintro k hk
      refine sc_seq ?_
      refine sc_seq ?_
      refine sc_region ?_
      refine qs (y_move RF) ?_
      refine qs (y_move RF) ?_
      refine qs (y_len Try.underlying34 RF) ?_
      refine qs (y_lss RF RF) ?_
      refine sq_nil ?_
      refine sx_then ?_
      refine scp (fun hc12 => ?_) (fun hc12 => ?_)
      ·
        have hk' : k < l.length := by omega
        have hsm := (hl.get jb0 hk').1
        have hca := (hl.get jb0 hk').2
        have hss := (hz34.get sp0 (show k < (runR l (bestR l).1).1.length by omega)).1
        have hcs := (hz34.get sp0 (show k < (runR l (bestR l).1).1.length by omega)).2
        have hgd : (runR l (bestR l).1).1.getD k sp0 = spanK l (bestR l).1 k := by rw [hr1]; exact spansV_getD hk'
        rw [hgd] at hcs
        have hel : (endsV (truT by_ l) (bestR l).1).length = l.length := by unfold endsV; rw [endsK_len, hTl]
        have hlo : (spanK l (bestR l).1 k).lo ≤ ((endsV (truT by_ l) (bestR l).1).getD k 0) := ends_mono hTle.1 (bestR l).1 _ k
        have hhi : ((endsV (truT by_ l) (bestR l).1).getD k 0) ≤ (spanK l (bestR l).1 k).hi := ends_mono hTle.2 (bestR l).1 _ k
        have hho : ((endsV (truT by_ l) (bestR l).1).getD k 0) ≤ (bestR l).2.1 := by
          refine Int.le_trans hhi ?_
          rw [hhour]
          exact (gtV_ge (endsV (l.map (timeV true)) (bestR l).1) 0).2 _ (getD_mem (d := 0) (show k < (endsV (l.map (timeV true)) (bestR l).1).length by unfold endsV; rw [endsK_len, List.length_map]; exact hk'))
        have hcF : (l.getD k jb0).due < ((endsV (truT by_ l) (bestR l).1).getD k 0) → canF l (bestR l).1 k = true := fun h => decide_eq_true (by omega)
        have hsF : ¬ (l.getD k jb0).due < ((endsV (truT by_ l) (bestR l).1).getD k 0) → sureF l (bestR l).1 k = false := fun h => decide_eq_false (by omega)
        have hbS : (lateN (sureF l (bestR l).1) l.length).testBit k = sureF l (bestR l).1 k := by rw [lateN_bit, decide_eq_true hk', Bool.true_and]
        have hbC : (lateN (canF l (bestR l).1) l.length).testBit k = canF l (bestR l).1 k := by rw [lateN_bit, decide_eq_true hk', Bool.true_and]
        refine sc_skip ?_
        refine sx_then ?_
        refine sc_seq ?_
        refine sc_block ?_
        refine sc_seq ?_
        refine sc_draw rfl (by kernel_rfl) (by kernel_rfl) ?_
        refine qq_y (OpY.s (y_move RF)) rfl ?_
        refine qq_y (OpY.s (y_move RF)) rfl ?_
        refine qq_y (OpY.s (y_ia_own Try.underlying35 Try.sizeOf3 RF MM RF hk')) rfl ?_
        refine qq_y (OpY.s (by first | exact y_load_own0 (v := v319) (u := .int .i64 ((endsV (truT by_ l) (bestR l).1).getD k 0)) Try.underlying3 rfl RF MM hk' (flat_iget (get_of_lt 0 (by rw [hel]; exact hk'))) | exact LD3)) rfl ?_
        refine qq_y (OpY.s (y_move RF)) rfl ?_
        refine qq_y (OpY.s (y_move RF)) rfl ?_
        refine qq_y (OpY.s IA34) rfl ?_
        refine qq_y (OpY.s FA58_3) rfl ?_
        refine qq_y (OpY.s (by first | exact y_load_caj Try.underlying3 rfl RF MM hca rfl | exact LD3)) rfl ?_
        refine qq_y (OpY.s (y_gtr RF RF)) rfl ?_
        refine qq_y (OpY.s (y_assign RF)) rfl ?_
        refine qq_nil ?_
        refine sx_then ?_
        refine sc_seq ?_
        refine sc_midE (Z := {v : Bool // v = false}) (fun v => [(0, .slice a l.length c), (5, .slice ay by_.length cy), (26, .slice z25.1 (bestR l).1.length z25.2), (27, .int .i64 (bestR l).2.1), (29, .pointer (some ⟨b29, 0, none⟩)), (31, .slice z34.1 (runR l (bestR l).1).1.length z34.2), (33, .int .i64 ((lateN (sureF l (bestR l).1) l.length : Nat) : Int)), (34, .int .i64 ((lateN (canF l (bestR l).1) l.length : Nat) : Int)), (36, v319), (37, .int .i64 k), (386, .bool v.1)]) (fun _ => [.own v319 3 1 l.length ((endsV (truT by_ l) (bestR l).1).flatMap iRow), .reg lo34 wr34, .reg lo25 wr25, .reg 0 w]) ?_ ?_
        ·
          refine sc_draw rfl (by kernel_rfl) (by kernel_rfl) ?_
          refine qq_y (OpY.s (y_move RF)) rfl ?_
          refine qq_y (OpY.s (y_move RF)) rfl ?_
          refine qq_y (OpY.s (y_ia_own Try.underlying35 Try.sizeOf3 RF MM RF hk')) rfl ?_
          refine qq_y (OpY.s (by first | exact y_load_own0 (v := v319) (u := .int .i64 ((endsV (truT by_ l) (bestR l).1).getD k 0)) Try.underlying3 rfl RF MM hk' (flat_iget (get_of_lt 0 (by rw [hel]; exact hk'))) | exact LD3)) rfl ?_
          refine qq_y (OpY.s (y_move RF)) rfl ?_
          refine qq_y (OpY.s (y_move RF)) rfl ?_
          refine qq_y (OpY.s IA36) rfl ?_
          refine qq_y (OpY.s FA24_3) rfl ?_
          refine qq_y (OpY.s (by first | exact y_load_caj Try.underlying3 rfl RF MM hcs rfl | exact LD3)) rfl ?_
          refine qq_y (OpY.s (y_lss RF RF)) rfl ?_
          refine qq_y (OpY.s (y_move RF)) rfl ?_
          refine qq_known (tt := 346) (b' := false) RF (decide_eq_false (by omega)) ?_
          refine qq_gt RF RF (OpY.s (y_move RF)) rfl ?_
          refine qq_gt RF RF (OpY.s (y_move RF)) rfl ?_
          refine qq_gt RF RF (OpY.s (y_ia_own Try.underlying35 Try.sizeOf3 RF MM RF hk')) rfl ?_
          refine qq_gt RF RF (OpY.s (by first | exact y_load_own0 (v := v319) (u := .int .i64 ((endsV (truT by_ l) (bestR l).1).getD k 0)) Try.underlying3 rfl RF MM hk' (flat_iget (get_of_lt 0 (by rw [hel]; exact hk'))) | exact LD3)) rfl ?_
          refine qq_gt RF RF (OpY.s (y_move RF)) rfl ?_
          refine qq_gt RF RF (OpY.s (y_move RF)) rfl ?_
          refine qq_gt RF RF (OpY.s IA36) rfl ?_
          refine qq_gt RF RF (OpY.s FA24_3) rfl ?_
          refine qq_gt RF RF (OpY.s (by first | exact y_load_caj Try.underlying3 rfl RF MM hcs rfl | exact LD3)) rfl ?_
          refine qq_gt RF RF (OpY.s (y_gtr RF RF)) rfl ?_
          refine qq_y (OpY.s (y_pick_f RF RF)) rfl ?_
          refine qq_y (OpY.s (y_move RF)) rfl ?_
          refine qq_known (tt := 358) (b' := false) RF (decide_eq_false (by omega)) ?_
          refine qq_gt RF RF (OpY.s (y_move RF)) rfl ?_
          refine qq_gt RF RF (OpY.s (y_move RF)) rfl ?_
          refine qq_gt RF RF (OpY.s (y_ia_own Try.underlying35 Try.sizeOf3 RF MM RF hk')) rfl ?_
          refine qq_gt RF RF (OpY.s (by first | exact y_load_own0 (v := v319) (u := .int .i64 ((endsV (truT by_ l) (bestR l).1).getD k 0)) Try.underlying3 rfl RF MM hk' (flat_iget (get_of_lt 0 (by rw [hel]; exact hk'))) | exact LD3)) rfl ?_
          refine qq_gt RF RF (OpY.s (y_move RF)) rfl ?_
          refine qq_gt RF RF (OpY.s (y_gtr RF RF)) rfl ?_
          refine qq_y (OpY.s (y_pick_f RF RF)) rfl ?_
          refine qq_y (OpY.s (y_move RF)) rfl ?_
          refine qq_known (tt := 366) (b' := false) RF (decide_eq_false (by omega)) ?_
          refine qq_gt RF RF (OpY.s (y_move RF)) rfl ?_
          refine qq_gt RF RF (OpY.s (y_move RF)) rfl ?_
          first | refine qq_splitd (tt := 368) RF (fun hg43_32 => ?_) (fun hg43_32 => ?_) | refine qq_splitn (tt := 368) RF (fun hg43_32 => ?_) (fun hg43_32 => ?_) | refine qq_split (tt := 368) RF (fun hg43_32 => ?_) (fun hg43_32 => ?_)
          ·
            refine qq_gt RF RF (OpY.s (y_move RF)) rfl ?_
            refine qq_gt RF RF (OpY.s (y_move RF)) rfl ?_
            refine qq_gt RF RF (OpY.s (y_shr RF RF (by simp [IntKind.bits]; omega))) rfl ?_
            refine qq_gt RF RF (OpY.s (y_and RF RF (shr_nn _ _ (late_le hj _)) (by decide))) rfl ?_
            rw [bitV, hbC]
            refine qq_gt RF RF (OpY.s (y_eql RF RF)) rfl ?_
            refine qq_gt RF RF (OpY.s (y_pick_t RF RF)) rfl ?_
            refine qq_y (OpY.s (y_pick_f RF RF)) rfl ?_
            refine qq_y (OpY.s (y_move RF)) rfl ?_
            refine qq_known (tt := 376) (b' := false) RF (by rw [hcF hg43_32]; rfl) ?_
            refine qq_gt RF RF (OpY.s (y_move RF)) rfl ?_
            refine qq_gt RF RF (OpY.s (y_not RF)) rfl ?_
            refine qq_gt RF RF (OpY.s (y_move RF)) rfl ?_
            first | refine qq_splitd (tt := 379) RF (fun hg43_43 => ?_) (fun hg43_43 => ?_) | refine qq_splitn (tt := 379) RF (fun hg43_43 => ?_) (fun hg43_43 => ?_) | refine qq_split (tt := 379) RF (fun hg43_43 => ?_) (fun hg43_43 => ?_)
            ·
              refine qq_gt RF RF (OpY.s (y_move RF)) rfl ?_
              refine qq_gt RF RF (OpY.s (y_move RF)) rfl ?_
              refine qq_gt RF RF (OpY.s (y_shr RF RF (by simp [IntKind.bits]; omega))) rfl ?_
              refine qq_gt RF RF (OpY.s (y_and RF RF (shr_nn _ _ (late_le hj _)) (by decide))) rfl ?_
              rw [bitV, hbS]
              refine qq_gt RF RF (OpY.s (y_eql RF RF)) rfl ?_
              refine qq_gt RF RF (OpY.s (y_pick_t RF RF)) rfl ?_
              refine qq_y (OpY.s (y_pick_f RF RF)) rfl ?_
              refine qq_nil ?_
              exact sx_midE (⟨decide ((if sureF l (bestR l).1 k = true then (1 : Int) else 0) = 1), absurd hg43_32 hg43_43⟩) SU SR
            ·
              refine qq_gf RF RF RF rfl ?_
              refine qq_gf RF RF RF rfl ?_
              refine qq_gf RF RF RF rfl ?_
              refine qq_gf RF RF RF rfl ?_
              refine qq_gf RF RF RF rfl ?_
              refine qq_gt RF RF (OpY.s (y_pick_f RF RF)) rfl ?_
              refine qq_y (OpY.s (y_pick_f RF RF)) rfl ?_
              refine qq_nil ?_
              exact sx_midE (⟨false, rfl⟩) SU SR
          ·
            refine qq_gf RF RF RF rfl ?_
            refine qq_gf RF RF RF rfl ?_
            refine qq_gf RF RF RF rfl ?_
            refine qq_gf RF RF RF rfl ?_
            refine qq_gf RF RF RF rfl ?_
            refine qq_gt RF RF (OpY.s (y_pick_f RF RF)) rfl ?_
            refine qq_y (OpY.s (y_pick_f RF RF)) rfl ?_
            refine qq_y (OpY.s (y_move RF)) rfl ?_
            refine qq_gt RF RF (OpY.s (y_move RF)) rfl ?_
            refine qq_gt RF RF (OpY.s (y_not RF)) rfl ?_
            refine qq_gt RF RF (OpY.s (y_move RF)) rfl ?_
            first | refine qq_splitd (tt := 379) RF (fun hg43_43 => ?_) (fun hg43_43 => ?_) | refine qq_splitn (tt := 379) RF (fun hg43_43 => ?_) (fun hg43_43 => ?_) | refine qq_split (tt := 379) RF (fun hg43_43 => ?_) (fun hg43_43 => ?_)
            ·
              refine qq_gt RF RF (OpY.s (y_move RF)) rfl ?_
              refine qq_gt RF RF (OpY.s (y_move RF)) rfl ?_
              refine qq_gt RF RF (OpY.s (y_shr RF RF (by simp [IntKind.bits]; omega))) rfl ?_
              refine qq_gt RF RF (OpY.s (y_and RF RF (shr_nn _ _ (late_le hj _)) (by decide))) rfl ?_
              rw [bitV, hbS]
              refine qq_gt RF RF (OpY.s (y_eql RF RF)) rfl ?_
              refine qq_gt RF RF (OpY.s (y_pick_t RF RF)) rfl ?_
              refine qq_y (OpY.s (y_pick_f RF RF)) rfl ?_
              refine qq_nil ?_
              exact sx_midE (⟨decide ((if sureF l (bestR l).1 k = true then (1 : Int) else 0) = 1), by rw [hsF hg43_32]; rfl⟩) SU SR
            ·
              refine qq_gf RF RF RF rfl ?_
              refine qq_gf RF RF RF rfl ?_
              refine qq_gf RF RF RF rfl ?_
              refine qq_gf RF RF RF rfl ?_
              refine qq_gf RF RF RF rfl ?_
              refine qq_gt RF RF (OpY.s (y_pick_f RF RF)) rfl ?_
              refine qq_y (OpY.s (y_pick_f RF RF)) rfl ?_
              refine qq_nil ?_
              exact sx_midE (⟨false, rfl⟩) SU SR
        rintro ⟨_, rfl⟩
        try dsimp only
        refine sx_then ?_
        refine sc_f (lk_bool rfl (rfl)) ?_
        refine sc_skip ?_
        refine sx_blk ?_
        refine sx_then ?_
        refine sc_region ?_
        refine qs (y_move RF) ?_
        refine qs (y_add RF RF (by omega)) ?_
        refine qs (y_assign RF) ?_
        refine sq_nil ?_
        refine sx_round (k + 1) ?_ ?_ SU SR
        · omega
        · omega
      ·
        refine sc_exit ?_
        refine sx_then_exit ?_
        refine sx_round_exit ?_
        refine sx_blk_hit ?_
        refine sx_then ?_
        refine sc_seq ?_
        refine sc_region ?_
        refine qy (yc Try.call13 E0 (fun w1 _ => awake13 w1)) ?_
        refine qs (y_assign RF) ?_
        refine sq_nil ?_
        refine sx_then ?_
        refine sc_ret ?_
        refine sx_ret1 (.inl rfl) rfl Try.results6 RF ?_
        intro w' hw'
        exact ⟨rfl, hw'.below MM⟩
end Go.Proofs.Ytjlbpmcacopbpaa
