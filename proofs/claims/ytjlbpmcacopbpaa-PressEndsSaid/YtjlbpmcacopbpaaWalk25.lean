/- The walk of the law PressEnds. -/
import Derived.Test.YtjlbpmcacopbpaaLawE
import Derived.Test.YtjlbpmcacopbpaaWalk23
namespace Go.Proofs.Ytjlbpmcacopbpaa
open Go Go.Eng Go.RowKit Go.Proofs
set_option maxRecDepth 100000

theorem place_bd {ls : List Sf} (hbd : ∀ i, i < ls.length → -1000 ≤ (ls.getD i sf0).x.lo ∧ (ls.getD i sf0).x.lo ≤ (ls.getD i sf0).x.hi ∧ (ls.getD i sf0).x.hi ≤ 1000) (hxg : ∀ i, i < ls.length → (ls.getD i sf0).x = (ls.map (·.x)).getD i sp0) (h0 : 0 < ls.length) : -1000 ≤ (placeX (ls.map (·.x))) ∧ (placeX (ls.map (·.x))) ≤ 1000 := by
  have hat := gtV_at ((ls.map (·.x)).map (·.lo)) ((ls.map (·.x)).getD 0 sp0).lo
  have key : ∀ i, i < ls.length → -1000 ≤ ((ls.map (·.x)).getD i sp0).lo ∧ ((ls.map (·.x)).getD i sp0).lo ≤ 1000 := fun i hi => by have := hbd i hi; rw [hxg i hi] at this; omega
  unfold placeX
  rcases hat with h | h
  · rw [h]; exact key 0 h0
  · obtain ⟨s, hs, he⟩ := List.mem_map.1 h
    obtain ⟨i, hi, rfl⟩ := List.getElem_of_mem hs
    have h2 := key i (by simpa using hi)
    rw [List.getD_eq_getElem?_getD, List.getElem?_eq_getElem hi] at h2
    rw [← he]; exact h2
theorem lowK_bd {ls : List Sf} (hbd : ∀ i, i < ls.length → -1000 ≤ (ls.getD i sf0).x.lo ∧ (ls.getD i sf0).x.lo ≤ (ls.getD i sf0).x.hi ∧ (ls.getD i sf0).x.hi ≤ 1000) (hxg : ∀ i, i < ls.length → (ls.getD i sf0).x = (ls.map (·.x)).getD i sp0) (h0 : 0 < ls.length) (n : Nat) (hn : n ≤ ls.length) : -9223372036854775808 ≤ (placeX (ls.map (·.x))) - lowK (ls.map (·.x)) (placeX (ls.map (·.x))) n ∧ (placeX (ls.map (·.x))) - lowK (ls.map (·.x)) (placeX (ls.map (·.x))) n ≤ 9223372036854775807 := by
  have hp := place_bd hbd hxg h0
  obtain ⟨h1, _, h3⟩ := lowK_le (ls.map (·.x)) (placeX (ls.map (·.x))) n
  rcases h3 with h | ⟨i, hi, h⟩
  · omega
  · have h4 := hbd i (by omega)
    rw [hxg i (by omega)] at h4
    unfold owY at h; omega
theorem ends7 (w : World) (a : Option Addr) (c : Nat) (l : List Jb) (hl : RowsA jbRow 5 0 w a l) (ao : Option Addr) (co : Nat) (o : List Int) (ho : RowsA iRow 1 0 w ao o) (ah : Option Addr) (ch : Nat) (ls : List Sf) (hs : RowsA sfRow 4 0 w ah ls) (q : Sp) (need : Int) : Calls Try.prog 7 #[.slice a l.length c, .slice ao o.length co, .slice ah ls.length ch, .agg (spRow q).toArray, .int .i64 need] w fun e w' => e = .returned (.bool true) ∧ Below w.heap.size w w' := by
  have hlen := hl.len
  have hlens := hs.len
  have hleno := ho.len
  refine calls_of_SC (args := [.slice a l.length c, .slice ao o.length co, .slice ah ls.length ch, .agg (spRow q).toArray, .int .i64 need]) Try.func7 rfl Try.ntmps7 rfl ?_
  simp only [argL, Nat.reduceAdd, Nat.zero_add]
  refine sc_seq ?_
  refine sc_region ?_
  refine sq_box RF rfl (fun b8 => ?_)
  refine qs (y_assign RF) ?_
  refine sq_nil ?_
  refine sx_then ?_
  refine sc_seq ?_
  refine sc_seq ?_
  refine sc_midE (Z := {v : Bool // v = (decide (12 < (l.length : Int)) || (decide (20 < (ls.length : Int)) || decide (12 < (o.length : Int))))}) (fun v => [(0, .slice a l.length c), (1, .slice ao o.length co), (2, .slice ah ls.length ch), (3, .agg (spRow q).toArray), (4, .int .i64 need), (8, .pointer (some ⟨b8, 0, none⟩)), (45, .bool v.1)]) (fun _ => [.blk b8 (.cells (spRow q).toArray 24 (0, 0)), .reg 0 w]) ?_ ?_
  ·
    refine sc_region ?_
    refine qs (y_move RF) ?_
    refine qs (y_len Try.underlying34 RF) ?_
    refine qs (y_gtr RF RF) ?_
    refine qs (y_move RF) ?_
    refine sp 36 (fun hg1_3 => ?_) (fun hg1_3 => ?_)
    ·
      refine qf ?_
      refine qf ?_
      refine qf ?_
      refine qs (y_pick_t RF RF) ?_
      refine qs (y_move RF) ?_
      refine qf ?_
      refine qf ?_
      refine qf ?_
      refine qs (y_pick_t RF RF) ?_
      refine sq_nil ?_
      exact sx_midE (⟨true, by rw [decide_eq_true (show 12 < (l.length : Int) by omega)]; rfl⟩) SU SR
    ·
      refine qg (y_move RF) ?_
      refine qg (y_len Try.underlying22 RF) ?_
      refine qg (y_gtr RF RF) ?_
      refine qs (y_pick_f RF RF) ?_
      refine qs (y_move RF) ?_
      refine sp 41 (fun hg1_8 => ?_) (fun hg1_8 => ?_)
      ·
        refine qf ?_
        refine qf ?_
        refine qf ?_
        refine qs (y_pick_t RF RF) ?_
        refine sq_nil ?_
        exact sx_midE (⟨true, by rw [decide_eq_true (show 20 < (ls.length : Int) by omega)]; simp⟩) SU SR
      ·
        refine qg (y_move RF) ?_
        refine qg (y_len Try.underlying35 RF) ?_
        refine qg (y_gtr RF RF) ?_
        refine qs (y_pick_f RF RF) ?_
        refine sq_nil ?_
        exact sx_midE (⟨_, by rw [decide_eq_false (show ¬ 12 < (l.length : Int) by omega), decide_eq_false (show ¬ 20 < (ls.length : Int) by omega), Bool.false_or, Bool.false_or]⟩) SU SR
  rintro ⟨vb, hvb⟩
  try dsimp only
  refine sx_then ?_
  refine scp (fun hc0 => ?_) (fun hc0 => ?_)
  ·
    refine sc_seq ?_
    refine sc_region ?_
    refine qy (yc Try.call13 E0 (fun w1 _ => awake13 w1)) ?_
    refine qs (y_assign RF) ?_
    refine sq_nil ?_
    refine sx_then ?_
    refine sc_ret ?_
    refine sx_then_ret ?_
    refine sx_ret1 (.inl rfl) rfl Try.results7 RF ?_
    intro w' hw'
    exact ⟨rfl, hw'.below MM⟩
  ·
    have hv2 : vb = false := hc0
    rw [hvb, Bool.or_eq_false_iff, Bool.or_eq_false_iff] at hv2
    have hl12 : l.length ≤ 12 := by have := of_decide_eq_false hv2.1; omega
    have hl20 : ls.length ≤ 20 := by have := of_decide_eq_false hv2.2.1; omega
    have h12 : o.length ≤ 1000 := by have := of_decide_eq_false hv2.2.2; omega
    refine sc_skip ?_
    refine sx_then ?_
    refine sc_seq ?_
    refine sc_region ?_
    refine qs (y_move RF) ?_
    refine qy (yc Try.call14 E1 (fun w1 hw1 => fringe14 w1 ah ch ls (hs.at hw1 MM))) ?_
    refine qs (y_move RF) ?_
    refine qs (y_extract RF RF) ?_
    refine qs (y_extract RF RF) ?_
    refine qs (y_extract RF RF) ?_
    refine sq_alloc Try.zeroValue24 rfl (fun b11 => ?_)
    refine sq_alloc Try.zeroValue24 rfl (fun b12 => ?_)
    refine sq_store_all Try.sizeOf24 RF RF rfl RM rfl rfl ?_
    refine sq_store_all Try.sizeOf24 RF RF rfl RM rfl rfl ?_
    refine qs (y_assign RF) ?_
    refine sq_nil ?_
    refine sx_then ?_
    refine sc_seq ?_
    refine sc_seq ?_
    refine sc_region ?_
    refine qs (y_move RF) ?_
    refine qs (y_eql RF RF) ?_
    refine sq_nil ?_
    refine sx_then ?_
    refine sc_midE (Z := Unit) (fun _ => [(0, .slice a l.length c), (1, .slice ao o.length co), (2, .slice ah ls.length ch), (3, .agg (spRow q).toArray), (4, .int .i64 need), (8, .pointer (some ⟨b8, 0, none⟩))]) (fun _ => [.blk b8 (.cells (spRow q).toArray 24 (0, 0)), .reg 0 w]) ?_ ?_
    ·
      refine scp (fun hc1 => ?_) (fun hc1 => ?_)
      ·
        have hsB : shB ls = true := by
          cases hb : shB ls with
          | true => rfl
          | false =>
            exfalso
            have he : (fringeV ls).2.2 = 0 := by simpa using hc1
            unfold fringeV at he
            rw [if_neg (by simp [hb])] at he
            cases he
        have hsP := shB_parts hsB
        have hfv : (fringeV ls).1 = apartV (ls.map (·.x)) := by unfold fringeV; rw [if_pos hsB]
        have h0 : 0 < ls.length := by omega
        have hxl : (ls.map (·.x)).length = ls.length := List.length_map _
        have hs0 := (hs.get sf0 h0).1
        have hca0 := (hs.get sf0 h0).2
        have hxg : ∀ i, i < ls.length → (ls.getD i sf0).x = (ls.map (·.x)).getD i sp0 := fun i hi => by rw [List.getD_eq_getElem?_getD, List.getD_eq_getElem?_getD, List.getElem?_map, List.getElem?_eq_getElem hi]; rfl
        have hbd : ∀ i, i < ls.length → -1000 ≤ (ls.getD i sf0).x.lo ∧ (ls.getD i sf0).x.lo ≤ (ls.getD i sf0).x.hi ∧ (ls.getD i sf0).x.hi ≤ 1000 := fun i hi => (hsP.2 _ (List.mem_of_getElem? (get_of_lt sf0 hi))).1
        refine sc_seq ?_
        refine sc_seq ?_
        refine sc_region ?_
        refine qs (y_move RF) ?_
        refine qy (yc Try.call31 E1 (fun w1 hw1 => shifts31 w1 ah ch ls (hs.at hw1 MM))) ?_
        refine qs (y_not RF) ?_
        refine sq_nil ?_
        refine sx_then ?_
        refine sc_f (lk_bool rfl (by simp [hsB])) ?_
        refine sc_skip ?_
        refine sx_then ?_
        refine sc_seq ?_
        refine sc_region ?_
        refine qs (y_move RF) ?_
        refine qs (by first | exact y_ia_blk Try.underlying22 Try.sizeOf51 RF (show _ = some (Value.int .i64 ((0 : Nat) : Int)) from rfl) (by omega) | exact y_ia_el Try.underlying22 Try.sizeOf51 RF (show _ = some (Value.int .i64 ((0 : Nat) : Int)) from rfl) (by omega) (by first | assumption | simp)) ?_
        refine qs FA51_24 ?_
        refine qs FA24_3 ?_
        refine qs (by first | exact y_load_cajj Try.underlying3 rfl RF MM hca0 RF | exact LD3) ?_
        refine qs (y_assign RF) ?_
        rw [show (ls.getD 0 sf0).x.lo = gtV ((ls.map (·.x)).getD 0 sp0).lo (((ls.map (·.x)).map (·.lo)).take 0) from by rw [hxg 0 h0]; rfl]
        refine qs (y_assign RF) ?_
        refine sq_nil ?_
        refine sx_then ?_
        refine sc_seq ?_
        refine sc_seq ?_
        refine sc_region ?_
        refine qs (y_assign RF) ?_
        refine sq_nil ?_
        refine sx_then ?_
        refine sc_block ?_
        refine sc_loop (σ := Nat)
          (fun s => [(0, .slice a l.length c), (1, .slice ao o.length co), (2, .slice ah ls.length ch), (3, .agg (spRow q).toArray), (4, .int .i64 need), (8, .pointer (some ⟨b8, 0, none⟩)), (11, .pointer (some ⟨b11, 0, none⟩)), (14, .int .i64 (gtV ((ls.map (·.x)).getD 0 sp0).lo (((ls.map (·.x)).map (·.lo)).take s))), (15, .int .i64 0), (16, .int .i64 s)])
          (fun s => [.blk b11 (.cells (spRow (fringeV ls).1).toArray 24 (0, 0)), .blk b12 (.cells (spRow (fringeV ls).2.1).toArray 24 (0, 0)), .blk b8 (.cells (spRow q).toArray 24 (0, 0)), .reg 0 w])
          (fun s => s ≤ ls.length)
          (fun s => ls.length - s)
          (0) ?_ SU SR ?_
        · exact Nat.zero_le _
        rintro k hk
        refine sc_seq ?_
        refine sc_seq ?_
        refine sc_region ?_
        refine qs (y_move RF) ?_
        refine qs (y_move RF) ?_
        refine qs (y_len Try.underlying22 RF) ?_
        refine qs (y_lss RF RF) ?_
        refine sq_nil ?_
        refine sx_then ?_
        refine scp (fun hc3 => ?_) (fun hc3 => ?_)
        ·
          have hk' : k < ls.length := by omega
          have hsm := (hs.get sf0 hk').1
          have hca := (hs.get sf0 hk').2
          have hnx := gtV_take (l := (ls.map (·.x)).map (·.lo)) (a := ((ls.map (·.x)).getD 0 sp0).lo) (k := k) (by simp; omega)
          have hgk : ((ls.map (·.x)).map (·.lo)).getD k 0 = (ls.getD k sf0).x.lo := by rw [hxg k hk', List.getD_eq_getElem?_getD, List.getElem?_map, get_of_lt sp0 (by omega)]; rfl
          rw [hgk] at hnx
          refine sc_skip ?_
          refine sx_then ?_
          refine sc_seq ?_
          refine sc_block ?_
          refine sc_region ?_
          refine qs (y_move RF) ?_
          refine qs (y_move RF) ?_
          refine qs (y_move RF) ?_
          refine qs IA22 ?_
          refine qs FA51_24 ?_
          refine qs FA24_3 ?_
          refine qs (by first | exact y_load_cajj Try.underlying3 rfl RF MM hca RF | exact LD3) ?_
          refine qs (y_max RF RF) ?_
          rw [← hnx]
          refine qs (y_assign RF) ?_
          refine sq_nil ?_
          refine sx_blk ?_
          refine sx_then ?_
          refine sc_region ?_
          refine qs (y_move RF) ?_
          refine qs (y_add RF RF (by omega)) ?_
          refine qs (y_assign RF) ?_
          refine sq_nil ?_
          refine sx_round (k + 1) ?_ ?_ SU SR
          · omega
          · omega
        ·
          have hkn : k = ls.length := by omega
          rw [show gtV ((ls.map (·.x)).getD 0 sp0).lo (((ls.map (·.x)).map (·.lo)).take k) = (placeX (ls.map (·.x))) from by rw [List.take_of_length_le (by simp; omega)]; rfl]
          refine sc_exit ?_
          refine sx_then_exit ?_
          refine sx_round_exit ?_
          refine sx_blk_hit ?_
          refine sx_then ?_
          refine sc_seq ?_
          refine sc_region ?_
          refine qs (y_move RF) ?_
          refine qs (y_move RF) ?_
          refine qs (y_assign RF) ?_
          refine qs (y_assign RF) ?_
          refine sq_nil ?_
          refine sx_then ?_
          refine sc_seq ?_
          refine sc_seq ?_
          refine sc_region ?_
          refine qs (y_assign RF) ?_
          refine sq_nil ?_
          refine sx_then ?_
          refine sc_block ?_
          refine sc_loop (σ := Nat)
            (fun s => [(0, .slice a l.length c), (1, .slice ao o.length co), (2, .slice ah ls.length ch), (3, .agg (spRow q).toArray), (4, .int .i64 need), (8, .pointer (some ⟨b8, 0, none⟩)), (11, .pointer (some ⟨b11, 0, none⟩)), (14, .int .i64 (placeX (ls.map (·.x)))), (15, .int .i64 (farOut (ls.map (·.x)) s)), (17, .int .i64 (lowK (ls.map (·.x)) (placeX (ls.map (·.x))) s)), (18, .int .i64 (placeX (ls.map (·.x)))), (19, .int .i64 s)])
            (fun s => [.blk b11 (.cells (spRow (fringeV ls).1).toArray 24 (0, 0)), .blk b12 (.cells (spRow (fringeV ls).2.1).toArray 24 (0, 0)), .blk b8 (.cells (spRow q).toArray 24 (0, 0)), .reg 0 w])
            (fun s => s ≤ ls.length)
            (fun s => ls.length - s)
            (0) ?_ SU SR ?_
          · exact Nat.zero_le _
          rintro i hi
          refine sc_seq ?_
          refine sc_seq ?_
          refine sc_region ?_
          refine qs (y_move RF) ?_
          refine qs (y_move RF) ?_
          refine qs (y_len Try.underlying22 RF) ?_
          refine qs (y_lss RF RF) ?_
          refine sq_nil ?_
          refine sx_then ?_
          refine scp (fun hc4 => ?_) (fun hc4 => ?_)
          ·
            have hi' : i < ls.length := by omega
            have hsi := (hs.get sf0 hi').1
            have hci := (hs.get sf0 hi').2
            have hown : min (ls.getD i sf0).x.hi (max (ls.getD i sf0).x.lo (placeX (ls.map (·.x)))) = owY (ls.map (·.x)) (placeX (ls.map (·.x))) i := by unfold owY; rw [hxg i hi']
            have hhigh : max (placeX (ls.map (·.x))) (owY (ls.map (·.x)) (placeX (ls.map (·.x))) i) = (placeX (ls.map (·.x))) := by
              have h1 := owY_eq (xs := (ls.map (·.x))) (i := i) (by omega)
              omega
            refine sc_skip ?_
            refine sx_then ?_
            refine sc_seq ?_
            refine sc_block ?_
            refine sc_seq ?_
            refine sc_draw rfl (by kernel_rfl) (by kernel_rfl) ?_
            refine qq_y (OpY.s (y_move RF)) rfl ?_
            refine qq_y (OpY.s (y_move RF)) rfl ?_
            refine qq_y (OpY.s IA22) rfl ?_
            refine qq_y (OpY.s FA51_24) rfl ?_
            refine qq_y (OpY.s FA24_3) rfl ?_
            refine qq_y (OpY.s (by first | exact y_load_cajj Try.underlying3 rfl RF MM hci RF | exact LD3)) rfl ?_
            refine qq_y (OpY.s (y_move RF)) rfl ?_
            refine qq_y (OpY.s (y_move RF)) rfl ?_
            refine qq_y (OpY.s IA22) rfl ?_
            refine qq_y (OpY.s FA51_24) rfl ?_
            refine qq_y (OpY.s FA24_3) rfl ?_
            refine qq_y (OpY.s (by first | exact y_load_cajj Try.underlying3 rfl RF MM hci RF | exact LD3)) rfl ?_
            refine qq_y (OpY.s (y_move RF)) rfl ?_
            refine qq_y (OpY.s (y_max RF RF)) rfl ?_
            refine qq_y (OpY.s (y_min RF RF)) rfl ?_
            refine qq_y (OpY.s (y_assign RF)) rfl ?_
            rw [hown]
            refine qq_nil ?_
            refine sx_then ?_
            refine sc_seq ?_
            refine sc_region ?_
            refine qs (y_move RF) ?_
            refine qs (y_move RF) ?_
            refine qs (y_min RF RF) ?_
            refine qs (y_move RF) ?_
            refine qs (y_move RF) ?_
            refine qs (y_max RF RF) ?_
            rw [hhigh]
            refine qs (y_assign RF) ?_
            refine qs (y_assign RF) ?_
            refine sq_nil ?_
            refine sx_then ?_
            refine sc_seq ?_
            refine sc_region ?_
            refine qs (y_assign RF) ?_
            refine sq_nil ?_
            refine sx_then ?_
            refine sc_block ?_
            refine sc_loop (σ := Nat)
              (fun s => [(0, .slice a l.length c), (1, .slice ao o.length co), (2, .slice ah ls.length ch), (3, .agg (spRow q).toArray), (4, .int .i64 need), (8, .pointer (some ⟨b8, 0, none⟩)), (11, .pointer (some ⟨b11, 0, none⟩)), (14, .int .i64 (placeX (ls.map (·.x)))), (15, .int .i64 (farIn (ls.map (·.x)) i s (farOut (ls.map (·.x)) i))), (17, .int .i64 (lowK (ls.map (·.x)) (placeX (ls.map (·.x))) (i + 1))), (18, .int .i64 (placeX (ls.map (·.x)))), (19, .int .i64 i), (21, .int .i64 s)])
              (fun s => [.blk b11 (.cells (spRow (fringeV ls).1).toArray 24 (0, 0)), .blk b12 (.cells (spRow (fringeV ls).2.1).toArray 24 (0, 0)), .blk b8 (.cells (spRow q).toArray 24 (0, 0)), .reg 0 w])
              (fun s => s ≤ ls.length)
              (fun s => ls.length - s)
              (0) ?_ SU SR ?_
            · exact Nat.zero_le _
            rintro k hk
            refine sc_seq ?_
            refine sc_seq ?_
            refine sc_region ?_
            refine qs (y_move RF) ?_
            refine qs (y_move RF) ?_
            refine qs (y_len Try.underlying22 RF) ?_
            refine qs (y_lss RF RF) ?_
            refine sq_nil ?_
            refine sx_then ?_
            refine scp (fun hc5 => ?_) (fun hc5 => ?_)
            ·
              have hk' : k < ls.length := by omega
              have hsk := (hs.get sf0 hk').1
              have hck := (hs.get sf0 hk').2
              have hbi := hbd i hi'
              have hbk := hbd k hk'
              refine sc_skip ?_
              refine sx_then ?_
              refine sc_seq ?_
              refine sc_block ?_
              refine sc_seq ?_
              refine sc_region ?_
              refine qs (y_move RF) ?_
              refine qs (y_move RF) ?_
              refine qs (y_neq RF RF) ?_
              refine sq_nil ?_
              refine sx_then ?_
              refine scp (fun hc6 => ?_) (fun hc6 => ?_)
              ·
                have hfi : farIn (ls.map (·.x)) i (k + 1) (farOut (ls.map (·.x)) i) = max (farIn (ls.map (·.x)) i k (farOut (ls.map (·.x)) i)) ((ls.getD i sf0).x.hi - (ls.getD k sf0).x.lo) := by
                  conv => { lhs; unfold farIn }
                  rw [if_neg (by omega), hxg i hi', hxg k hk']
                refine sc_draw rfl (by kernel_rfl) (by kernel_rfl) ?_
                refine qq_y (OpY.s (y_move RF)) rfl ?_
                refine qq_y (OpY.s (y_move RF)) rfl ?_
                refine qq_y (OpY.s (y_move RF)) rfl ?_
                refine qq_y (OpY.s IA22) rfl ?_
                refine qq_y (OpY.s FA51_24) rfl ?_
                refine qq_y (OpY.s FA24_3) rfl ?_
                refine qq_y (OpY.s (by first | exact y_load_cajj Try.underlying3 rfl RF MM hci RF | exact LD3)) rfl ?_
                refine qq_y (OpY.s (y_move RF)) rfl ?_
                refine qq_y (OpY.s (y_move RF)) rfl ?_
                refine qq_y (OpY.s IA22) rfl ?_
                refine qq_y (OpY.s FA51_24) rfl ?_
                refine qq_y (OpY.s FA24_3) rfl ?_
                refine qq_y (OpY.s (by first | exact y_load_cajj Try.underlying3 rfl RF MM hck RF | exact LD3)) rfl ?_
                refine qq_y (OpY.s (y_sub RF RF (by omega))) rfl ?_
                refine qq_y (OpY.s (y_max RF RF)) rfl ?_
                rw [← hfi]
                refine qq_y (OpY.s (y_assign RF)) rfl ?_
                refine qq_nil ?_
                refine sx_blk ?_
                refine sx_then ?_
                refine sc_region ?_
                refine qs (y_move RF) ?_
                refine qs (y_add RF RF (by omega)) ?_
                refine qs (y_assign RF) ?_
                refine sq_nil ?_
                refine sx_round (k + 1) ?_ ?_ SU SR
                · omega
                · omega
              ·
                rw [show farIn (ls.map (·.x)) i k (farOut (ls.map (·.x)) i) = farIn (ls.map (·.x)) i (k + 1) (farOut (ls.map (·.x)) i) from by conv => { rhs; unfold farIn }; rw [if_pos (by omega)]]
                refine sc_skip ?_
                refine sx_blk ?_
                refine sx_then ?_
                refine sc_region ?_
                refine qs (y_move RF) ?_
                refine qs (y_add RF RF (by omega)) ?_
                refine qs (y_assign RF) ?_
                refine sq_nil ?_
                refine sx_round (k + 1) ?_ ?_ SU SR
                · omega
                · omega
            ·
              have hkn : k = ls.length := by omega
              rw [show farIn (ls.map (·.x)) i k (farOut (ls.map (·.x)) i) = farOut (ls.map (·.x)) (i + 1) from by rw [hkn, ← hxl]; rfl]
              refine sc_exit ?_
              refine sx_then_exit ?_
              refine sx_round_exit ?_
              refine sx_blk_hit ?_
              refine sx_blk ?_
              refine sx_then ?_
              refine sc_region ?_
              refine qs (y_move RF) ?_
              refine qs (y_add RF RF (by omega)) ?_
              refine qs (y_assign RF) ?_
              refine sq_nil ?_
              refine sx_round (i + 1) ?_ ?_ SU SR
              · omega
              · omega
          ·
            have hin : i = ls.length := by omega
            have hnear : (fringeV ls).1.lo = (placeX (ls.map (·.x))) - lowK (ls.map (·.x)) (placeX (ls.map (·.x))) i := by rw [hfv, hin, ← hxl, ends_near (by omega)]
            have hfar : (fringeV ls).1.hi = farOut (ls.map (·.x)) i := by rw [hfv, hin, ← hxl]; rfl
            refine sc_exit ?_
            refine sx_then_exit ?_
            refine sx_round_exit ?_
            refine sx_blk_hit ?_
            refine sx_then ?_
            refine sc_seq ?_
            refine sc_region ?_
            refine qs FA24_3 ?_
            refine qs LD3 ?_
            refine qs (y_move RF) ?_
            refine qs (y_move RF) ?_
            refine qs (y_sub RF RF (lowK_bd hbd hxg h0 i (by omega))) ?_
            refine qs (y_neq RF RF) ?_
            refine qs (y_move RF) ?_
            refine sq_known (tt := 136) (b' := false) RF (by rw [decide_eq_true hnear]; rfl) ?_
            refine qg FA24_3 ?_
            refine qg LD3 ?_
            refine qg (y_move RF) ?_
            refine qg (y_neq RF RF) ?_
            refine qs (y_pick_f RF RF) ?_
            refine sq_nil ?_
            refine sx_then ?_
            refine sc_f (lk_bool rfl (by rw [decide_eq_true hfar]; rfl)) ?_
            refine sc_skip ?_
            exact sx_midE (()) SU SR
      ·
        refine sc_skip ?_
        exact sx_midE (()) SU SR
    rintro ⟨⟩
    try dsimp only
    refine sx_then ?_
    refine sc_seq ?_
    refine sc_region ?_
    refine qs LD24 ?_
    refine qs (y_move RF) ?_
    refine qy (yc Try.call18 E2 (fun w1 _ => sheets18 w1 q need)) ?_
    refine qs (y_move RF) ?_
    refine qs (y_extract RF RF) ?_
    refine qs (y_extract RF RF) ?_
    refine qs (y_assign RF) ?_
    refine qs (y_assign RF) ?_
    refine sq_nil ?_
    refine sx_then ?_
    refine sc_seq ?_
    refine sc_seq ?_
    refine sc_midE (Z := {v : Bool // v = (decide ((sheetsR q need).2 = 0) && decide (0 < (sheetsR q need).1))}) (fun v => [(0, .slice a l.length c), (1, .slice ao o.length co), (2, .slice ah ls.length ch), (3, .agg (spRow q).toArray), (4, .int .i64 need), (8, .pointer (some ⟨b8, 0, none⟩)), (22, .int .i64 (sheetsR q need).1), (23, .int .i64 (sheetsR q need).2), (153, .bool v.1)]) (fun _ => [.blk b8 (.cells (spRow q).toArray 24 (0, 0)), .reg 0 w]) ?_ ?_
    ·
      refine sc_region ?_
      refine qs (y_move RF) ?_
      refine qs (y_eql RF RF) ?_
      refine qs (y_move RF) ?_
      refine sp 150 (fun hg26_2 => ?_) (fun hg26_2 => ?_)
      ·
        refine qg (y_move RF) ?_
        refine qg (y_gtr RF RF) ?_
        refine qs (y_pick_t RF RF) ?_
        refine sq_nil ?_
        exact sx_midE (⟨decide (0 < (sheetsR q need).1), by rw [decide_eq_true hg26_2, Bool.true_and]⟩) SU SR
      ·
        refine qf ?_
        refine qf ?_
        refine qs (y_pick_f RF RF) ?_
        refine sq_nil ?_
        exact sx_midE (⟨false, by rw [decide_eq_false hg26_2, Bool.false_and]⟩) SU SR
    rintro ⟨vs, hvs⟩
    try dsimp only
    refine sx_then ?_
    refine sc_midE (Z := Unit) (fun _ => [(0, .slice a l.length c), (1, .slice ao o.length co), (2, .slice ah ls.length ch), (3, .agg (spRow q).toArray), (4, .int .i64 need), (8, .pointer (some ⟨b8, 0, none⟩)), (22, .int .i64 (sheetsR q need).1), (23, .int .i64 (sheetsR q need).2)]) (fun _ => [.blk b8 (.cells (spRow q).toArray 24 (0, 0)), .reg 0 w]) ?_ ?_
    ·
      refine scp (fun hc8 => ?_) (fun hc8 => ?_)
      ·
        have hv3 : vs = true := hc8
        rw [hvs, Bool.and_eq_true] at hv3
        have hSF := sheets_ok (s := q) (need := need) (of_decide_eq_true hv3.1)
        have hn0 := of_decide_eq_true hv3.2
        have hval := hSF.val
        have hnle := hSF.le
        have hg1 : goodR q (sheetsR q need).1 = (goodV q (sheetsV q need), 0) := by rw [hval]; exact good_in hSF.sp (by omega) (by omega)
        have hg2 : goodR q ((sheetsR q need).1 - 1) = (goodV q ((sheetsV q need - 1 : Nat) : Int), 0) := by rw [hval, show ((sheetsV q need : Nat) : Int) - 1 = ((sheetsV q need - 1 : Nat) : Int) by omega]; exact good_in hSF.sp (by omega) (by omega)
        have hlessn := hSF.less (sheetsV q need - 1) (by omega)
        have henough := hSF.enough
        obtain ⟨gA, hgA⟩ : ∃ g, goodV q (sheetsV q need) = g := ⟨_, rfl⟩
        obtain ⟨gB, hgB⟩ : ∃ g, goodV q ((sheetsV q need - 1 : Nat) : Int) = g := ⟨_, rfl⟩
        rw [hgA] at hg1 henough
        rw [hgB] at hg2 hlessn
        refine sc_seq ?_
        refine sc_region ?_
        refine qs LD24 ?_
        refine qs (y_move RF) ?_
        refine qy (yc Try.call16 E2 (fun w1 _ => by have h := good16 w1 q (sheetsR q need).1; rw [hg1] at h; exact h)) ?_
        refine qs (y_move RF) ?_
        refine qs (y_extract RF RF) ?_
        refine qs (y_extract RF RF) ?_
        refine sq_alloc Try.zeroValue24 rfl (fun b24 => ?_)
        refine sq_store_all Try.sizeOf24 RF RF rfl RM rfl rfl ?_
        refine qs (y_assign RF) ?_
        refine sq_nil ?_
        refine sx_then ?_
        refine sc_seq ?_
        refine sc_region ?_
        refine qs LD24 ?_
        refine qs (y_move RF) ?_
        refine qs (y_sub RF RF (by omega)) ?_
        refine qy (yc Try.call16 E2 (fun w1 _ => by have h := good16 w1 q ((sheetsR q need).1 - 1); rw [hg2] at h; exact h)) ?_
        refine qs (y_move RF) ?_
        refine qs (y_extract RF RF) ?_
        refine qs (y_extract RF RF) ?_
        refine sq_alloc Try.zeroValue24 rfl (fun b26 => ?_)
        refine sq_store_all Try.sizeOf24 RF RF rfl RM rfl rfl ?_
        refine qs (y_assign RF) ?_
        refine sq_nil ?_
        refine sx_then ?_
        refine sc_seq ?_
        refine sc_region ?_
        refine qs (y_move RF) ?_
        refine qs (y_neq RF RF) ?_
        refine qs (y_move RF) ?_
        refine sq_known (tt := 169) (b' := false) RF (by simp) ?_
        refine qg (y_move RF) ?_
        refine qg (y_neq RF RF) ?_
        refine qs (y_pick_f RF RF) ?_
        refine qs (y_move RF) ?_
        refine sq_known (tt := 173) (b' := false) RF (by simp) ?_
        refine qg FA24_3 ?_
        refine qg LD3 ?_
        refine qg (y_move RF) ?_
        refine qg (y_lss RF RF) ?_
        refine qs (y_pick_f RF RF) ?_
        refine qs (y_move RF) ?_
        refine sq_known (tt := 179) (b' := false) RF (decide_eq_false (by dsimp only; omega)) ?_
        refine qg FA24_3 ?_
        refine qg LD3 ?_
        refine qg (y_move RF) ?_
        refine qg (y_geq RF RF) ?_
        refine qs (y_pick_f RF RF) ?_
        refine sq_nil ?_
        refine sx_then ?_
        refine sc_f (lk_bool rfl (decide_eq_false (by dsimp only; omega))) ?_
        refine sc_skip ?_
        exact sx_midE (()) SU SR
      ·
        refine sc_skip ?_
        exact sx_midE (()) SU SR
    rintro ⟨⟩
    try dsimp only
    refine sx_then ?_
    refine sc_seq ?_
    refine sc_seq ?_
    refine sc_midE (Z := {v : Bool // v = false}) (fun v => [(0, .slice a l.length c), (1, .slice ao o.length co), (2, .slice ah ls.length ch), (3, .agg (spRow q).toArray), (4, .int .i64 need), (8, .pointer (some ⟨b8, 0, none⟩)), (194, .bool v.1)]) (fun _ => [.reg 0 w]) ?_ ?_
    ·
      refine sc_region ?_
      refine qs (y_move RF) ?_
      refine qs (y_eql RF RF) ?_
      refine qs (y_move RF) ?_
      refine sp 187 (fun hg31_2 => ?_) (fun hg31_2 => ?_)
      ·
        refine qg (y_move RF) ?_
        refine qg (y_eql RF RF) ?_
        refine qs (y_pick_t RF RF) ?_
        refine qs (y_move RF) ?_
        refine sp 191 (fun hg31_6 => ?_) (fun hg31_6 => ?_)
        ·
          refine qg (y_move RF) ?_
          refine qg (y_gtr RF RF) ?_
          refine qs (y_pick_t RF RF) ?_
          refine sq_nil ?_
          exact sx_midE (⟨decide (0 < need), decide_eq_false (by
            have hSF := sheets_ok (s := q) (need := need) hg31_2
            have h1 := hSF.enough
            have h2 := hSF.val
            rw [show ((sheetsV q need : Nat) : Int) = 0 by omega, good_zero] at h1
            omega)⟩) SU SR
        ·
          refine qf ?_
          refine qf ?_
          refine qs (y_pick_f RF RF) ?_
          refine sq_nil ?_
          exact sx_midE (⟨false, rfl⟩) SU SR
      ·
        refine qf ?_
        refine qf ?_
        refine qs (y_pick_f RF RF) ?_
        refine qs (y_move RF) ?_
        refine qf ?_
        refine qf ?_
        refine qs (y_pick_f RF RF) ?_
        refine sq_nil ?_
        exact sx_midE (⟨false, rfl⟩) SU SR
    rintro ⟨_, rfl⟩
    try dsimp only
    refine sx_then ?_
    refine sc_f (lk_bool rfl (rfl)) ?_
    refine sc_skip ?_
    refine sx_then ?_
    refine sc_seq ?_
    refine sc_region ?_
    refine qs (y_move RF) ?_
    refine qs (y_move RF) ?_
    refine sq_call_new (first := []) (caps := []) (Z := Option Addr × Nat) (fun z => .tuple #[.slice z.1 (runR l o).1.length z.2, .int .i64 (runR l o).2]) (fun lo w' z => RowsA spRow 2 lo w' z.1 (runR l o).1) RF Try.call20 (EvL.cons RF (EvL.cons RF EvL.nil)) (fun w1 hw1 => run20s w1 a c l (hl.at hw1 MM) ao co o (ho.at hw1 MM) h12) rfl (fun lo33 wr33 z33 hz33 => ?_)
    refine qs (y_move RF) ?_
    refine qs (y_extract RF RF) ?_
    refine qs (y_extract RF RF) ?_
    refine qs (y_assign RF) ?_
    refine qs (y_assign RF) ?_
    refine sq_nil ?_
    refine sx_then ?_
    refine sc_seq ?_
    refine sc_seq ?_
    refine sc_region ?_
    refine qs (y_move RF) ?_
    refine qs (y_neq RF RF) ?_
    refine sq_nil ?_
    refine sx_then ?_
    refine scp (fun hc11 => ?_) (fun hc11 => ?_)
    ·
      have hne : (runR l o).2 ≠ 0 := by simpa using hc11
      have hrl := run_no (l := l) (o := o) hne
      rw [runR_snd] at hne ⊢
      have hch := chk_one hne
      refine sc_seq ?_
      refine sc_region ?_
      refine qs (y_move RF) ?_
      refine qs (y_len Try.underlying36 RF) ?_
      refine qs (y_eql RF RF) ?_
      refine qs (y_move RF) ?_
      refine sq_known (tt := 206) (b' := true) RF (by simp [hrl]) ?_
      refine qg (y_move RF) ?_
      refine qg (y_eql RF RF) ?_
      refine qg (y_move RF) ?_
      refine sq_gt RF RF (y_call (first := []) (caps := []) RF Try.call30 (EvL.cons RF EvL.nil) (fun w1 hw1 => jobs30 w1 a c l (hl.at hw1 MM))) rfl ?_
      refine qg (y_not RF) ?_
      refine qg (y_eqlb Try.underlying4 RF RF) ?_
      refine qs (y_pick_t RF RF) ?_
      refine qs (y_move RF) ?_
      refine sq_known (tt := 214) (b' := true) RF (by
        rcases hch with h | h
        · simp [h.1, h.2]
        · simp [h.1, h.2.1]) ?_
      refine qg (y_move RF) ?_
      refine qg (y_eql RF RF) ?_
      refine qg (y_move RF) ?_
      refine sp 217 (fun hg35_14 => ?_) (fun hg35_14 => ?_)
      ·
        refine qf ?_
        refine qf ?_
        refine qf ?_
        refine sq_gu RF RF rfl ?_
        refine sq_gu RF RF rfl ?_
        refine sq_gu RF RF rfl ?_
        refine sq_gu RF RF rfl ?_
        refine sq_gu RF RF rfl ?_
        refine qf ?_
        refine qg (y_pick_t RF RF) ?_
        refine qs (y_pick_t RF RF) ?_
        refine qs (y_move RF) ?_
        refine sq_gt RF RF (y_call (first := []) (caps := []) RF Try.call13 EvL.nil (fun w1 _ => awake13 w1)) rfl ?_
        refine qs (y_pick_t RF RF) ?_
        refine qs (y_assign RF) ?_
        refine sq_nil ?_
        refine sx_then ?_
        refine sc_ret ?_
        refine sx_then_ret ?_
        refine sx_ret1 (.inl rfl) rfl Try.results7 RF ?_
        intro w' hw'
        exact ⟨rfl, hw'.below MM⟩
      ·
        refine qg (y_move RF) ?_
        refine qg (y_eql RF RF) ?_
        refine qg (y_move RF) ?_
        refine sq_known (tt := 220) (b' := true) RF (by
          rcases hch with h | h
          · exact absurd h.1 hg35_14
          · simp [h.1]) ?_
        refine qg (y_move RF) ?_
        refine qg (y_move RF) ?_
        refine qg (y_len Try.underlying34 RF) ?_
        refine sq_gt RF RF (y_call (first := []) (caps := []) RF Try.call35 (EvL.cons RF (EvL.cons RF EvL.nil)) (fun w1 hw1 => order35 w1 ao co o (ho.at hw1 MM) l.length (by omega))) rfl ?_
        refine qg (y_not RF) ?_
        refine qg (y_pick_t RF RF) ?_
        refine qg (y_pick_f RF RF) ?_
        refine qs (y_pick_t RF RF) ?_
        refine qs (y_move RF) ?_
        refine sq_known (tt := 229) (b' := true) RF (by
          rcases hch with h | h
          · exact absurd h.1 hg35_14
          · simp [h.2.2]) ?_
        refine sq_gt RF RF (y_call (first := []) (caps := []) RF Try.call13 EvL.nil (fun w1 _ => awake13 w1)) rfl ?_
        refine qs (y_pick_t RF RF) ?_
        refine qs (y_assign RF) ?_
        refine sq_nil ?_
        refine sx_then ?_
        refine sc_ret ?_
        refine sx_then_ret ?_
        refine sx_ret1 (.inl rfl) rfl Try.results7 RF ?_
        intro w' hw'
        exact ⟨rfl, hw'.below MM⟩
    ·
      have hch := run_yes (l := l) (o := o) (by simpa using hc11)
      have hT := chkV_ok hch
      obtain ⟨hr1, hr2⟩ := run_ok hch
      have h7 := (jobsB_parts hT.1).1
      have hsl : (runR l o).1.length = l.length := by rw [hr1, spansV_len]
      refine sc_skip ?_
      refine sx_then ?_
      refine sc_seq ?_
      refine sc_seq ?_
      refine sc_region ?_
      refine qs (y_move RF) ?_
      refine qy (yc Try.call30 E1 (fun w1 hw1 => jobs30 w1 a c l (hl.at hw1 MM))) ?_
      refine qs (y_not RF) ?_
      refine qs (y_move RF) ?_
      refine sq_known (tt := 235) (b' := false) RF (by simp [hT.1]) ?_
      refine qg (y_move RF) ?_
      refine qg (y_move RF) ?_
      refine qg (y_len Try.underlying34 RF) ?_
      refine sq_gt RF RF (y_call (first := []) (caps := []) RF Try.call35 (EvL.cons RF (EvL.cons RF EvL.nil)) (fun w1 hw1 => order35 w1 ao co o (ho.at hw1 MM) l.length (by omega))) rfl ?_
      refine qg (y_not RF) ?_
      refine qs (y_pick_f RF RF) ?_
      refine qs (y_move RF) ?_
      refine sq_known (tt := 242) (b' := false) RF (by simp [hT.2]) ?_
      refine qg (y_move RF) ?_
      refine qg (y_len Try.underlying36 RF) ?_
      refine qg (y_move RF) ?_
      refine qg (y_len Try.underlying34 RF) ?_
      refine qg (y_neq RF RF) ?_
      refine qs (y_pick_f RF RF) ?_
      refine sq_nil ?_
      refine sx_then ?_
      refine sc_f (lk_bool rfl (by rw [hsl]; simp)) ?_
      refine sc_skip ?_
      refine sx_then ?_
      refine sc_seq ?_
      refine sc_region ?_
      refine qs (y_move RF) ?_
      refine sq_call_new (first := []) (caps := []) (Z := (Option Addr × Nat) × Option Addr × Nat) (fun z => .agg #[.slice z.1.1 l.length z.1.2, .slice z.2.1 l.length z.2.2]) (fun lo w' z => RowsA iRow 1 lo w' z.1.1 ((l.map (timeV false)).map (fun (t : Tm) => t.1)) ∧ RowsA iRow 1 lo w' z.2.1 ((l.map (timeV false)).map (fun (t : Tm) => t.2))) RF Try.call37 (EvL.cons RF EvL.nil) (fun w1 hw1 => fast37 w1 a c l (hl.at hw1 MM) h7) rfl (fun lo37 wr37 z37 hz37 => ?_)
      refine qs (y_move RF) ?_
      refine sq_call_own (first := []) (caps := []) (Z := Value) (e := 3) (sz := 1) (n := l.length) (fun z => z) (fun z => z) (fun _ => (endsV (l.map (timeV false)) o).flatMap iRow) (fun z => z.oneCell' = true) RF Try.call36 (EvL.cons RF (EvL.cons RF EvL.nil)) (fun w1 hw1 => ends36n l.length (List.length_map _) (hz37.1.at hw1 MM) (hz37.2.at hw1 MM) (ho.at hw1 MM) (ordOk.of hT.1 hT.2 false)) rfl (fun v252 hv252 => ?_)
      refine qs (y_move RF) ?_
      refine sq_call_new (first := []) (caps := []) (Z := (Option Addr × Nat) × Option Addr × Nat) (fun z => .agg #[.slice z.1.1 l.length z.1.2, .slice z.2.1 l.length z.2.2]) (fun lo w' z => RowsA iRow 1 lo w' z.1.1 ((l.map (timeV true)).map (fun (t : Tm) => t.1)) ∧ RowsA iRow 1 lo w' z.2.1 ((l.map (timeV true)).map (fun (t : Tm) => t.2))) RF Try.call38 (EvL.cons RF EvL.nil) (fun w1 hw1 => slow38 w1 a c l (hl.at hw1 MM) h7) rfl (fun lo38 wr38 z38 hz38 => ?_)
      refine qs (y_move RF) ?_
      refine sq_call_own (first := []) (caps := []) (Z := Value) (e := 3) (sz := 1) (n := l.length) (fun z => z) (fun z => z) (fun _ => (endsV (l.map (timeV true)) o).flatMap iRow) (fun z => z.oneCell' = true) RF Try.call36 (EvL.cons RF (EvL.cons RF EvL.nil)) (fun w1 hw1 => ends36n l.length (List.length_map _) (hz38.1.at hw1 MM) (hz38.2.at hw1 MM) (ho.at hw1 MM) (ordOk.of hT.1 hT.2 true)) rfl (fun v256 hv256 => ?_)
      refine qs (y_assign RF) ?_
      refine qs (y_assign RF) ?_
      refine sq_nil ?_
      refine sx_then ?_
      refine sc_seq ?_
      refine sc_seq ?_
      refine sc_region ?_
      refine qs (y_assign RF) ?_
      refine sq_nil ?_
      refine sx_then ?_
      refine sc_block ?_
      refine sc_loop (σ := Nat)
        (fun s => [(0, .slice a l.length c), (28, .slice z33.1 (runR l o).1.length z33.2), (30, v252), (31, v256), (32, .int .i64 s)])
        (fun s => [.own v252 3 1 l.length ((endsV (l.map (timeV false)) o).flatMap iRow), .own v256 3 1 l.length ((endsV (l.map (timeV true)) o).flatMap iRow), .reg lo33 wr33, .reg 0 w])
        (fun s => s ≤ l.length)
        (fun s => l.length - s)
        (0) ?_ SU SR ?_
      · exact Nat.zero_le _
      rintro k hk
      refine sc_seq ?_
      refine sc_seq ?_
      refine sc_region ?_
      refine qs (y_move RF) ?_
      refine qs (y_move RF) ?_
      refine qs (y_len Try.underlying34 RF) ?_
      refine qs (y_lss RF RF) ?_
      refine sq_nil ?_
      refine sx_then ?_
      refine scp (fun hc13 => ?_) (fun hc13 => ?_)
      ·
        have hk' : k < l.length := by omega
        have hsm := (hz33.get sp0 (show k < (runR l o).1.length by omega)).1
        have hca := (hz33.get sp0 (show k < (runR l o).1.length by omega)).2
        have hgd : (runR l o).1.getD k sp0 = spanK l o k := by rw [hr1]; exact spansV_getD hk'
        have hel : ∀ hi : Bool, (endsV (l.map (timeV hi)) o).length = l.length := fun hi => by unfold endsV; rw [endsK_len, List.length_map]
        refine sc_skip ?_
        refine sx_then ?_
        refine sc_seq ?_
        refine sc_block ?_
        refine sc_seq ?_
        refine sc_draw rfl (by kernel_rfl) (by kernel_rfl) ?_
        refine qq_y (OpY.s (y_move RF)) rfl ?_
        refine qq_y (OpY.s (y_move RF)) rfl ?_
        refine qq_y (OpY.s IA36) rfl ?_
        refine qq_y (OpY.s (by first | exact y_load_ca Try.underlying24 rfl Try.sizeOf24 RF MM hca rfl | exact LD24)) rfl ?_
        refine qq_y (OpY.s (y_move RF)) rfl ?_
        refine qq_y (OpY.s (y_move RF)) rfl ?_
        refine qq_y (OpY.s (y_ia_own Try.underlying35 Try.sizeOf3 RF MM RF hk')) rfl ?_
        refine qq_y (OpY.s (by first | exact y_load_own0 (v := v252) (u := .int .i64 ((endsV (l.map (timeV false)) o).getD k 0)) Try.underlying3 rfl RF MM hk' (flat_iget (get_of_lt 0 (by rw [hel]; exact hk'))) | exact LD3)) rfl ?_
        refine qq_y (OpY.s (y_move RF)) rfl ?_
        refine qq_y (OpY.s (y_move RF)) rfl ?_
        refine qq_y (OpY.s (y_ia_own Try.underlying35 Try.sizeOf3 RF MM RF hk')) rfl ?_
        refine qq_y (OpY.s (by first | exact y_load_own0 (v := v256) (u := .int .i64 ((endsV (l.map (timeV true)) o).getD k 0)) Try.underlying3 rfl RF MM hk' (flat_iget (get_of_lt 0 (by rw [hel]; exact hk'))) | exact LD3)) rfl ?_
        refine qq_y (y_call (first := []) (caps := []) RF Try.call33 (EvL.cons RF (EvL.cons RF EvL.nil)) (fun w1 _ => span33 w1 _ _)) rfl ?_
        refine qq_y (OpY.s (y_neqs (by kernel_rfl) RF RF (neq24 _ _ _ _))) rfl ?_
        refine qq_nil ?_
        refine sx_then ?_
        refine sc_f (lk_bool rfl (by rw [hgd]; simp [spanK])) ?_
        refine sc_skip ?_
        refine sx_blk ?_
        refine sx_then ?_
        refine sc_region ?_
        refine qs (y_move RF) ?_
        refine qs (y_add RF RF (by omega)) ?_
        refine qs (y_assign RF) ?_
        refine sq_nil ?_
        refine sx_round (k + 1) ?_ ?_ SU SR
        · omega
        · omega
      ·
        refine sc_exit ?_
        refine sx_then_exit ?_
        refine sx_round_exit ?_
        refine sx_blk_hit ?_
        refine sx_then ?_
        refine sc_seq ?_
        refine sc_region ?_
        refine qy (yc Try.call13 E0 (fun w1 _ => awake13 w1)) ?_
        refine qs (y_assign RF) ?_
        refine sq_nil ?_
        refine sx_then ?_
        refine sc_ret ?_
        refine sx_ret1 (.inl rfl) rfl Try.results7 RF ?_
        intro w' hw'
        exact ⟨rfl, hw'.below MM⟩
end Go.Proofs.Ytjlbpmcacopbpaa
