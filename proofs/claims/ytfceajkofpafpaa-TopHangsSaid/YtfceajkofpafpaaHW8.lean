/- The walks of Join; of the document's Cut and Cells. -/
import Derived.Test.YtfceajkofpafpaaHW7
namespace Go.Proofs.Ytfceajkofpafpaa
open Go Go.Eng Go.RowKit Go.Proofs
open Go.Proofs.Ytfceajkofpafpaa.Sc (iRow spRow sp0 Sp getD_of get_of_lt any_range_get all_not_any all_getD)
set_option maxRecDepth 100000
theorem sq_own_dest {X : Ctx} {Q : Post} {L : List (Nat × Value)} {rs : List Res} {ops : Array Oper} {l : List Oper} {v : Value} {e : TypeId} {sz m : Nat} {xs : List Value} (hm : Res.own v e sz m xs ∈ rs) (h : ∀ a cp, v = .slice a m cp → m ≤ cp → (a = none → m = 0) → SQ X ops Q l L rs) : SQ X ops Q l L rs := fun a w ha hw => by
  obtain ⟨a0, cp, h1, h2, h3⟩ := own_dest hw hm
  exact h a0 cp h1 h2 h3 a w ha hw
theorem one3 (a b : Int) {v : Value} (h : v.oneCell' = true) : ([.int .i64 a, .int .i64 b, v] : List Value).all (·.oneCell') = true := by
  simp only [List.all_cons, List.all_nil, h]; rfl
theorem mix_put {f : Int → Int} {l : List Int} {s : Nat} (h : s < l.length) {v : Int} (e : f (l.getD s 0) = v) : (mixL f l s).set s v = mixL f l (s + 1) := by rw [← e, mix_set f l h]
theorem join6 (w : World) (c : Ct) (a : Option Addr) (cp : Nat) (hp : RowsA iRow 1 0 w a c.piece) (ja jb : Int) : Calls Try.prog 6 #[.agg (ctV c a cp).toArray, .int .i64 ja, .int .i64 jb] w fun e w' => ∃ y : Value × Int, e = .returned (.tuple #[.agg (jnV c y).toArray, .int .i64 y.2]) ∧ Below w.heap.size w w' ∧ (y.2 = 0 → JoinOk c ja jb ∧ y.1.oneCell' = true ∧ w'.ownsRow w.heap.size 3 1 y.1 c.piece.length ((joinC c ja jb).piece.flatMap iRow)) := by
  unfold ctV
  refine calls_of_SC (args := [.agg #[.int .i64 c.wide, .int .i64 c.high, .slice a c.piece.length cp], .int .i64 ja, .int .i64 jb]) Try.func6 rfl Try.ntmps6 rfl ?_
  simp only [argL, Nat.reduceAdd, Nat.zero_add]
  refine sc_seq ?_
  refine sc_region ?_
  refine sq_box RF rfl (fun b3 => ?_)
  refine sq_alloc Try.zeroValue24 rfl (fun b6 => ?_)
  refine qs (y_assign RF) ?_
  refine sq_nil ?_
  refine sx_then ?_
  refine sc_seq ?_
  refine sc_region ?_
  refine qs LD24 ?_
  refine qs (y_move RF) ?_
  refine sq_call_new (first := []) (caps := []) (Z := Nat × Int) (opV c a cp) (fun lo w' z => OpenF c ja lo w' z) RF Try.call21 (EvL.cons RF (EvL.cons RF EvL.nil)) (fun w1 hw1 => open21 w1 c a cp (hp.at hw1 MM) ja) rfl (fun lo1 wr1 z hz => ?_)
  refine qs (y_move RF) ?_
  refine qs (y_extract RF RF) ?_
  refine qs (y_extract RF RF) ?_
  refine qs (y_extract RF RF) ?_
  refine sq_alloc Try.zeroValue90 rfl (fun b8 => ?_)
  refine sq_store_all (vs := opP c a cp z) Try.sizeOf90 RF RF (opP_one c a cp z) RM (opP_len c a cp z) rfl ?_
  refine qs (y_assign RF) ?_
  refine qs (y_assign RF) ?_
  refine sq_nil ?_
  refine sx_then ?_
  refine sc_seq ?_
  refine sc_block ?_
  refine sc_seq ?_
  refine sc_region ?_
  refine qs (y_move RF) ?_
  refine qs (y_neq RF RF) ?_
  refine qs (y_assign RF) ?_
  refine sq_nil ?_
  refine sx_then ?_
  refine scp (fun hc0 => ?_) (fun hc0 => ?_)
  ·
    refine sc_seq ?_
    refine sc_region ?_
    refine qs (y_build bt24 EvP.nil RF) ?_
    refine qs (y_move RF) ?_
    refine sq_store_all Try.sizeOf24 RF RF rfl RM rfl rfl ?_
    refine qs (y_assign RF) ?_
    refine sq_nil ?_
    refine sx_then ?_
    refine sc_ret ?_
    refine sx_blk_ret ?_
    refine sx_then_ret ?_
    refine sx_retct (.inl rfl) rfl Try.results6 Try.underlying24 rfl Try.sizeOf24 RF MM rfl RF ?_
    intro w' hw'
    exact ⟨(.slice none 0 0, z.2), by unfold jnV; rw [if_neg hc0]; rfl, hw'.below MM, fun h => absurd h hc0⟩
  ·
    obtain ⟨hgd, hbm⟩ := hz.1 hc0
    have hok := hgd.1
    have hnP := nP_eq hok.ok
    rw [show opN c z = ((nP c : Nat) : Int) from if_pos hc0, show opP c a cp z = picV c a cp z.1 from if_pos hc0, hc0]
    unfold picV
    refine sc_seq ?_
    refine sc_region ?_
    refine qs (y_move RF) ?_
    refine qs (y_move RF) ?_
    refine qs (y_sub RF RF (by omega)) ?_
    refine qy (yc Try.call22 E3 (fun w1 hw1 => within22 _ _ _ w1)) ?_
    refine qs (y_not RF) ?_
    refine qs (y_move RF) ?_
    refine sp 32 (fun hg4_5 => ?_) (fun hg4_5 => ?_)
    ·
      refine qf ?_
      refine qf ?_
      refine qf ?_
      refine qs (y_pick_t RF RF) ?_
      refine qs (y_assign RF) ?_
      refine sq_nil ?_
      refine sx_then ?_
      refine sc_t RF ?_
      refine sc_seq ?_
      refine sc_region ?_
      refine qs (y_build bt24 EvP.nil RF) ?_
      refine sq_store_all Try.sizeOf24 RF RF rfl RM rfl rfl ?_
      refine qs (y_assign RF) ?_
      refine sq_nil ?_
      refine sx_then ?_
      refine sc_ret ?_
      refine sx_blk_ret ?_
      refine sx_then_ret ?_
      refine sx_retct (.inl rfl) rfl Try.results6 Try.underlying24 rfl Try.sizeOf24 RF MM rfl RF ?_
      intro w' hw'
      exact ⟨(.slice none 0 0, 2), rfl, hw'.below MM, fun h => absurd h (show ¬ (2 : Int) = 0 by decide)⟩
    ·
      refine qg (y_move RF) ?_
      refine qg (y_move RF) ?_
      refine qg (y_eql RF RF) ?_
      refine qs (y_pick_f RF RF) ?_
      refine qs (y_assign RF) ?_
      refine sq_nil ?_
      refine sx_then ?_
      refine scp (fun hc1 => ?_) (fun hc1 => ?_)
      ·
        refine sc_seq ?_
        refine sc_region ?_
        refine qs (y_build bt24 EvP.nil RF) ?_
        refine sq_store_all Try.sizeOf24 RF RF rfl RM rfl rfl ?_
        refine qs (y_assign RF) ?_
        refine sq_nil ?_
        refine sx_then ?_
        refine sc_ret ?_
        refine sx_blk_ret ?_
        refine sx_then_ret ?_
        refine sx_retct (.inl rfl) rfl Try.results6 Try.underlying24 rfl Try.sizeOf24 RF MM rfl RF ?_
        intro w' hw'
        exact ⟨(.slice none 0 0, 2), rfl, hw'.below MM, fun h => absurd h (show ¬ (2 : Int) = 0 by decide)⟩
      ·
        refine sc_seq ?_
        refine sc_region ?_
        refine qs LD90 ?_
        refine sq_call_new (first := []) (caps := []) (Z := Nat × List ((Int × Int) × Int)) (fun y => .map (some y.1)) (fun lo w' y => lo ≤ y.1 ∧ w'.heap[y.1]? = some (mvM cK iV y.2) ∧ Em (edgeN c) y.2) RF Try.call23 (EvL.cons RF EvL.nil) (fun w1 hw1 => edges23 w1 c hok.ok a cp z.1 (hbm.at hw1 MM)) rfl (fun lo2 wr2 y hy => ?_)
        refine qs (y_move RF) ?_
        refine qs (y_move RF) ?_
        refine qs (y_build bt97 (EvP.cons RF (EvP.cons RF EvP.nil)) RF) ?_
        refine qs (y_lookupV (l := y.2) (kf := cK) (vf := iV) (x0 := (ja, jb)) (b0 := 0) kv97.toKF hy.2.2.ok hy.2.2.nd (⟨⟨by omega, by omega⟩, ⟨by omega, by omega⟩⟩) Try.underlying94 Try.zeroValue3 RF (fun _ hw => heap_reg hw MM hy.1 hy.2.1) RF) ?_
        rw [show iV ((mvGet y.2 (ja, jb)).getD 0) = .int .i64 ((edgeN c ja jb : Nat) : Int) from by rw [hy.2.2.get]; rfl]
        refine qs (y_eql RF RF) ?_
        refine qs (y_assign RF) ?_
        refine sq_nil ?_
        refine sx_then ?_
        refine scp (fun hc2 => ?_) (fun hc2 => ?_)
        ·
          refine sc_seq ?_
          refine sc_region ?_
          refine qs (y_build bt24 EvP.nil RF) ?_
          refine sq_store_all Try.sizeOf24 RF RF rfl RM rfl rfl ?_
          refine qs (y_assign RF) ?_
          refine sq_nil ?_
          refine sx_then ?_
          refine sc_ret ?_
          refine sx_blk_ret ?_
          refine sx_then_ret ?_
          refine sx_retct (.inl rfl) rfl Try.results6 Try.underlying24 rfl Try.sizeOf24 RF MM rfl RF ?_
          intro w' hw'
          exact ⟨(.slice none 0 0, 6), rfl, hw'.below MM, fun h => absurd h (show ¬ (6 : Int) = 0 by decide)⟩
        ·
          refine sc_skip ?_
          refine sx_blk ?_
          refine sx_then ?_
          refine sc_seq ?_
          refine sc_region ?_
          refine qs (y_move RF) ?_
          refine qs (y_move RF) ?_
          refine qs (y_min RF RF) ?_
          refine qs (y_move RF) ?_
          refine qs (y_move RF) ?_
          refine qs (y_max RF RF) ?_
          refine qs (y_assign RF) ?_
          refine qs (y_assign RF) ?_
          refine sq_nil ?_
          refine sx_then ?_
          refine sc_seq ?_
          have hlen := hok.ok.n0
          refine sc_midE (Z := Nat × Option Addr × Nat) (fun z => [(1, .int .i64 (min ja jb)), (2, .int .i64 (max ja jb)), (6, .pointer (some ⟨b6, 0, none⟩)), (11, .pointer (some ⟨z.1, 0, none⟩))]) (fun z => [.own (.slice z.2.1 c.piece.length z.2.2) 3 1 c.piece.length (c.piece.flatMap iRow), .blk z.1 (.cells #[.int .i64 c.wide, .int .i64 c.high, (.slice z.2.1 c.piece.length z.2.2)] 24 (0, 0)), .blk b6 (.cells #[.int .i64 0, .int .i64 0, .slice none 0 0] 24 (0, 0)), .reg 0 w]) ?_ ?_
          ·
            refine sc_drawR (by kernel_rfl) ?_
            refine xj_s 0 RF (by kernel_rfl) SR FA24_3 rfl ?_
            refine xj_s 1 RF (by kernel_rfl) SR LD3 rfl ?_
            refine xj_s 2 RF (by kernel_rfl) SR FA24_3 rfl ?_
            refine xj_s 3 RF (by kernel_rfl) SR LD3 rfl ?_
            refine xj_s 4 RF (by kernel_rfl) SR FA24_22 rfl ?_
            refine xj_s 5 RF (by kernel_rfl) SR LD22 rfl ?_
            refine xj_all (l := [6, 8]) (by kernel_rfl) (by simp) (Each.cons ⟨_, rfl, ?_⟩ (Each.cons ⟨_, rfl, ?_⟩ Each.nil))
            ·
              refine sq_call_own (first := []) (caps := []) (e := 3) (sz := 1) (n := c.piece.length) (Z := Value) (fun x => x) (fun x => x) (fun _ => c.piece.flatMap iRow) (fun x => x.oneCell' = true) RF Try.call24 E1 (fun w1 hw1 => (clone24o w1 a cp c.piece (hp.at hw1 MM) (by omega) (by omega)).mono (fun e w' ⟨x, h1, h2, h3, h4⟩ => ⟨x, h1, h2, h3, h4⟩)) rfl (fun v59 ho59 => ?_)
              refine sq_own_dest (e := 3) (sz := 1) (m := c.piece.length) (xs := c.piece.flatMap iRow) MM (fun an cn hvn _ _ => ?_)
              subst hvn
              refine sq_nil ?_
              refine sx_xp SR ?_
              refine xj_s 7 RF (by kernel_rfl) SR (y_build (cells := #[.int .i64 c.wide, .int .i64 c.high, (.slice an c.piece.length cn)]) bt24 (EvP.cons RF (EvP.cons RF (EvP.cons RF EvP.nil))) (by kernel_rfl)) rfl ?_
              refine xj_one 8 RF (by kernel_rfl) ?_
              refine sq_alloc Try.zeroValue24 rfl (fun b11 => ?_)
              refine sq_nil ?_
              refine sx_xp SR ?_
              refine xj_one 9 RF (by kernel_rfl) ?_
              refine sq_store_all (vs := [.int .i64 c.wide, .int .i64 c.high, (.slice an c.piece.length cn)]) Try.sizeOf24 RF RF rfl RM rfl rfl ?_
              refine sq_nil ?_
              refine sx_xpl (by kernel_rfl) ?_
              refine xj_done (by kernel_rfl) ?_
              exact sx_midE ((b11, an, cn)) SU SR
            ·
              refine sq_alloc Try.zeroValue24 rfl (fun b11 => ?_)
              refine sq_nil ?_
              refine sx_xp SR ?_
              refine xj_one 6 RF (by kernel_rfl) ?_
              refine sq_call_own (first := []) (caps := []) (e := 3) (sz := 1) (n := c.piece.length) (Z := Value) (fun x => x) (fun x => x) (fun _ => c.piece.flatMap iRow) (fun x => x.oneCell' = true) RF Try.call24 E1 (fun w1 hw1 => (clone24o w1 a cp c.piece (hp.at hw1 MM) (by omega) (by omega)).mono (fun e w' ⟨x, h1, h2, h3, h4⟩ => ⟨x, h1, h2, h3, h4⟩)) rfl (fun v59 ho59 => ?_)
              refine sq_own_dest (e := 3) (sz := 1) (m := c.piece.length) (xs := c.piece.flatMap iRow) MM (fun an cn hvn _ _ => ?_)
              subst hvn
              refine sq_nil ?_
              refine sx_xp SR ?_
              refine xj_s 7 RF (by kernel_rfl) SR (y_build (cells := #[.int .i64 c.wide, .int .i64 c.high, (.slice an c.piece.length cn)]) bt24 (EvP.cons RF (EvP.cons RF (EvP.cons RF EvP.nil))) (by kernel_rfl)) rfl ?_
              refine xj_one 9 RF (by kernel_rfl) ?_
              refine sq_store_all (vs := [.int .i64 c.wide, .int .i64 c.high, (.slice an c.piece.length cn)]) Try.sizeOf24 RF RF rfl RM rfl rfl ?_
              refine sq_nil ?_
              refine sx_xpl (by kernel_rfl) ?_
              refine xj_done (by kernel_rfl) ?_
              exact sx_midE ((b11, an, cn)) SU SR
          rintro ⟨b11, an, cn⟩
          try dsimp only
          refine sx_then ?_
          refine sc_seq ?_
          refine sc_seq ?_
          refine sc_region ?_
          refine qs FA24_22 ?_
          refine qs LD22 ?_
          refine qs (y_len_own Try.underlying22 RF MM) ?_
          refine qs (y_move RF) ?_
          refine sq_nil ?_
          refine sx_then ?_
          refine sc_block ?_
          rw [show c.piece.flatMap iRow = (mixL (jn (min ja jb) (max ja jb)) c.piece 0).flatMap iRow from by rw [mix_zero]]
          refine sc_loop (σ := Nat)
            (fun s => [(1, .int .i64 (min ja jb)), (2, .int .i64 (max ja jb)), (6, .pointer (some ⟨b6, 0, none⟩)), (11, .pointer (some ⟨b11, 0, none⟩)), (62, (.slice an c.piece.length cn)), (63, .int .i64 (c.piece.length : Int)), (64, .int .i64 s)])
            (fun s => [.own (.slice an c.piece.length cn) 3 1 c.piece.length ((mixL (jn (min ja jb) (max ja jb)) c.piece s).flatMap iRow), .blk b11 (.cells #[.int .i64 c.wide, .int .i64 c.high, (.slice an c.piece.length cn)] 24 (0, 0)), .blk b6 (.cells #[.int .i64 0, .int .i64 0, .slice none 0 0] 24 (0, 0)), .reg 0 w])
            (fun s => s ≤ c.piece.length)
            (fun s => c.piece.length - s)
            (0) ?_ SU SR ?_
          · exact Nat.zero_le _
          rintro s hs
          refine sc_seq ?_
          refine sc_region ?_
          refine qs (y_lss RF RF) ?_
          refine sq_nil ?_
          refine sx_then ?_
          refine sc_seq ?_
          refine scp (fun hc3 => ?_) (fun hc3 => ?_)
          ·
            have hs' : s < c.piece.length := by omega
            refine sc_skip ?_
            refine sx_then ?_
            refine sc_seq ?_
            refine sc_block ?_
            refine sc_seq ?_
            refine sc_region ?_
            refine qs (y_move RF) ?_
            refine qs (y_ia_own (v := .slice an c.piece.length cn) (i := s) Try.underlying22 Try.sizeOf3 RF MM RF hs') ?_
            refine qs (by first | exact y_load_own0 (v := .slice an c.piece.length cn) (u := .int .i64 (c.piece.getD s 0)) Try.underlying3 rfl RF MM hs' (flat_iget (by rw [mix_at _ _ hs', if_neg (Nat.lt_irrefl _)])) | exact LD3) ?_
            refine qs (y_assign RF) ?_
            refine qs (y_assign RF) ?_
            refine sq_nil ?_
            refine sx_then ?_
            refine sc_block ?_
            refine sc_seq ?_
            refine sc_region ?_
            refine qs (y_move RF) ?_
            refine qs (y_move RF) ?_
            refine qs (y_eql RF RF) ?_
            refine qs (y_assign RF) ?_
            refine sq_nil ?_
            refine sx_then ?_
            refine scp (fun hc4 => ?_) (fun hc4 => ?_)
            ·
              refine sc_region ?_
              refine qs FA24_22 ?_
              refine qs LD22 ?_
              refine qs (y_move RF) ?_
              refine qs (y_move RF) ?_
              refine qs (y_ia_own (v := .slice an c.piece.length cn) (i := s) Try.underlying22 Try.sizeOf3 RF MM RF hs') ?_
              refine sq_store_own (v := .slice an c.piece.length cn) (i := s) (j := 0) (sz := 1) Try.sizeOf3 RF RF rfl RM hs' (by decide) ?_
              rw [iset, mix_put (f := jn (min ja jb) (max ja jb)) hs' (show jn (min ja jb) (max ja jb) (c.piece.getD s 0) = min ja jb from if_pos hc4)]
              refine sq_nil ?_
              refine sx_blk ?_
              refine sx_blk ?_
              refine sx_then ?_
              refine sc_region ?_
              refine qs (y_add RF RF (by omega)) ?_
              refine qs (y_move RF) ?_
              refine sq_nil ?_
              refine sx_round (s + 1) ?_ ?_ SU SR
              · omega
              · omega
            ·
              refine sc_seq ?_
              refine sc_region ?_
              refine qs (y_move RF) ?_
              refine qs (y_move RF) ?_
              refine qs (y_gtr RF RF) ?_
              refine qs (y_assign RF) ?_
              refine sq_nil ?_
              refine sx_then ?_
              refine scp (fun hc5 => ?_) (fun hc5 => ?_)
              ·
                refine sc_region ?_
                refine qs FA24_22 ?_
                refine qs LD22 ?_
                refine qs (y_move RF) ?_
                refine qs (y_ia_own (v := .slice an c.piece.length cn) (i := s) Try.underlying22 Try.sizeOf3 RF MM RF hs') ?_
                refine qs (by first | exact y_load_own0 (v := .slice an c.piece.length cn) (u := .int .i64 (c.piece.getD s 0)) Try.underlying3 rfl RF MM hs' (flat_iget (by rw [mix_at _ _ hs', if_neg (Nat.lt_irrefl _)])) | exact LD3) ?_
                refine qs (y_sub RF RF (by have := hok.ok.bd _ (getD_in hs'); omega)) ?_
                refine qs (y_ia_own (v := .slice an c.piece.length cn) (i := s) Try.underlying22 Try.sizeOf3 RF MM RF hs') ?_
                refine sq_store_own (v := .slice an c.piece.length cn) (i := s) (j := 0) (sz := 1) Try.sizeOf3 RF RF rfl RM hs' (by decide) ?_
                rw [iset, mix_put (f := jn (min ja jb) (max ja jb)) hs' (show jn (min ja jb) (max ja jb) (c.piece.getD s 0) = c.piece.getD s 0 - 1 from (if_neg hc4).trans (if_pos hc5))]
                refine sq_nil ?_
                refine sx_blk ?_
                refine sx_blk ?_
                refine sx_then ?_
                refine sc_region ?_
                refine qs (y_add RF RF (by omega)) ?_
                refine qs (y_move RF) ?_
                refine sq_nil ?_
                refine sx_round (s + 1) ?_ ?_ SU SR
                · omega
                · omega
              ·
                refine sc_skip ?_
                refine sx_blk ?_
                refine sx_blk ?_
                refine sx_then ?_
                refine sc_region ?_
                refine qs (y_add RF RF (by omega)) ?_
                refine qs (y_move RF) ?_
                refine sq_nil ?_
                rw [show mixL (jn (min ja jb) (max ja jb)) c.piece s = mixL (jn (min ja jb) (max ja jb)) c.piece (s + 1) from (mix_skip hs' (show jn (min ja jb) (max ja jb) (c.piece.getD s 0) = c.piece.getD s 0 from (if_neg hc4).trans (if_neg hc5))).symm]
                refine sx_round (s + 1) ?_ ?_ SU SR
                · omega
                · omega
          ·
            have hsn : s = c.piece.length := by omega
            subst hsn
            refine sc_exit ?_
            refine sx_then_exit ?_
            refine sx_round_exit ?_
            refine sx_blk_hit ?_
            refine sx_then ?_
            refine sc_seq ?_
            refine sc_region ?_
            refine qs (by first | exact y_load_all (vs := [.int .i64 c.wide, .int .i64 c.high, (.slice an c.piece.length cn)]) Try.underlying24 rfl Try.sizeOf24 RF MM rfl | exact LD24) ?_
            refine sq_store_all (vs := [.int .i64 c.wide, .int .i64 c.high, (.slice an c.piece.length cn)]) Try.sizeOf24 RF RF rfl RM rfl rfl ?_
            refine qs (y_assign RF) ?_
            refine sq_nil ?_
            refine sx_then ?_
            refine sc_ret ?_
            refine sx_retct (.inl rfl) rfl Try.results6 Try.underlying24 rfl Try.sizeOf24 RF MM rfl RF ?_
            intro w' hw'
            have ho := own_new_mem hw' (v := .slice an c.piece.length cn) (xs := (mixL (jn (min ja jb) (max ja jb)) c.piece c.piece.length).flatMap iRow) MM MM
            rw [mix_all] at ho
            exact ⟨((.slice an c.piece.length cn), 0), rfl, hw'.below MM, fun _ => ⟨⟨hgd, by omega, by omega, by omega⟩, rfl, ho⟩⟩
end Go.Proofs.Ytfceajkofpafpaa
