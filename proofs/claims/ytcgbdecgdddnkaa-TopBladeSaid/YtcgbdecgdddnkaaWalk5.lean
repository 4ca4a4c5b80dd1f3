/- The walk of TopBlade. -/
import Derived.Test.YtcgbdecgdddnkaaLaw1
namespace Go.Proofs.Ytcgbdecgdddnkaa
open Go Go.Eng Go.RowKit Go.Proofs
set_option maxRecDepth 100000

theorem blade3 (w : World) (d : Di) (a : Option Addr) (c : Nat) (hB : RowsA blRow 4 0 w a d.blades) (tz st sl lo da gp wd : Int) (hsl : 0 ≤ sl ∧ sl ≤ 255) (hlo : 0 ≤ lo ∧ lo ≤ 255) (hda : 0 ≤ da ∧ da ≤ 255) (hgp : 0 ≤ gp ∧ gp ≤ 255) (hwd : 0 ≤ wd ∧ wd ≤ 65535) :
    Calls Try.prog 3 #[.agg (diRow d a c).toArray, .int .i64 tz, .int .i64 st, .int .u8 sl, .int .u8 lo, .int .u8 da, .int .u8 gp, .int .u16 wd] w fun e w' => e = .returned (.bool true) ∧ Below w.heap.size w w' := by
  have hlen := hB.len
  refine calls_of_SC (args := [.agg (diRow d a c).toArray, .int .i64 tz, .int .i64 st, .int .u8 sl, .int .u8 lo, .int .u8 da, .int .u8 gp, .int .u16 wd]) Try.func3 rfl Try.ntmps3 rfl ?_
  simp only [argL, Nat.reduceAdd, Nat.zero_add]
  refine sc_seq ?_
  refine sc_region ?_
  refine sq_box (by exact rfl) rfl (fun b8 => ?_)
  refine sq_y (OpY.s (y_assign (by exact rfl))) rfl ?_
  refine sq_nil ?_
  refine sx_then ?_
  refine sc_seq ?_
  refine sc_seq ?_
  refine sc_region ?_
  refine sq_y (OpY.s (by first | exact y_fab Try.underlying24 (by exact rfl) (by exact Try.sizeOf22) (by exact rfl) rfl | exact y_fa Try.underlying24 (by exact rfl) (by exact Try.sizeOf22) (by exact rfl) rfl)) rfl ?_
  refine sq_y (OpY.s (by first | exact y_load_cajj Try.underlying22 rfl (by exact rfl) (by repeat (first | exact .head _ | refine .tail _ ?_)) (by assumption) (by exact rfl) | exact y_load_blk Try.underlying22 rfl (by exact rfl) (by repeat (first | exact .head _ | refine .tail _ ?_)) (by exact rfl) | exact y_load_caj Try.underlying22 rfl (by exact rfl) (by repeat (first | exact .head _ | refine .tail _ ?_)) (by assumption) (by exact rfl) | exact y_load_ca0 Try.underlying22 rfl (by exact rfl) (by repeat (first | exact .head _ | refine .tail _ ?_)) (by assumption) (by exact rfl))) rfl ?_
  refine sq_y (OpY.s (y_len Try.underlying22 (by exact rfl))) rfl ?_
  refine sq_y (OpY.s (y_gtr (by exact rfl) (by exact rfl))) rfl ?_
  refine sq_y (OpY.s (y_move (by exact rfl))) rfl ?_
  first | refine sq_splitd (tt := 36) (by exact rfl) (fun hg1_4 => ?_) (fun hg1_4 => ?_) | refine sq_splitn (tt := 36) (by exact rfl) (fun hg1_4 => ?_) (fun hg1_4 => ?_) | refine sq_split (tt := 36) (by exact rfl) (fun hg1_4 => ?_) (fun hg1_4 => ?_)
  ·
    refine sq_gf (by exact rfl) (by exact rfl) (by exact rfl) rfl ?_
    refine sq_gf (by exact rfl) (by exact rfl) (by exact rfl) rfl ?_
    refine sq_gf (by exact rfl) (by exact rfl) (by exact rfl) rfl ?_
    refine sq_y (OpY.s (y_pick_t (by exact rfl) (by exact rfl))) rfl ?_
    refine sq_y (OpY.s (y_move (by exact rfl))) rfl ?_
    refine sq_gf (by exact rfl) (by exact rfl) (by exact rfl) rfl ?_
    refine sq_gf (by exact rfl) (by exact rfl) (by exact rfl) rfl ?_
    refine sq_y (OpY.s (y_pick_t (by exact rfl) (by exact rfl))) rfl ?_
    refine sq_y (OpY.s (y_move (by exact rfl))) rfl ?_
    refine sq_gf (by exact rfl) (by exact rfl) (by exact rfl) rfl ?_
    refine sq_gf (by exact rfl) (by exact rfl) (by exact rfl) rfl ?_
    refine sq_gf (by exact rfl) (by exact rfl) (by exact rfl) rfl ?_
    refine sq_gf (by exact rfl) (by exact rfl) (by exact rfl) rfl ?_
    refine sq_gf (by exact rfl) (by exact rfl) (by exact rfl) rfl ?_
    refine sq_y (OpY.s (y_pick_t (by exact rfl) (by exact rfl))) rfl ?_
    refine sq_y (OpY.s (y_move (by exact rfl))) rfl ?_
    refine sq_gf (by exact rfl) (by exact rfl) (by exact rfl) rfl ?_
    refine sq_gf (by exact rfl) (by exact rfl) (by exact rfl) rfl ?_
    refine sq_y (OpY.s (y_pick_t (by exact rfl) (by exact rfl))) rfl ?_
    refine sq_y (OpY.s (y_move (by exact rfl))) rfl ?_
    refine sq_gf (by exact rfl) (by exact rfl) (by exact rfl) rfl ?_
    refine sq_gf (by exact rfl) (by exact rfl) (by exact rfl) rfl ?_
    refine sq_y (OpY.s (y_pick_t (by exact rfl) (by exact rfl))) rfl ?_
    refine sq_nil ?_
    refine sx_then ?_
    refine sc_t (by exact rfl) ?_
    refine sc_seq ?_
    refine sc_region ?_
    refine sq_y (y_call (first := []) (caps := []) (by exact rfl) Try.call5 EvL.nil (fun w1 _ => awake5 w1)) rfl ?_
    refine sq_y (OpY.s (y_assign (by exact rfl))) rfl ?_
    refine sq_nil ?_
    refine sx_then ?_
    refine sc_ret ?_
    refine sx_then_ret ?_
    refine sx_ret1 (.inl rfl) rfl Try.results3 (by exact rfl) ?_
    intro w' hw'
    exact ⟨rfl, hw'.below (by repeat (first | exact .head _ | refine .tail _ ?_))⟩
  ·
    refine sq_gt (by exact rfl) (by exact rfl) (OpY.s (by first | exact y_load_all Try.underlying24 rfl Try.sizeOf24 (by exact rfl) (by repeat (first | exact .head _ | refine .tail _ ?_)) (by exact rfl) | exact y_load_ca Try.underlying24 rfl Try.sizeOf24 (by exact rfl) (by repeat (first | exact .head _ | refine .tail _ ?_)) (by assumption) (by exact rfl) | exact y_load_part Try.underlying24 rfl Try.sizeOf24 (by exact rfl) (by repeat (first | exact .head _ | refine .tail _ ?_)) rfl | exact y_load_capart Try.underlying24 rfl Try.sizeOf24 (by exact rfl) (by repeat (first | exact .head _ | refine .tail _ ?_)) (by assumption) rfl)) rfl ?_
    refine sq_gt (by exact rfl) (by exact rfl) (y_call (first := []) (caps := []) (by exact rfl) Try.call4 (EvL.cons (by exact rfl) EvL.nil) (fun w1 hw1 => die4 w1 d a c (hB.at hw1 (by repeat (first | exact .head _ | refine .tail _ ?_))))) rfl ?_
    refine sq_gt (by exact rfl) (by exact rfl) (OpY.s (y_not (by exact rfl))) rfl ?_
    refine sq_y (OpY.s (y_pick_f (by exact rfl) (by exact rfl))) rfl ?_
    refine sq_y (OpY.s (y_move (by exact rfl))) rfl ?_
    refine sq_split (tt := 41) (by exact rfl) (fun hg1_9 => ?_) (fun hg1_9 => ?_)
    ·
      refine sq_gf (by exact rfl) (by exact rfl) (by exact rfl) rfl ?_
      refine sq_gf (by exact rfl) (by exact rfl) (by exact rfl) rfl ?_
      refine sq_y (OpY.s (y_pick_t (by exact rfl) (by exact rfl))) rfl ?_
      refine sq_y (OpY.s (y_move (by exact rfl))) rfl ?_
      refine sq_gf (by exact rfl) (by exact rfl) (by exact rfl) rfl ?_
      refine sq_gf (by exact rfl) (by exact rfl) (by exact rfl) rfl ?_
      refine sq_gf (by exact rfl) (by exact rfl) (by exact rfl) rfl ?_
      refine sq_gf (by exact rfl) (by exact rfl) (by exact rfl) rfl ?_
      refine sq_gf (by exact rfl) (by exact rfl) (by exact rfl) rfl ?_
      refine sq_y (OpY.s (y_pick_t (by exact rfl) (by exact rfl))) rfl ?_
      refine sq_y (OpY.s (y_move (by exact rfl))) rfl ?_
      refine sq_gf (by exact rfl) (by exact rfl) (by exact rfl) rfl ?_
      refine sq_gf (by exact rfl) (by exact rfl) (by exact rfl) rfl ?_
      refine sq_y (OpY.s (y_pick_t (by exact rfl) (by exact rfl))) rfl ?_
      refine sq_y (OpY.s (y_move (by exact rfl))) rfl ?_
      refine sq_gf (by exact rfl) (by exact rfl) (by exact rfl) rfl ?_
      refine sq_gf (by exact rfl) (by exact rfl) (by exact rfl) rfl ?_
      refine sq_y (OpY.s (y_pick_t (by exact rfl) (by exact rfl))) rfl ?_
      refine sq_nil ?_
      refine sx_then ?_
      refine sc_t (by exact rfl) ?_
      refine sc_seq ?_
      refine sc_region ?_
      refine sq_y (y_call (first := []) (caps := []) (by exact rfl) Try.call5 EvL.nil (fun w1 _ => awake5 w1)) rfl ?_
      refine sq_y (OpY.s (y_assign (by exact rfl))) rfl ?_
      refine sq_nil ?_
      refine sx_then ?_
      refine sc_ret ?_
      refine sx_then_ret ?_
      refine sx_ret1 (.inl rfl) rfl Try.results3 (by exact rfl) ?_
      intro w' hw'
      exact ⟨rfl, hw'.below (by repeat (first | exact .head _ | refine .tail _ ?_))⟩
    ·
      refine sq_gt (by exact rfl) (by exact rfl) (OpY.s (y_move (by exact rfl))) rfl ?_
      refine sq_gt (by exact rfl) (by exact rfl) (OpY.s (y_lss (by exact rfl) (by exact rfl))) rfl ?_
      refine sq_y (OpY.s (y_pick_f (by exact rfl) (by exact rfl))) rfl ?_
      refine sq_y (OpY.s (y_move (by exact rfl))) rfl ?_
      first | refine sq_splitd (tt := 45) (by exact rfl) (fun hg1_13 => ?_) (fun hg1_13 => ?_) | refine sq_splitn (tt := 45) (by exact rfl) (fun hg1_13 => ?_) (fun hg1_13 => ?_) | refine sq_split (tt := 45) (by exact rfl) (fun hg1_13 => ?_) (fun hg1_13 => ?_)
      ·
        refine sq_gf (by exact rfl) (by exact rfl) (by exact rfl) rfl ?_
        refine sq_gf (by exact rfl) (by exact rfl) (by exact rfl) rfl ?_
        refine sq_gf (by exact rfl) (by exact rfl) (by exact rfl) rfl ?_
        refine sq_gf (by exact rfl) (by exact rfl) (by exact rfl) rfl ?_
        refine sq_gf (by exact rfl) (by exact rfl) (by exact rfl) rfl ?_
        refine sq_y (OpY.s (y_pick_t (by exact rfl) (by exact rfl))) rfl ?_
        refine sq_y (OpY.s (y_move (by exact rfl))) rfl ?_
        refine sq_gf (by exact rfl) (by exact rfl) (by exact rfl) rfl ?_
        refine sq_gf (by exact rfl) (by exact rfl) (by exact rfl) rfl ?_
        refine sq_y (OpY.s (y_pick_t (by exact rfl) (by exact rfl))) rfl ?_
        refine sq_y (OpY.s (y_move (by exact rfl))) rfl ?_
        refine sq_gf (by exact rfl) (by exact rfl) (by exact rfl) rfl ?_
        refine sq_gf (by exact rfl) (by exact rfl) (by exact rfl) rfl ?_
        refine sq_y (OpY.s (y_pick_t (by exact rfl) (by exact rfl))) rfl ?_
        refine sq_nil ?_
        refine sx_then ?_
        refine sc_t (by exact rfl) ?_
        refine sc_seq ?_
        refine sc_region ?_
        refine sq_y (y_call (first := []) (caps := []) (by exact rfl) Try.call5 EvL.nil (fun w1 _ => awake5 w1)) rfl ?_
        refine sq_y (OpY.s (y_assign (by exact rfl))) rfl ?_
        refine sq_nil ?_
        refine sx_then ?_
        refine sc_ret ?_
        refine sx_then_ret ?_
        refine sx_ret1 (.inl rfl) rfl Try.results3 (by exact rfl) ?_
        intro w' hw'
        exact ⟨rfl, hw'.below (by repeat (first | exact .head _ | refine .tail _ ?_))⟩
      ·
        refine sq_gt (by exact rfl) (by exact rfl) (OpY.s (y_move (by exact rfl))) rfl ?_
        refine sq_gt (by exact rfl) (by exact rfl) (OpY.s (by first | exact y_fab Try.underlying24 (by exact rfl) (by exact Try.sizeOf22) (by exact rfl) rfl | exact y_fa Try.underlying24 (by exact rfl) (by exact Try.sizeOf22) (by exact rfl) rfl)) rfl ?_
        refine sq_gt (by exact rfl) (by exact rfl) (OpY.s (by first | exact y_load_cajj Try.underlying22 rfl (by exact rfl) (by repeat (first | exact .head _ | refine .tail _ ?_)) (by assumption) (by exact rfl) | exact y_load_blk Try.underlying22 rfl (by exact rfl) (by repeat (first | exact .head _ | refine .tail _ ?_)) (by exact rfl) | exact y_load_caj Try.underlying22 rfl (by exact rfl) (by repeat (first | exact .head _ | refine .tail _ ?_)) (by assumption) (by exact rfl) | exact y_load_ca0 Try.underlying22 rfl (by exact rfl) (by repeat (first | exact .head _ | refine .tail _ ?_)) (by assumption) (by exact rfl))) rfl ?_
        refine sq_gt (by exact rfl) (by exact rfl) (OpY.s (y_len Try.underlying22 (by exact rfl))) rfl ?_
        refine sq_gt (by exact rfl) (by exact rfl) (OpY.s (y_geq (by exact rfl) (by exact rfl))) rfl ?_
        refine sq_y (OpY.s (y_pick_f (by exact rfl) (by exact rfl))) rfl ?_
        refine sq_y (OpY.s (y_move (by exact rfl))) rfl ?_
        first | refine sq_splitd (tt := 52) (by exact rfl) (fun hg1_20 => ?_) (fun hg1_20 => ?_) | refine sq_splitn (tt := 52) (by exact rfl) (fun hg1_20 => ?_) (fun hg1_20 => ?_) | refine sq_split (tt := 52) (by exact rfl) (fun hg1_20 => ?_) (fun hg1_20 => ?_)
        ·
          refine sq_gf (by exact rfl) (by exact rfl) (by exact rfl) rfl ?_
          refine sq_gf (by exact rfl) (by exact rfl) (by exact rfl) rfl ?_
          refine sq_y (OpY.s (y_pick_t (by exact rfl) (by exact rfl))) rfl ?_
          refine sq_y (OpY.s (y_move (by exact rfl))) rfl ?_
          refine sq_gf (by exact rfl) (by exact rfl) (by exact rfl) rfl ?_
          refine sq_gf (by exact rfl) (by exact rfl) (by exact rfl) rfl ?_
          refine sq_y (OpY.s (y_pick_t (by exact rfl) (by exact rfl))) rfl ?_
          refine sq_nil ?_
          refine sx_then ?_
          refine sc_t (by exact rfl) ?_
          refine sc_seq ?_
          refine sc_region ?_
          refine sq_y (y_call (first := []) (caps := []) (by exact rfl) Try.call5 EvL.nil (fun w1 _ => awake5 w1)) rfl ?_
          refine sq_y (OpY.s (y_assign (by exact rfl))) rfl ?_
          refine sq_nil ?_
          refine sx_then ?_
          refine sc_ret ?_
          refine sx_then_ret ?_
          refine sx_ret1 (.inl rfl) rfl Try.results3 (by exact rfl) ?_
          intro w' hw'
          exact ⟨rfl, hw'.below (by repeat (first | exact .head _ | refine .tail _ ?_))⟩
        ·
          refine sq_gt (by exact rfl) (by exact rfl) (OpY.s (y_move (by exact rfl))) rfl ?_
          refine sq_gt (by exact rfl) (by exact rfl) (OpY.s (y_lss (by exact rfl) (by exact rfl))) rfl ?_
          refine sq_y (OpY.s (y_pick_f (by exact rfl) (by exact rfl))) rfl ?_
          refine sq_y (OpY.s (y_move (by exact rfl))) rfl ?_
          first | refine sq_splitd (tt := 56) (by exact rfl) (fun hg1_24 => ?_) (fun hg1_24 => ?_) | refine sq_splitn (tt := 56) (by exact rfl) (fun hg1_24 => ?_) (fun hg1_24 => ?_) | refine sq_split (tt := 56) (by exact rfl) (fun hg1_24 => ?_) (fun hg1_24 => ?_)
          ·
            refine sq_gf (by exact rfl) (by exact rfl) (by exact rfl) rfl ?_
            refine sq_gf (by exact rfl) (by exact rfl) (by exact rfl) rfl ?_
            refine sq_y (OpY.s (y_pick_t (by exact rfl) (by exact rfl))) rfl ?_
            refine sq_nil ?_
            refine sx_then ?_
            refine sc_t (by exact rfl) ?_
            refine sc_seq ?_
            refine sc_region ?_
            refine sq_y (y_call (first := []) (caps := []) (by exact rfl) Try.call5 EvL.nil (fun w1 _ => awake5 w1)) rfl ?_
            refine sq_y (OpY.s (y_assign (by exact rfl))) rfl ?_
            refine sq_nil ?_
            refine sx_then ?_
            refine sc_ret ?_
            refine sx_then_ret ?_
            refine sx_ret1 (.inl rfl) rfl Try.results3 (by exact rfl) ?_
            intro w' hw'
            exact ⟨rfl, hw'.below (by repeat (first | exact .head _ | refine .tail _ ?_))⟩
          ·
            refine sq_gt (by exact rfl) (by exact rfl) (OpY.s (y_move (by exact rfl))) rfl ?_
            refine sq_gt (by exact rfl) (by exact rfl) (OpY.s (y_gtr (by exact rfl) (by exact rfl))) rfl ?_
            refine sq_y (OpY.s (y_pick_f (by exact rfl) (by exact rfl))) rfl ?_
            refine sq_nil ?_
            refine sx_then ?_
            first | refine sc_if (by exact rfl) (fun hc0 => ?_) (fun hc0 => ?_) | refine sc_ifn (by exact rfl) (fun hc0 => ?_) (fun hc0 => ?_) | refine sc_cond (by exact rfl) (fun hc0 => ?_) (fun hc0 => ?_)
            ·
              refine sc_seq ?_
              refine sc_region ?_
              refine sq_y (y_call (first := []) (caps := []) (by exact rfl) Try.call5 EvL.nil (fun w1 _ => awake5 w1)) rfl ?_
              refine sq_y (OpY.s (y_assign (by exact rfl))) rfl ?_
              refine sq_nil ?_
              refine sx_then ?_
              refine sc_ret ?_
              refine sx_then_ret ?_
              refine sx_ret1 (.inl rfl) rfl Try.results3 (by exact rfl) ?_
              intro w' hw'
              exact ⟨rfl, hw'.below (by repeat (first | exact .head _ | refine .tail _ ?_))⟩
            ·
              refine sc_skip ?_
              refine sx_then ?_
              refine sc_seq ?_
              have hok : diB d = true := by simpa using hg1_9
              obtain ⟨t, rfl⟩ := Int.eq_ofNat_of_zero_le (show 0 ≤ tz by omega)
              obtain ⟨b, hb⟩ : ∃ b, d.blades[t]? = some b := ⟨_, List.getElem?_eq_getElem (by omega)⟩
              have hbb := (diB_parts hok).2.2 b (List.mem_of_getElem? hb)
              have m1 := mul_bd (a := b.wears.lo) (b := st) (A := 10000) (B := 7000) (by omega) (by omega)
              have m2 := mul_bd (a := b.wears.hi) (b := st) (A := 10000) (B := 7000) (by omega) (by omega)
              have m3 : b.wears.lo * st ≤ b.wears.hi * st := Int.mul_le_mul_of_nonneg_right (by omega) (by omega)
              obtain ⟨o, ho⟩ : ∃ o, offV b st = o := ⟨_, rfl⟩
              have ho1 : o.lo = b.fresh.lo + b.wears.lo * st := by rw [← ho]; rfl
              have ho2 : o.hi = b.fresh.hi + b.wears.hi * st := by rw [← ho]; rfl
              refine sc_region ?_
              refine sq_y (OpY.s (by first | exact y_load_all Try.underlying24 rfl Try.sizeOf24 (by exact rfl) (by repeat (first | exact .head _ | refine .tail _ ?_)) (by exact rfl) | exact y_load_ca Try.underlying24 rfl Try.sizeOf24 (by exact rfl) (by repeat (first | exact .head _ | refine .tail _ ?_)) (by assumption) (by exact rfl) | exact y_load_part Try.underlying24 rfl Try.sizeOf24 (by exact rfl) (by repeat (first | exact .head _ | refine .tail _ ?_)) rfl | exact y_load_capart Try.underlying24 rfl Try.sizeOf24 (by exact rfl) (by repeat (first | exact .head _ | refine .tail _ ?_)) (by assumption) rfl)) rfl ?_
              refine sq_y (OpY.s (y_move (by exact rfl))) rfl ?_
              refine sq_y (OpY.s (y_move (by exact rfl))) rfl ?_
              refine sq_y (y_call (first := []) (caps := []) (by exact rfl) Try.call6 (EvL.cons (by exact rfl) (EvL.cons (by exact rfl) (EvL.cons (by exact rfl) EvL.nil))) (fun w1 hw1 => (Off6 w1 d a c (hB.at hw1 (by repeat (first | exact .head _ | refine .tail _ ?_))) hok t b hb st (by omega)).mono (fun e w' h => ⟨h.1.trans (by rw [ho]), h.2⟩))) rfl ?_
              refine sq_y (OpY.s (y_move (by exact rfl))) rfl ?_
              refine sq_y (OpY.s (y_extract (by exact rfl) (by exact rfl))) rfl ?_
              refine sq_y (OpY.s (y_extract (by exact rfl) (by exact rfl))) rfl ?_
              refine sq_alloc Try.zeroValue29 rfl (fun b17 => ?_)
              refine sq_store_all Try.sizeOf29 (by exact rfl) (by exact rfl) rfl (by repeat (first | exact Rem.here | apply Rem.there)) rfl rfl ?_
              refine sq_y (OpY.s (y_assign (by exact rfl))) rfl ?_
              refine sq_nil ?_
              refine sx_then ?_
              refine sc_seq ?_
              refine sc_seq ?_
              refine sc_region ?_
              refine sq_y (OpY.s (y_move (by exact rfl))) rfl ?_
              refine sq_y (OpY.s (y_neq (by exact rfl) (by exact rfl))) rfl ?_
              refine sq_y (OpY.s (y_move (by exact rfl))) rfl ?_
              refine sq_known (tt := 70) (b' := false) (by exact rfl) (by simp) ?_
              refine sq_gt (by exact rfl) (by exact rfl) (OpY.s (by first | exact y_fab Try.underlying29 (by exact rfl) (by exact Try.sizeOf3) (by exact rfl) rfl | exact y_fa Try.underlying29 (by exact rfl) (by exact Try.sizeOf3) (by exact rfl) rfl)) rfl ?_
              refine sq_gt (by exact rfl) (by exact rfl) (OpY.s (by first | exact y_load_cajj Try.underlying3 rfl (by exact rfl) (by repeat (first | exact .head _ | refine .tail _ ?_)) (by assumption) (by exact rfl) | exact y_load_blk Try.underlying3 rfl (by exact rfl) (by repeat (first | exact .head _ | refine .tail _ ?_)) (by exact rfl) | exact y_load_caj Try.underlying3 rfl (by exact rfl) (by repeat (first | exact .head _ | refine .tail _ ?_)) (by assumption) (by exact rfl) | exact y_load_ca0 Try.underlying3 rfl (by exact rfl) (by repeat (first | exact .head _ | refine .tail _ ?_)) (by assumption) (by exact rfl))) rfl ?_
              refine sq_gt (by exact rfl) (by exact rfl) (OpY.s (y_lss (by exact rfl) (by exact rfl))) rfl ?_
              refine sq_y (OpY.s (y_pick_f (by exact rfl) (by exact rfl))) rfl ?_
              refine sq_y (OpY.s (y_move (by exact rfl))) rfl ?_
              refine sq_known (tt := 75) (b' := false) (by exact rfl) (decide_eq_false (by omega)) ?_
              refine sq_gt (by exact rfl) (by exact rfl) (OpY.s (by first | exact y_fab Try.underlying29 (by exact rfl) (by exact Try.sizeOf3) (by exact rfl) rfl | exact y_fa Try.underlying29 (by exact rfl) (by exact Try.sizeOf3) (by exact rfl) rfl)) rfl ?_
              refine sq_gt (by exact rfl) (by exact rfl) (OpY.s (by first | exact y_load_cajj Try.underlying3 rfl (by exact rfl) (by repeat (first | exact .head _ | refine .tail _ ?_)) (by assumption) (by exact rfl) | exact y_load_blk Try.underlying3 rfl (by exact rfl) (by repeat (first | exact .head _ | refine .tail _ ?_)) (by exact rfl) | exact y_load_caj Try.underlying3 rfl (by exact rfl) (by repeat (first | exact .head _ | refine .tail _ ?_)) (by assumption) (by exact rfl) | exact y_load_ca0 Try.underlying3 rfl (by exact rfl) (by repeat (first | exact .head _ | refine .tail _ ?_)) (by assumption) (by exact rfl))) rfl ?_
              refine sq_gt (by exact rfl) (by exact rfl) (OpY.s (by first | exact y_fab Try.underlying29 (by exact rfl) (by exact Try.sizeOf3) (by exact rfl) rfl | exact y_fa Try.underlying29 (by exact rfl) (by exact Try.sizeOf3) (by exact rfl) rfl)) rfl ?_
              refine sq_gt (by exact rfl) (by exact rfl) (OpY.s (by first | exact y_load_cajj Try.underlying3 rfl (by exact rfl) (by repeat (first | exact .head _ | refine .tail _ ?_)) (by assumption) (by exact rfl) | exact y_load_blk Try.underlying3 rfl (by exact rfl) (by repeat (first | exact .head _ | refine .tail _ ?_)) (by exact rfl) | exact y_load_caj Try.underlying3 rfl (by exact rfl) (by repeat (first | exact .head _ | refine .tail _ ?_)) (by assumption) (by exact rfl) | exact y_load_ca0 Try.underlying3 rfl (by exact rfl) (by repeat (first | exact .head _ | refine .tail _ ?_)) (by assumption) (by exact rfl))) rfl ?_
              refine sq_gt (by exact rfl) (by exact rfl) (OpY.s (y_gtr (by exact rfl) (by exact rfl))) rfl ?_
              refine sq_y (OpY.s (y_pick_f (by exact rfl) (by exact rfl))) rfl ?_
              refine sq_nil ?_
              refine sx_then ?_
              refine sc_f (lk_bool rfl (decide_eq_false (by omega))) ?_
              refine sc_skip ?_
              refine sx_then ?_
              refine sc_seq ?_
              refine sc_region ?_
              refine sq_y (OpY.s (y_move (by exact rfl))) rfl ?_
              refine sq_y (OpY.s (y_conv Try.underlying5 Try.underlying3 (by exact rfl) (wrap64_in (by omega) (by omega)))) rfl ?_
              refine sq_y (OpY.s (y_move (by exact rfl))) rfl ?_
              refine sq_y (OpY.s (y_conv Try.underlying5 Try.underlying3 (by exact rfl) (wrap64_in (by omega) (by omega)))) rfl ?_
              refine sq_y (OpY.s (y_move (by exact rfl))) rfl ?_
              refine sq_y (OpY.s (y_conv Try.underlying5 Try.underlying3 (by exact rfl) (wrap64_in (by omega) (by omega)))) rfl ?_
              refine sq_y (OpY.s (y_rem (by exact rfl) (by exact rfl) (by omega) (by omega))) rfl ?_
              refine sq_y (OpY.s (y_build (cells := #[.int .i64 0, .int .i64 (da % 101)]) bt29 (EvP.cons (by exact rfl) (EvP.cons (by exact rfl) EvP.nil)) (by kernel_rfl))) rfl ?_
              refine sq_y (OpY.s (y_build (cells := (plRow (bP sl lo (da % 101))).toArray) bt34 (EvP.cons (by exact rfl) (EvP.cons (by exact rfl) (EvP.cons (by exact rfl) (EvP.cons (by exact rfl) EvP.nil)))) (by kernel_rfl))) rfl ?_
              refine sq_alloc Try.zeroValue34 rfl (fun b19 => ?_)
              refine sq_store_all Try.sizeOf34 (by exact rfl) (by exact rfl) rfl (by repeat (first | exact Rem.here | apply Rem.there)) rfl rfl ?_
              refine sq_nil ?_
              refine sx_then ?_
              refine sc_seq ?_
              refine sc_region ?_
              refine sq_y (OpY.s (y_move (by exact rfl))) rfl ?_
              refine sq_y (OpY.s (y_conv Try.underlying25 Try.underlying3 (by exact rfl) (wrap64_in (by omega) (by omega)))) rfl ?_
              refine sq_y (OpY.s (y_rem (by exact rfl) (by exact rfl) (by omega) (by omega))) rfl ?_
              refine sq_y (OpY.s (y_add (by exact rfl) (by exact rfl) (by omega))) rfl ?_
              refine sq_y (OpY.s (y_move (by exact rfl))) rfl ?_
              refine sq_y (OpY.s (y_conv Try.underlying5 Try.underlying3 (by exact rfl) (wrap64_in (by omega) (by omega)))) rfl ?_
              refine sq_y (OpY.s (y_rem (by exact rfl) (by exact rfl) (by omega) (by omega))) rfl ?_
              refine sq_y (OpY.s (y_assign (by exact rfl))) rfl ?_
              refine sq_y (OpY.s (y_assign (by exact rfl))) rfl ?_
              refine sq_nil ?_
              refine sx_then ?_
              refine sc_seq ?_
              refine sc_seq ?_
              refine sc_region ?_
              refine sq_y (OpY.s (y_move (by exact rfl))) rfl ?_
              refine sq_y (OpY.s (by first | exact y_fab Try.underlying29 (by exact rfl) (by exact Try.sizeOf3) (by exact rfl) rfl | exact y_fa Try.underlying29 (by exact rfl) (by exact Try.sizeOf3) (by exact rfl) rfl)) rfl ?_
              refine sq_y (OpY.s (by first | exact y_load_cajj Try.underlying3 rfl (by exact rfl) (by repeat (first | exact .head _ | refine .tail _ ?_)) (by assumption) (by exact rfl) | exact y_load_blk Try.underlying3 rfl (by exact rfl) (by repeat (first | exact .head _ | refine .tail _ ?_)) (by exact rfl) | exact y_load_caj Try.underlying3 rfl (by exact rfl) (by repeat (first | exact .head _ | refine .tail _ ?_)) (by assumption) (by exact rfl) | exact y_load_ca0 Try.underlying3 rfl (by exact rfl) (by repeat (first | exact .head _ | refine .tail _ ?_)) (by assumption) (by exact rfl))) rfl ?_
              refine sq_y (OpY.s (y_sub (by exact rfl) (by exact rfl) (by omega))) rfl ?_
              refine sq_y (OpY.s (y_lss (by exact rfl) (by exact rfl))) rfl ?_
              refine sq_y (OpY.s (y_move (by exact rfl))) rfl ?_
              first | refine sq_splitd (tt := 103) (by exact rfl) (fun hg8_5 => ?_) (fun hg8_5 => ?_) | refine sq_splitn (tt := 103) (by exact rfl) (fun hg8_5 => ?_) (fun hg8_5 => ?_) | refine sq_split (tt := 103) (by exact rfl) (fun hg8_5 => ?_) (fun hg8_5 => ?_)
              ·
                refine sq_gf (by exact rfl) (by exact rfl) (by exact rfl) rfl ?_
                refine sq_gf (by exact rfl) (by exact rfl) (by exact rfl) rfl ?_
                refine sq_gf (by exact rfl) (by exact rfl) (by exact rfl) rfl ?_
                refine sq_gf (by exact rfl) (by exact rfl) (by exact rfl) rfl ?_
                refine sq_gf (by exact rfl) (by exact rfl) (by exact rfl) rfl ?_
                refine sq_gf (by exact rfl) (by exact rfl) (by exact rfl) rfl ?_
                refine sq_gf (by exact rfl) (by exact rfl) (by exact rfl) rfl ?_
                refine sq_y (OpY.s (y_pick_t (by exact rfl) (by exact rfl))) rfl ?_
                refine sq_nil ?_
                refine sx_then ?_
                refine sc_t (by exact rfl) ?_
                refine sc_seq ?_
                refine sc_region ?_
                refine sq_y (y_call (first := []) (caps := []) (by exact rfl) Try.call5 EvL.nil (fun w1 _ => awake5 w1)) rfl ?_
                refine sq_y (OpY.s (y_assign (by exact rfl))) rfl ?_
                refine sq_nil ?_
                refine sx_then ?_
                refine sc_ret ?_
                refine sx_then_ret ?_
                refine sx_ret1 (.inl rfl) rfl Try.results3 (by exact rfl) ?_
                intro w' hw'
                exact ⟨rfl, hw'.below (by repeat (first | exact .head _ | refine .tail _ ?_))⟩
              ·
                refine sq_gt (by exact rfl) (by exact rfl) (OpY.s (y_move (by exact rfl))) rfl ?_
                refine sq_gt (by exact rfl) (by exact rfl) (OpY.s (y_move (by exact rfl))) rfl ?_
                refine sq_gt (by exact rfl) (by exact rfl) (OpY.s (y_add (by exact rfl) (by exact rfl) (by omega))) rfl ?_
                refine sq_gt (by exact rfl) (by exact rfl) (OpY.s (by first | exact y_fab Try.underlying29 (by exact rfl) (by exact Try.sizeOf3) (by exact rfl) rfl | exact y_fa Try.underlying29 (by exact rfl) (by exact Try.sizeOf3) (by exact rfl) rfl)) rfl ?_
                refine sq_gt (by exact rfl) (by exact rfl) (OpY.s (by first | exact y_load_cajj Try.underlying3 rfl (by exact rfl) (by repeat (first | exact .head _ | refine .tail _ ?_)) (by assumption) (by exact rfl) | exact y_load_blk Try.underlying3 rfl (by exact rfl) (by repeat (first | exact .head _ | refine .tail _ ?_)) (by exact rfl) | exact y_load_caj Try.underlying3 rfl (by exact rfl) (by repeat (first | exact .head _ | refine .tail _ ?_)) (by assumption) (by exact rfl) | exact y_load_ca0 Try.underlying3 rfl (by exact rfl) (by repeat (first | exact .head _ | refine .tail _ ?_)) (by assumption) (by exact rfl))) rfl ?_
                refine sq_gt (by exact rfl) (by exact rfl) (OpY.s (y_add (by exact rfl) (by exact rfl) (by omega))) rfl ?_
                refine sq_gt (by exact rfl) (by exact rfl) (OpY.s (y_gtr (by exact rfl) (by exact rfl))) rfl ?_
                refine sq_y (OpY.s (y_pick_f (by exact rfl) (by exact rfl))) rfl ?_
                refine sq_nil ?_
                refine sx_then ?_
                first | refine sc_if (by exact rfl) (fun hc2 => ?_) (fun hc2 => ?_) | refine sc_ifn (by exact rfl) (fun hc2 => ?_) (fun hc2 => ?_) | refine sc_cond (by exact rfl) (fun hc2 => ?_) (fun hc2 => ?_)
                ·
                  refine sc_seq ?_
                  refine sc_region ?_
                  refine sq_y (y_call (first := []) (caps := []) (by exact rfl) Try.call5 EvL.nil (fun w1 _ => awake5 w1)) rfl ?_
                  refine sq_y (OpY.s (y_assign (by exact rfl))) rfl ?_
                  refine sq_nil ?_
                  refine sx_then ?_
                  refine sc_ret ?_
                  refine sx_then_ret ?_
                  refine sx_ret1 (.inl rfl) rfl Try.results3 (by exact rfl) ?_
                  intro w' hw'
                  exact ⟨rfl, hw'.below (by repeat (first | exact .head _ | refine .tail _ ?_))⟩
                ·
                  refine sc_skip ?_
                  refine sx_then ?_
                  refine sc_seq ?_
                  refine sc_region ?_
                  refine sq_y (OpY.s (y_build (cells := #[.int .i64 1000, .int .i64 1000]) bt29 (EvP.cons (by exact rfl) (EvP.cons (by exact rfl) EvP.nil)) (by kernel_rfl))) rfl ?_
                  refine sq_y (OpY.s (y_build (cells := #[.int .i64 400, .int .i64 400]) bt29 (EvP.cons (by exact rfl) (EvP.cons (by exact rfl) EvP.nil)) (by kernel_rfl))) rfl ?_
                  refine sq_alloc Try.zeroValue29 rfl (fun b22 => ?_)
                  refine sq_alloc Try.zeroValue29 rfl (fun b23 => ?_)
                  refine sq_store_all Try.sizeOf29 (by exact rfl) (by exact rfl) rfl (by repeat (first | exact Rem.here | apply Rem.there)) rfl rfl ?_
                  refine sq_store_all Try.sizeOf29 (by exact rfl) (by exact rfl) rfl (by repeat (first | exact Rem.here | apply Rem.there)) rfl rfl ?_
                  refine sq_nil ?_
                  refine sx_then ?_
                  refine sc_seq ?_
                  refine sc_region ?_
                  refine sq_y (OpY.s (by first | exact y_load_all Try.underlying29 rfl Try.sizeOf29 (by exact rfl) (by repeat (first | exact .head _ | refine .tail _ ?_)) (by exact rfl) | exact y_load_2 Try.underlying29 rfl Try.sizeOf29 (by exact rfl) (by repeat (first | exact .head _ | refine .tail _ ?_)) (by exact rfl) (by exact rfl) | exact y_load_ca Try.underlying29 rfl Try.sizeOf29 (by exact rfl) (by repeat (first | exact .head _ | refine .tail _ ?_)) (by assumption) (by exact rfl) | exact y_load_part Try.underlying29 rfl Try.sizeOf29 (by exact rfl) (by repeat (first | exact .head _ | refine .tail _ ?_)) rfl | exact y_load_capart Try.underlying29 rfl Try.sizeOf29 (by exact rfl) (by repeat (first | exact .head _ | refine .tail _ ?_)) (by assumption) rfl)) rfl ?_
                  refine sq_y (OpY.s (by first | exact y_load_all Try.underlying29 rfl Try.sizeOf29 (by exact rfl) (by repeat (first | exact .head _ | refine .tail _ ?_)) (by exact rfl) | exact y_load_2 Try.underlying29 rfl Try.sizeOf29 (by exact rfl) (by repeat (first | exact .head _ | refine .tail _ ?_)) (by exact rfl) (by exact rfl) | exact y_load_ca Try.underlying29 rfl Try.sizeOf29 (by exact rfl) (by repeat (first | exact .head _ | refine .tail _ ?_)) (by assumption) (by exact rfl) | exact y_load_part Try.underlying29 rfl Try.sizeOf29 (by exact rfl) (by repeat (first | exact .head _ | refine .tail _ ?_)) rfl | exact y_load_capart Try.underlying29 rfl Try.sizeOf29 (by exact rfl) (by repeat (first | exact .head _ | refine .tail _ ?_)) (by assumption) rfl)) rfl ?_
                  refine sq_y (OpY.s (y_move (by exact rfl))) rfl ?_
                  refine sq_y (OpY.s (by first | exact y_fab Try.underlying29 (by exact rfl) (by exact Try.sizeOf3) (by exact rfl) rfl | exact y_fa Try.underlying29 (by exact rfl) (by exact Try.sizeOf3) (by exact rfl) rfl)) rfl ?_
                  refine sq_y (OpY.s (by first | exact y_load_cajj Try.underlying3 rfl (by exact rfl) (by repeat (first | exact .head _ | refine .tail _ ?_)) (by assumption) (by exact rfl) | exact y_load_blk Try.underlying3 rfl (by exact rfl) (by repeat (first | exact .head _ | refine .tail _ ?_)) (by exact rfl) | exact y_load_caj Try.underlying3 rfl (by exact rfl) (by repeat (first | exact .head _ | refine .tail _ ?_)) (by assumption) (by exact rfl) | exact y_load_ca0 Try.underlying3 rfl (by exact rfl) (by repeat (first | exact .head _ | refine .tail _ ?_)) (by assumption) (by exact rfl))) rfl ?_
                  refine sq_y (OpY.s (y_sub (by exact rfl) (by exact rfl) (by omega))) rfl ?_
                  refine sq_y (OpY.s (y_move (by exact rfl))) rfl ?_
                  refine sq_y (OpY.s (by first | exact y_fab Try.underlying29 (by exact rfl) (by exact Try.sizeOf3) (by exact rfl) rfl | exact y_fa Try.underlying29 (by exact rfl) (by exact Try.sizeOf3) (by exact rfl) rfl)) rfl ?_
                  refine sq_y (OpY.s (by first | exact y_load_cajj Try.underlying3 rfl (by exact rfl) (by repeat (first | exact .head _ | refine .tail _ ?_)) (by assumption) (by exact rfl) | exact y_load_blk Try.underlying3 rfl (by exact rfl) (by repeat (first | exact .head _ | refine .tail _ ?_)) (by exact rfl) | exact y_load_caj Try.underlying3 rfl (by exact rfl) (by repeat (first | exact .head _ | refine .tail _ ?_)) (by assumption) (by exact rfl) | exact y_load_ca0 Try.underlying3 rfl (by exact rfl) (by repeat (first | exact .head _ | refine .tail _ ?_)) (by assumption) (by exact rfl))) rfl ?_
                  refine sq_y (OpY.s (y_sub (by exact rfl) (by exact rfl) (by omega))) rfl ?_
                  refine sq_y (OpY.s (y_build (cells := #[.int .i64 ((1 + wd % 1000) - o.hi), .int .i64 ((1 + wd % 1000) - o.lo)]) bt29 (EvP.cons (by exact rfl) (EvP.cons (by exact rfl) EvP.nil)) (by kernel_rfl))) rfl ?_
                  refine sq_y (OpY.s (y_build (cells := (edRow (bA (1 + wd % 1000) o)).toArray) bt36 (EvP.cons (by exact rfl) (EvP.cons (by exact rfl) (EvP.cons (by exact rfl) (EvP.cons (by exact rfl) EvP.nil)))) (by kernel_rfl))) rfl ?_
                  refine sq_alloc Try.zeroValue36 rfl (fun b24 => ?_)
                  refine sq_store_all Try.sizeOf36 (by exact rfl) (by exact rfl) rfl (by repeat (first | exact Rem.here | apply Rem.there)) rfl rfl ?_
                  refine sq_nil ?_
                  refine sx_then ?_
                  refine sc_seq ?_
                  refine sc_region ?_
                  refine sq_y (OpY.s (by first | exact y_load_all Try.underlying29 rfl Try.sizeOf29 (by exact rfl) (by repeat (first | exact .head _ | refine .tail _ ?_)) (by exact rfl) | exact y_load_2 Try.underlying29 rfl Try.sizeOf29 (by exact rfl) (by repeat (first | exact .head _ | refine .tail _ ?_)) (by exact rfl) (by exact rfl) | exact y_load_ca Try.underlying29 rfl Try.sizeOf29 (by exact rfl) (by repeat (first | exact .head _ | refine .tail _ ?_)) (by assumption) (by exact rfl) | exact y_load_part Try.underlying29 rfl Try.sizeOf29 (by exact rfl) (by repeat (first | exact .head _ | refine .tail _ ?_)) rfl | exact y_load_capart Try.underlying29 rfl Try.sizeOf29 (by exact rfl) (by repeat (first | exact .head _ | refine .tail _ ?_)) (by assumption) rfl)) rfl ?_
                  refine sq_y (OpY.s (by first | exact y_load_all Try.underlying29 rfl Try.sizeOf29 (by exact rfl) (by repeat (first | exact .head _ | refine .tail _ ?_)) (by exact rfl) | exact y_load_2 Try.underlying29 rfl Try.sizeOf29 (by exact rfl) (by repeat (first | exact .head _ | refine .tail _ ?_)) (by exact rfl) (by exact rfl) | exact y_load_ca Try.underlying29 rfl Try.sizeOf29 (by exact rfl) (by repeat (first | exact .head _ | refine .tail _ ?_)) (by assumption) (by exact rfl) | exact y_load_part Try.underlying29 rfl Try.sizeOf29 (by exact rfl) (by repeat (first | exact .head _ | refine .tail _ ?_)) rfl | exact y_load_capart Try.underlying29 rfl Try.sizeOf29 (by exact rfl) (by repeat (first | exact .head _ | refine .tail _ ?_)) (by assumption) rfl)) rfl ?_
                  refine sq_y (OpY.s (y_move (by exact rfl))) rfl ?_
                  refine sq_y (OpY.s (y_move (by exact rfl))) rfl ?_
                  refine sq_y (OpY.s (y_add (by exact rfl) (by exact rfl) (by omega))) rfl ?_
                  refine sq_y (OpY.s (by first | exact y_fab Try.underlying29 (by exact rfl) (by exact Try.sizeOf3) (by exact rfl) rfl | exact y_fa Try.underlying29 (by exact rfl) (by exact Try.sizeOf3) (by exact rfl) rfl)) rfl ?_
                  refine sq_y (OpY.s (by first | exact y_load_cajj Try.underlying3 rfl (by exact rfl) (by repeat (first | exact .head _ | refine .tail _ ?_)) (by assumption) (by exact rfl) | exact y_load_blk Try.underlying3 rfl (by exact rfl) (by repeat (first | exact .head _ | refine .tail _ ?_)) (by exact rfl) | exact y_load_caj Try.underlying3 rfl (by exact rfl) (by repeat (first | exact .head _ | refine .tail _ ?_)) (by assumption) (by exact rfl) | exact y_load_ca0 Try.underlying3 rfl (by exact rfl) (by repeat (first | exact .head _ | refine .tail _ ?_)) (by assumption) (by exact rfl))) rfl ?_
                  refine sq_y (OpY.s (y_add (by exact rfl) (by exact rfl) (by omega))) rfl ?_
                  refine sq_y (OpY.s (y_move (by exact rfl))) rfl ?_
                  refine sq_y (OpY.s (y_move (by exact rfl))) rfl ?_
                  refine sq_y (OpY.s (y_add (by exact rfl) (by exact rfl) (by omega))) rfl ?_
                  refine sq_y (OpY.s (by first | exact y_fab Try.underlying29 (by exact rfl) (by exact Try.sizeOf3) (by exact rfl) rfl | exact y_fa Try.underlying29 (by exact rfl) (by exact Try.sizeOf3) (by exact rfl) rfl)) rfl ?_
                  refine sq_y (OpY.s (by first | exact y_load_cajj Try.underlying3 rfl (by exact rfl) (by repeat (first | exact .head _ | refine .tail _ ?_)) (by assumption) (by exact rfl) | exact y_load_blk Try.underlying3 rfl (by exact rfl) (by repeat (first | exact .head _ | refine .tail _ ?_)) (by exact rfl) | exact y_load_caj Try.underlying3 rfl (by exact rfl) (by repeat (first | exact .head _ | refine .tail _ ?_)) (by assumption) (by exact rfl) | exact y_load_ca0 Try.underlying3 rfl (by exact rfl) (by repeat (first | exact .head _ | refine .tail _ ?_)) (by assumption) (by exact rfl))) rfl ?_
                  refine sq_y (OpY.s (y_add (by exact rfl) (by exact rfl) (by omega))) rfl ?_
                  refine sq_y (OpY.s (y_build (cells := #[.int .i64 ((1 + wd % 1000) + (gp % 40) + o.lo), .int .i64 ((1 + wd % 1000) + (gp % 40) + o.hi)]) bt29 (EvP.cons (by exact rfl) (EvP.cons (by exact rfl) EvP.nil)) (by kernel_rfl))) rfl ?_
                  refine sq_y (OpY.s (y_build (cells := (edRow (bB (1 + wd % 1000) (gp % 40) o)).toArray) bt36 (EvP.cons (by exact rfl) (EvP.cons (by exact rfl) (EvP.cons (by exact rfl) (EvP.cons (by exact rfl) EvP.nil)))) (by kernel_rfl))) rfl ?_
                  refine sq_alloc Try.zeroValue36 rfl (fun b25 => ?_)
                  refine sq_store_all Try.sizeOf36 (by exact rfl) (by exact rfl) rfl (by repeat (first | exact Rem.here | apply Rem.there)) rfl rfl ?_
                  refine sq_nil ?_
                  refine sx_then ?_
                  refine sc_seq ?_
                  have hOk := b_ok (sl := sl) (lo := lo) (da := (da % 101)) (w := (1 + wd % 1000)) (g := (gp % 40)) (o := o) (by omega) (by omega) (by omega) (by omega) (by omega) (by omega) (by omega)
                  have hF := b_fits (sl := sl) (lo := lo) (da := (da % 101)) (w := (1 + wd % 1000)) (g := (gp % 40)) (o := o) (by omega) (by omega) (by omega) (by omega) (by omega)
                  obtain ⟨n, hn⟩ : ∃ n, fitsV (bP sl lo (da % 101)) (bA (1 + wd % 1000) o) (bB (1 + wd % 1000) (gp % 40) o) = n := ⟨_, rfl⟩
                  rw [hn] at hF
                  have hM0 : 0 ≤ (1000 * lo / (1000 + (da % 101))) := Int.ediv_nonneg (by omega) (by omega)
                  have hM1 : (1000 * lo / (1000 + (da % 101))) ≤ 1000 * lo := Int.ediv_le_self _ (by omega)
                  refine sc_region ?_
                  refine sq_y (OpY.s (by first | exact y_load_all Try.underlying34 rfl Try.sizeOf34 (by exact rfl) (by repeat (first | exact .head _ | refine .tail _ ?_)) (by exact rfl) | exact y_load_ca Try.underlying34 rfl Try.sizeOf34 (by exact rfl) (by repeat (first | exact .head _ | refine .tail _ ?_)) (by assumption) (by exact rfl) | exact y_load_part Try.underlying34 rfl Try.sizeOf34 (by exact rfl) (by repeat (first | exact .head _ | refine .tail _ ?_)) rfl | exact y_load_capart Try.underlying34 rfl Try.sizeOf34 (by exact rfl) (by repeat (first | exact .head _ | refine .tail _ ?_)) (by assumption) rfl)) rfl ?_
                  refine sq_y (OpY.s (by first | exact y_load_all Try.underlying36 rfl Try.sizeOf36 (by exact rfl) (by repeat (first | exact .head _ | refine .tail _ ?_)) (by exact rfl) | exact y_load_ca Try.underlying36 rfl Try.sizeOf36 (by exact rfl) (by repeat (first | exact .head _ | refine .tail _ ?_)) (by assumption) (by exact rfl) | exact y_load_part Try.underlying36 rfl Try.sizeOf36 (by exact rfl) (by repeat (first | exact .head _ | refine .tail _ ?_)) rfl | exact y_load_capart Try.underlying36 rfl Try.sizeOf36 (by exact rfl) (by repeat (first | exact .head _ | refine .tail _ ?_)) (by assumption) rfl)) rfl ?_
                  refine sq_y (OpY.s (by first | exact y_load_all Try.underlying36 rfl Try.sizeOf36 (by exact rfl) (by repeat (first | exact .head _ | refine .tail _ ?_)) (by exact rfl) | exact y_load_ca Try.underlying36 rfl Try.sizeOf36 (by exact rfl) (by repeat (first | exact .head _ | refine .tail _ ?_)) (by assumption) (by exact rfl) | exact y_load_part Try.underlying36 rfl Try.sizeOf36 (by exact rfl) (by repeat (first | exact .head _ | refine .tail _ ?_)) rfl | exact y_load_capart Try.underlying36 rfl Try.sizeOf36 (by exact rfl) (by repeat (first | exact .head _ | refine .tail _ ?_)) (by assumption) rfl)) rfl ?_
                  refine sq_y (y_call (first := []) (caps := []) (by exact rfl) Try.call7 (EvL.cons (by exact rfl) (EvL.cons (by exact rfl) (EvL.cons (by exact rfl) EvL.nil))) (fun w1 _ => (Fit7 w1 (bP sl lo (da % 101)) (bA (1 + wd % 1000) o) (bB (1 + wd % 1000) (gp % 40) o) hOk rfl rfl).mono (fun e w' h => ⟨h.1.trans (by rw [hn]), h.2⟩))) rfl ?_
                  refine sq_y (OpY.s (y_move (by exact rfl))) rfl ?_
                  refine sq_y (OpY.s (y_extract (by exact rfl) (by exact rfl))) rfl ?_
                  refine sq_y (OpY.s (y_extract (by exact rfl) (by exact rfl))) rfl ?_
                  refine sq_y (OpY.s (y_assign (by exact rfl))) rfl ?_
                  refine sq_y (OpY.s (y_assign (by exact rfl))) rfl ?_
                  refine sq_nil ?_
                  refine sx_then ?_
                  refine sc_seq ?_
                  have he1 : (bP sl lo (da % 101)).loose = lo := rfl
                  have he2 : (bP sl lo (da % 101)).damp.hi = (da % 101) := rfl
                  refine sc_region ?_
                  refine sq_y (OpY.s (by first | exact y_fab Try.underlying34 (by exact rfl) (by exact Try.sizeOf3) (by exact rfl) rfl | exact y_fa Try.underlying34 (by exact rfl) (by exact Try.sizeOf3) (by exact rfl) rfl)) rfl ?_
                  refine sq_y (OpY.s (by first | exact y_load_cajj Try.underlying3 rfl (by exact rfl) (by repeat (first | exact .head _ | refine .tail _ ?_)) (by assumption) (by exact rfl) | exact y_load_blk Try.underlying3 rfl (by exact rfl) (by repeat (first | exact .head _ | refine .tail _ ?_)) (by exact rfl) | exact y_load_caj Try.underlying3 rfl (by exact rfl) (by repeat (first | exact .head _ | refine .tail _ ?_)) (by assumption) (by exact rfl) | exact y_load_ca0 Try.underlying3 rfl (by exact rfl) (by repeat (first | exact .head _ | refine .tail _ ?_)) (by assumption) (by exact rfl))) rfl ?_
                  refine sq_y (OpY.s (y_mul (by exact rfl) (by exact rfl) (by omega))) rfl ?_
                  refine sq_y (OpY.s (by first | exact y_fab Try.underlying34 (by exact rfl) (by exact Try.sizeOf29) (by exact rfl) rfl | exact y_fa Try.underlying34 (by exact rfl) (by exact Try.sizeOf29) (by exact rfl) rfl)) rfl ?_
                  refine sq_y (OpY.s (by first | exact y_fab Try.underlying29 (by exact rfl) (by exact Try.sizeOf3) (by exact rfl) rfl | exact y_fa Try.underlying29 (by exact rfl) (by exact Try.sizeOf3) (by exact rfl) rfl)) rfl ?_
                  refine sq_y (OpY.s (by first | exact y_load_cajj Try.underlying3 rfl (by exact rfl) (by repeat (first | exact .head _ | refine .tail _ ?_)) (by assumption) (by exact rfl) | exact y_load_blk Try.underlying3 rfl (by exact rfl) (by repeat (first | exact .head _ | refine .tail _ ?_)) (by exact rfl) | exact y_load_caj Try.underlying3 rfl (by exact rfl) (by repeat (first | exact .head _ | refine .tail _ ?_)) (by assumption) (by exact rfl) | exact y_load_ca0 Try.underlying3 rfl (by exact rfl) (by repeat (first | exact .head _ | refine .tail _ ?_)) (by assumption) (by exact rfl))) rfl ?_
                  refine sq_y (OpY.s (y_add (by exact rfl) (by exact rfl) (by omega))) rfl ?_
                  refine sq_y (OpY.s (y_quo (by exact rfl) (by exact rfl) (by omega) (by omega))) rfl ?_
                  rw [he1, he2]
                  refine sq_y (OpY.s (y_assign (by exact rfl))) rfl ?_
                  refine sq_nil ?_
                  refine sx_then ?_
                  refine sc_seq ?_
                  refine sc_seq ?_
                  refine sc_region ?_
                  refine sq_y (OpY.s (y_move (by exact rfl))) rfl ?_
                  refine sq_y (OpY.s (y_neq (by exact rfl) (by exact rfl))) rfl ?_
                  refine sq_y (OpY.s (y_move (by exact rfl))) rfl ?_
                  refine sq_known (tt := 160) (b' := false) (by exact rfl) (by simp) ?_
                  refine sq_gt (by exact rfl) (by exact rfl) (OpY.s (y_move (by exact rfl))) rfl ?_
                  refine sq_gt (by exact rfl) (by exact rfl) (OpY.s (y_eql (by exact rfl) (by exact rfl))) rfl ?_
                  refine sq_gt (by exact rfl) (by exact rfl) (OpY.s (y_move (by exact rfl))) rfl ?_
                  refine sq_gt (by exact rfl) (by exact rfl) (OpY.s (by first | exact y_fab Try.underlying29 (by exact rfl) (by exact Try.sizeOf3) (by exact rfl) rfl | exact y_fa Try.underlying29 (by exact rfl) (by exact Try.sizeOf3) (by exact rfl) rfl)) rfl ?_
                  refine sq_gt (by exact rfl) (by exact rfl) (OpY.s (by first | exact y_load_cajj Try.underlying3 rfl (by exact rfl) (by repeat (first | exact .head _ | refine .tail _ ?_)) (by assumption) (by exact rfl) | exact y_load_blk Try.underlying3 rfl (by exact rfl) (by repeat (first | exact .head _ | refine .tail _ ?_)) (by exact rfl) | exact y_load_caj Try.underlying3 rfl (by exact rfl) (by repeat (first | exact .head _ | refine .tail _ ?_)) (by assumption) (by exact rfl) | exact y_load_ca0 Try.underlying3 rfl (by exact rfl) (by repeat (first | exact .head _ | refine .tail _ ?_)) (by assumption) (by exact rfl))) rfl ?_
                  refine sq_gt (by exact rfl) (by exact rfl) (OpY.s (y_mul (by exact rfl) (by exact rfl) (by omega))) rfl ?_
                  refine sq_gt (by exact rfl) (by exact rfl) (OpY.s (y_add (by exact rfl) (by exact rfl) (by omega))) rfl ?_
                  refine sq_gt (by exact rfl) (by exact rfl) (OpY.s (y_move (by exact rfl))) rfl ?_
                  refine sq_gt (by exact rfl) (by exact rfl) (OpY.s (y_leq (by exact rfl) (by exact rfl))) rfl ?_
                  refine sq_gt (by exact rfl) (by exact rfl) (OpY.s (y_neqb Try.underlying4 (by exact rfl) (by exact rfl))) rfl ?_
                  refine sq_y (OpY.s (y_pick_f (by exact rfl) (by exact rfl))) rfl ?_
                  refine sq_nil ?_
                  refine sx_then ?_
                  refine sc_f (lk_bool rfl (by simp only [hF]; simp)) ?_
                  refine sc_skip ?_
                  refine sx_then ?_
                  refine sc_seq ?_
                  refine sc_seq ?_
                  refine sc_region ?_
                  refine sq_y (OpY.s (y_move (by exact rfl))) rfl ?_
                  refine sq_y (OpY.s (y_move (by exact rfl))) rfl ?_
                  refine sq_y (OpY.s (y_gtr (by exact rfl) (by exact rfl))) rfl ?_
                  refine sq_nil ?_
                  refine sx_then ?_
                  first | refine sc_if (by exact rfl) (fun hc4 => ?_) (fun hc4 => ?_) | refine sc_ifn (by exact rfl) (fun hc4 => ?_) (fun hc4 => ?_) | refine sc_cond (by exact rfl) (fun hc4 => ?_) (fun hc4 => ?_)
                  ·
                    refine sc_seq ?_
                    refine sc_region ?_
                    refine sq_y (OpY.s (y_move (by exact rfl))) rfl ?_
                    refine sq_y (OpY.s (y_neq (by exact rfl) (by exact rfl))) rfl ?_
                    refine sq_y (OpY.s (y_move (by exact rfl))) rfl ?_
                    refine sq_known (tt := 177) (b' := true) (by exact rfl) (by rw [Bool.not_eq_true', decide_eq_false_iff_not]; intro h; have := hF.1 h; omega) ?_
                    refine sq_gt (by exact rfl) (by exact rfl) (y_call (first := []) (caps := []) (by exact rfl) Try.call5 EvL.nil (fun w1 _ => awake5 w1)) rfl ?_
                    refine sq_y (OpY.s (y_pick_t (by exact rfl) (by exact rfl))) rfl ?_
                    refine sq_y (OpY.s (y_assign (by exact rfl))) rfl ?_
                    refine sq_nil ?_
                    refine sx_then ?_
                    refine sc_ret ?_
                    refine sx_then_ret ?_
                    refine sx_ret1 (.inl rfl) rfl Try.results3 (by exact rfl) ?_
                    intro w' hw'
                    exact ⟨rfl, hw'.below (by repeat (first | exact .head _ | refine .tail _ ?_))⟩
                  ·
                    refine sc_skip ?_
                    refine sx_then ?_
                    refine sc_seq ?_
                    refine sc_region ?_
                    refine sq_y (OpY.s (y_move (by exact rfl))) rfl ?_
                    refine sq_y (OpY.s (y_move (by exact rfl))) rfl ?_
                    refine sq_y (OpY.s (y_sub (by exact rfl) (by exact rfl) (by omega))) rfl ?_
                    refine sq_y (OpY.s (y_quo (by exact rfl) (by exact rfl) (by omega) (by omega))) rfl ?_
                    refine sq_y (OpY.s (y_assign (by exact rfl))) rfl ?_
                    refine sq_nil ?_
                    refine sx_then ?_
                    refine sc_seq ?_
                    obtain ⟨l, e, hLx, hL1, hL2⟩ : ∃ (l : Sp) (e : Int), (if (((1000 * lo / (1000 + (da % 101))) - (gp % 40)) / 2) < b.fresh.hi then Value.tuple #[.agg (spRow sp0).toArray, .int .i64 4] else .tuple #[.agg (spRow (lastsV b (((1000 * lo / (1000 + (da % 101))) - (gp % 40)) / 2))).toArray, .int .i64 0]) = .tuple #[.agg (spRow l).toArray, .int .i64 e] ∧ ((((1000 * lo / (1000 + (da % 101))) - (gp % 40)) / 2) < b.fresh.hi → e = 4) ∧ (¬ (((1000 * lo / (1000 + (da % 101))) - (gp % 40)) / 2) < b.fresh.hi → e = 0 ∧ l = lastsV b (((1000 * lo / (1000 + (da % 101))) - (gp % 40)) / 2)) := by
                      by_cases h : (((1000 * lo / (1000 + (da % 101))) - (gp % 40)) / 2) < b.fresh.hi
                      · exact ⟨sp0, 4, if_pos h, fun _ => rfl, fun h2 => absurd h h2⟩
                      · exact ⟨lastsV b (((1000 * lo / (1000 + (da % 101))) - (gp % 40)) / 2), 0, if_neg h, fun h2 => absurd h2 h, fun _ => ⟨rfl, rfl⟩⟩
                    refine sc_region ?_
                    refine sq_y (OpY.s (by first | exact y_load_all Try.underlying24 rfl Try.sizeOf24 (by exact rfl) (by repeat (first | exact .head _ | refine .tail _ ?_)) (by exact rfl) | exact y_load_ca Try.underlying24 rfl Try.sizeOf24 (by exact rfl) (by repeat (first | exact .head _ | refine .tail _ ?_)) (by assumption) (by exact rfl) | exact y_load_part Try.underlying24 rfl Try.sizeOf24 (by exact rfl) (by repeat (first | exact .head _ | refine .tail _ ?_)) rfl | exact y_load_capart Try.underlying24 rfl Try.sizeOf24 (by exact rfl) (by repeat (first | exact .head _ | refine .tail _ ?_)) (by assumption) rfl)) rfl ?_
                    refine sq_y (OpY.s (y_move (by exact rfl))) rfl ?_
                    refine sq_y (OpY.s (y_move (by exact rfl))) rfl ?_
                    refine sq_y (y_call (first := []) (caps := []) (by exact rfl) Try.call8 (EvL.cons (by exact rfl) (EvL.cons (by exact rfl) (EvL.cons (by exact rfl) EvL.nil))) (fun w1 hw1 => (Lasts8 w1 d a c (hB.at hw1 (by repeat (first | exact .head _ | refine .tail _ ?_))) hok t b hb (((1000 * lo / (1000 + (da % 101))) - (gp % 40)) / 2) (by omega)).mono (fun e' w' h => ⟨h.1.trans (congrArg Ending.returned hLx), h.2⟩))) rfl ?_
                    refine sq_y (OpY.s (y_move (by exact rfl))) rfl ?_
                    refine sq_y (OpY.s (y_extract (by exact rfl) (by exact rfl))) rfl ?_
                    refine sq_y (OpY.s (y_extract (by exact rfl) (by exact rfl))) rfl ?_
                    refine sq_alloc Try.zeroValue29 rfl (fun b30 => ?_)
                    refine sq_store_all Try.sizeOf29 (by exact rfl) (by exact rfl) rfl (by repeat (first | exact Rem.here | apply Rem.there)) rfl rfl ?_
                    refine sq_y (OpY.s (y_assign (by exact rfl))) rfl ?_
                    refine sq_nil ?_
                    refine sx_then ?_
                    refine sc_seq ?_
                    refine sc_seq ?_
                    refine sc_region ?_
                    refine sq_y (OpY.s (y_move (by exact rfl))) rfl ?_
                    refine sq_y (OpY.s (y_eql (by exact rfl) (by exact rfl))) rfl ?_
                    refine sq_nil ?_
                    refine sx_then ?_
                    first | refine sc_if (by exact rfl) (fun hc5 => ?_) (fun hc5 => ?_) | refine sc_ifn (by exact rfl) (fun hc5 => ?_) (fun hc5 => ?_) | refine sc_cond (by exact rfl) (fun hc5 => ?_) (fun hc5 => ?_)
                    ·
                      refine sc_seq ?_
                      refine sc_region ?_
                      refine sq_y (OpY.s (y_move (by exact rfl))) rfl ?_
                      refine sq_y (OpY.s (y_neq (by exact rfl) (by exact rfl))) rfl ?_
                      refine sq_y (OpY.s (y_move (by exact rfl))) rfl ?_
                      refine sq_known (tt := 195) (b' := true) (by exact rfl) (by rw [Bool.not_eq_true', decide_eq_false_iff_not]; intro h; have h1 := hF.1 h; by_cases h2 : (((1000 * lo / (1000 + (da % 101))) - (gp % 40)) / 2) < b.fresh.hi; omega; have := (hL2 h2).1; omega) ?_
                      refine sq_gt (by exact rfl) (by exact rfl) (y_call (first := []) (caps := []) (by exact rfl) Try.call5 EvL.nil (fun w1 _ => awake5 w1)) rfl ?_
                      refine sq_y (OpY.s (y_pick_t (by exact rfl) (by exact rfl))) rfl ?_
                      refine sq_y (OpY.s (y_assign (by exact rfl))) rfl ?_
                      refine sq_nil ?_
                      refine sx_then ?_
                      refine sc_ret ?_
                      refine sx_then_ret ?_
                      refine sx_ret1 (.inl rfl) rfl Try.results3 (by exact rfl) ?_
                      intro w' hw'
                      exact ⟨rfl, hw'.below (by repeat (first | exact .head _ | refine .tail _ ?_))⟩
                    ·
                      refine sc_skip ?_
                      refine sx_then ?_
                      refine sc_seq ?_
                      refine sc_region ?_
                      refine sq_y (OpY.s (y_move (by exact rfl))) rfl ?_
                      refine sq_y (OpY.s (y_eql (by exact rfl) (by exact rfl))) rfl ?_
                      refine sq_y (OpY.s (y_move (by exact rfl))) rfl ?_
                      refine sq_known (tt := 200) (b' := true) (by exact rfl) (decide_eq_true (by by_cases h2 : (((1000 * lo / (1000 + (da % 101))) - (gp % 40)) / 2) < b.fresh.hi; exact absurd (hL1 h2) hc5; exact (hL2 h2).1)) ?_
                      refine sq_gt (by exact rfl) (by exact rfl) (OpY.s (y_move (by exact rfl))) rfl ?_
                      refine sq_gt (by exact rfl) (by exact rfl) (OpY.s (y_eql (by exact rfl) (by exact rfl))) rfl ?_
                      refine sq_gt (by exact rfl) (by exact rfl) (OpY.s (y_move (by exact rfl))) rfl ?_
                      refine sq_gt (by exact rfl) (by exact rfl) (OpY.s (by first | exact y_fab Try.underlying29 (by exact rfl) (by exact Try.sizeOf3) (by exact rfl) rfl | exact y_fa Try.underlying29 (by exact rfl) (by exact Try.sizeOf3) (by exact rfl) rfl)) rfl ?_
                      refine sq_gt (by exact rfl) (by exact rfl) (OpY.s (by first | exact y_load_cajj Try.underlying3 rfl (by exact rfl) (by repeat (first | exact .head _ | refine .tail _ ?_)) (by assumption) (by exact rfl) | exact y_load_blk Try.underlying3 rfl (by exact rfl) (by repeat (first | exact .head _ | refine .tail _ ?_)) (by exact rfl) | exact y_load_caj Try.underlying3 rfl (by exact rfl) (by repeat (first | exact .head _ | refine .tail _ ?_)) (by assumption) (by exact rfl) | exact y_load_ca0 Try.underlying3 rfl (by exact rfl) (by repeat (first | exact .head _ | refine .tail _ ?_)) (by assumption) (by exact rfl))) rfl ?_
                      refine sq_gt (by exact rfl) (by exact rfl) (OpY.s (y_leq (by exact rfl) (by exact rfl))) rfl ?_
                      refine sq_gt (by exact rfl) (by exact rfl) (OpY.s (y_eqlb Try.underlying4 (by exact rfl) (by exact rfl))) rfl ?_
                      refine sq_y (OpY.s (y_pick_t (by exact rfl) (by exact rfl))) rfl ?_
                      refine sq_y (OpY.s (y_move (by exact rfl))) rfl ?_
                      refine sq_known (tt := 209) (b' := true) (by exact rfl) (by
                        have h2 : ¬ (((1000 * lo / (1000 + (da % 101))) - (gp % 40)) / 2) < b.fresh.hi := fun h2 => hc5 (hL1 h2)
                        have h3 := last_iff (f := b.fresh.hi) (w := b.wears.hi) (bo := (((1000 * lo / (1000 + (da % 101))) - (gp % 40)) / 2)) (st := st) (by omega) (by omega) (by omega)
                        have h4 : l.lo = lastV b.fresh.hi b.wears.hi (((1000 * lo / (1000 + (da % 101))) - (gp % 40)) / 2) := by rw [(hL2 h2).2]; rfl
                        rw [← h4, ← ho2] at h3
                        have h5 : n = 2 ↔ st ≤ l.lo := by rw [hF, ← h3]; omega
                        rw [show decide (n = 2) = decide (st ≤ l.lo) from by simp only [h5]]; simp) ?_
                      refine sq_gt (by exact rfl) (by exact rfl) (y_call (first := []) (caps := []) (by exact rfl) Try.call5 EvL.nil (fun w1 _ => awake5 w1)) rfl ?_
                      refine sq_y (OpY.s (y_pick_t (by exact rfl) (by exact rfl))) rfl ?_
                      refine sq_y (OpY.s (y_assign (by exact rfl))) rfl ?_
                      refine sq_nil ?_
                      refine sx_then ?_
                      refine sc_ret ?_
                      refine sx_ret1 (.inl rfl) rfl Try.results3 (by exact rfl) ?_
                      intro w' hw'
                      exact ⟨rfl, hw'.below (by repeat (first | exact .head _ | refine .tail _ ?_))⟩
end Go.Proofs.Ytcgbdecgdddnkaa
