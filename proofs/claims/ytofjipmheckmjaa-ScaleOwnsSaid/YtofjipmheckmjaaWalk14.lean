/- The walks of what settles a doubt. -/
import Derived.Test.YtofjipmheckmjaaWalk13
namespace Go.Proofs.Ytofjipmheckmjaa
open Go Go.Eng Go.RowKit Go.Proofs
set_option maxRecDepth 100000
/-- a doubt that a test leaves -/
def conf (b : Bx) (t : Te) (x y : List Int) : Bool := wholeV x && !wholeV y && meetsV (readV b t x) (readV b t y)
def setV (b : Bx) (ll : List (List Int)) (t : Te) : Bool := !(ll.any fun x => ll.any fun y => conf b t x y)
theorem any_no {α : Type} {p : α → Bool} {l : List α} (hno : ∀ q y, q < l.length → l[q]? = some y → p y = false) : l.any p = false := by
  rw [List.any_eq_false]
  intro x hx
  obtain ⟨i, hi, rfl⟩ := List.getElem_of_mem hx
  rw [hno i _ hi (List.getElem?_eq_getElem hi)]; decide

theorem settles60 (w : World) (b : Bx) (a : Option Addr) (c : Nat) (hB : RowsA kdRow 3 0 w a b.kinds) (hok : bxB b = true) (a2 : Option Addr) (c2 : Nat) (f : Nat → Option Addr) (cf : Nat → Nat) (ll : List (List Int)) (hL : LLA 0 w a2 f cf ll) (hin : ∀ h, h ∈ ll → HasOk b h) (t : Te) (hte : teB b t = true) : Calls Try.prog 60 #[.agg (bxRow b a c).toArray, .slice a2 ll.length c2, .agg (teRow t).toArray] w fun e w' => e = .returned (.bool (setV b ll t)) ∧ Below w.heap.size w w' := by
  have hlen := hL.len
  refine calls_of_SC (args := [.agg (bxRow b a c).toArray, .slice a2 ll.length c2, .agg (teRow t).toArray]) Try.func60 rfl Try.ntmps60 rfl ?_
  simp only [argL, Nat.reduceAdd, Nat.zero_add]
  refine sc_seq ?_
  refine sc_region ?_
  refine sq_box RF rfl (fun b3 => ?_)
  refine sq_box RF rfl (fun b5 => ?_)
  refine qs (y_assign RF) ?_
  refine sq_nil ?_
  refine sx_then ?_
  refine sc_seq ?_
  refine sc_seq ?_
  refine sc_region ?_
  refine qs (y_move RF) ?_
  refine qs (y_len Try.underlying84 RF) ?_
  refine qs (y_move RF) ?_
  refine sq_nil ?_
  refine sx_then ?_
  refine sc_block ?_
  refine sc_loop (σ := Nat)
    (fun s => [(1, .slice a2 ll.length c2), (3, .pointer (some ⟨b3, 0, none⟩)), (5, .pointer (some ⟨b5, 0, none⟩)), (11, .slice a2 ll.length c2), (12, .int .i64 ll.length), (13, .int .i64 s)])
    (fun s => [.blk b5 (.cells (teRow t).toArray 29 (0, 0)), .blk b3 (.cells (bxRow b a c).toArray 26 (0, 0)), .reg 0 w])
    (fun s => s ≤ ll.length ∧ ∀ q z, q < s → ll[q]? = some z → (ll.any fun y => conf b t z y) = false)
    (fun s => ll.length - s)
    (0) ?_ SU SR ?_
  · exact ⟨Nat.zero_le _, fun q z hq => absurd hq (Nat.not_lt_zero q)⟩
  rintro i ⟨hi, hno⟩
  refine sc_seq ?_
  refine sc_region ?_
  refine qs (y_lss RF RF) ?_
  refine sq_nil ?_
  refine sx_then ?_
  refine sc_seq ?_
  refine scp (fun hc0 => ?_) (fun hc0 => ?_)
  ·
    have hi' : i < ll.length := by omega
    obtain ⟨x, hix⟩ : ∃ x, ll[i]? = some x := ⟨_, List.getElem?_eq_getElem hi'⟩
    have hsmi := (hL.el i x hix).1
    have hcai := (hL.el i x hix).2.1
    refine sc_skip ?_
    refine sx_then ?_
    refine sc_seq ?_
    refine sc_block ?_
    refine sc_seq ?_
    refine sc_region ?_
    refine qs IA84 ?_
    refine qs (by first | exact y_load_ca0 Try.underlying79 rfl RF MM hcai rfl | exact LD79) ?_
    refine qs (y_assign RF) ?_
    refine sq_nil ?_
    refine sx_then ?_
    refine sc_seq ?_
    refine sc_region ?_
    refine qs (y_move RF) ?_
    refine qs (y_len Try.underlying84 RF) ?_
    refine qs (y_move RF) ?_
    refine sq_nil ?_
    refine sx_then ?_
    refine sc_block ?_
    refine sc_loop (σ := Nat)
      (fun s => [(1, .slice a2 ll.length c2), (3, .pointer (some ⟨b3, 0, none⟩)), (5, .pointer (some ⟨b5, 0, none⟩)), (11, .slice a2 ll.length c2), (12, .int .i64 ll.length), (13, .int .i64 i), (8, .slice (f i) x.length (cf i)), (17, .slice a2 ll.length c2), (18, .int .i64 ll.length), (19, .int .i64 s)])
      (fun s => [.blk b5 (.cells (teRow t).toArray 29 (0, 0)), .blk b3 (.cells (bxRow b a c).toArray 26 (0, 0)), .reg 0 w])
      (fun s => s ≤ ll.length ∧ ∀ q z, q < s → ll[q]? = some z → conf b t x z = false)
      (fun s => ll.length - s)
      (0) ?_ SU SR ?_
    · exact ⟨Nat.zero_le _, fun q z hq => absurd hq (Nat.not_lt_zero q)⟩
    rintro j ⟨hj, hno2⟩
    refine sc_seq ?_
    refine sc_region ?_
    refine qs (y_lss RF RF) ?_
    refine sq_nil ?_
    refine sx_then ?_
    refine sc_seq ?_
    refine scp (fun hc1 => ?_) (fun hc1 => ?_)
    ·
      have hj' : j < ll.length := by omega
      obtain ⟨y, hjy⟩ : ∃ y, ll[j]? = some y := ⟨_, List.getElem?_eq_getElem hj'⟩
      have hsmj := (hL.el j y hjy).1
      have hcaj := (hL.el j y hjy).2.1
      refine sc_skip ?_
      refine sx_then ?_
      refine sc_seq ?_
      refine sc_block ?_
      refine sc_seq ?_
      refine sc_region ?_
      refine qs IA84 ?_
      refine qs (by first | exact y_load_ca0 Try.underlying79 rfl RF MM hcaj rfl | exact LD79) ?_
      refine qs (y_assign RF) ?_
      refine sq_nil ?_
      refine sx_then ?_
      refine sc_seq ?_
      refine sc_drawR (by kernel_rfl) ?_
      refine xj_s 0 RF (by kernel_rfl) SR (y_move RF) rfl ?_
      refine xj_one 1 RF (by kernel_rfl) ?_
      refine qy (yc Try.call78 E1 (fun w1 hw1 => isWhole78 w1 _ _ x ((hL.el i x hix).2.2.at hw1 MM))) ?_
      refine sq_nil ?_
      refine sx_xp SR ?_
      refine xj_s 2 RF (by kernel_rfl) SR (y_move RF) rfl ?_
      first | refine xj_splitd (tt := 25) RF (fun hg7_2 => ?_) (fun hg7_2 => ?_) | refine xj_splitn (tt := 25) RF (fun hg7_2 => ?_) (fun hg7_2 => ?_) | refine xj_split (tt := 25) RF (fun hg7_2 => ?_) (fun hg7_2 => ?_)
      ·
        refine xj_gt 3 RF RF RF (by kernel_rfl) SR (y_move RF) rfl ?_
        refine xj_one 4 RF (by kernel_rfl) ?_
        refine sq_gt RF RF (y_call (first := []) (caps := []) RF Try.call78 (EvL.cons RF EvL.nil) (fun w1 hw1 => isWhole78 w1 _ _ y ((hL.el j y hjy).2.2.at hw1 MM))) rfl ?_
        refine sq_nil ?_
        refine sx_xp SR ?_
        refine xj_gt 5 RF RF RF (by kernel_rfl) SR (y_not RF) rfl ?_
        refine xj_s 6 RF (by kernel_rfl) SR (y_pick_t RF RF) rfl ?_
        refine xj_s 7 RF (by kernel_rfl) SR (y_move RF) rfl ?_
        first | refine xj_splitd (tt := 30) RF (fun hg7_7 => ?_) (fun hg7_7 => ?_) | refine xj_splitn (tt := 30) RF (fun hg7_7 => ?_) (fun hg7_7 => ?_) | refine xj_split (tt := 30) RF (fun hg7_7 => ?_) (fun hg7_7 => ?_)
        ·
          refine xj_gt 8 RF RF RF (by kernel_rfl) SR LD26 rfl ?_
          refine xj_gt 9 RF RF RF (by kernel_rfl) SR (y_move RF) rfl ?_
          refine xj_gt 10 RF RF RF (by kernel_rfl) SR LD29 rfl ?_
          refine xj_gt 12 RF RF RF (by kernel_rfl) SR LD26 rfl ?_
          refine xj_gt 13 RF RF RF (by kernel_rfl) SR (y_move RF) rfl ?_
          refine xj_gt 14 RF RF RF (by kernel_rfl) SR LD29 rfl ?_
          refine xj_one 11 RF (by kernel_rfl) ?_
          refine sq_gt RF RF (y_call (first := []) (caps := []) RF Try.call47 (EvL.cons RF (EvL.cons RF (EvL.cons RF EvL.nil))) (fun w1 hw1 => reads47 w1 b a c (hB.at hw1 MM) hok _ _ x ((hL.el i x hix).2.2.at hw1 MM) (hin x (List.mem_of_getElem? hix)) t hte)) rfl ?_
          refine sq_nil ?_
          refine sx_xp SR ?_
          refine xj_one 15 RF (by kernel_rfl) ?_
          refine sq_gt RF RF (y_call (first := []) (caps := []) RF Try.call47 (EvL.cons RF (EvL.cons RF (EvL.cons RF EvL.nil))) (fun w1 hw1 => reads47 w1 b a c (hB.at hw1 MM) hok _ _ y ((hL.el j y hjy).2.2.at hw1 MM) (hin y (List.mem_of_getElem? hjy)) t hte)) rfl ?_
          refine sq_nil ?_
          refine sx_xp SR ?_
          refine xj_one 16 RF (by kernel_rfl) ?_
          refine sq_gt RF RF (y_call (first := []) (caps := []) RF Try.call84 (EvL.cons RF (EvL.cons RF EvL.nil)) (fun w1 _ => meets84 w1 (readV b t x) (readV b t y))) rfl ?_
          refine sq_nil ?_
          refine sx_xp SR ?_
          refine xj_s 17 RF (by kernel_rfl) SR (y_pick_t RF RF) rfl ?_
          refine xj_done (by kernel_rfl) ?_
          refine sx_then ?_
          refine scp (fun hc2 => ?_) (fun hc2 => ?_)
          ·
            refine sc_seq ?_
            refine sc_region ?_
            refine qs (y_assign RF) ?_
            refine sq_nil ?_
            refine sx_then ?_
            refine sc_ret ?_
            refine sx_blk_ret ?_
            refine sx_then_ret ?_
            refine sx_round_ret ?_
            refine sx_blk_ret ?_
            refine sx_blk_ret ?_
            refine sx_then_ret ?_
            refine sx_round_ret ?_
            refine sx_blk_ret ?_
            refine sx_then_ret ?_
            refine sx_ret1 (.inl rfl) rfl Try.results60 RF ?_
            intro w' hw'
            refine ⟨?_, hw'.below MM⟩
            have hcf : conf b t x y = true := by
              unfold conf; rw [hg7_2, hg7_7, show meetsV (readV b t x) (readV b t y) = true by simpa [meetsV] using hc2]; rfl
            have : (ll.any fun x => ll.any fun y => conf b t x y) = true := List.any_eq_true.2 ⟨x, List.mem_of_getElem? hix, List.any_eq_true.2 ⟨y, List.mem_of_getElem? hjy, hcf⟩⟩
            unfold setV; rw [this]; rfl
          ·
            refine sc_skip ?_
            refine sx_blk ?_
            refine sx_then ?_
            refine sc_region ?_
            refine qs (y_add RF RF (by omega)) ?_
            refine qs (y_move RF) ?_
            refine sq_nil ?_
            refine sx_round (j + 1) ?_ ?_ SU SR
            · refine ⟨by omega, fun q z hq hz => ?_⟩
              rcases Nat.lt_succ_iff_lt_or_eq.1 hq with h9 | rfl
              · exact hno2 q z h9 hz
              · rw [hjy] at hz; injection hz with hz; subst hz; unfold conf; rw [show meetsV (readV b t x) (readV b t y) = false by simpa [meetsV] using hc2, Bool.and_false]
            · omega
        ·
          refine xj_gf 8 RF RF RF rfl (by kernel_rfl) SR rfl ?_
          refine xj_gf 9 RF RF RF rfl (by kernel_rfl) SR rfl ?_
          refine xj_gf 10 RF RF RF rfl (by kernel_rfl) SR rfl ?_
          refine xj_gf 11 RF RF RF rfl (by kernel_rfl) SR rfl ?_
          refine xj_gf 12 RF RF RF rfl (by kernel_rfl) SR rfl ?_
          refine xj_gf 13 RF RF RF rfl (by kernel_rfl) SR rfl ?_
          refine xj_gf 14 RF RF RF rfl (by kernel_rfl) SR rfl ?_
          refine xj_gf 15 RF RF RF rfl (by kernel_rfl) SR rfl ?_
          refine xj_gf 16 RF RF RF rfl (by kernel_rfl) SR rfl ?_
          refine xj_s 17 RF (by kernel_rfl) SR (y_pick_f RF RF) rfl ?_
          refine xj_done (by kernel_rfl) ?_
          refine sx_then ?_
          refine sc_f RF ?_
          refine sc_skip ?_
          refine sx_blk ?_
          refine sx_then ?_
          refine sc_region ?_
          refine qs (y_add RF RF (by omega)) ?_
          refine qs (y_move RF) ?_
          refine sq_nil ?_
          refine sx_round (j + 1) ?_ ?_ SU SR
          · refine ⟨by omega, fun q z hq hz => ?_⟩
            rcases Nat.lt_succ_iff_lt_or_eq.1 hq with h9 | rfl
            · exact hno2 q z h9 hz
            · rw [hjy] at hz; injection hz with hz; subst hz; unfold conf; rw [hg7_7]; simp
          · omega
      ·
        refine xj_gf 3 RF RF RF rfl (by kernel_rfl) SR rfl ?_
        refine xj_gf 4 RF RF RF rfl (by kernel_rfl) SR rfl ?_
        refine xj_gf 5 RF RF RF rfl (by kernel_rfl) SR rfl ?_
        refine xj_s 6 RF (by kernel_rfl) SR (y_pick_f RF RF) rfl ?_
        refine xj_s 7 RF (by kernel_rfl) SR (y_move RF) rfl ?_
        refine xj_gf 8 RF RF RF rfl (by kernel_rfl) SR rfl ?_
        refine xj_gf 9 RF RF RF rfl (by kernel_rfl) SR rfl ?_
        refine xj_gf 10 RF RF RF rfl (by kernel_rfl) SR rfl ?_
        refine xj_gf 11 RF RF RF rfl (by kernel_rfl) SR rfl ?_
        refine xj_gf 12 RF RF RF rfl (by kernel_rfl) SR rfl ?_
        refine xj_gf 13 RF RF RF rfl (by kernel_rfl) SR rfl ?_
        refine xj_gf 14 RF RF RF rfl (by kernel_rfl) SR rfl ?_
        refine xj_gf 15 RF RF RF rfl (by kernel_rfl) SR rfl ?_
        refine xj_gf 16 RF RF RF rfl (by kernel_rfl) SR rfl ?_
        refine xj_s 17 RF (by kernel_rfl) SR (y_pick_f RF RF) rfl ?_
        refine xj_done (by kernel_rfl) ?_
        refine sx_then ?_
        refine sc_f RF ?_
        refine sc_skip ?_
        refine sx_blk ?_
        refine sx_then ?_
        refine sc_region ?_
        refine qs (y_add RF RF (by omega)) ?_
        refine qs (y_move RF) ?_
        refine sq_nil ?_
        refine sx_round (j + 1) ?_ ?_ SU SR
        · refine ⟨by omega, fun q z hq hz => ?_⟩
          rcases Nat.lt_succ_iff_lt_or_eq.1 hq with h9 | rfl
          · exact hno2 q z h9 hz
          · rw [hjy] at hz; injection hz with hz; subst hz; unfold conf; rw [hg7_2]; simp
        · omega
    ·
      have hjn : j = ll.length := by omega
      subst hjn
      refine sc_exit ?_
      refine sx_then_exit ?_
      refine sx_round_exit ?_
      refine sx_blk_hit ?_
      refine sx_blk ?_
      refine sx_then ?_
      refine sc_region ?_
      refine qs (y_add RF RF (by omega)) ?_
      refine qs (y_move RF) ?_
      refine sq_nil ?_
      refine sx_round (i + 1) ?_ ?_ SU SR
      · refine ⟨by omega, fun q z hq hz => ?_⟩
        rcases Nat.lt_succ_iff_lt_or_eq.1 hq with h9 | rfl
        · exact hno q z h9 hz
        · rw [hix] at hz; injection hz with hz; subst hz
          exact any_no hno2
      · omega
  ·
    refine sc_exit ?_
    refine sx_then_exit ?_
    refine sx_round_exit ?_
    refine sx_blk_hit ?_
    refine sx_then ?_
    refine sc_seq ?_
    refine sc_region ?_
    refine qs (y_assign RF) ?_
    refine sq_nil ?_
    refine sx_then ?_
    refine sc_ret ?_
    refine sx_ret1 (.inl rfl) rfl Try.results60 RF ?_
    intro w' hw'
    refine ⟨?_, hw'.below MM⟩
    have hin2 : i = ll.length := by omega
    subst hin2
    unfold setV; rw [any_no hno]; rfl
theorem settles61 (w : World) (b : Bx) (a : Option Addr) (c : Nat) (hB : RowsA kdRow 3 0 w a b.kinds) (hok : bxB b = true) (a2 : Option Addr) (c2 : Nat) (f : Nat → Option Addr) (cf : Nat → Nat) (ll : List (List Int)) (hL : LLA 0 w a2 f cf ll) (hin : ∀ h, h ∈ ll → HasOk b h) (t : Te) (hte : teB b t = true) : Calls Try.prog 61 #[.agg (bxRow b a c).toArray, .slice a2 ll.length c2, .agg (teRow t).toArray] w fun e w' => e = .returned (.bool (setV b ll t)) ∧ Below w.heap.size w w' := by
  have hlen := hL.len
  refine calls_of_SC (args := [.agg (bxRow b a c).toArray, .slice a2 ll.length c2, .agg (teRow t).toArray]) Try.func61 rfl Try.ntmps61 rfl ?_
  simp only [argL, Nat.reduceAdd, Nat.zero_add]
  refine sc_seq ?_
  refine sc_region ?_
  refine sq_box RF rfl (fun b3 => ?_)
  refine sq_box RF rfl (fun b5 => ?_)
  refine qs (y_assign RF) ?_
  refine sq_nil ?_
  refine sx_then ?_
  refine sc_seq ?_
  refine sc_seq ?_
  refine sc_region ?_
  refine qs (y_assign RF) ?_
  refine sq_nil ?_
  refine sx_then ?_
  refine sc_block ?_
  refine sc_loop (σ := Nat)
    (fun s => [(1, .slice a2 ll.length c2), (3, .pointer (some ⟨b3, 0, none⟩)), (5, .pointer (some ⟨b5, 0, none⟩)), (7, .int .i64 s)])
    (fun s => .blk b5 (.cells (teRow t).toArray 29 (0, 0)) :: .blk b3 (.cells (bxRow b a c).toArray 26 (0, 0)) :: [.reg 0 w])
    (fun s => s ≤ ll.length ∧ ∀ q z, q < s → ll[q]? = some z → (ll.any fun y => conf b t z y) = false)
    (fun s => ll.length - s)
    (0) ?_ SU SR ?_
  · exact ⟨Nat.zero_le _, fun q z hq => absurd hq (Nat.not_lt_zero q)⟩
  rintro i ⟨hi, hno⟩
  refine sc_seq ?_
  refine sc_seq ?_
  refine sc_region ?_
  refine qs (y_move RF) ?_
  refine qs (y_move RF) ?_
  refine qs (y_len Try.underlying68 RF) ?_
  refine qs (y_lss RF RF) ?_
  refine sq_nil ?_
  refine sx_then ?_
  refine scp (fun hc0 => ?_) (fun hc0 => ?_)
  ·
    have hi' : i < ll.length := by omega
    obtain ⟨x, hix⟩ : ∃ x, ll[i]? = some x := ⟨_, List.getElem?_eq_getElem hi'⟩
    have hsmi := (hL.el i x hix).1
    have hcai := (hL.el i x hix).2.1
    refine sc_skip ?_
    refine sx_then ?_
    refine sc_seq ?_
    refine sc_block ?_
    refine sc_seq ?_
    refine sc_region ?_
    refine qs (y_assign RF) ?_
    refine sq_nil ?_
    refine sx_then ?_
    refine sc_block ?_
    refine sc_loop (σ := Nat)
      (fun s => [(1, .slice a2 ll.length c2), (3, .pointer (some ⟨b3, 0, none⟩)), (5, .pointer (some ⟨b5, 0, none⟩)), (7, .int .i64 i), (8, .int .i64 s)])
      (fun s => .blk b5 (.cells (teRow t).toArray 29 (0, 0)) :: .blk b3 (.cells (bxRow b a c).toArray 26 (0, 0)) :: [.reg 0 w])
      (fun s => s ≤ ll.length ∧ ∀ q z, q < s → ll[q]? = some z → conf b t x z = false)
      (fun s => ll.length - s)
      (0) ?_ SU SR ?_
    · exact ⟨Nat.zero_le _, fun q z hq => absurd hq (Nat.not_lt_zero q)⟩
    rintro j ⟨hj, hno2⟩
    refine sc_seq ?_
    refine sc_seq ?_
    refine sc_region ?_
    refine qs (y_move RF) ?_
    refine qs (y_move RF) ?_
    refine qs (y_len Try.underlying68 RF) ?_
    refine qs (y_lss RF RF) ?_
    refine sq_nil ?_
    refine sx_then ?_
    refine scp (fun hc1 => ?_) (fun hc1 => ?_)
    ·
      have hj' : j < ll.length := by omega
      obtain ⟨y, hjy⟩ : ∃ y, ll[j]? = some y := ⟨_, List.getElem?_eq_getElem hj'⟩
      have hsmj := (hL.el j y hjy).1
      have hcaj := (hL.el j y hjy).2.1
      refine sc_skip ?_
      refine sx_then ?_
      refine sc_seq ?_
      refine sc_block ?_
      refine sc_seq ?_
      refine sc_midE (Z := Nat × Nat) (fun z => [(1, .slice a2 ll.length c2), (3, .pointer (some ⟨b3, 0, none⟩)), (5, .pointer (some ⟨b5, 0, none⟩)), (7, .int .i64 i), (8, .int .i64 j), (9, .pointer (some ⟨z.1, 0, none⟩)), (10, .pointer (some ⟨z.2, 0, none⟩))]) (fun z => .blk z.1 (.cells (spRow (readV b t x)).toArray 24 (0, 0)) :: .blk z.2 (.cells (spRow (readV b t y)).toArray 24 (0, 0)) :: .blk b5 (.cells (teRow t).toArray 29 (0, 0)) :: .blk b3 (.cells (bxRow b a c).toArray 26 (0, 0)) :: [.reg 0 w]) ?_ ?_
      ·
        refine sc_drawX ([.blk b5 (.cells (teRow t).toArray 29 (0, 0)), .blk b3 (.cells (bxRow b a c).toArray 26 (0, 0)), .reg 0 w]) (by kernel_rfl) ?_
        refine xj_s 0 RF (by kernel_rfl) SR LD26 rfl ?_
        refine xj_s 1 RF (by kernel_rfl) SR (y_move RF) rfl ?_
        refine xj_s 2 RF (by kernel_rfl) SR (y_move RF) rfl ?_
        refine xj_s 3 RF (by kernel_rfl) SR IA68 rfl ?_
        refine xj_s 4 RF (by kernel_rfl) SR (by first | exact y_load_ca0 Try.underlying27 rfl RF MM hcai rfl | exact LD27) rfl ?_
        refine xj_s 5 RF (by kernel_rfl) SR LD29 rfl ?_
        refine xj_s 7 RF (by kernel_rfl) SR LD26 rfl ?_
        refine xj_s 8 RF (by kernel_rfl) SR (y_move RF) rfl ?_
        refine xj_s 9 RF (by kernel_rfl) SR (y_move RF) rfl ?_
        refine xj_s 10 RF (by kernel_rfl) SR IA68 rfl ?_
        refine xj_s 11 RF (by kernel_rfl) SR (by first | exact y_load_ca0 Try.underlying27 rfl RF MM hcaj rfl | exact LD27) rfl ?_
        refine xj_s 12 RF (by kernel_rfl) SR LD29 rfl ?_
        refine xj_all (l := [6, 14, 15]) (by kernel_rfl) (by simp) (Each.cons ⟨_, rfl, ?_⟩ (Each.cons ⟨_, rfl, ?_⟩ (Each.cons ⟨_, rfl, ?_⟩ Each.nil)))
        ·
          refine qy (yc Try.call48 E3 (fun w1 hw1 => read48 w1 b a c (hB.at hw1 MM) hok _ _ x ((hL.el i x hix).2.2.at hw1 MM) (hin x (List.mem_of_getElem? hix)) t hte)) ?_
          refine sq_nil ?_
          refine sx_xp SR ?_
          refine xj_all (l := [13, 14, 15]) (by kernel_rfl) (by simp) (Each.cons ⟨_, rfl, ?_⟩ (Each.cons ⟨_, rfl, ?_⟩ (Each.cons ⟨_, rfl, ?_⟩ Each.nil)))
          ·
            refine qy (yc Try.call48 E3 (fun w1 hw1 => read48 w1 b a c (hB.at hw1 MM) hok _ _ y ((hL.el j y hjy).2.2.at hw1 MM) (hin y (List.mem_of_getElem? hjy)) t hte)) ?_
            refine sq_nil ?_
            refine sx_xp SR ?_
            refine xj_all (l := [14, 15]) (by kernel_rfl) (by simp) (Each.cons ⟨_, rfl, ?_⟩ (Each.cons ⟨_, rfl, ?_⟩ Each.nil))
            ·
              refine sq_alloc Try.zeroValue24 rfl (fun b9 => ?_)
              refine sq_nil ?_
              refine sx_xp SR ?_
              refine xj_one 15 RF (by kernel_rfl) ?_
              refine sq_alloc Try.zeroValue24 rfl (fun b10 => ?_)
              refine sq_nil ?_
              refine sx_xp SR ?_
              refine xj_one 16 RF (by kernel_rfl) ?_
              refine sq_store_all Try.sizeOf24 RF RF rfl RM rfl rfl ?_
              refine sq_nil ?_
              refine sx_xp SR ?_
              refine xj_one 17 RF (by kernel_rfl) ?_
              refine sq_store_all Try.sizeOf24 RF RF rfl RM rfl rfl ?_
              refine sq_nil ?_
              refine sx_xpl (by kernel_rfl) ?_
              refine xj_done (by kernel_rfl) ?_
              exact sx_midE ((b9, b10)) SU SR
            ·
              refine sq_alloc Try.zeroValue24 rfl (fun b10 => ?_)
              refine sq_nil ?_
              refine sx_xp SR ?_
              refine xj_one 14 RF (by kernel_rfl) ?_
              refine sq_alloc Try.zeroValue24 rfl (fun b9 => ?_)
              refine sq_nil ?_
              refine sx_xp SR ?_
              refine xj_one 16 RF (by kernel_rfl) ?_
              refine sq_store_all Try.sizeOf24 RF RF rfl RM rfl rfl ?_
              refine sq_nil ?_
              refine sx_xp SR ?_
              refine xj_one 17 RF (by kernel_rfl) ?_
              refine sq_store_all Try.sizeOf24 RF RF rfl RM rfl rfl ?_
              refine sq_nil ?_
              refine sx_xpl (by kernel_rfl) ?_
              refine xj_done (by kernel_rfl) ?_
              exact sx_midE ((b9, b10)) SU SR
          ·
            refine sq_alloc Try.zeroValue24 rfl (fun b9 => ?_)
            refine sq_nil ?_
            refine sx_xp SR ?_
            refine xj_all (l := [13, 15]) (by kernel_rfl) (by simp) (Each.cons ⟨_, rfl, ?_⟩ (Each.cons ⟨_, rfl, ?_⟩ Each.nil))
            ·
              refine qy (yc Try.call48 E3 (fun w1 hw1 => read48 w1 b a c (hB.at hw1 MM) hok _ _ y ((hL.el j y hjy).2.2.at hw1 MM) (hin y (List.mem_of_getElem? hjy)) t hte)) ?_
              refine sq_nil ?_
              refine sx_xp SR ?_
              refine xj_one 15 RF (by kernel_rfl) ?_
              refine sq_alloc Try.zeroValue24 rfl (fun b10 => ?_)
              refine sq_nil ?_
              refine sx_xp SR ?_
              refine xj_one 16 RF (by kernel_rfl) ?_
              refine sq_store_all Try.sizeOf24 RF RF rfl RM rfl rfl ?_
              refine sq_nil ?_
              refine sx_xp SR ?_
              refine xj_one 17 RF (by kernel_rfl) ?_
              refine sq_store_all Try.sizeOf24 RF RF rfl RM rfl rfl ?_
              refine sq_nil ?_
              refine sx_xpl (by kernel_rfl) ?_
              refine xj_done (by kernel_rfl) ?_
              exact sx_midE ((b9, b10)) SU SR
            ·
              refine sq_alloc Try.zeroValue24 rfl (fun b10 => ?_)
              refine sq_nil ?_
              refine sx_xp SR ?_
              refine xj_one 13 RF (by kernel_rfl) ?_
              refine qy (yc Try.call48 E3 (fun w1 hw1 => read48 w1 b a c (hB.at hw1 MM) hok _ _ y ((hL.el j y hjy).2.2.at hw1 MM) (hin y (List.mem_of_getElem? hjy)) t hte)) ?_
              refine sq_nil ?_
              refine sx_xp SR ?_
              refine xj_one 16 RF (by kernel_rfl) ?_
              refine sq_store_all Try.sizeOf24 RF RF rfl RM rfl rfl ?_
              refine sq_nil ?_
              refine sx_xp SR ?_
              refine xj_one 17 RF (by kernel_rfl) ?_
              refine sq_store_all Try.sizeOf24 RF RF rfl RM rfl rfl ?_
              refine sq_nil ?_
              refine sx_xpl (by kernel_rfl) ?_
              refine xj_done (by kernel_rfl) ?_
              exact sx_midE ((b9, b10)) SU SR
          ·
            refine sq_alloc Try.zeroValue24 rfl (fun b10 => ?_)
            refine sq_nil ?_
            refine sx_xp SR ?_
            refine xj_all (l := [13, 14]) (by kernel_rfl) (by simp) (Each.cons ⟨_, rfl, ?_⟩ (Each.cons ⟨_, rfl, ?_⟩ Each.nil))
            ·
              refine qy (yc Try.call48 E3 (fun w1 hw1 => read48 w1 b a c (hB.at hw1 MM) hok _ _ y ((hL.el j y hjy).2.2.at hw1 MM) (hin y (List.mem_of_getElem? hjy)) t hte)) ?_
              refine sq_nil ?_
              refine sx_xp SR ?_
              refine xj_one 14 RF (by kernel_rfl) ?_
              refine sq_alloc Try.zeroValue24 rfl (fun b9 => ?_)
              refine sq_nil ?_
              refine sx_xp SR ?_
              refine xj_one 16 RF (by kernel_rfl) ?_
              refine sq_store_all Try.sizeOf24 RF RF rfl RM rfl rfl ?_
              refine sq_nil ?_
              refine sx_xp SR ?_
              refine xj_one 17 RF (by kernel_rfl) ?_
              refine sq_store_all Try.sizeOf24 RF RF rfl RM rfl rfl ?_
              refine sq_nil ?_
              refine sx_xpl (by kernel_rfl) ?_
              refine xj_done (by kernel_rfl) ?_
              exact sx_midE ((b9, b10)) SU SR
            ·
              refine sq_alloc Try.zeroValue24 rfl (fun b9 => ?_)
              refine sq_nil ?_
              refine sx_xp SR ?_
              refine xj_one 13 RF (by kernel_rfl) ?_
              refine qy (yc Try.call48 E3 (fun w1 hw1 => read48 w1 b a c (hB.at hw1 MM) hok _ _ y ((hL.el j y hjy).2.2.at hw1 MM) (hin y (List.mem_of_getElem? hjy)) t hte)) ?_
              refine sq_nil ?_
              refine sx_xp SR ?_
              refine xj_one 16 RF (by kernel_rfl) ?_
              refine sq_store_all Try.sizeOf24 RF RF rfl RM rfl rfl ?_
              refine sq_nil ?_
              refine sx_xp SR ?_
              refine xj_one 17 RF (by kernel_rfl) ?_
              refine sq_store_all Try.sizeOf24 RF RF rfl RM rfl rfl ?_
              refine sq_nil ?_
              refine sx_xpl (by kernel_rfl) ?_
              refine xj_done (by kernel_rfl) ?_
              exact sx_midE ((b9, b10)) SU SR
        ·
          refine sq_alloc Try.zeroValue24 rfl (fun b9 => ?_)
          refine sq_nil ?_
          refine sx_xp SR ?_
          refine xj_all (l := [6, 15]) (by kernel_rfl) (by simp) (Each.cons ⟨_, rfl, ?_⟩ (Each.cons ⟨_, rfl, ?_⟩ Each.nil))
          ·
            refine qy (yc Try.call48 E3 (fun w1 hw1 => read48 w1 b a c (hB.at hw1 MM) hok _ _ x ((hL.el i x hix).2.2.at hw1 MM) (hin x (List.mem_of_getElem? hix)) t hte)) ?_
            refine sq_nil ?_
            refine sx_xp SR ?_
            refine xj_all (l := [13, 15]) (by kernel_rfl) (by simp) (Each.cons ⟨_, rfl, ?_⟩ (Each.cons ⟨_, rfl, ?_⟩ Each.nil))
            ·
              refine qy (yc Try.call48 E3 (fun w1 hw1 => read48 w1 b a c (hB.at hw1 MM) hok _ _ y ((hL.el j y hjy).2.2.at hw1 MM) (hin y (List.mem_of_getElem? hjy)) t hte)) ?_
              refine sq_nil ?_
              refine sx_xp SR ?_
              refine xj_one 15 RF (by kernel_rfl) ?_
              refine sq_alloc Try.zeroValue24 rfl (fun b10 => ?_)
              refine sq_nil ?_
              refine sx_xp SR ?_
              refine xj_one 16 RF (by kernel_rfl) ?_
              refine sq_store_all Try.sizeOf24 RF RF rfl RM rfl rfl ?_
              refine sq_nil ?_
              refine sx_xp SR ?_
              refine xj_one 17 RF (by kernel_rfl) ?_
              refine sq_store_all Try.sizeOf24 RF RF rfl RM rfl rfl ?_
              refine sq_nil ?_
              refine sx_xpl (by kernel_rfl) ?_
              refine xj_done (by kernel_rfl) ?_
              exact sx_midE ((b9, b10)) SU SR
            ·
              refine sq_alloc Try.zeroValue24 rfl (fun b10 => ?_)
              refine sq_nil ?_
              refine sx_xp SR ?_
              refine xj_one 13 RF (by kernel_rfl) ?_
              refine qy (yc Try.call48 E3 (fun w1 hw1 => read48 w1 b a c (hB.at hw1 MM) hok _ _ y ((hL.el j y hjy).2.2.at hw1 MM) (hin y (List.mem_of_getElem? hjy)) t hte)) ?_
              refine sq_nil ?_
              refine sx_xp SR ?_
              refine xj_one 16 RF (by kernel_rfl) ?_
              refine sq_store_all Try.sizeOf24 RF RF rfl RM rfl rfl ?_
              refine sq_nil ?_
              refine sx_xp SR ?_
              refine xj_one 17 RF (by kernel_rfl) ?_
              refine sq_store_all Try.sizeOf24 RF RF rfl RM rfl rfl ?_
              refine sq_nil ?_
              refine sx_xpl (by kernel_rfl) ?_
              refine xj_done (by kernel_rfl) ?_
              exact sx_midE ((b9, b10)) SU SR
          ·
            refine sq_alloc Try.zeroValue24 rfl (fun b10 => ?_)
            refine sq_nil ?_
            refine sx_xp SR ?_
            refine xj_one 6 RF (by kernel_rfl) ?_
            refine qy (yc Try.call48 E3 (fun w1 hw1 => read48 w1 b a c (hB.at hw1 MM) hok _ _ x ((hL.el i x hix).2.2.at hw1 MM) (hin x (List.mem_of_getElem? hix)) t hte)) ?_
            refine sq_nil ?_
            refine sx_xp SR ?_
            refine xj_one 13 RF (by kernel_rfl) ?_
            refine qy (yc Try.call48 E3 (fun w1 hw1 => read48 w1 b a c (hB.at hw1 MM) hok _ _ y ((hL.el j y hjy).2.2.at hw1 MM) (hin y (List.mem_of_getElem? hjy)) t hte)) ?_
            refine sq_nil ?_
            refine sx_xp SR ?_
            refine xj_one 16 RF (by kernel_rfl) ?_
            refine sq_store_all Try.sizeOf24 RF RF rfl RM rfl rfl ?_
            refine sq_nil ?_
            refine sx_xp SR ?_
            refine xj_one 17 RF (by kernel_rfl) ?_
            refine sq_store_all Try.sizeOf24 RF RF rfl RM rfl rfl ?_
            refine sq_nil ?_
            refine sx_xpl (by kernel_rfl) ?_
            refine xj_done (by kernel_rfl) ?_
            exact sx_midE ((b9, b10)) SU SR
        ·
          refine sq_alloc Try.zeroValue24 rfl (fun b10 => ?_)
          refine sq_nil ?_
          refine sx_xp SR ?_
          refine xj_all (l := [6, 14]) (by kernel_rfl) (by simp) (Each.cons ⟨_, rfl, ?_⟩ (Each.cons ⟨_, rfl, ?_⟩ Each.nil))
          ·
            refine qy (yc Try.call48 E3 (fun w1 hw1 => read48 w1 b a c (hB.at hw1 MM) hok _ _ x ((hL.el i x hix).2.2.at hw1 MM) (hin x (List.mem_of_getElem? hix)) t hte)) ?_
            refine sq_nil ?_
            refine sx_xp SR ?_
            refine xj_all (l := [13, 14]) (by kernel_rfl) (by simp) (Each.cons ⟨_, rfl, ?_⟩ (Each.cons ⟨_, rfl, ?_⟩ Each.nil))
            ·
              refine qy (yc Try.call48 E3 (fun w1 hw1 => read48 w1 b a c (hB.at hw1 MM) hok _ _ y ((hL.el j y hjy).2.2.at hw1 MM) (hin y (List.mem_of_getElem? hjy)) t hte)) ?_
              refine sq_nil ?_
              refine sx_xp SR ?_
              refine xj_one 14 RF (by kernel_rfl) ?_
              refine sq_alloc Try.zeroValue24 rfl (fun b9 => ?_)
              refine sq_nil ?_
              refine sx_xp SR ?_
              refine xj_one 16 RF (by kernel_rfl) ?_
              refine sq_store_all Try.sizeOf24 RF RF rfl RM rfl rfl ?_
              refine sq_nil ?_
              refine sx_xp SR ?_
              refine xj_one 17 RF (by kernel_rfl) ?_
              refine sq_store_all Try.sizeOf24 RF RF rfl RM rfl rfl ?_
              refine sq_nil ?_
              refine sx_xpl (by kernel_rfl) ?_
              refine xj_done (by kernel_rfl) ?_
              exact sx_midE ((b9, b10)) SU SR
            ·
              refine sq_alloc Try.zeroValue24 rfl (fun b9 => ?_)
              refine sq_nil ?_
              refine sx_xp SR ?_
              refine xj_one 13 RF (by kernel_rfl) ?_
              refine qy (yc Try.call48 E3 (fun w1 hw1 => read48 w1 b a c (hB.at hw1 MM) hok _ _ y ((hL.el j y hjy).2.2.at hw1 MM) (hin y (List.mem_of_getElem? hjy)) t hte)) ?_
              refine sq_nil ?_
              refine sx_xp SR ?_
              refine xj_one 16 RF (by kernel_rfl) ?_
              refine sq_store_all Try.sizeOf24 RF RF rfl RM rfl rfl ?_
              refine sq_nil ?_
              refine sx_xp SR ?_
              refine xj_one 17 RF (by kernel_rfl) ?_
              refine sq_store_all Try.sizeOf24 RF RF rfl RM rfl rfl ?_
              refine sq_nil ?_
              refine sx_xpl (by kernel_rfl) ?_
              refine xj_done (by kernel_rfl) ?_
              exact sx_midE ((b9, b10)) SU SR
          ·
            refine sq_alloc Try.zeroValue24 rfl (fun b9 => ?_)
            refine sq_nil ?_
            refine sx_xp SR ?_
            refine xj_one 6 RF (by kernel_rfl) ?_
            refine qy (yc Try.call48 E3 (fun w1 hw1 => read48 w1 b a c (hB.at hw1 MM) hok _ _ x ((hL.el i x hix).2.2.at hw1 MM) (hin x (List.mem_of_getElem? hix)) t hte)) ?_
            refine sq_nil ?_
            refine sx_xp SR ?_
            refine xj_one 13 RF (by kernel_rfl) ?_
            refine qy (yc Try.call48 E3 (fun w1 hw1 => read48 w1 b a c (hB.at hw1 MM) hok _ _ y ((hL.el j y hjy).2.2.at hw1 MM) (hin y (List.mem_of_getElem? hjy)) t hte)) ?_
            refine sq_nil ?_
            refine sx_xp SR ?_
            refine xj_one 16 RF (by kernel_rfl) ?_
            refine sq_store_all Try.sizeOf24 RF RF rfl RM rfl rfl ?_
            refine sq_nil ?_
            refine sx_xp SR ?_
            refine xj_one 17 RF (by kernel_rfl) ?_
            refine sq_store_all Try.sizeOf24 RF RF rfl RM rfl rfl ?_
            refine sq_nil ?_
            refine sx_xpl (by kernel_rfl) ?_
            refine xj_done (by kernel_rfl) ?_
            exact sx_midE ((b9, b10)) SU SR
      rintro ⟨b9, b10⟩
      try dsimp only
      refine sx_then ?_
      refine sc_seq ?_
      refine sc_region ?_
      refine qs (y_move RF) ?_
      refine qs (y_move RF) ?_
      refine qs IA68 ?_
      refine qs (by first | exact y_load_ca0 Try.underlying27 rfl RF MM hcai rfl | exact LD27) ?_
      refine qy (yc Try.call36 E1 (fun w1 hw1 => whole36 w1 _ _ x ((hL.el i x hix).2.2.at hw1 MM))) ?_
      refine qs (y_move RF) ?_
      refine sp 42 (fun hg8_5 => ?_) (fun hg8_5 => ?_)
      ·
        refine qg (y_move RF) ?_
        refine qg (y_move RF) ?_
        refine qg IA68 ?_
        refine qg (by first | exact y_load_ca0 Try.underlying27 rfl RF MM hcaj rfl | exact LD27) ?_
        refine sq_gt RF RF (y_call (first := []) (caps := []) RF Try.call36 (EvL.cons RF EvL.nil) (fun w1 hw1 => whole36 w1 _ _ y ((hL.el j y hjy).2.2.at hw1 MM))) rfl ?_
        refine qg (y_not RF) ?_
        refine qs (y_pick_t RF RF) ?_
        refine qs (y_move RF) ?_
        refine sp 50 (fun hg8_13 => ?_) (fun hg8_13 => ?_)
        ·
          refine qg FA24_3 ?_
          refine qg LD3 ?_
          refine qg FA24_3 ?_
          refine qg LD3 ?_
          refine qg (y_leq RF RF) ?_
          refine qs (y_pick_t RF RF) ?_
          refine qs (y_move RF) ?_
          refine sp 57 (fun hg8_20 => ?_) (fun hg8_20 => ?_)
          ·
            refine qg FA24_3 ?_
            refine qg LD3 ?_
            refine qg FA24_3 ?_
            refine qg LD3 ?_
            refine qg (y_leq RF RF) ?_
            refine qs (y_pick_t RF RF) ?_
            refine sq_nil ?_
            refine sx_then ?_
            refine scp (fun hc2 => ?_) (fun hc2 => ?_)
            ·
              refine sc_seq ?_
              refine sc_region ?_
              refine qs (y_assign RF) ?_
              refine sq_nil ?_
              refine sx_then ?_
              refine sc_ret ?_
              refine sx_blk_ret ?_
              refine sx_then_ret ?_
              refine sx_round_ret ?_
              refine sx_blk_ret ?_
              refine sx_blk_ret ?_
              refine sx_then_ret ?_
              refine sx_round_ret ?_
              refine sx_blk_ret ?_
              refine sx_then_ret ?_
              refine sx_ret1 (.inl rfl) rfl Try.results61 RF ?_
              intro w' hw'
              refine ⟨?_, hw'.below MM⟩
              have hcf : conf b t x y = true := by
                unfold conf; rw [hg8_5, hg8_13, show meetsV (readV b t x) (readV b t y) = true from decide_eq_true ⟨hg8_20, hc2⟩]; rfl
              have : (ll.any fun x => ll.any fun y => conf b t x y) = true := List.any_eq_true.2 ⟨x, List.mem_of_getElem? hix, List.any_eq_true.2 ⟨y, List.mem_of_getElem? hjy, hcf⟩⟩
              unfold setV; rw [this]; rfl
            ·
              refine sc_skip ?_
              refine sx_blk ?_
              refine sx_then ?_
              refine sc_region ?_
              refine qs (y_move RF) ?_
              refine qs (y_add RF RF (by omega)) ?_
              refine qs (y_assign RF) ?_
              refine sq_nil ?_
              refine sx_round (j + 1) ?_ ?_ SU SR
              · refine ⟨by omega, fun q z hq hz => ?_⟩
                rcases Nat.lt_succ_iff_lt_or_eq.1 hq with h9 | rfl
                · exact hno2 q z h9 hz
                · rw [hjy] at hz; injection hz with hz; subst hz; unfold conf; rw [show meetsV (readV b t x) (readV b t y) = false from decide_eq_false (fun h => hc2 h.2), Bool.and_false]
              · omega
          ·
            refine qf ?_
            refine qf ?_
            refine qf ?_
            refine qf ?_
            refine qf ?_
            refine qs (y_pick_f RF RF) ?_
            refine sq_nil ?_
            refine sx_then ?_
            refine sc_f RF ?_
            refine sc_skip ?_
            refine sx_blk ?_
            refine sx_then ?_
            refine sc_region ?_
            refine qs (y_move RF) ?_
            refine qs (y_add RF RF (by omega)) ?_
            refine qs (y_assign RF) ?_
            refine sq_nil ?_
            refine sx_round (j + 1) ?_ ?_ SU SR
            · refine ⟨by omega, fun q z hq hz => ?_⟩
              rcases Nat.lt_succ_iff_lt_or_eq.1 hq with h9 | rfl
              · exact hno2 q z h9 hz
              · rw [hjy] at hz; injection hz with hz; subst hz; unfold conf; rw [show meetsV (readV b t x) (readV b t y) = false from decide_eq_false (fun h => hg8_20 h.1), Bool.and_false]
            · omega
        ·
          refine qf ?_
          refine qf ?_
          refine qf ?_
          refine qf ?_
          refine qf ?_
          refine qs (y_pick_f RF RF) ?_
          refine qs (y_move RF) ?_
          refine qf ?_
          refine qf ?_
          refine qf ?_
          refine qf ?_
          refine qf ?_
          refine qs (y_pick_f RF RF) ?_
          refine sq_nil ?_
          refine sx_then ?_
          refine sc_f RF ?_
          refine sc_skip ?_
          refine sx_blk ?_
          refine sx_then ?_
          refine sc_region ?_
          refine qs (y_move RF) ?_
          refine qs (y_add RF RF (by omega)) ?_
          refine qs (y_assign RF) ?_
          refine sq_nil ?_
          refine sx_round (j + 1) ?_ ?_ SU SR
          · refine ⟨by omega, fun q z hq hz => ?_⟩
            rcases Nat.lt_succ_iff_lt_or_eq.1 hq with h9 | rfl
            · exact hno2 q z h9 hz
            · rw [hjy] at hz; injection hz with hz; subst hz; unfold conf; rw [hg8_13]; simp
          · omega
      ·
        refine qf ?_
        refine qf ?_
        refine qf ?_
        refine qf ?_
        refine qf ?_
        refine qf ?_
        refine qs (y_pick_f RF RF) ?_
        refine qs (y_move RF) ?_
        refine qf ?_
        refine qf ?_
        refine qf ?_
        refine qf ?_
        refine qf ?_
        refine qs (y_pick_f RF RF) ?_
        refine qs (y_move RF) ?_
        refine qf ?_
        refine qf ?_
        refine qf ?_
        refine qf ?_
        refine qf ?_
        refine qs (y_pick_f RF RF) ?_
        refine sq_nil ?_
        refine sx_then ?_
        refine sc_f RF ?_
        refine sc_skip ?_
        refine sx_blk ?_
        refine sx_then ?_
        refine sc_region ?_
        refine qs (y_move RF) ?_
        refine qs (y_add RF RF (by omega)) ?_
        refine qs (y_assign RF) ?_
        refine sq_nil ?_
        refine sx_round (j + 1) ?_ ?_ SU SR
        · refine ⟨by omega, fun q z hq hz => ?_⟩
          rcases Nat.lt_succ_iff_lt_or_eq.1 hq with h9 | rfl
          · exact hno2 q z h9 hz
          · rw [hjy] at hz; injection hz with hz; subst hz; unfold conf; rw [hg8_5]; simp
        · omega
    ·
      have hjn : j = ll.length := by omega
      subst hjn
      refine sc_exit ?_
      refine sx_then_exit ?_
      refine sx_round_exit ?_
      refine sx_blk_hit ?_
      refine sx_blk ?_
      refine sx_then ?_
      refine sc_region ?_
      refine qs (y_move RF) ?_
      refine qs (y_add RF RF (by omega)) ?_
      refine qs (y_assign RF) ?_
      refine sq_nil ?_
      refine sx_round (i + 1) ?_ ?_ SU SR
      · refine ⟨by omega, fun q z hq hz => ?_⟩
        rcases Nat.lt_succ_iff_lt_or_eq.1 hq with h9 | rfl
        · exact hno q z h9 hz
        · rw [hix] at hz; injection hz with hz; subst hz
          exact any_no hno2
      · omega
  ·
    refine sc_exit ?_
    refine sx_then_exit ?_
    refine sx_round_exit ?_
    refine sx_blk_hit ?_
    refine sx_then ?_
    refine sc_seq ?_
    refine sc_region ?_
    refine qs (y_assign RF) ?_
    refine sq_nil ?_
    refine sx_then ?_
    refine sc_ret ?_
    refine sx_ret1 (.inl rfl) rfl Try.results61 RF ?_
    intro w' hw'
    refine ⟨?_, hw'.below MM⟩
    have hin2 : i = ll.length := by omega
    subst hin2
    unfold setV; rw [any_no hno]; rfl
end Go.Proofs.Ytofjipmheckmjaa
