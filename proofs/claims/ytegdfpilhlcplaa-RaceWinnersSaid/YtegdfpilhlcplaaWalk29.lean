/- The walk of RaceWinners. -/
import Derived.Test.YtegdfpilhlcplaaLaw13
import Derived.Test.YtegdfpilhlcplaaWalk25
import Derived.Test.YtegdfpilhlcplaaEng10
namespace Go.Proofs.Ytegdfpilhlcplaa
open Go Go.Eng Go.RowKit Go.Proofs
set_option maxRecDepth 100000
theorem worked15x (w : World) (v : Value) (r : Rc) (t m : Nat) (mz : Int) (hmz : mz = m) (hr : RcA 0 w v r) (hok : rcB r = true) (ht : t < r.teams.length) (hm : m ≤ 2000) : Calls Try.prog 15 #[v, .int .i64 t, .int .i64 mz] w fun e w' => e = .returned (.tuple #[.int .i64 (wrk r t m), .int .i64 0]) ∧ Below w.heap.size w w' := by
  subst hmz
  have h := worked15 w v r t m hr
  rw [if_neg (by simp [hok]), if_pos (by omega), Int.toNat_natCast, Int.toNat_natCast] at h
  exact h

theorem points19zi (w : World) (r : Rc) (a : Option Addr) (c : Nat) (f : Nat → Option Addr) (cf : Nat → Nat) (al : Option Addr) (cl : Nat) (ls : List Wd) (t m : Nat) (mz : Int) (hmz : mz = m) (ht : t < r.teams.length) (hm : m ≤ 2000) (hE : openE r ls true = 0) (hT : TmsA 0 w a r.teams f cf) (hl : WdsA 0 w al ls) (i1 : InI r.p) (i2 : InI r.lim) (i3 : InI r.rate) : Calls Try.prog 19 #[.agg (rcVal r a c).toArray, .slice al ls.length cl, .int .i64 t, .int .i64 mz] w fun e w' => e = .returned (.tuple #[.agg (spRow (ptsP r ls t (wrk r t m))).toArray, .int .i64 0]) ∧ Below w.heap.size w w' := by
  subst hmz
  exact points19z w r a c f cf al cl ls _ rfl t m ht hm hE hT hl i1 i2 i3
theorem winners10a (w : World) (r : Rc) (a : Option Addr) (c : Nat) (f : Nat → Option Addr) (cf : Nat → Nat) (al : Option Addr) (cl : Nat) (ls : List Wd) (mz : Int) (E : Int) (hE : openE r ls true = E) (h0 : E ≠ 0) (hT : TmsA 0 w a r.teams f cf) (hl : WdsA 0 w al ls) (i1 : InI r.p) (i2 : InI r.lim) (i3 : InI r.rate) : Calls Try.prog 10 #[.agg (rcVal r a c).toArray, .slice al ls.length cl, .int .u16 mz] w fun e w' => e = .returned (.bool true) ∧ Below w.heap.size w w' := by
  have hWx : winAns r ls = .tuple #[.int .i64 0, .int .i64 0, .int .i64 E] := by unfold winAns; rw [hE, if_neg h0]
  refine calls_of_SC (args := [.agg (rcVal r a c).toArray, .slice al ls.length cl, .int .u16 mz]) Try.func10 rfl Try.ntmps10 rfl ?_
  simp only [argL, Nat.reduceAdd, Nat.zero_add]
  refine sc_seq ?_
  refine sc_region ?_
  refine sq_box (by exact rfl) rfl (fun b3 => ?_)
  refine sq_y (OpY.s (y_assign (by exact rfl))) rfl ?_
  refine sq_nil ?_
  refine sx_then ?_
  refine sc_seq ?_
  refine sc_seq ?_
  refine sc_region ?_
  refine sq_y (OpY.s (by first | exact y_load_all Try.underlying24 rfl Try.sizeOf24 (by exact rfl) (by repeat (first | exact .head _ | refine .tail _ ?_)) (by exact rfl) | exact y_load_ca Try.underlying24 rfl Try.sizeOf24 (by exact rfl) (by repeat (first | exact .head _ | refine .tail _ ?_)) (by assumption) (by exact rfl))) rfl ?_
  refine sq_y (OpY.s (y_move (by exact rfl))) rfl ?_
  refine sq_y (y_call (first := []) (caps := []) (by exact rfl) Try.call13 (EvL.cons (by exact rfl) (EvL.cons (by exact rfl) EvL.nil)) (fun w1 hw1 => great13 w1 r a c f cf al cl ls (hT.at hw1 (by repeat (first | exact .head _ | refine .tail _ ?_))) hl.len)) rfl ?_
  refine sq_nil ?_
  refine sx_then ?_
  first | refine sc_if (by exact rfl) (fun hc0 => ?_) (fun hc0 => ?_) | refine sc_ifn (by exact rfl) (fun hc0 => ?_) (fun hc0 => ?_) | refine sc_cond (by exact rfl) (fun hc0 => ?_) (fun hc0 => ?_)
  ·
    refine sc_seq ?_
    refine sc_region ?_
    refine sq_y (y_call (first := []) (caps := []) (by exact rfl) Try.call14 EvL.nil (fun w1 _ => alive14 w1)) rfl ?_
    refine sq_y (OpY.s (y_assign (by exact rfl))) rfl ?_
    refine sq_nil ?_
    refine sx_then ?_
    refine sc_ret ?_
    refine sx_then_ret ?_
    refine sx_ret1 (.inl rfl) rfl Try.results10 (by exact rfl) ?_
    intro w' hw'
    exact ⟨rfl, hw'.below (by repeat (first | exact .head _ | refine .tail _ ?_))⟩
  ·
    refine sc_skip ?_
    refine sx_then ?_
    refine sc_seq ?_
    refine sc_region ?_
    refine sq_y (OpY.s (by first | exact y_load_all Try.underlying24 rfl Try.sizeOf24 (by exact rfl) (by repeat (first | exact .head _ | refine .tail _ ?_)) (by exact rfl) | exact y_load_ca Try.underlying24 rfl Try.sizeOf24 (by exact rfl) (by repeat (first | exact .head _ | refine .tail _ ?_)) (by assumption) (by exact rfl))) rfl ?_
    refine sq_y (OpY.s (y_move (by exact rfl))) rfl ?_
    refine sq_y (y_call (first := []) (caps := []) (by exact rfl) Try.call23 (EvL.cons (by exact rfl) (EvL.cons (by exact rfl) EvL.nil)) (fun w1 hw1 => (winners23 w1 r a c f cf al cl ls (hT.at hw1 (by repeat (first | exact .head _ | refine .tail _ ?_))) (hl.at hw1 (by repeat (first | exact .head _ | refine .tail _ ?_))) i1 i2 i3).mono (fun e w' h => ⟨h.1.trans (congrArg Ending.returned hWx), h.2⟩))) rfl ?_
    refine sq_y (OpY.s (y_move (by exact rfl))) rfl ?_
    refine sq_y (OpY.s (y_extract (by exact rfl) (by exact rfl))) rfl ?_
    refine sq_y (OpY.s (y_extract (by exact rfl) (by exact rfl))) rfl ?_
    refine sq_y (OpY.s (y_extract (by exact rfl) (by exact rfl))) rfl ?_
    refine sq_y (OpY.s (y_assign (by exact rfl))) rfl ?_
    refine sq_y (OpY.s (y_assign (by exact rfl))) rfl ?_
    refine sq_y (OpY.s (y_assign (by exact rfl))) rfl ?_
    refine sq_nil ?_
    refine sx_then ?_
    refine sc_seq ?_
    refine sc_seq ?_
    refine sc_region ?_
    refine sq_y (OpY.s (y_move (by exact rfl))) rfl ?_
    refine sq_y (OpY.s (y_neq (by exact rfl) (by exact rfl))) rfl ?_
    refine sq_y (OpY.s (y_move (by exact rfl))) rfl ?_
    refine sq_known (tt := 40) (b' := true) (by exact rfl) (by simp [*]) ?_
    refine sq_gf (by exact rfl) (by exact rfl) (by exact rfl) rfl ?_
    refine sq_gf (by exact rfl) (by exact rfl) (by exact rfl) rfl ?_
    refine sq_gf (by exact rfl) (by exact rfl) (by exact rfl) rfl ?_
    refine sq_y (OpY.s (y_pick_t (by exact rfl) (by exact rfl))) rfl ?_
    refine sq_nil ?_
    refine sx_then ?_
    refine sc_t (by exact rfl) ?_
    refine sc_seq ?_
    refine sc_region ?_
    refine sq_y (OpY.s (y_move (by exact rfl))) rfl ?_
    refine sq_y (OpY.s (y_eql (by exact rfl) (by exact rfl))) rfl ?_
    refine sq_y (OpY.s (y_move (by exact rfl))) rfl ?_
    refine sq_known (tt := 47) (b' := true) (by exact rfl) (by simp [*]) ?_
    refine sq_gt (by exact rfl) (by exact rfl) (OpY.s (y_move (by exact rfl))) rfl ?_
    refine sq_gt (by exact rfl) (by exact rfl) (OpY.s (y_eql (by exact rfl) (by exact rfl))) rfl ?_
    refine sq_y (OpY.s (y_pick_t (by exact rfl) (by exact rfl))) rfl ?_
    refine sq_y (OpY.s (y_move (by exact rfl))) rfl ?_
    refine sq_known (tt := 51) (b' := true) (by exact rfl) (by simp [*]) ?_
    refine sq_gt (by exact rfl) (by exact rfl) (OpY.s (y_move (by exact rfl))) rfl ?_
    refine sq_gt (by exact rfl) (by exact rfl) (OpY.s (y_neq (by exact rfl) (by exact rfl))) rfl ?_
    refine sq_y (OpY.s (y_pick_t (by exact rfl) (by exact rfl))) rfl ?_
    refine sq_y (OpY.s (y_move (by exact rfl))) rfl ?_
    refine sq_known (tt := 55) (b' := true) (by exact rfl) (by simp [*]) ?_
    refine sq_gt (by exact rfl) (by exact rfl) (y_call (first := []) (caps := []) (by exact rfl) Try.call14 EvL.nil (fun w1 _ => alive14 w1)) rfl ?_
    refine sq_y (OpY.s (y_pick_t (by exact rfl) (by exact rfl))) rfl ?_
    refine sq_y (OpY.s (y_assign (by exact rfl))) rfl ?_
    refine sq_nil ?_
    refine sx_then ?_
    refine sc_ret ?_
    refine sx_then_ret ?_
    refine sx_ret1 (.inl rfl) rfl Try.results10 (by exact rfl) ?_
    intro w' hw'
    exact ⟨rfl, hw'.below (by repeat (first | exact .head _ | refine .tail _ ?_))⟩
theorem winners10b (w : World) (r : Rc) (a : Option Addr) (c : Nat) (f : Nat → Option Addr) (cf : Nat → Nat) (al : Option Addr) (cl : Nat) (ls : List Wd) (mz : Int) (hmz : 0 ≤ mz ∧ mz ≤ 65535) (hE : openE r ls true = 0) (hok : rcB r = true) (hT : TmsA 0 w a r.teams f cf) (hl : WdsA 0 w al ls) (i1 : InI r.p) (i2 : InI r.lim) (i3 : InI r.rate) : Calls Try.prog 10 #[.agg (rcVal r a c).toArray, .slice al ls.length cl, .int .u16 mz] w fun e w' => e = .returned (.bool true) ∧ Below w.heap.size w w' := by
  have hWx : winAns r ls = .tuple #[.int .i64 (winS r ls : Nat), .int .i64 (winC r ls : Nat), .int .i64 0] := by unfold winAns; rw [if_pos hE]
  have hlim := rcB_nums hok
  have hlenT := hT.len
  obtain ⟨m, hm⟩ := Int.eq_ofNat_of_zero_le (show 0 ≤ mz % 2000 by omega)
  have hm2 : m < 2000 := by omega
  have hc1 := some_can hE
  have hc2 : ((winC r ls : Nat) : Int) < (pw2 r.teams.length : Nat) := by have := maskN_pw (canQ (winL r ls)) r.teams.length; unfold winC; omega
  have hs2 : ((winS r ls : Nat) : Int) < (pw2 r.teams.length : Nat) := by have := maskN_pw (sureQ (winL r ls)) r.teams.length; unfold winS; omega
  have hpw := pw2_le (show r.teams.length ≤ 20 by omega)
  have hcb : ((winC r ls : Nat) : Int) ≤ 1048576 := by omega
  have hsb : ((winS r ls : Nat) : Int) ≤ 1048576 := by omega
  have hsc := sure_can hE
  have hsh := pw2_shl r.teams.length
  refine calls_of_SC (args := [.agg (rcVal r a c).toArray, .slice al ls.length cl, .int .u16 mz]) Try.func10 rfl Try.ntmps10 rfl ?_
  simp only [argL, Nat.reduceAdd, Nat.zero_add]
  refine sc_seq ?_
  refine sc_region ?_
  refine sq_box (by exact rfl) rfl (fun b3 => ?_)
  refine sq_y (OpY.s (y_assign (by exact rfl))) rfl ?_
  refine sq_nil ?_
  refine sx_then ?_
  refine sc_seq ?_
  refine sc_seq ?_
  refine sc_region ?_
  refine sq_y (OpY.s (by first | exact y_load_all Try.underlying24 rfl Try.sizeOf24 (by exact rfl) (by repeat (first | exact .head _ | refine .tail _ ?_)) (by exact rfl) | exact y_load_ca Try.underlying24 rfl Try.sizeOf24 (by exact rfl) (by repeat (first | exact .head _ | refine .tail _ ?_)) (by assumption) (by exact rfl))) rfl ?_
  refine sq_y (OpY.s (y_move (by exact rfl))) rfl ?_
  refine sq_y (y_call (first := []) (caps := []) (by exact rfl) Try.call13 (EvL.cons (by exact rfl) (EvL.cons (by exact rfl) EvL.nil)) (fun w1 hw1 => great13 w1 r a c f cf al cl ls (hT.at hw1 (by repeat (first | exact .head _ | refine .tail _ ?_))) hl.len)) rfl ?_
  refine sq_nil ?_
  refine sx_then ?_
  first | refine sc_if (by exact rfl) (fun hc0 => ?_) (fun hc0 => ?_) | refine sc_ifn (by exact rfl) (fun hc0 => ?_) (fun hc0 => ?_) | refine sc_cond (by exact rfl) (fun hc0 => ?_) (fun hc0 => ?_)
  ·
    refine sc_seq ?_
    refine sc_region ?_
    refine sq_y (y_call (first := []) (caps := []) (by exact rfl) Try.call14 EvL.nil (fun w1 _ => alive14 w1)) rfl ?_
    refine sq_y (OpY.s (y_assign (by exact rfl))) rfl ?_
    refine sq_nil ?_
    refine sx_then ?_
    refine sc_ret ?_
    refine sx_then_ret ?_
    refine sx_ret1 (.inl rfl) rfl Try.results10 (by exact rfl) ?_
    intro w' hw'
    exact ⟨rfl, hw'.below (by repeat (first | exact .head _ | refine .tail _ ?_))⟩
  ·
    refine sc_skip ?_
    refine sx_then ?_
    refine sc_seq ?_
    refine sc_region ?_
    refine sq_y (OpY.s (by first | exact y_load_all Try.underlying24 rfl Try.sizeOf24 (by exact rfl) (by repeat (first | exact .head _ | refine .tail _ ?_)) (by exact rfl) | exact y_load_ca Try.underlying24 rfl Try.sizeOf24 (by exact rfl) (by repeat (first | exact .head _ | refine .tail _ ?_)) (by assumption) (by exact rfl))) rfl ?_
    refine sq_y (OpY.s (y_move (by exact rfl))) rfl ?_
    refine sq_y (y_call (first := []) (caps := []) (by exact rfl) Try.call23 (EvL.cons (by exact rfl) (EvL.cons (by exact rfl) EvL.nil)) (fun w1 hw1 => (winners23 w1 r a c f cf al cl ls (hT.at hw1 (by repeat (first | exact .head _ | refine .tail _ ?_))) (hl.at hw1 (by repeat (first | exact .head _ | refine .tail _ ?_))) i1 i2 i3).mono (fun e w' h => ⟨h.1.trans (congrArg Ending.returned hWx), h.2⟩))) rfl ?_
    refine sq_y (OpY.s (y_move (by exact rfl))) rfl ?_
    refine sq_y (OpY.s (y_extract (by exact rfl) (by exact rfl))) rfl ?_
    refine sq_y (OpY.s (y_extract (by exact rfl) (by exact rfl))) rfl ?_
    refine sq_y (OpY.s (y_extract (by exact rfl) (by exact rfl))) rfl ?_
    refine sq_y (OpY.s (y_assign (by exact rfl))) rfl ?_
    refine sq_y (OpY.s (y_assign (by exact rfl))) rfl ?_
    refine sq_y (OpY.s (y_assign (by exact rfl))) rfl ?_
    refine sq_nil ?_
    refine sx_then ?_
    refine sc_seq ?_
    refine sc_seq ?_
    refine sc_region ?_
    refine sq_y (OpY.s (y_move (by exact rfl))) rfl ?_
    refine sq_y (OpY.s (y_neq (by exact rfl) (by exact rfl))) rfl ?_
    refine sq_y (OpY.s (y_move (by exact rfl))) rfl ?_
    refine sq_known (tt := 40) (b' := false) (by exact rfl) (by simp) ?_
    refine sq_gt (by exact rfl) (by exact rfl) (OpY.s (by first | exact y_load_all Try.underlying24 rfl Try.sizeOf24 (by exact rfl) (by repeat (first | exact .head _ | refine .tail _ ?_)) (by exact rfl) | exact y_load_ca Try.underlying24 rfl Try.sizeOf24 (by exact rfl) (by repeat (first | exact .head _ | refine .tail _ ?_)) (by assumption) (by exact rfl))) rfl ?_
    refine sq_gt (by exact rfl) (by exact rfl) (y_call (first := []) (caps := []) (by exact rfl) Try.call31 (EvL.cons (by exact rfl) EvL.nil) (fun w1 hw1 => race31 w1 _ r ((hT.at hw1 (by repeat (first | exact .head _ | refine .tail _ ?_))).rc i1 i2 i3))) rfl ?_
    refine sq_gt (by exact rfl) (by exact rfl) (OpY.s (y_not (by exact rfl))) rfl ?_
    refine sq_y (OpY.s (y_pick_f (by exact rfl) (by exact rfl))) rfl ?_
    refine sq_nil ?_
    refine sx_then ?_
    refine sc_f (lk_bool rfl (by simp [hok])) ?_
    refine sc_skip ?_
    refine sx_then ?_
    refine sc_seq ?_
    refine sc_seq ?_
    refine sc_region ?_
    refine sq_y (OpY.s (y_move (by exact rfl))) rfl ?_
    refine sq_y (OpY.s (y_lss (by exact rfl) (by exact rfl))) rfl ?_
    refine sq_y (OpY.s (y_move (by exact rfl))) rfl ?_
    refine sq_known (tt := 60) (b' := false) (by exact rfl) (decide_eq_false (by omega)) ?_
    refine sq_gt (by exact rfl) (by exact rfl) (OpY.s (y_move (by exact rfl))) rfl ?_
    refine sq_gt (by exact rfl) (by exact rfl) (OpY.s (by first | exact y_fab Try.underlying24 (by exact rfl) (by exact Try.sizeOf22) (by exact rfl) rfl | exact y_fa Try.underlying24 (by exact rfl) (by exact Try.sizeOf22) (by exact rfl) rfl)) rfl ?_
    refine sq_gt (by exact rfl) (by exact rfl) (OpY.s (by first | exact y_load_blk Try.underlying22 rfl (by exact rfl) (by repeat (first | exact .head _ | refine .tail _ ?_)) (by exact rfl) | exact y_load_caj Try.underlying22 rfl (by exact rfl) (by repeat (first | exact .head _ | refine .tail _ ?_)) (by assumption) (by exact rfl) | exact y_load_ca0 Try.underlying22 rfl (by exact rfl) (by repeat (first | exact .head _ | refine .tail _ ?_)) (by assumption) (by exact rfl))) rfl ?_
    refine sq_gt (by exact rfl) (by exact rfl) (OpY.s (y_len Try.underlying22 (by exact rfl))) rfl ?_
    refine sq_gt (by exact rfl) (by exact rfl) (OpY.s (y_shl (by exact rfl) (by exact rfl) (by omega) (by rw [hsh]; omega))) rfl ?_
    refine sq_gt (by exact rfl) (by exact rfl) (OpY.s (y_geq (by exact rfl) (by exact rfl))) rfl ?_
    refine sq_y (OpY.s (y_pick_f (by exact rfl) (by exact rfl))) rfl ?_
    refine sq_y (OpY.s (y_move (by exact rfl))) rfl ?_
    refine sq_known (tt := 68) (b' := false) (by exact rfl) (by rw [hsh]; exact decide_eq_false (by omega)) ?_
    refine sq_gt (by exact rfl) (by exact rfl) (OpY.s (y_move (by exact rfl))) rfl ?_
    refine sq_gt (by exact rfl) (by exact rfl) (OpY.s (y_move (by exact rfl))) rfl ?_
    refine sq_gt (by exact rfl) (by exact rfl) (OpY.s (y_andNot (by exact rfl) (by exact rfl) (by omega) (by omega))) rfl ?_
    refine sq_gt (by exact rfl) (by exact rfl) (OpY.s (y_neq (by exact rfl) (by exact rfl))) rfl ?_
    refine sq_y (OpY.s (y_pick_f (by exact rfl) (by exact rfl))) rfl ?_
    refine sq_nil ?_
    refine sx_then ?_
    refine sc_f (lk_bool rfl (by rw [Int.toNat_natCast, Int.toNat_natCast, hsc]; rfl)) ?_
    refine sc_skip ?_
    refine sx_then ?_
    refine sc_seq ?_
    refine sc_region ?_
    refine sq_y (OpY.s (y_assign (by exact rfl))) rfl ?_
    refine sq_nil ?_
    refine sx_then ?_
    refine sc_seq ?_
    refine sc_region ?_
    refine sq_y (OpY.s (y_assign (by exact rfl))) rfl ?_
    refine sq_nil ?_
    refine sx_then ?_
    refine sc_seq ?_
    refine sc_region ?_
    refine sq_y (OpY.s (y_move (by exact rfl))) rfl ?_
    refine sq_y (OpY.s (y_conv Try.underlying48 Try.underlying3 (by exact rfl) (wrap64_in (by omega) (by omega)))) rfl ?_
    refine sq_y (OpY.s (y_rem (by exact rfl) (by exact rfl) (by omega) (by omega))) rfl ?_
    rw [hm]
    refine sq_y (OpY.s (y_assign (by exact rfl))) rfl ?_
    refine sq_nil ?_
    refine sx_then ?_
    refine sc_seq ?_
    refine sc_seq ?_
    refine sc_region ?_
    refine sq_y (OpY.s (by first | exact y_fab Try.underlying24 (by exact rfl) (by exact Try.sizeOf22) (by exact rfl) rfl | exact y_fa Try.underlying24 (by exact rfl) (by exact Try.sizeOf22) (by exact rfl) rfl)) rfl ?_
    refine sq_y (OpY.s (by first | exact y_load_blk Try.underlying22 rfl (by exact rfl) (by repeat (first | exact .head _ | refine .tail _ ?_)) (by exact rfl) | exact y_load_caj Try.underlying22 rfl (by exact rfl) (by repeat (first | exact .head _ | refine .tail _ ?_)) (by assumption) (by exact rfl) | exact y_load_ca0 Try.underlying22 rfl (by exact rfl) (by repeat (first | exact .head _ | refine .tail _ ?_)) (by assumption) (by exact rfl))) rfl ?_
    refine sq_y (OpY.s (y_len Try.underlying22 (by exact rfl))) rfl ?_
    refine sq_y (OpY.s (y_move (by exact rfl))) rfl ?_
    refine sq_nil ?_
    refine sx_then ?_
    refine sc_block ?_
    refine sc_nil_own 32 2 ?_
    refine sc_loop (σ := Nat × Value)
      (fun s => [(1, .slice al ls.length cl), (3, .pointer (some ⟨b3, 0, none⟩)), (7, .int .i64 (winS r ls : Nat)), (8, .int .i64 (winC r ls : Nat)), (10, .bool (endB r s.1)), (11, s.2), (12, .int .i64 m), (79, .int .i64 r.teams.length), (80, .int .i64 s.1)])
      (fun s => [.own s.2 32 2 s.1 (flatS ((List.range s.1).map fun x => ptsP r ls x (wrk r x 2000))), .blk b3 (.cells (rcVal r a c).toArray 24 (0, 0)), .reg 0 w])
      (fun s => s.1 ≤ r.teams.length)
      (fun s => r.teams.length - s.1)
      ((0, .slice none 0 0)) ?_ (by repeat (first | exact SubL.nil | refine SubL.cons (by first | exact rfl | exact lk_int rfl (by omega) | exact lk_eq rfl (by simp)) ?_)) (by repeat (first | exact Sel.nil | refine Sel.cons (by repeat (first | exact Rem.here | apply Rem.there)) ?_)) ?_
    · exact Nat.zero_le _
    rintro ⟨k, v⟩ hk
    dsimp only at hk ⊢
    refine sc_seq ?_
    refine sc_region ?_
    refine sq_y (OpY.s (y_lss (by exact rfl) (by exact rfl))) rfl ?_
    refine sq_nil ?_
    refine sx_then ?_
    refine sc_seq ?_
    first | refine sc_if (by exact rfl) (fun hc3 => ?_) (fun hc3 => ?_) | refine sc_ifn (by exact rfl) (fun hc3 => ?_) (fun hc3 => ?_) | refine sc_cond (by exact rfl) (fun hc3 => ?_) (fun hc3 => ?_)
    ·
      have hk' : k < r.teams.length := by omega
      have hp1 := pts_time (l := ls) (show 0 ≤ r.rate by omega) k (wrk_mono r k (show m ≤ m + 1 by omega))
      have hp2 := pts_time (l := ls) (show 0 ≤ r.rate by omega) k (wrk_mono r k (show m + 1 ≤ 2000 by omega))
      have hfl : flatS ((List.range k).map fun x => ptsP r ls x (wrk r x 2000)) ++ [.int .i64 (ptsP r ls k (wrk r k 2000)).lo, .int .i64 (ptsP r ls k (wrk r k 2000)).hi] = flatS ((List.range (k + 1)).map fun x => ptsP r ls x (wrk r x 2000)) := by
        rw [List.range_succ, List.map_append]; simp [flatS, spRow]
      refine sc_skip ?_
      refine sx_then ?_
      refine sc_seq ?_
      refine sc_block ?_
      refine sc_seq ?_
      refine sc_region ?_
      refine sq_y (OpY.s (y_move (by exact rfl))) rfl ?_
      refine sq_y (OpY.s (y_assign (by exact rfl))) rfl ?_
      refine sq_nil ?_
      refine sx_then ?_
      refine sc_seq ?_
      refine sc_region ?_
      refine sq_y (OpY.s (by first | exact y_load_all Try.underlying24 rfl Try.sizeOf24 (by exact rfl) (by repeat (first | exact .head _ | refine .tail _ ?_)) (by exact rfl) | exact y_load_ca Try.underlying24 rfl Try.sizeOf24 (by exact rfl) (by repeat (first | exact .head _ | refine .tail _ ?_)) (by assumption) (by exact rfl))) rfl ?_
      refine sq_y (OpY.s (y_move (by exact rfl))) rfl ?_
      refine sq_y (OpY.s (y_move (by exact rfl))) rfl ?_
      refine sq_y (OpY.s (y_move (by exact rfl))) rfl ?_
      refine sq_y (y_call (first := []) (caps := []) (by exact rfl) Try.call19 (EvL.cons (by exact rfl) (EvL.cons (by exact rfl) (EvL.cons (by exact rfl) (EvL.cons (by exact rfl) EvL.nil)))) (fun w1 hw1 => points19zi w1 r a c f cf al cl ls k (m) _ (by omega) hk' (by omega) hE (hT.at hw1 (by repeat (first | exact .head _ | refine .tail _ ?_))) (hl.at hw1 (by repeat (first | exact .head _ | refine .tail _ ?_))) i1 i2 i3)) rfl ?_
      refine sq_y (OpY.s (y_move (by exact rfl))) rfl ?_
      refine sq_y (OpY.s (y_extract (by exact rfl) (by exact rfl))) rfl ?_
      refine sq_y (OpY.s (y_extract (by exact rfl) (by exact rfl))) rfl ?_
      refine sq_alloc Try.zeroValue32 rfl (fun b14 => ?_)
      refine sq_store_all Try.sizeOf32 (by exact rfl) (by exact rfl) rfl (by repeat (first | exact Rem.here | apply Rem.there)) rfl rfl ?_
      refine sq_y (OpY.s (y_assign (by exact rfl))) rfl ?_
      refine sq_nil ?_
      refine sx_then ?_
      refine sc_seq ?_
      refine sc_region ?_
      refine sq_y (OpY.s (by first | exact y_load_all Try.underlying24 rfl Try.sizeOf24 (by exact rfl) (by repeat (first | exact .head _ | refine .tail _ ?_)) (by exact rfl) | exact y_load_ca Try.underlying24 rfl Try.sizeOf24 (by exact rfl) (by repeat (first | exact .head _ | refine .tail _ ?_)) (by assumption) (by exact rfl))) rfl ?_
      refine sq_y (OpY.s (y_move (by exact rfl))) rfl ?_
      refine sq_y (OpY.s (y_move (by exact rfl))) rfl ?_
      refine sq_y (OpY.s (y_move (by exact rfl))) rfl ?_
      refine sq_y (OpY.s (y_add (by exact rfl) (by exact rfl) (by omega))) rfl ?_
      refine sq_y (y_call (first := []) (caps := []) (by exact rfl) Try.call19 (EvL.cons (by exact rfl) (EvL.cons (by exact rfl) (EvL.cons (by exact rfl) (EvL.cons (by exact rfl) EvL.nil)))) (fun w1 hw1 => points19zi w1 r a c f cf al cl ls k (m + 1) _ (by omega) hk' (by omega) hE (hT.at hw1 (by repeat (first | exact .head _ | refine .tail _ ?_))) (hl.at hw1 (by repeat (first | exact .head _ | refine .tail _ ?_))) i1 i2 i3)) rfl ?_
      refine sq_y (OpY.s (y_move (by exact rfl))) rfl ?_
      refine sq_y (OpY.s (y_extract (by exact rfl) (by exact rfl))) rfl ?_
      refine sq_y (OpY.s (y_extract (by exact rfl) (by exact rfl))) rfl ?_
      refine sq_alloc Try.zeroValue32 rfl (fun b16 => ?_)
      refine sq_store_all Try.sizeOf32 (by exact rfl) (by exact rfl) rfl (by repeat (first | exact Rem.here | apply Rem.there)) rfl rfl ?_
      refine sq_y (OpY.s (y_assign (by exact rfl))) rfl ?_
      refine sq_nil ?_
      refine sx_then ?_
      refine sc_seq ?_
      refine sc_region ?_
      refine sq_y (OpY.s (by first | exact y_load_all Try.underlying24 rfl Try.sizeOf24 (by exact rfl) (by repeat (first | exact .head _ | refine .tail _ ?_)) (by exact rfl) | exact y_load_ca Try.underlying24 rfl Try.sizeOf24 (by exact rfl) (by repeat (first | exact .head _ | refine .tail _ ?_)) (by assumption) (by exact rfl))) rfl ?_
      refine sq_y (OpY.s (y_move (by exact rfl))) rfl ?_
      refine sq_y (OpY.s (y_move (by exact rfl))) rfl ?_
      refine sq_y (y_call (first := []) (caps := []) (by exact rfl) Try.call19 (EvL.cons (by exact rfl) (EvL.cons (by exact rfl) (EvL.cons (by exact rfl) (EvL.cons (by exact rfl) EvL.nil)))) (fun w1 hw1 => points19zi w1 r a c f cf al cl ls k (2000) 2000 (by omega) hk' (by omega) hE (hT.at hw1 (by repeat (first | exact .head _ | refine .tail _ ?_))) (hl.at hw1 (by repeat (first | exact .head _ | refine .tail _ ?_))) i1 i2 i3)) rfl ?_
      refine sq_y (OpY.s (y_move (by exact rfl))) rfl ?_
      refine sq_y (OpY.s (y_extract (by exact rfl) (by exact rfl))) rfl ?_
      refine sq_y (OpY.s (y_extract (by exact rfl) (by exact rfl))) rfl ?_
      refine sq_alloc Try.zeroValue32 rfl (fun b18 => ?_)
      refine sq_store_all Try.sizeOf32 (by exact rfl) (by exact rfl) rfl (by repeat (first | exact Rem.here | apply Rem.there)) rfl rfl ?_
      refine sq_y (OpY.s (y_assign (by exact rfl))) rfl ?_
      refine sq_nil ?_
      refine sx_then ?_
      refine sc_seq ?_
      refine sc_region ?_
      refine sq_y (OpY.s (by first | exact y_load_all Try.underlying24 rfl Try.sizeOf24 (by exact rfl) (by repeat (first | exact .head _ | refine .tail _ ?_)) (by exact rfl) | exact y_load_ca Try.underlying24 rfl Try.sizeOf24 (by exact rfl) (by repeat (first | exact .head _ | refine .tail _ ?_)) (by assumption) (by exact rfl))) rfl ?_
      refine sq_y (OpY.s (y_move (by exact rfl))) rfl ?_
      refine sq_y (y_call (first := []) (caps := []) (by exact rfl) Try.call15 (EvL.cons (by exact rfl) (EvL.cons (by exact rfl) (EvL.cons (by exact rfl) EvL.nil))) (fun w1 hw1 => worked15x w1 _ r k 2000 2000 (by omega) ((hT.at hw1 (by repeat (first | exact .head _ | refine .tail _ ?_))).rc i1 i2 i3) hok hk' (by omega))) rfl ?_
      refine sq_y (OpY.s (y_move (by exact rfl))) rfl ?_
      refine sq_y (OpY.s (y_extract (by exact rfl) (by exact rfl))) rfl ?_
      refine sq_y (OpY.s (y_extract (by exact rfl) (by exact rfl))) rfl ?_
      refine sq_y (OpY.s (y_assign (by exact rfl))) rfl ?_
      refine sq_y (OpY.s (y_assign (by exact rfl))) rfl ?_
      refine sq_nil ?_
      refine sx_then ?_
      refine sc_seq ?_
      refine sc_seq ?_
      refine sc_region ?_
      refine sq_y (OpY.s (y_move (by exact rfl))) rfl ?_
      refine sq_y (OpY.s (y_neq (by exact rfl) (by exact rfl))) rfl ?_
      refine sq_y (OpY.s (y_move (by exact rfl))) rfl ?_
      refine sq_known (tt := 115) (b' := false) (by exact rfl) (by simp) ?_
      refine sq_gt (by exact rfl) (by exact rfl) (OpY.s (y_move (by exact rfl))) rfl ?_
      refine sq_gt (by exact rfl) (by exact rfl) (OpY.s (y_neq (by exact rfl) (by exact rfl))) rfl ?_
      refine sq_y (OpY.s (y_pick_f (by exact rfl) (by exact rfl))) rfl ?_
      refine sq_y (OpY.s (y_move (by exact rfl))) rfl ?_
      refine sq_known (tt := 119) (b' := false) (by exact rfl) (by simp) ?_
      refine sq_gt (by exact rfl) (by exact rfl) (OpY.s (y_move (by exact rfl))) rfl ?_
      refine sq_gt (by exact rfl) (by exact rfl) (OpY.s (y_neq (by exact rfl) (by exact rfl))) rfl ?_
      refine sq_y (OpY.s (y_pick_f (by exact rfl) (by exact rfl))) rfl ?_
      refine sq_y (OpY.s (y_move (by exact rfl))) rfl ?_
      refine sq_known (tt := 123) (b' := false) (by exact rfl) (by simp) ?_
      refine sq_gt (by exact rfl) (by exact rfl) (OpY.s (y_move (by exact rfl))) rfl ?_
      refine sq_gt (by exact rfl) (by exact rfl) (OpY.s (y_neq (by exact rfl) (by exact rfl))) rfl ?_
      refine sq_y (OpY.s (y_pick_f (by exact rfl) (by exact rfl))) rfl ?_
      refine sq_y (OpY.s (y_move (by exact rfl))) rfl ?_
      refine sq_known (tt := 127) (b' := false) (by exact rfl) (by simp) ?_
      refine sq_gt (by exact rfl) (by exact rfl) (OpY.s (by first | exact y_fab Try.underlying32 (by exact rfl) (by exact Try.sizeOf3) (by exact rfl) rfl | exact y_fa Try.underlying32 (by exact rfl) (by exact Try.sizeOf3) (by exact rfl) rfl)) rfl ?_
      refine sq_gt (by exact rfl) (by exact rfl) (OpY.s (by first | exact y_load_blk Try.underlying3 rfl (by exact rfl) (by repeat (first | exact .head _ | refine .tail _ ?_)) (by exact rfl) | exact y_load_caj Try.underlying3 rfl (by exact rfl) (by repeat (first | exact .head _ | refine .tail _ ?_)) (by assumption) (by exact rfl) | exact y_load_ca0 Try.underlying3 rfl (by exact rfl) (by repeat (first | exact .head _ | refine .tail _ ?_)) (by assumption) (by exact rfl))) rfl ?_
      refine sq_gt (by exact rfl) (by exact rfl) (OpY.s (by first | exact y_fab Try.underlying32 (by exact rfl) (by exact Try.sizeOf3) (by exact rfl) rfl | exact y_fa Try.underlying32 (by exact rfl) (by exact Try.sizeOf3) (by exact rfl) rfl)) rfl ?_
      refine sq_gt (by exact rfl) (by exact rfl) (OpY.s (by first | exact y_load_blk Try.underlying3 rfl (by exact rfl) (by repeat (first | exact .head _ | refine .tail _ ?_)) (by exact rfl) | exact y_load_caj Try.underlying3 rfl (by exact rfl) (by repeat (first | exact .head _ | refine .tail _ ?_)) (by assumption) (by exact rfl) | exact y_load_ca0 Try.underlying3 rfl (by exact rfl) (by repeat (first | exact .head _ | refine .tail _ ?_)) (by assumption) (by exact rfl))) rfl ?_
      refine sq_gt (by exact rfl) (by exact rfl) (OpY.s (y_lss (by exact rfl) (by exact rfl))) rfl ?_
      refine sq_y (OpY.s (y_pick_f (by exact rfl) (by exact rfl))) rfl ?_
      refine sq_y (OpY.s (y_move (by exact rfl))) rfl ?_
      refine sq_known (tt := 134) (b' := false) (by exact rfl) (decide_eq_false (by omega)) ?_
      refine sq_gt (by exact rfl) (by exact rfl) (OpY.s (by first | exact y_fab Try.underlying32 (by exact rfl) (by exact Try.sizeOf3) (by exact rfl) rfl | exact y_fa Try.underlying32 (by exact rfl) (by exact Try.sizeOf3) (by exact rfl) rfl)) rfl ?_
      refine sq_gt (by exact rfl) (by exact rfl) (OpY.s (by first | exact y_load_blk Try.underlying3 rfl (by exact rfl) (by repeat (first | exact .head _ | refine .tail _ ?_)) (by exact rfl) | exact y_load_caj Try.underlying3 rfl (by exact rfl) (by repeat (first | exact .head _ | refine .tail _ ?_)) (by assumption) (by exact rfl) | exact y_load_ca0 Try.underlying3 rfl (by exact rfl) (by repeat (first | exact .head _ | refine .tail _ ?_)) (by assumption) (by exact rfl))) rfl ?_
      refine sq_gt (by exact rfl) (by exact rfl) (OpY.s (by first | exact y_fab Try.underlying32 (by exact rfl) (by exact Try.sizeOf3) (by exact rfl) rfl | exact y_fa Try.underlying32 (by exact rfl) (by exact Try.sizeOf3) (by exact rfl) rfl)) rfl ?_
      refine sq_gt (by exact rfl) (by exact rfl) (OpY.s (by first | exact y_load_blk Try.underlying3 rfl (by exact rfl) (by repeat (first | exact .head _ | refine .tail _ ?_)) (by exact rfl) | exact y_load_caj Try.underlying3 rfl (by exact rfl) (by repeat (first | exact .head _ | refine .tail _ ?_)) (by assumption) (by exact rfl) | exact y_load_ca0 Try.underlying3 rfl (by exact rfl) (by repeat (first | exact .head _ | refine .tail _ ?_)) (by assumption) (by exact rfl))) rfl ?_
      refine sq_gt (by exact rfl) (by exact rfl) (OpY.s (y_lss (by exact rfl) (by exact rfl))) rfl ?_
      refine sq_y (OpY.s (y_pick_f (by exact rfl) (by exact rfl))) rfl ?_
      refine sq_y (OpY.s (y_move (by exact rfl))) rfl ?_
      refine sq_known (tt := 141) (b' := false) (by exact rfl) (decide_eq_false (by omega)) ?_
      refine sq_gt (by exact rfl) (by exact rfl) (OpY.s (by first | exact y_fab Try.underlying32 (by exact rfl) (by exact Try.sizeOf3) (by exact rfl) rfl | exact y_fa Try.underlying32 (by exact rfl) (by exact Try.sizeOf3) (by exact rfl) rfl)) rfl ?_
      refine sq_gt (by exact rfl) (by exact rfl) (OpY.s (by first | exact y_load_blk Try.underlying3 rfl (by exact rfl) (by repeat (first | exact .head _ | refine .tail _ ?_)) (by exact rfl) | exact y_load_caj Try.underlying3 rfl (by exact rfl) (by repeat (first | exact .head _ | refine .tail _ ?_)) (by assumption) (by exact rfl) | exact y_load_ca0 Try.underlying3 rfl (by exact rfl) (by repeat (first | exact .head _ | refine .tail _ ?_)) (by assumption) (by exact rfl))) rfl ?_
      refine sq_gt (by exact rfl) (by exact rfl) (OpY.s (by first | exact y_fab Try.underlying32 (by exact rfl) (by exact Try.sizeOf3) (by exact rfl) rfl | exact y_fa Try.underlying32 (by exact rfl) (by exact Try.sizeOf3) (by exact rfl) rfl)) rfl ?_
      refine sq_gt (by exact rfl) (by exact rfl) (OpY.s (by first | exact y_load_blk Try.underlying3 rfl (by exact rfl) (by repeat (first | exact .head _ | refine .tail _ ?_)) (by exact rfl) | exact y_load_caj Try.underlying3 rfl (by exact rfl) (by repeat (first | exact .head _ | refine .tail _ ?_)) (by assumption) (by exact rfl) | exact y_load_ca0 Try.underlying3 rfl (by exact rfl) (by repeat (first | exact .head _ | refine .tail _ ?_)) (by assumption) (by exact rfl))) rfl ?_
      refine sq_gt (by exact rfl) (by exact rfl) (OpY.s (y_lss (by exact rfl) (by exact rfl))) rfl ?_
      refine sq_y (OpY.s (y_pick_f (by exact rfl) (by exact rfl))) rfl ?_
      refine sq_y (OpY.s (y_move (by exact rfl))) rfl ?_
      refine sq_known (tt := 148) (b' := false) (by exact rfl) (decide_eq_false (by omega)) ?_
      refine sq_gt (by exact rfl) (by exact rfl) (OpY.s (by first | exact y_fab Try.underlying32 (by exact rfl) (by exact Try.sizeOf3) (by exact rfl) rfl | exact y_fa Try.underlying32 (by exact rfl) (by exact Try.sizeOf3) (by exact rfl) rfl)) rfl ?_
      refine sq_gt (by exact rfl) (by exact rfl) (OpY.s (by first | exact y_load_blk Try.underlying3 rfl (by exact rfl) (by repeat (first | exact .head _ | refine .tail _ ?_)) (by exact rfl) | exact y_load_caj Try.underlying3 rfl (by exact rfl) (by repeat (first | exact .head _ | refine .tail _ ?_)) (by assumption) (by exact rfl) | exact y_load_ca0 Try.underlying3 rfl (by exact rfl) (by repeat (first | exact .head _ | refine .tail _ ?_)) (by assumption) (by exact rfl))) rfl ?_
      refine sq_gt (by exact rfl) (by exact rfl) (OpY.s (by first | exact y_fab Try.underlying32 (by exact rfl) (by exact Try.sizeOf3) (by exact rfl) rfl | exact y_fa Try.underlying32 (by exact rfl) (by exact Try.sizeOf3) (by exact rfl) rfl)) rfl ?_
      refine sq_gt (by exact rfl) (by exact rfl) (OpY.s (by first | exact y_load_blk Try.underlying3 rfl (by exact rfl) (by repeat (first | exact .head _ | refine .tail _ ?_)) (by exact rfl) | exact y_load_caj Try.underlying3 rfl (by exact rfl) (by repeat (first | exact .head _ | refine .tail _ ?_)) (by assumption) (by exact rfl) | exact y_load_ca0 Try.underlying3 rfl (by exact rfl) (by repeat (first | exact .head _ | refine .tail _ ?_)) (by assumption) (by exact rfl))) rfl ?_
      refine sq_gt (by exact rfl) (by exact rfl) (OpY.s (y_lss (by exact rfl) (by exact rfl))) rfl ?_
      refine sq_y (OpY.s (y_pick_f (by exact rfl) (by exact rfl))) rfl ?_
      refine sq_nil ?_
      refine sx_then ?_
      refine sc_f (lk_bool rfl (decide_eq_false (by omega))) ?_
      refine sc_skip ?_
      refine sx_then ?_
      refine sc_seq ?_
      refine sc_merge 10 (.bool (endB r (k + 1))) ?_ ?_
      ·
        refine sc_region ?_
        refine sq_y (OpY.s (y_move (by exact rfl))) rfl ?_
        refine sq_y (OpY.s (y_move (by exact rfl))) rfl ?_
        first | refine sq_splitd (tt := 156) (by exact rfl) (fun hg20_1 => ?_) (fun hg20_1 => ?_) | refine sq_splitn (tt := 156) (by exact rfl) (fun hg20_1 => ?_) (fun hg20_1 => ?_) | refine sq_split (tt := 156) (by exact rfl) (fun hg20_1 => ?_) (fun hg20_1 => ?_)
        ·
          refine sq_gt (by exact rfl) (by exact rfl) (OpY.s (y_move (by exact rfl))) rfl ?_
          refine sq_gt (by exact rfl) (by exact rfl) (OpY.s (by first | exact y_fab Try.underlying24 (by exact rfl) (by exact Try.sizeOf3) (by exact rfl) rfl | exact y_fa Try.underlying24 (by exact rfl) (by exact Try.sizeOf3) (by exact rfl) rfl)) rfl ?_
          refine sq_gt (by exact rfl) (by exact rfl) (OpY.s (by first | exact y_load_blk Try.underlying3 rfl (by exact rfl) (by repeat (first | exact .head _ | refine .tail _ ?_)) (by exact rfl) | exact y_load_caj Try.underlying3 rfl (by exact rfl) (by repeat (first | exact .head _ | refine .tail _ ?_)) (by assumption) (by exact rfl) | exact y_load_ca0 Try.underlying3 rfl (by exact rfl) (by repeat (first | exact .head _ | refine .tail _ ?_)) (by assumption) (by exact rfl))) rfl ?_
          refine sq_gt (by exact rfl) (by exact rfl) (OpY.s (y_eql (by exact rfl) (by exact rfl))) rfl ?_
          refine sq_y (OpY.s (y_pick_t (by exact rfl) (by exact rfl))) rfl ?_
          refine sq_y (OpY.s (y_assign (by exact rfl))) rfl ?_
          refine sq_nil ?_
          refine sx_merge ?_ ?_
          · exact lk_bool rfl (by rw [endB_succ]; simp [*])
          · exact (by repeat (first | exact SubX.refl _ _ | refine SubX.skipT ?_ | refine SubX.skip rfl ?_))
        ·
          refine sq_gf (by exact rfl) (by exact rfl) (by exact rfl) rfl ?_
          refine sq_gf (by exact rfl) (by exact rfl) (by exact rfl) rfl ?_
          refine sq_gf (by exact rfl) (by exact rfl) (by exact rfl) rfl ?_
          refine sq_gf (by exact rfl) (by exact rfl) (by exact rfl) rfl ?_
          refine sq_y (OpY.s (y_pick_f (by exact rfl) (by exact rfl))) rfl ?_
          refine sq_y (OpY.s (y_assign (by exact rfl))) rfl ?_
          refine sq_nil ?_
          refine sx_merge ?_ ?_
          · exact lk_bool rfl (by rw [endB_succ]; simp [*])
          · exact (by repeat (first | exact SubX.refl _ _ | refine SubX.skipT ?_ | refine SubX.skip rfl ?_))
      refine sx_then ?_
      refine sc_region ?_
      refine sq_y (OpY.s (y_move (by exact rfl))) rfl ?_
      refine sq_y (OpY.s (by first | exact y_load_all Try.underlying32 rfl Try.sizeOf32 (by exact rfl) (by repeat (first | exact .head _ | refine .tail _ ?_)) (by exact rfl) | exact y_load_2 Try.underlying32 rfl Try.sizeOf32 (by exact rfl) (by repeat (first | exact .head _ | refine .tail _ ?_)) (by exact rfl) (by exact rfl) | exact y_load_ca Try.underlying32 rfl Try.sizeOf32 (by exact rfl) (by repeat (first | exact .head _ | refine .tail _ ?_)) (by assumption) (by exact rfl))) rfl ?_
      refine sq_bs Try.underlying36 ei32 (EvI.cons (by exact rfl) EvI.nil) (by first | (simp [Value.cells]; done) | (simp [Value.cells]; rfl) | (simp [Value.cells]; and_intros <;> rfl)) rfl rfl rfl (fun b164 => ?_)
      refine sq_append (news := [.int .i64 (ptsP r ls k (wrk r k 2000)).lo, .int .i64 (ptsP r ls k (wrk r k 2000)).hi]) Try.underlying36 ei32 rfl (by decide) (by exact rfl) (by repeat (first | exact Rem.here | apply Rem.there)) (by exact rfl) rfl (fun _ hw => news_blk hw (by repeat (first | exact .head _ | refine .tail _ ?_))) (by simp [Value.oneCell']) (by omega) rfl (fun v165 ho165 => ?_)
      rw [hfl]
      refine sq_y (OpY.s (y_assign (by exact rfl))) rfl ?_
      refine sq_nil ?_
      refine sx_blk ?_
      refine sx_then ?_
      refine sc_region ?_
      refine sq_y (OpY.s (y_add (by exact rfl) (by exact rfl) (by omega))) rfl ?_
      refine sq_y (OpY.s (y_move (by exact rfl))) rfl ?_
      refine sq_nil ?_
      refine sx_round ((k + 1, v165)) ?_ ?_ (by repeat (first | exact SubL.nil | refine SubL.cons (by first | exact rfl | exact lk_int rfl (by omega) | exact lk_eq rfl (by simp)) ?_)) (by repeat (first | exact Sel.nil | refine Sel.cons (by repeat (first | exact Rem.here | apply Rem.there)) ?_))
      · show k + 1 ≤ r.teams.length; omega
      · show r.teams.length - (k + 1) < r.teams.length - k; omega
    ·
      have hkn : k = r.teams.length := by omega
      rw [hkn]
      refine sc_exit ?_
      refine sx_then_exit ?_
      refine sx_round_exit ?_
      refine sx_blk_hit ?_
      refine sx_then ?_
      refine sc_seq ?_
      refine sc_seq ?_
      refine sc_region ?_
      refine sq_y (OpY.s (y_move (by exact rfl))) rfl ?_
      refine sq_y (OpY.s (y_not (by exact rfl))) rfl ?_
      refine sq_nil ?_
      refine sx_then ?_
      first | refine sc_if (by exact rfl) (fun hc5 => ?_) (fun hc5 => ?_) | refine sc_ifn (by exact rfl) (fun hc5 => ?_) (fun hc5 => ?_) | refine sc_cond (by exact rfl) (fun hc5 => ?_) (fun hc5 => ?_)
      ·
        refine sc_seq ?_
        refine sc_region ?_
        refine sq_y (y_call (first := []) (caps := []) (by exact rfl) Try.call14 EvL.nil (fun w1 _ => alive14 w1)) rfl ?_
        refine sq_y (OpY.s (y_assign (by exact rfl))) rfl ?_
        refine sq_nil ?_
        refine sx_then ?_
        refine sc_ret ?_
        refine sx_then_ret ?_
        refine sx_ret1 (.inl rfl) rfl Try.results10 (by exact rfl) ?_
        intro w' hw'
        exact ⟨rfl, hw'.below (by repeat (first | exact .head _ | refine .tail _ ?_))⟩
      ·
        have hend : endB r r.teams.length = true := by simpa using hc5
        rw [endB_last ls hend]
        have hwl := winL_len r ls
        refine sc_skip ?_
        refine sx_then ?_
        refine sc_seq ?_
        refine sc_region ?_
        refine sq_y (OpY.s (by first | exact y_load_all Try.underlying24 rfl Try.sizeOf24 (by exact rfl) (by repeat (first | exact .head _ | refine .tail _ ?_)) (by exact rfl) | exact y_load_ca Try.underlying24 rfl Try.sizeOf24 (by exact rfl) (by repeat (first | exact .head _ | refine .tail _ ?_)) (by assumption) (by exact rfl))) rfl ?_
        refine sq_y (OpY.s (y_move (by exact rfl))) rfl ?_
        refine sq_call_new (first := []) (caps := []) (Z := Option Addr × Nat) (fun z => .tuple #[.slice z.1 (winL r ls).length z.2, .int .i64 0]) (fun lo w' z => SpsA lo w' z.1 (winL r ls)) (by exact rfl) Try.call21 (EvL.cons (by exact rfl) (EvL.cons (by exact rfl) (EvL.cons (by exact rfl) EvL.nil))) (fun w1 hw1 => (ranks21p w1 r a c f cf al cl ls 2000 (hT.at hw1 (by repeat (first | exact .head _ | refine .tail _ ?_))) (hl.at hw1 (by repeat (first | exact .head _ | refine .tail _ ?_))) i1 i2 i3).mono (fun e w' ⟨z, he, hb, hs⟩ => by rw [endB_ranks hE hend] at he hs; exact ⟨z, by rw [he, show minB 2000 = true by decide, hE], hb, hs⟩)) rfl (fun lr wr zr hr => ?_)
        refine sq_y (OpY.s (y_move (by exact rfl))) rfl ?_
        refine sq_y (OpY.s (y_extract (by exact rfl) (by exact rfl))) rfl ?_
        refine sq_y (OpY.s (y_extract (by exact rfl) (by exact rfl))) rfl ?_
        refine sq_y (OpY.s (y_assign (by exact rfl))) rfl ?_
        refine sq_y (OpY.s (y_assign (by exact rfl))) rfl ?_
        refine sq_nil ?_
        refine sx_then ?_
        refine sc_seq ?_
        refine sc_seq ?_
        refine sc_region ?_
        refine sq_y (OpY.s (y_move (by exact rfl))) rfl ?_
        refine sq_y (OpY.s (y_neq (by exact rfl) (by exact rfl))) rfl ?_
        refine sq_y (OpY.s (y_move (by exact rfl))) rfl ?_
        refine sq_known (tt := 178) (b' := false) (by exact rfl) (by simp) ?_
        refine sq_gt (by exact rfl) (by exact rfl) (OpY.s (y_move (by exact rfl))) rfl ?_
        refine sq_gt (by exact rfl) (by exact rfl) (OpY.s (y_len Try.underlying36 (by exact rfl))) rfl ?_
        refine sq_gt (by exact rfl) (by exact rfl) (OpY.s (by first | exact y_fab Try.underlying24 (by exact rfl) (by exact Try.sizeOf22) (by exact rfl) rfl | exact y_fa Try.underlying24 (by exact rfl) (by exact Try.sizeOf22) (by exact rfl) rfl)) rfl ?_
        refine sq_gt (by exact rfl) (by exact rfl) (OpY.s (by first | exact y_load_blk Try.underlying22 rfl (by exact rfl) (by repeat (first | exact .head _ | refine .tail _ ?_)) (by exact rfl) | exact y_load_caj Try.underlying22 rfl (by exact rfl) (by repeat (first | exact .head _ | refine .tail _ ?_)) (by assumption) (by exact rfl) | exact y_load_ca0 Try.underlying22 rfl (by exact rfl) (by repeat (first | exact .head _ | refine .tail _ ?_)) (by assumption) (by exact rfl))) rfl ?_
        refine sq_gt (by exact rfl) (by exact rfl) (OpY.s (y_len Try.underlying22 (by exact rfl))) rfl ?_
        refine sq_gt (by exact rfl) (by exact rfl) (OpY.s (y_neq (by exact rfl) (by exact rfl))) rfl ?_
        refine sq_y (OpY.s (y_pick_f (by exact rfl) (by exact rfl))) rfl ?_
        refine sq_nil ?_
        refine sx_then ?_
        refine sc_f (lk_bool rfl (by simp [winL_len])) ?_
        refine sc_skip ?_
        refine sx_then ?_
        refine sc_seq ?_
        refine sc_seq ?_
        refine sc_region ?_
        refine sq_y (OpY.s (y_move (by exact rfl))) rfl ?_
        refine sq_y (OpY.s (y_len Try.underlying36 (by exact rfl))) rfl ?_
        refine sq_y (OpY.s (y_move (by exact rfl))) rfl ?_
        refine sq_nil ?_
        refine sx_then ?_
        refine sc_block ?_
        refine sc_loop (σ := Nat)
          (fun s => [(7, .int .i64 (winS r ls : Nat)), (8, .int .i64 (winC r ls : Nat)), (11, v), (22, .slice zr.1 (winL r ls).length zr.2), (186, .slice zr.1 (winL r ls).length zr.2), (187, .int .i64 (winL r ls).length), (188, .int .i64 s)])
          (fun s => [.reg lr wr, .own v 32 2 r.teams.length (flatS (winP r ls)), .reg 0 w])
          (fun s => s ≤ r.teams.length)
          (fun s => r.teams.length - s)
          (0) ?_ (by repeat (first | exact SubL.nil | refine SubL.cons (by first | exact rfl | exact lk_int rfl (by omega) | exact lk_eq rfl (by simp)) ?_)) (by repeat (first | exact Sel.nil | refine Sel.cons (by repeat (first | exact Rem.here | apply Rem.there)) ?_)) ?_
        · exact Nat.zero_le _
        rintro k hk
        refine sc_seq ?_
        refine sc_region ?_
        refine sq_y (OpY.s (y_lss (by exact rfl) (by exact rfl))) rfl ?_
        refine sq_nil ?_
        refine sx_then ?_
        refine sc_seq ?_
        first | refine sc_if (by exact rfl) (fun hc7 => ?_) (fun hc7 => ?_) | refine sc_ifn (by exact rfl) (fun hc7 => ?_) (fun hc7 => ?_) | refine sc_cond (by exact rfl) (fun hc7 => ?_) (fun hc7 => ?_)
        ·
          have hk' : k < r.teams.length := by omega
          obtain ⟨x, hx⟩ : ∃ x, (winL r ls)[k]? = some x := ⟨_, List.getElem?_eq_getElem (by omega)⟩
          have hsx := (hr.el k x hx).1
          have hcx := (hr.el k x hx).2
          have hbc := winC_bit (r := r) (l := ls) hk'
          have hbs := winS_bit (r := r) (l := ls) hk'
          have hcI := can_iff (l := ls) hk'
          have hsI := sure_iff (l := ls) hk'
          have hWk := winP_le hE hk'
          have hsk : (winP r ls)[k]? = some ((winP r ls).getD k sp0) := get_of_lt sp0 (by rw [winP_len]; exact hk')
          rw [getD_of hx] at hbc hbs hcI hsI
          generalize (winP r ls).getD k sp0 = sk at hsk hWk hcI hsI
          refine sc_skip ?_
          refine sx_then ?_
          refine sc_seq ?_
          refine sc_block ?_
          refine sc_seq ?_
          refine sc_region ?_
          refine sq_y (OpY.s (y_move (by exact rfl))) rfl ?_
          refine sq_y (OpY.s (by first | exact y_ia_blk Try.underlying36 Try.sizeOf32 (by exact rfl) (by exact rfl) (by omega) | exact y_ia_el Try.underlying36 Try.sizeOf32 (by exact rfl) (by exact rfl) (by omega) (by first | assumption | simp))) rfl ?_
          refine sq_y (OpY.s (by first | exact y_load_ca Try.underlying32 rfl Try.sizeOf32 (by exact rfl) (by repeat (first | exact .head _ | refine .tail _ ?_)) hcx rfl | exact y_load_all Try.underlying32 rfl Try.sizeOf32 (by exact rfl) (by repeat (first | exact .head _ | refine .tail _ ?_)) (by exact rfl) | exact y_load_2 Try.underlying32 rfl Try.sizeOf32 (by exact rfl) (by repeat (first | exact .head _ | refine .tail _ ?_)) (by exact rfl) (by exact rfl) | exact y_load_ca Try.underlying32 rfl Try.sizeOf32 (by exact rfl) (by repeat (first | exact .head _ | refine .tail _ ?_)) (by assumption) (by exact rfl))) rfl ?_
          refine sq_alloc Try.zeroValue32 rfl (fun b25 => ?_)
          refine sq_y (OpY.s (y_assign (by exact rfl))) rfl ?_
          refine sq_store_all Try.sizeOf32 (by exact rfl) (by exact rfl) rfl (by repeat (first | exact Rem.here | apply Rem.there)) rfl rfl ?_
          refine sq_nil ?_
          refine sx_then ?_
          refine sc_seq ?_
          refine sc_seq ?_
          refine sc_merge 212 (.bool false) ?_ ?_
          ·
            refine sc_draw rfl (by kernel_rfl) (by kernel_rfl) ?_
            refine qq_y (OpY.s (by first | exact y_fab Try.underlying32 (by exact rfl) (by exact Try.sizeOf3) (by exact rfl) rfl | exact y_fa Try.underlying32 (by exact rfl) (by exact Try.sizeOf3) (by exact rfl) rfl)) rfl ?_
            refine qq_y (OpY.s (by first | exact y_load_blk Try.underlying3 rfl (by exact rfl) (by repeat (first | exact .head _ | refine .tail _ ?_)) (by exact rfl) | exact y_load_caj Try.underlying3 rfl (by exact rfl) (by repeat (first | exact .head _ | refine .tail _ ?_)) (by assumption) (by exact rfl) | exact y_load_ca0 Try.underlying3 rfl (by exact rfl) (by repeat (first | exact .head _ | refine .tail _ ?_)) (by assumption) (by exact rfl))) rfl ?_
            refine qq_y (OpY.s (y_eql (by exact rfl) (by exact rfl))) rfl ?_
            refine qq_y (OpY.s (y_move (by exact rfl))) rfl ?_
            refine qq_y (OpY.s (y_move (by exact rfl))) rfl ?_
            refine qq_y (OpY.s (y_shr (by exact rfl) (by exact rfl) (by simp [IntKind.bits]; omega))) rfl ?_
            refine qq_y (OpY.s (y_and (by exact rfl) (by exact rfl) (shr_bd hcb k) (by omega))) rfl ?_
            refine qq_y (OpY.s (y_eql (by exact rfl) (by exact rfl))) rfl ?_
            rw [bit_one]
            refine qq_y (OpY.s (y_neqb Try.underlying4 (by exact rfl) (by exact rfl))) rfl ?_
            refine qq_y (OpY.s (y_move (by exact rfl))) rfl ?_
            refine qq_known (tt := 202) (b' := false) (by exact rfl) (by rw [hbc]; simp) ?_
            refine qq_gt (by exact rfl) (by exact rfl) (OpY.s (by first | exact y_fab Try.underlying32 (by exact rfl) (by exact Try.sizeOf3) (by exact rfl) rfl | exact y_fa Try.underlying32 (by exact rfl) (by exact Try.sizeOf3) (by exact rfl) rfl)) rfl ?_
            refine qq_gt (by exact rfl) (by exact rfl) (OpY.s (by first | exact y_load_blk Try.underlying3 rfl (by exact rfl) (by repeat (first | exact .head _ | refine .tail _ ?_)) (by exact rfl) | exact y_load_caj Try.underlying3 rfl (by exact rfl) (by repeat (first | exact .head _ | refine .tail _ ?_)) (by assumption) (by exact rfl) | exact y_load_ca0 Try.underlying3 rfl (by exact rfl) (by repeat (first | exact .head _ | refine .tail _ ?_)) (by assumption) (by exact rfl))) rfl ?_
            refine qq_gt (by exact rfl) (by exact rfl) (OpY.s (y_eql (by exact rfl) (by exact rfl))) rfl ?_
            refine qq_gt (by exact rfl) (by exact rfl) (OpY.s (y_move (by exact rfl))) rfl ?_
            refine qq_gt (by exact rfl) (by exact rfl) (OpY.s (y_move (by exact rfl))) rfl ?_
            refine qq_gt (by exact rfl) (by exact rfl) (OpY.s (y_shr (by exact rfl) (by exact rfl) (by simp [IntKind.bits]; omega))) rfl ?_
            refine qq_gt (by exact rfl) (by exact rfl) (OpY.s (y_and (by exact rfl) (by exact rfl) (shr_bd hsb k) (by omega))) rfl ?_
            refine qq_gt (by exact rfl) (by exact rfl) (OpY.s (y_eql (by exact rfl) (by exact rfl))) rfl ?_
            rw [bit_one]
            refine qq_gt (by exact rfl) (by exact rfl) (OpY.s (y_neqb Try.underlying4 (by exact rfl) (by exact rfl))) rfl ?_
            refine qq_y (OpY.s (y_pick_f (by exact rfl) (by exact rfl))) rfl ?_
            refine qq_nil ?_
            refine sx_merge ?_ ?_
            · exact lk_bool rfl (by rw [hbs]; simp)
            · exact (by repeat (first | exact SubX.refl _ _ | refine SubX.skipT ?_ | refine SubX.skip rfl ?_))
          refine sx_then ?_
          refine sc_f (lk_bool rfl (rfl)) ?_
          refine sc_skip ?_
          refine sx_then ?_
          refine sc_seq ?_
          refine sc_region ?_
          refine sq_y (OpY.s (y_move (by exact rfl))) rfl ?_
          refine sq_y (OpY.s (y_len Try.underlying36 (by exact rfl))) rfl ?_
          refine sq_y (OpY.s (y_move (by exact rfl))) rfl ?_
          refine sq_nil ?_
          refine sx_then ?_
          refine sc_block ?_
          refine sc_loop (σ := Nat)
            (fun s => [(7, .int .i64 (winS r ls : Nat)), (8, .int .i64 (winC r ls : Nat)), (11, v), (22, .slice zr.1 (winL r ls).length zr.2), (24, .int .i64 k), (186, .slice zr.1 (winL r ls).length zr.2), (187, .int .i64 (winL r ls).length), (188, .int .i64 k), (214, .int .i64 (winL r ls).length), (215, .int .i64 s)])
            (fun s => [.reg lr wr, .own v 32 2 r.teams.length (flatS (winP r ls)), .reg 0 w])
            (fun s => s ≤ r.teams.length)
            (fun s => r.teams.length - s)
            (0) ?_ (by repeat (first | exact SubL.nil | refine SubL.cons (by first | exact rfl | exact lk_int rfl (by omega) | exact lk_eq rfl (by simp)) ?_)) (by repeat (first | exact Sel.nil | refine Sel.cons (by repeat (first | exact Rem.here | apply Rem.there)) ?_)) ?_
          · exact Nat.zero_le _
          rintro j hj
          refine sc_seq ?_
          refine sc_region ?_
          refine sq_y (OpY.s (y_lss (by exact rfl) (by exact rfl))) rfl ?_
          refine sq_nil ?_
          refine sx_then ?_
          refine sc_seq ?_
          first | refine sc_if (by exact rfl) (fun hc9 => ?_) (fun hc9 => ?_) | refine sc_ifn (by exact rfl) (fun hc9 => ?_) (fun hc9 => ?_) | refine sc_cond (by exact rfl) (fun hc9 => ?_) (fun hc9 => ?_)
          ·
            have hj' : j < r.teams.length := by omega
            have hbcj := winC_bit (r := r) (l := ls) hj'
            have hbsj := winS_bit (r := r) (l := ls) hj'
            have hcIj := can_iff (l := ls) hj'
            have hsIj := sure_iff (l := ls) hj'
            have hWj := winP_le hE hj'
            have hsj : (winP r ls)[j]? = some ((winP r ls).getD j sp0) := get_of_lt sp0 (by rw [winP_len]; exact hj')
            have hkg : (winP r ls).getD k sp0 = sk := getD_of hsk
            have hF1 : (winC r ls).testBit k = true → ((winP r ls).getD j sp0).lo ≤ sk.hi := fun h => by
              rw [hbc, decide_eq_true_eq] at h
              by_cases e : j = k
              · subst e; rw [hkg]; exact hWk
              · exact hcI.1 h j hj' e
            have hF2 : ¬ (j : Int) = k → (winS r ls).testBit k = true → (winC r ls).testBit j = true → ((winP r ls).getD j sp0).hi = sk.lo := fun e h1 h2 => by
              rw [hbs, decide_eq_true_eq] at h1
              rw [hbcj, decide_eq_true_eq] at h2
              have a1 := hsI.1 h1 j hj' (by omega)
              have a2 := hcIj.1 h2 k hk' (by omega)
              rw [hkg] at a2; omega
            have hF3 : ¬ (j : Int) = k → (winS r ls).testBit k = true → (winS r ls).testBit j = true → sk.lo = ((winP r ls).getD j sp0).lo ∧ sk.hi = ((winP r ls).getD j sp0).hi ∧ sk.lo = sk.hi := fun e h1 h2 => by
              rw [hbs, decide_eq_true_eq] at h1
              rw [hbsj, decide_eq_true_eq] at h2
              have a1 := hsI.1 h1 j hj' (by omega)
              have a2 := hsIj.1 h2 k hk' (by omega)
              rw [hkg] at a2; omega
            generalize (winP r ls).getD j sp0 = sj at hsj hWj hF1 hF2 hF3
            refine sc_skip ?_
            refine sx_then ?_
            refine sc_seq ?_
            refine sc_block ?_
            refine sc_seq ?_
            refine sc_region ?_
            refine sq_y (OpY.s (y_move (by exact rfl))) rfl ?_
            refine sq_y (OpY.s (y_assign (by exact rfl))) rfl ?_
            refine sq_nil ?_
            refine sx_then ?_
            refine sc_seq ?_
            refine sc_seq ?_
            refine sc_merge 267 (.bool false) ?_ ?_
            ·
              refine sc_draw rfl (by kernel_rfl) (by kernel_rfl) ?_
              refine qq_y (OpY.s (y_move (by exact rfl))) rfl ?_
              refine qq_y (OpY.s (y_move (by exact rfl))) rfl ?_
              refine qq_y (OpY.s (y_shr (by exact rfl) (by exact rfl) (by simp [IntKind.bits]; omega))) rfl ?_
              refine qq_y (OpY.s (y_and (by exact rfl) (by exact rfl) (shr_bd hcb k) (by omega))) rfl ?_
              refine qq_y (OpY.s (y_eql (by exact rfl) (by exact rfl))) rfl ?_
              rw [bit_one]
              refine qq_y (OpY.s (y_move (by exact rfl))) rfl ?_
              refine qq_split (tt := 223) (by exact rfl) (fun hg36_5 => ?_) (fun hg36_5 => ?_)
              ·
                refine qq_gt (by exact rfl) (by exact rfl) (OpY.s (y_move (by exact rfl))) rfl ?_
                refine qq_gt (by exact rfl) (by exact rfl) (OpY.s (y_move (by exact rfl))) rfl ?_
                refine qq_gt (by exact rfl) (by exact rfl) (OpY.s (y_ia_own (i := k) Try.underlying36 Try.sizeOf32 (by exact rfl) (by repeat (first | exact .head _ | refine .tail _ ?_)) (by exact rfl) (by omega))) rfl ?_
                refine qq_gt (by exact rfl) (by exact rfl) (OpY.s (by first | exact y_fab Try.underlying32 (by exact rfl) (by exact Try.sizeOf3) (by exact rfl) rfl | exact y_fa Try.underlying32 (by exact rfl) (by exact Try.sizeOf3) (by exact rfl) rfl)) rfl ?_
                refine qq_gt (by exact rfl) (by exact rfl) (OpY.s (by first | exact y_load_ownj (i := k) (j := 1) Try.underlying3 rfl (by exact rfl) (by repeat (first | exact .head _ | refine .tail _ ?_)) (by omega) (flatS_get _ k _ hsk 1 _ rfl) | exact y_load_blk Try.underlying3 rfl (by exact rfl) (by repeat (first | exact .head _ | refine .tail _ ?_)) (by exact rfl) | exact y_load_caj Try.underlying3 rfl (by exact rfl) (by repeat (first | exact .head _ | refine .tail _ ?_)) (by assumption) (by exact rfl) | exact y_load_ca0 Try.underlying3 rfl (by exact rfl) (by repeat (first | exact .head _ | refine .tail _ ?_)) (by assumption) (by exact rfl))) rfl ?_
                refine qq_gt (by exact rfl) (by exact rfl) (OpY.s (y_move (by exact rfl))) rfl ?_
                refine qq_gt (by exact rfl) (by exact rfl) (OpY.s (y_move (by exact rfl))) rfl ?_
                refine qq_gt (by exact rfl) (by exact rfl) (OpY.s (y_ia_own (i := j) Try.underlying36 Try.sizeOf32 (by exact rfl) (by repeat (first | exact .head _ | refine .tail _ ?_)) (by exact rfl) (by omega))) rfl ?_
                refine qq_gt (by exact rfl) (by exact rfl) (OpY.s (by first | exact y_fab Try.underlying32 (by exact rfl) (by exact Try.sizeOf3) (by exact rfl) rfl | exact y_fa Try.underlying32 (by exact rfl) (by exact Try.sizeOf3) (by exact rfl) rfl)) rfl ?_
                refine qq_gt (by exact rfl) (by exact rfl) (OpY.s (by first | exact y_load_ownj (i := j) (j := 0) Try.underlying3 rfl (by exact rfl) (by repeat (first | exact .head _ | refine .tail _ ?_)) (by omega) (flatS_get _ j _ hsj 0 _ rfl) | exact y_load_blk Try.underlying3 rfl (by exact rfl) (by repeat (first | exact .head _ | refine .tail _ ?_)) (by exact rfl) | exact y_load_caj Try.underlying3 rfl (by exact rfl) (by repeat (first | exact .head _ | refine .tail _ ?_)) (by assumption) (by exact rfl) | exact y_load_ca0 Try.underlying3 rfl (by exact rfl) (by repeat (first | exact .head _ | refine .tail _ ?_)) (by assumption) (by exact rfl))) rfl ?_
                refine qq_gt (by exact rfl) (by exact rfl) (OpY.s (y_lss (by exact rfl) (by exact rfl))) rfl ?_
                refine qq_y (OpY.s (y_pick_t (by exact rfl) (by exact rfl))) rfl ?_
                refine qq_y (OpY.s (y_move (by exact rfl))) rfl ?_
                refine qq_known (tt := 236) (b' := false) (by exact rfl) (by first | rfl | exact decide_eq_false (by have := hF1 hg36_5; omega)) ?_
                refine qq_gt (by exact rfl) (by exact rfl) (OpY.s (y_move (by exact rfl))) rfl ?_
                refine qq_gt (by exact rfl) (by exact rfl) (OpY.s (y_move (by exact rfl))) rfl ?_
                refine qq_gt (by exact rfl) (by exact rfl) (OpY.s (y_neq (by exact rfl) (by exact rfl))) rfl ?_
                refine qq_gt (by exact rfl) (by exact rfl) (OpY.s (y_move (by exact rfl))) rfl ?_
                first | refine qq_splitd (tt := 240) (by exact rfl) (fun hg36_22 => ?_) (fun hg36_22 => ?_) | refine qq_splitn (tt := 240) (by exact rfl) (fun hg36_22 => ?_) (fun hg36_22 => ?_) | refine qq_split (tt := 240) (by exact rfl) (fun hg36_22 => ?_) (fun hg36_22 => ?_)
                ·
                  refine qq_gt (by exact rfl) (by exact rfl) (OpY.s (y_move (by exact rfl))) rfl ?_
                  refine qq_gt (by exact rfl) (by exact rfl) (OpY.s (y_move (by exact rfl))) rfl ?_
                  refine qq_gt (by exact rfl) (by exact rfl) (OpY.s (y_shr (by exact rfl) (by exact rfl) (by simp [IntKind.bits]; omega))) rfl ?_
                  refine qq_gt (by exact rfl) (by exact rfl) (OpY.s (y_and (by exact rfl) (by exact rfl) (shr_bd hsb k) (by omega))) rfl ?_
                  refine qq_gt (by exact rfl) (by exact rfl) (OpY.s (y_eql (by exact rfl) (by exact rfl))) rfl ?_
                  rw [bit_one]
                  refine qq_gt (by exact rfl) (by exact rfl) (OpY.s (y_pick_t (by exact rfl) (by exact rfl))) rfl ?_
                  refine qq_gt (by exact rfl) (by exact rfl) (OpY.s (y_move (by exact rfl))) rfl ?_
                  refine qq_split (tt := 247) (by exact rfl) (fun hg36_29 => ?_) (fun hg36_29 => ?_)
                  ·
                    refine qq_gt (by exact rfl) (by exact rfl) (OpY.s (y_move (by exact rfl))) rfl ?_
                    refine qq_gt (by exact rfl) (by exact rfl) (OpY.s (y_move (by exact rfl))) rfl ?_
                    refine qq_gt (by exact rfl) (by exact rfl) (OpY.s (y_shr (by exact rfl) (by exact rfl) (by simp [IntKind.bits]; omega))) rfl ?_
                    refine qq_gt (by exact rfl) (by exact rfl) (OpY.s (y_and (by exact rfl) (by exact rfl) (shr_bd hcb j) (by omega))) rfl ?_
                    refine qq_gt (by exact rfl) (by exact rfl) (OpY.s (y_eql (by exact rfl) (by exact rfl))) rfl ?_
                    rw [bit_one]
                    refine qq_gt (by exact rfl) (by exact rfl) (OpY.s (y_pick_t (by exact rfl) (by exact rfl))) rfl ?_
                    refine qq_gt (by exact rfl) (by exact rfl) (OpY.s (y_move (by exact rfl))) rfl ?_
                    refine qq_split (tt := 254) (by exact rfl) (fun hg36_36 => ?_) (fun hg36_36 => ?_)
                    ·
                      refine qq_gt (by exact rfl) (by exact rfl) (OpY.s (y_move (by exact rfl))) rfl ?_
                      refine qq_gt (by exact rfl) (by exact rfl) (OpY.s (y_move (by exact rfl))) rfl ?_
                      refine qq_gt (by exact rfl) (by exact rfl) (OpY.s (y_ia_own (i := j) Try.underlying36 Try.sizeOf32 (by exact rfl) (by repeat (first | exact .head _ | refine .tail _ ?_)) (by exact rfl) (by omega))) rfl ?_
                      refine qq_gt (by exact rfl) (by exact rfl) (OpY.s (by first | exact y_fab Try.underlying32 (by exact rfl) (by exact Try.sizeOf3) (by exact rfl) rfl | exact y_fa Try.underlying32 (by exact rfl) (by exact Try.sizeOf3) (by exact rfl) rfl)) rfl ?_
                      refine qq_gt (by exact rfl) (by exact rfl) (OpY.s (by first | exact y_load_ownj (i := j) (j := 1) Try.underlying3 rfl (by exact rfl) (by repeat (first | exact .head _ | refine .tail _ ?_)) (by omega) (flatS_get _ j _ hsj 1 _ rfl) | exact y_load_blk Try.underlying3 rfl (by exact rfl) (by repeat (first | exact .head _ | refine .tail _ ?_)) (by exact rfl) | exact y_load_caj Try.underlying3 rfl (by exact rfl) (by repeat (first | exact .head _ | refine .tail _ ?_)) (by assumption) (by exact rfl) | exact y_load_ca0 Try.underlying3 rfl (by exact rfl) (by repeat (first | exact .head _ | refine .tail _ ?_)) (by assumption) (by exact rfl))) rfl ?_
                      refine qq_gt (by exact rfl) (by exact rfl) (OpY.s (y_move (by exact rfl))) rfl ?_
                      refine qq_gt (by exact rfl) (by exact rfl) (OpY.s (y_move (by exact rfl))) rfl ?_
                      refine qq_gt (by exact rfl) (by exact rfl) (OpY.s (y_ia_own (i := k) Try.underlying36 Try.sizeOf32 (by exact rfl) (by repeat (first | exact .head _ | refine .tail _ ?_)) (by exact rfl) (by omega))) rfl ?_
                      refine qq_gt (by exact rfl) (by exact rfl) (OpY.s (by first | exact y_fab Try.underlying32 (by exact rfl) (by exact Try.sizeOf3) (by exact rfl) rfl | exact y_fa Try.underlying32 (by exact rfl) (by exact Try.sizeOf3) (by exact rfl) rfl)) rfl ?_
                      refine qq_gt (by exact rfl) (by exact rfl) (OpY.s (by first | exact y_load_ownj (i := k) (j := 0) Try.underlying3 rfl (by exact rfl) (by repeat (first | exact .head _ | refine .tail _ ?_)) (by omega) (flatS_get _ k _ hsk 0 _ rfl) | exact y_load_blk Try.underlying3 rfl (by exact rfl) (by repeat (first | exact .head _ | refine .tail _ ?_)) (by exact rfl) | exact y_load_caj Try.underlying3 rfl (by exact rfl) (by repeat (first | exact .head _ | refine .tail _ ?_)) (by assumption) (by exact rfl) | exact y_load_ca0 Try.underlying3 rfl (by exact rfl) (by repeat (first | exact .head _ | refine .tail _ ?_)) (by assumption) (by exact rfl))) rfl ?_
                      refine qq_gt (by exact rfl) (by exact rfl) (OpY.s (y_neq (by exact rfl) (by exact rfl))) rfl ?_
                      refine qq_gt (by exact rfl) (by exact rfl) (OpY.s (y_pick_t (by exact rfl) (by exact rfl))) rfl ?_
                      refine qq_y (OpY.s (y_pick_f (by exact rfl) (by exact rfl))) rfl ?_
                      refine qq_nil ?_
                      refine sx_merge ?_ ?_
                      · first | exact rfl | exact lk_bool rfl (by simp [hF2 hg36_22 hg36_29 hg36_36])
                      · exact (by repeat (first | exact SubX.refl _ _ | refine SubX.skipT ?_ | refine SubX.skip rfl ?_))
                    ·
                      refine qq_gf (by exact rfl) (by exact rfl) (by exact rfl) rfl ?_
                      refine qq_gf (by exact rfl) (by exact rfl) (by exact rfl) rfl ?_
                      refine qq_gf (by exact rfl) (by exact rfl) (by exact rfl) rfl ?_
                      refine qq_gf (by exact rfl) (by exact rfl) (by exact rfl) rfl ?_
                      refine qq_gf (by exact rfl) (by exact rfl) (by exact rfl) rfl ?_
                      refine qq_gf (by exact rfl) (by exact rfl) (by exact rfl) rfl ?_
                      refine qq_gf (by exact rfl) (by exact rfl) (by exact rfl) rfl ?_
                      refine qq_gf (by exact rfl) (by exact rfl) (by exact rfl) rfl ?_
                      refine qq_gf (by exact rfl) (by exact rfl) (by exact rfl) rfl ?_
                      refine qq_gf (by exact rfl) (by exact rfl) (by exact rfl) rfl ?_
                      refine qq_gf (by exact rfl) (by exact rfl) (by exact rfl) rfl ?_
                      refine qq_gt (by exact rfl) (by exact rfl) (OpY.s (y_pick_f (by exact rfl) (by exact rfl))) rfl ?_
                      refine qq_y (OpY.s (y_pick_f (by exact rfl) (by exact rfl))) rfl ?_
                      refine qq_nil ?_
                      refine sx_merge ?_ ?_
                      · first | exact rfl | exact lk_bool rfl (by simp [hF2 hg36_22 hg36_29 hg36_36])
                      · exact (by repeat (first | exact SubX.refl _ _ | refine SubX.skipT ?_ | refine SubX.skip rfl ?_))
                  ·
                    refine qq_gf (by exact rfl) (by exact rfl) (by exact rfl) rfl ?_
                    refine qq_gf (by exact rfl) (by exact rfl) (by exact rfl) rfl ?_
                    refine qq_gf (by exact rfl) (by exact rfl) (by exact rfl) rfl ?_
                    refine qq_gf (by exact rfl) (by exact rfl) (by exact rfl) rfl ?_
                    refine qq_gf (by exact rfl) (by exact rfl) (by exact rfl) rfl ?_
                    refine qq_gt (by exact rfl) (by exact rfl) (OpY.s (y_pick_f (by exact rfl) (by exact rfl))) rfl ?_
                    refine qq_gt (by exact rfl) (by exact rfl) (OpY.s (y_move (by exact rfl))) rfl ?_
                    refine qq_gf (by exact rfl) (by exact rfl) (by exact rfl) rfl ?_
                    refine qq_gf (by exact rfl) (by exact rfl) (by exact rfl) rfl ?_
                    refine qq_gf (by exact rfl) (by exact rfl) (by exact rfl) rfl ?_
                    refine qq_gf (by exact rfl) (by exact rfl) (by exact rfl) rfl ?_
                    refine qq_gf (by exact rfl) (by exact rfl) (by exact rfl) rfl ?_
                    refine qq_gf (by exact rfl) (by exact rfl) (by exact rfl) rfl ?_
                    refine qq_gf (by exact rfl) (by exact rfl) (by exact rfl) rfl ?_
                    refine qq_gf (by exact rfl) (by exact rfl) (by exact rfl) rfl ?_
                    refine qq_gf (by exact rfl) (by exact rfl) (by exact rfl) rfl ?_
                    refine qq_gf (by exact rfl) (by exact rfl) (by exact rfl) rfl ?_
                    refine qq_gf (by exact rfl) (by exact rfl) (by exact rfl) rfl ?_
                    refine qq_gt (by exact rfl) (by exact rfl) (OpY.s (y_pick_f (by exact rfl) (by exact rfl))) rfl ?_
                    refine qq_y (OpY.s (y_pick_f (by exact rfl) (by exact rfl))) rfl ?_
                    refine qq_nil ?_
                    refine sx_merge ?_ ?_
                    · first | exact rfl | exact lk_bool rfl (by simp [hF2 hg36_22 hg36_29 hg36_36])
                    · exact (by repeat (first | exact SubX.refl _ _ | refine SubX.skipT ?_ | refine SubX.skip rfl ?_))
                ·
                  refine qq_gf (by exact rfl) (by exact rfl) (by exact rfl) rfl ?_
                  refine qq_gf (by exact rfl) (by exact rfl) (by exact rfl) rfl ?_
                  refine qq_gf (by exact rfl) (by exact rfl) (by exact rfl) rfl ?_
                  refine qq_gf (by exact rfl) (by exact rfl) (by exact rfl) rfl ?_
                  refine qq_gf (by exact rfl) (by exact rfl) (by exact rfl) rfl ?_
                  refine qq_gt (by exact rfl) (by exact rfl) (OpY.s (y_pick_f (by exact rfl) (by exact rfl))) rfl ?_
                  refine qq_gt (by exact rfl) (by exact rfl) (OpY.s (y_move (by exact rfl))) rfl ?_
                  refine qq_gf (by exact rfl) (by exact rfl) (by exact rfl) rfl ?_
                  refine qq_gf (by exact rfl) (by exact rfl) (by exact rfl) rfl ?_
                  refine qq_gf (by exact rfl) (by exact rfl) (by exact rfl) rfl ?_
                  refine qq_gf (by exact rfl) (by exact rfl) (by exact rfl) rfl ?_
                  refine qq_gf (by exact rfl) (by exact rfl) (by exact rfl) rfl ?_
                  refine qq_gt (by exact rfl) (by exact rfl) (OpY.s (y_pick_f (by exact rfl) (by exact rfl))) rfl ?_
                  refine qq_gt (by exact rfl) (by exact rfl) (OpY.s (y_move (by exact rfl))) rfl ?_
                  refine qq_gf (by exact rfl) (by exact rfl) (by exact rfl) rfl ?_
                  refine qq_gf (by exact rfl) (by exact rfl) (by exact rfl) rfl ?_
                  refine qq_gf (by exact rfl) (by exact rfl) (by exact rfl) rfl ?_
                  refine qq_gf (by exact rfl) (by exact rfl) (by exact rfl) rfl ?_
                  refine qq_gf (by exact rfl) (by exact rfl) (by exact rfl) rfl ?_
                  refine qq_gf (by exact rfl) (by exact rfl) (by exact rfl) rfl ?_
                  refine qq_gf (by exact rfl) (by exact rfl) (by exact rfl) rfl ?_
                  refine qq_gf (by exact rfl) (by exact rfl) (by exact rfl) rfl ?_
                  refine qq_gf (by exact rfl) (by exact rfl) (by exact rfl) rfl ?_
                  refine qq_gf (by exact rfl) (by exact rfl) (by exact rfl) rfl ?_
                  refine qq_gf (by exact rfl) (by exact rfl) (by exact rfl) rfl ?_
                  refine qq_gt (by exact rfl) (by exact rfl) (OpY.s (y_pick_f (by exact rfl) (by exact rfl))) rfl ?_
                  refine qq_y (OpY.s (y_pick_f (by exact rfl) (by exact rfl))) rfl ?_
                  refine qq_nil ?_
                  refine sx_merge ?_ ?_
                  · first | exact rfl | exact lk_bool rfl (by simp [hF2 hg36_22 hg36_29 hg36_36])
                  · exact (by repeat (first | exact SubX.refl _ _ | refine SubX.skipT ?_ | refine SubX.skip rfl ?_))
              ·
                refine qq_gf (by exact rfl) (by exact rfl) (by exact rfl) rfl ?_
                refine qq_gf (by exact rfl) (by exact rfl) (by exact rfl) rfl ?_
                refine qq_gf (by exact rfl) (by exact rfl) (by exact rfl) rfl ?_
                refine qq_gf (by exact rfl) (by exact rfl) (by exact rfl) rfl ?_
                refine qq_gf (by exact rfl) (by exact rfl) (by exact rfl) rfl ?_
                refine qq_gf (by exact rfl) (by exact rfl) (by exact rfl) rfl ?_
                refine qq_gf (by exact rfl) (by exact rfl) (by exact rfl) rfl ?_
                refine qq_gf (by exact rfl) (by exact rfl) (by exact rfl) rfl ?_
                refine qq_gf (by exact rfl) (by exact rfl) (by exact rfl) rfl ?_
                refine qq_gf (by exact rfl) (by exact rfl) (by exact rfl) rfl ?_
                refine qq_gf (by exact rfl) (by exact rfl) (by exact rfl) rfl ?_
                refine qq_y (OpY.s (y_pick_f (by exact rfl) (by exact rfl))) rfl ?_
                refine qq_y (OpY.s (y_move (by exact rfl))) rfl ?_
                refine qq_gt (by exact rfl) (by exact rfl) (OpY.s (y_move (by exact rfl))) rfl ?_
                refine qq_gt (by exact rfl) (by exact rfl) (OpY.s (y_move (by exact rfl))) rfl ?_
                refine qq_gt (by exact rfl) (by exact rfl) (OpY.s (y_neq (by exact rfl) (by exact rfl))) rfl ?_
                refine qq_gt (by exact rfl) (by exact rfl) (OpY.s (y_move (by exact rfl))) rfl ?_
                first | refine qq_splitd (tt := 240) (by exact rfl) (fun hg36_22 => ?_) (fun hg36_22 => ?_) | refine qq_splitn (tt := 240) (by exact rfl) (fun hg36_22 => ?_) (fun hg36_22 => ?_) | refine qq_split (tt := 240) (by exact rfl) (fun hg36_22 => ?_) (fun hg36_22 => ?_)
                ·
                  refine qq_gt (by exact rfl) (by exact rfl) (OpY.s (y_move (by exact rfl))) rfl ?_
                  refine qq_gt (by exact rfl) (by exact rfl) (OpY.s (y_move (by exact rfl))) rfl ?_
                  refine qq_gt (by exact rfl) (by exact rfl) (OpY.s (y_shr (by exact rfl) (by exact rfl) (by simp [IntKind.bits]; omega))) rfl ?_
                  refine qq_gt (by exact rfl) (by exact rfl) (OpY.s (y_and (by exact rfl) (by exact rfl) (shr_bd hsb k) (by omega))) rfl ?_
                  refine qq_gt (by exact rfl) (by exact rfl) (OpY.s (y_eql (by exact rfl) (by exact rfl))) rfl ?_
                  rw [bit_one]
                  refine qq_gt (by exact rfl) (by exact rfl) (OpY.s (y_pick_t (by exact rfl) (by exact rfl))) rfl ?_
                  refine qq_gt (by exact rfl) (by exact rfl) (OpY.s (y_move (by exact rfl))) rfl ?_
                  refine qq_split (tt := 247) (by exact rfl) (fun hg36_29 => ?_) (fun hg36_29 => ?_)
                  ·
                    refine qq_gt (by exact rfl) (by exact rfl) (OpY.s (y_move (by exact rfl))) rfl ?_
                    refine qq_gt (by exact rfl) (by exact rfl) (OpY.s (y_move (by exact rfl))) rfl ?_
                    refine qq_gt (by exact rfl) (by exact rfl) (OpY.s (y_shr (by exact rfl) (by exact rfl) (by simp [IntKind.bits]; omega))) rfl ?_
                    refine qq_gt (by exact rfl) (by exact rfl) (OpY.s (y_and (by exact rfl) (by exact rfl) (shr_bd hcb j) (by omega))) rfl ?_
                    refine qq_gt (by exact rfl) (by exact rfl) (OpY.s (y_eql (by exact rfl) (by exact rfl))) rfl ?_
                    rw [bit_one]
                    refine qq_gt (by exact rfl) (by exact rfl) (OpY.s (y_pick_t (by exact rfl) (by exact rfl))) rfl ?_
                    refine qq_gt (by exact rfl) (by exact rfl) (OpY.s (y_move (by exact rfl))) rfl ?_
                    refine qq_split (tt := 254) (by exact rfl) (fun hg36_36 => ?_) (fun hg36_36 => ?_)
                    ·
                      refine qq_gt (by exact rfl) (by exact rfl) (OpY.s (y_move (by exact rfl))) rfl ?_
                      refine qq_gt (by exact rfl) (by exact rfl) (OpY.s (y_move (by exact rfl))) rfl ?_
                      refine qq_gt (by exact rfl) (by exact rfl) (OpY.s (y_ia_own (i := j) Try.underlying36 Try.sizeOf32 (by exact rfl) (by repeat (first | exact .head _ | refine .tail _ ?_)) (by exact rfl) (by omega))) rfl ?_
                      refine qq_gt (by exact rfl) (by exact rfl) (OpY.s (by first | exact y_fab Try.underlying32 (by exact rfl) (by exact Try.sizeOf3) (by exact rfl) rfl | exact y_fa Try.underlying32 (by exact rfl) (by exact Try.sizeOf3) (by exact rfl) rfl)) rfl ?_
                      refine qq_gt (by exact rfl) (by exact rfl) (OpY.s (by first | exact y_load_ownj (i := j) (j := 1) Try.underlying3 rfl (by exact rfl) (by repeat (first | exact .head _ | refine .tail _ ?_)) (by omega) (flatS_get _ j _ hsj 1 _ rfl) | exact y_load_blk Try.underlying3 rfl (by exact rfl) (by repeat (first | exact .head _ | refine .tail _ ?_)) (by exact rfl) | exact y_load_caj Try.underlying3 rfl (by exact rfl) (by repeat (first | exact .head _ | refine .tail _ ?_)) (by assumption) (by exact rfl) | exact y_load_ca0 Try.underlying3 rfl (by exact rfl) (by repeat (first | exact .head _ | refine .tail _ ?_)) (by assumption) (by exact rfl))) rfl ?_
                      refine qq_gt (by exact rfl) (by exact rfl) (OpY.s (y_move (by exact rfl))) rfl ?_
                      refine qq_gt (by exact rfl) (by exact rfl) (OpY.s (y_move (by exact rfl))) rfl ?_
                      refine qq_gt (by exact rfl) (by exact rfl) (OpY.s (y_ia_own (i := k) Try.underlying36 Try.sizeOf32 (by exact rfl) (by repeat (first | exact .head _ | refine .tail _ ?_)) (by exact rfl) (by omega))) rfl ?_
                      refine qq_gt (by exact rfl) (by exact rfl) (OpY.s (by first | exact y_fab Try.underlying32 (by exact rfl) (by exact Try.sizeOf3) (by exact rfl) rfl | exact y_fa Try.underlying32 (by exact rfl) (by exact Try.sizeOf3) (by exact rfl) rfl)) rfl ?_
                      refine qq_gt (by exact rfl) (by exact rfl) (OpY.s (by first | exact y_load_ownj (i := k) (j := 0) Try.underlying3 rfl (by exact rfl) (by repeat (first | exact .head _ | refine .tail _ ?_)) (by omega) (flatS_get _ k _ hsk 0 _ rfl) | exact y_load_blk Try.underlying3 rfl (by exact rfl) (by repeat (first | exact .head _ | refine .tail _ ?_)) (by exact rfl) | exact y_load_caj Try.underlying3 rfl (by exact rfl) (by repeat (first | exact .head _ | refine .tail _ ?_)) (by assumption) (by exact rfl) | exact y_load_ca0 Try.underlying3 rfl (by exact rfl) (by repeat (first | exact .head _ | refine .tail _ ?_)) (by assumption) (by exact rfl))) rfl ?_
                      refine qq_gt (by exact rfl) (by exact rfl) (OpY.s (y_neq (by exact rfl) (by exact rfl))) rfl ?_
                      refine qq_gt (by exact rfl) (by exact rfl) (OpY.s (y_pick_t (by exact rfl) (by exact rfl))) rfl ?_
                      refine qq_y (OpY.s (y_pick_f (by exact rfl) (by exact rfl))) rfl ?_
                      refine qq_nil ?_
                      refine sx_merge ?_ ?_
                      · first | exact rfl | exact lk_bool rfl (by simp [hF2 hg36_22 hg36_29 hg36_36])
                      · exact (by repeat (first | exact SubX.refl _ _ | refine SubX.skipT ?_ | refine SubX.skip rfl ?_))
                    ·
                      refine qq_gf (by exact rfl) (by exact rfl) (by exact rfl) rfl ?_
                      refine qq_gf (by exact rfl) (by exact rfl) (by exact rfl) rfl ?_
                      refine qq_gf (by exact rfl) (by exact rfl) (by exact rfl) rfl ?_
                      refine qq_gf (by exact rfl) (by exact rfl) (by exact rfl) rfl ?_
                      refine qq_gf (by exact rfl) (by exact rfl) (by exact rfl) rfl ?_
                      refine qq_gf (by exact rfl) (by exact rfl) (by exact rfl) rfl ?_
                      refine qq_gf (by exact rfl) (by exact rfl) (by exact rfl) rfl ?_
                      refine qq_gf (by exact rfl) (by exact rfl) (by exact rfl) rfl ?_
                      refine qq_gf (by exact rfl) (by exact rfl) (by exact rfl) rfl ?_
                      refine qq_gf (by exact rfl) (by exact rfl) (by exact rfl) rfl ?_
                      refine qq_gf (by exact rfl) (by exact rfl) (by exact rfl) rfl ?_
                      refine qq_gt (by exact rfl) (by exact rfl) (OpY.s (y_pick_f (by exact rfl) (by exact rfl))) rfl ?_
                      refine qq_y (OpY.s (y_pick_f (by exact rfl) (by exact rfl))) rfl ?_
                      refine qq_nil ?_
                      refine sx_merge ?_ ?_
                      · first | exact rfl | exact lk_bool rfl (by simp [hF2 hg36_22 hg36_29 hg36_36])
                      · exact (by repeat (first | exact SubX.refl _ _ | refine SubX.skipT ?_ | refine SubX.skip rfl ?_))
                  ·
                    refine qq_gf (by exact rfl) (by exact rfl) (by exact rfl) rfl ?_
                    refine qq_gf (by exact rfl) (by exact rfl) (by exact rfl) rfl ?_
                    refine qq_gf (by exact rfl) (by exact rfl) (by exact rfl) rfl ?_
                    refine qq_gf (by exact rfl) (by exact rfl) (by exact rfl) rfl ?_
                    refine qq_gf (by exact rfl) (by exact rfl) (by exact rfl) rfl ?_
                    refine qq_gt (by exact rfl) (by exact rfl) (OpY.s (y_pick_f (by exact rfl) (by exact rfl))) rfl ?_
                    refine qq_gt (by exact rfl) (by exact rfl) (OpY.s (y_move (by exact rfl))) rfl ?_
                    refine qq_gf (by exact rfl) (by exact rfl) (by exact rfl) rfl ?_
                    refine qq_gf (by exact rfl) (by exact rfl) (by exact rfl) rfl ?_
                    refine qq_gf (by exact rfl) (by exact rfl) (by exact rfl) rfl ?_
                    refine qq_gf (by exact rfl) (by exact rfl) (by exact rfl) rfl ?_
                    refine qq_gf (by exact rfl) (by exact rfl) (by exact rfl) rfl ?_
                    refine qq_gf (by exact rfl) (by exact rfl) (by exact rfl) rfl ?_
                    refine qq_gf (by exact rfl) (by exact rfl) (by exact rfl) rfl ?_
                    refine qq_gf (by exact rfl) (by exact rfl) (by exact rfl) rfl ?_
                    refine qq_gf (by exact rfl) (by exact rfl) (by exact rfl) rfl ?_
                    refine qq_gf (by exact rfl) (by exact rfl) (by exact rfl) rfl ?_
                    refine qq_gf (by exact rfl) (by exact rfl) (by exact rfl) rfl ?_
                    refine qq_gt (by exact rfl) (by exact rfl) (OpY.s (y_pick_f (by exact rfl) (by exact rfl))) rfl ?_
                    refine qq_y (OpY.s (y_pick_f (by exact rfl) (by exact rfl))) rfl ?_
                    refine qq_nil ?_
                    refine sx_merge ?_ ?_
                    · first | exact rfl | exact lk_bool rfl (by simp [hF2 hg36_22 hg36_29 hg36_36])
                    · exact (by repeat (first | exact SubX.refl _ _ | refine SubX.skipT ?_ | refine SubX.skip rfl ?_))
                ·
                  refine qq_gf (by exact rfl) (by exact rfl) (by exact rfl) rfl ?_
                  refine qq_gf (by exact rfl) (by exact rfl) (by exact rfl) rfl ?_
                  refine qq_gf (by exact rfl) (by exact rfl) (by exact rfl) rfl ?_
                  refine qq_gf (by exact rfl) (by exact rfl) (by exact rfl) rfl ?_
                  refine qq_gf (by exact rfl) (by exact rfl) (by exact rfl) rfl ?_
                  refine qq_gt (by exact rfl) (by exact rfl) (OpY.s (y_pick_f (by exact rfl) (by exact rfl))) rfl ?_
                  refine qq_gt (by exact rfl) (by exact rfl) (OpY.s (y_move (by exact rfl))) rfl ?_
                  refine qq_gf (by exact rfl) (by exact rfl) (by exact rfl) rfl ?_
                  refine qq_gf (by exact rfl) (by exact rfl) (by exact rfl) rfl ?_
                  refine qq_gf (by exact rfl) (by exact rfl) (by exact rfl) rfl ?_
                  refine qq_gf (by exact rfl) (by exact rfl) (by exact rfl) rfl ?_
                  refine qq_gf (by exact rfl) (by exact rfl) (by exact rfl) rfl ?_
                  refine qq_gt (by exact rfl) (by exact rfl) (OpY.s (y_pick_f (by exact rfl) (by exact rfl))) rfl ?_
                  refine qq_gt (by exact rfl) (by exact rfl) (OpY.s (y_move (by exact rfl))) rfl ?_
                  refine qq_gf (by exact rfl) (by exact rfl) (by exact rfl) rfl ?_
                  refine qq_gf (by exact rfl) (by exact rfl) (by exact rfl) rfl ?_
                  refine qq_gf (by exact rfl) (by exact rfl) (by exact rfl) rfl ?_
                  refine qq_gf (by exact rfl) (by exact rfl) (by exact rfl) rfl ?_
                  refine qq_gf (by exact rfl) (by exact rfl) (by exact rfl) rfl ?_
                  refine qq_gf (by exact rfl) (by exact rfl) (by exact rfl) rfl ?_
                  refine qq_gf (by exact rfl) (by exact rfl) (by exact rfl) rfl ?_
                  refine qq_gf (by exact rfl) (by exact rfl) (by exact rfl) rfl ?_
                  refine qq_gf (by exact rfl) (by exact rfl) (by exact rfl) rfl ?_
                  refine qq_gf (by exact rfl) (by exact rfl) (by exact rfl) rfl ?_
                  refine qq_gf (by exact rfl) (by exact rfl) (by exact rfl) rfl ?_
                  refine qq_gt (by exact rfl) (by exact rfl) (OpY.s (y_pick_f (by exact rfl) (by exact rfl))) rfl ?_
                  refine qq_y (OpY.s (y_pick_f (by exact rfl) (by exact rfl))) rfl ?_
                  refine qq_nil ?_
                  refine sx_merge ?_ ?_
                  · first | exact rfl | exact lk_bool rfl (by simp [hF2 hg36_22 hg36_29 hg36_36])
                  · exact (by repeat (first | exact SubX.refl _ _ | refine SubX.skipT ?_ | refine SubX.skip rfl ?_))
            refine sx_then ?_
            refine sc_f (lk_bool rfl (rfl)) ?_
            refine sc_skip ?_
            refine sx_then ?_
            refine sc_seq ?_
            refine sc_merge 308 (.bool false) ?_ ?_
            ·
              refine sc_draw rfl (by kernel_rfl) (by kernel_rfl) ?_
              refine qq_y (OpY.s (y_move (by exact rfl))) rfl ?_
              refine qq_y (OpY.s (y_move (by exact rfl))) rfl ?_
              refine qq_y (OpY.s (y_neq (by exact rfl) (by exact rfl))) rfl ?_
              refine qq_y (OpY.s (y_move (by exact rfl))) rfl ?_
              first | refine qq_splitd (tt := 271) (by exact rfl) (fun hg38_3 => ?_) (fun hg38_3 => ?_) | refine qq_splitn (tt := 271) (by exact rfl) (fun hg38_3 => ?_) (fun hg38_3 => ?_) | refine qq_split (tt := 271) (by exact rfl) (fun hg38_3 => ?_) (fun hg38_3 => ?_)
              ·
                refine qq_gt (by exact rfl) (by exact rfl) (OpY.s (y_move (by exact rfl))) rfl ?_
                refine qq_gt (by exact rfl) (by exact rfl) (OpY.s (y_move (by exact rfl))) rfl ?_
                refine qq_gt (by exact rfl) (by exact rfl) (OpY.s (y_shr (by exact rfl) (by exact rfl) (by simp [IntKind.bits]; omega))) rfl ?_
                refine qq_gt (by exact rfl) (by exact rfl) (OpY.s (y_and (by exact rfl) (by exact rfl) (shr_bd hsb k) (by omega))) rfl ?_
                refine qq_gt (by exact rfl) (by exact rfl) (OpY.s (y_eql (by exact rfl) (by exact rfl))) rfl ?_
                rw [bit_one]
                refine qq_y (OpY.s (y_pick_t (by exact rfl) (by exact rfl))) rfl ?_
                refine qq_y (OpY.s (y_move (by exact rfl))) rfl ?_
                refine qq_split (tt := 278) (by exact rfl) (fun hg38_10 => ?_) (fun hg38_10 => ?_)
                ·
                  refine qq_gt (by exact rfl) (by exact rfl) (OpY.s (y_move (by exact rfl))) rfl ?_
                  refine qq_gt (by exact rfl) (by exact rfl) (OpY.s (y_move (by exact rfl))) rfl ?_
                  refine qq_gt (by exact rfl) (by exact rfl) (OpY.s (y_shr (by exact rfl) (by exact rfl) (by simp [IntKind.bits]; omega))) rfl ?_
                  refine qq_gt (by exact rfl) (by exact rfl) (OpY.s (y_and (by exact rfl) (by exact rfl) (shr_bd hsb j) (by omega))) rfl ?_
                  refine qq_gt (by exact rfl) (by exact rfl) (OpY.s (y_eql (by exact rfl) (by exact rfl))) rfl ?_
                  rw [bit_one]
                  refine qq_y (OpY.s (y_pick_t (by exact rfl) (by exact rfl))) rfl ?_
                  refine qq_y (OpY.s (y_move (by exact rfl))) rfl ?_
                  refine qq_split (tt := 285) (by exact rfl) (fun hg38_17 => ?_) (fun hg38_17 => ?_)
                  ·
                    refine qq_gt (by exact rfl) (by exact rfl) (OpY.s (y_move (by exact rfl))) rfl ?_
                    refine qq_gt (by exact rfl) (by exact rfl) (OpY.s (y_move (by exact rfl))) rfl ?_
                    refine qq_gt (by exact rfl) (by exact rfl) (OpY.s (y_ia_own (i := k) Try.underlying36 Try.sizeOf32 (by exact rfl) (by repeat (first | exact .head _ | refine .tail _ ?_)) (by exact rfl) (by omega))) rfl ?_
                    refine qq_gt (by exact rfl) (by exact rfl) (OpY.s (by first | exact y_load_own (row := spRow sk) (i := k) Try.underlying32 rfl Try.sizeOf32 (by exact rfl) (by repeat (first | exact .head _ | refine .tail _ ?_)) (by omega) (fun j' u hj => flatS_get _ k _ hsk j' u hj) rfl | exact y_load_all Try.underlying32 rfl Try.sizeOf32 (by exact rfl) (by repeat (first | exact .head _ | refine .tail _ ?_)) (by exact rfl) | exact y_load_2 Try.underlying32 rfl Try.sizeOf32 (by exact rfl) (by repeat (first | exact .head _ | refine .tail _ ?_)) (by exact rfl) (by exact rfl) | exact y_load_ca Try.underlying32 rfl Try.sizeOf32 (by exact rfl) (by repeat (first | exact .head _ | refine .tail _ ?_)) (by assumption) (by exact rfl))) rfl ?_
                    refine qq_gt (by exact rfl) (by exact rfl) (OpY.s (y_move (by exact rfl))) rfl ?_
                    refine qq_gt (by exact rfl) (by exact rfl) (OpY.s (y_move (by exact rfl))) rfl ?_
                    refine qq_gt (by exact rfl) (by exact rfl) (OpY.s (y_ia_own (i := j) Try.underlying36 Try.sizeOf32 (by exact rfl) (by repeat (first | exact .head _ | refine .tail _ ?_)) (by exact rfl) (by omega))) rfl ?_
                    refine qq_gt (by exact rfl) (by exact rfl) (OpY.s (by first | exact y_load_own (row := spRow sj) (i := j) Try.underlying32 rfl Try.sizeOf32 (by exact rfl) (by repeat (first | exact .head _ | refine .tail _ ?_)) (by omega) (fun j' u hj => flatS_get _ j _ hsj j' u hj) rfl | exact y_load_all Try.underlying32 rfl Try.sizeOf32 (by exact rfl) (by repeat (first | exact .head _ | refine .tail _ ?_)) (by exact rfl) | exact y_load_2 Try.underlying32 rfl Try.sizeOf32 (by exact rfl) (by repeat (first | exact .head _ | refine .tail _ ?_)) (by exact rfl) (by exact rfl) | exact y_load_ca Try.underlying32 rfl Try.sizeOf32 (by exact rfl) (by repeat (first | exact .head _ | refine .tail _ ?_)) (by assumption) (by exact rfl))) rfl ?_
                    refine qq_gt (by exact rfl) (by exact rfl) (OpY.s (y_neqs (by kernel_rfl) (by exact rfl) (by exact rfl) (neq32 _ _ _ _))) rfl ?_
                    refine qq_gt (by exact rfl) (by exact rfl) (OpY.s (y_move (by exact rfl))) rfl ?_
                    refine qq_known (tt := 295) (b' := false) (by exact rfl) (by have h := hF3 hg38_3 (by first | exact hg38_10 | assumption) (by first | exact hg38_17 | assumption); simp [h.1, h.2.1]) ?_
                    refine qq_gt (by exact rfl) (by exact rfl) (OpY.s (y_move (by exact rfl))) rfl ?_
                    refine qq_gt (by exact rfl) (by exact rfl) (OpY.s (y_move (by exact rfl))) rfl ?_
                    refine qq_gt (by exact rfl) (by exact rfl) (OpY.s (y_ia_own (i := k) Try.underlying36 Try.sizeOf32 (by exact rfl) (by repeat (first | exact .head _ | refine .tail _ ?_)) (by exact rfl) (by omega))) rfl ?_
                    refine qq_gt (by exact rfl) (by exact rfl) (OpY.s (by first | exact y_fab Try.underlying32 (by exact rfl) (by exact Try.sizeOf3) (by exact rfl) rfl | exact y_fa Try.underlying32 (by exact rfl) (by exact Try.sizeOf3) (by exact rfl) rfl)) rfl ?_
                    refine qq_gt (by exact rfl) (by exact rfl) (OpY.s (by first | exact y_load_ownj (i := k) (j := 0) Try.underlying3 rfl (by exact rfl) (by repeat (first | exact .head _ | refine .tail _ ?_)) (by omega) (flatS_get _ k _ hsk 0 _ rfl) | exact y_load_blk Try.underlying3 rfl (by exact rfl) (by repeat (first | exact .head _ | refine .tail _ ?_)) (by exact rfl) | exact y_load_caj Try.underlying3 rfl (by exact rfl) (by repeat (first | exact .head _ | refine .tail _ ?_)) (by assumption) (by exact rfl) | exact y_load_ca0 Try.underlying3 rfl (by exact rfl) (by repeat (first | exact .head _ | refine .tail _ ?_)) (by assumption) (by exact rfl))) rfl ?_
                    refine qq_gt (by exact rfl) (by exact rfl) (OpY.s (y_move (by exact rfl))) rfl ?_
                    refine qq_gt (by exact rfl) (by exact rfl) (OpY.s (y_move (by exact rfl))) rfl ?_
                    refine qq_gt (by exact rfl) (by exact rfl) (OpY.s (y_ia_own (i := k) Try.underlying36 Try.sizeOf32 (by exact rfl) (by repeat (first | exact .head _ | refine .tail _ ?_)) (by exact rfl) (by omega))) rfl ?_
                    refine qq_gt (by exact rfl) (by exact rfl) (OpY.s (by first | exact y_fab Try.underlying32 (by exact rfl) (by exact Try.sizeOf3) (by exact rfl) rfl | exact y_fa Try.underlying32 (by exact rfl) (by exact Try.sizeOf3) (by exact rfl) rfl)) rfl ?_
                    refine qq_gt (by exact rfl) (by exact rfl) (OpY.s (by first | exact y_load_ownj (i := k) (j := 1) Try.underlying3 rfl (by exact rfl) (by repeat (first | exact .head _ | refine .tail _ ?_)) (by omega) (flatS_get _ k _ hsk 1 _ rfl) | exact y_load_blk Try.underlying3 rfl (by exact rfl) (by repeat (first | exact .head _ | refine .tail _ ?_)) (by exact rfl) | exact y_load_caj Try.underlying3 rfl (by exact rfl) (by repeat (first | exact .head _ | refine .tail _ ?_)) (by assumption) (by exact rfl) | exact y_load_ca0 Try.underlying3 rfl (by exact rfl) (by repeat (first | exact .head _ | refine .tail _ ?_)) (by assumption) (by exact rfl))) rfl ?_
                    refine qq_gt (by exact rfl) (by exact rfl) (OpY.s (y_neq (by exact rfl) (by exact rfl))) rfl ?_
                    refine qq_gt (by exact rfl) (by exact rfl) (OpY.s (y_pick_f (by exact rfl) (by exact rfl))) rfl ?_
                    refine qq_y (OpY.s (y_pick_t (by exact rfl) (by exact rfl))) rfl ?_
                    refine qq_nil ?_
                    refine sx_merge ?_ ?_
                    · first | exact rfl | exact lk_bool rfl (by simp [(hF3 hg38_3 hg38_10 hg38_17).2.2])
                    · exact (by repeat (first | exact SubX.refl _ _ | refine SubX.skipT ?_ | refine SubX.skip rfl ?_))
                  ·
                    refine qq_gf (by exact rfl) (by exact rfl) (by exact rfl) rfl ?_
                    refine qq_gf (by exact rfl) (by exact rfl) (by exact rfl) rfl ?_
                    refine qq_gf (by exact rfl) (by exact rfl) (by exact rfl) rfl ?_
                    refine qq_gf (by exact rfl) (by exact rfl) (by exact rfl) rfl ?_
                    refine qq_gf (by exact rfl) (by exact rfl) (by exact rfl) rfl ?_
                    refine qq_gf (by exact rfl) (by exact rfl) (by exact rfl) rfl ?_
                    refine qq_gf (by exact rfl) (by exact rfl) (by exact rfl) rfl ?_
                    refine qq_gf (by exact rfl) (by exact rfl) (by exact rfl) rfl ?_
                    refine qq_gf (by exact rfl) (by exact rfl) (by exact rfl) rfl ?_
                    refine qq_gf (by exact rfl) (by exact rfl) (by exact rfl) rfl ?_
                    refine qq_gu (by exact rfl) (by exact rfl) rfl ?_
                    refine qq_gu (by exact rfl) (by exact rfl) rfl ?_
                    refine qq_gu (by exact rfl) (by exact rfl) rfl ?_
                    refine qq_gu (by exact rfl) (by exact rfl) rfl ?_
                    refine qq_gu (by exact rfl) (by exact rfl) rfl ?_
                    refine qq_gu (by exact rfl) (by exact rfl) rfl ?_
                    refine qq_gu (by exact rfl) (by exact rfl) rfl ?_
                    refine qq_gu (by exact rfl) (by exact rfl) rfl ?_
                    refine qq_gu (by exact rfl) (by exact rfl) rfl ?_
                    refine qq_gu (by exact rfl) (by exact rfl) rfl ?_
                    refine qq_gu (by exact rfl) (by exact rfl) rfl ?_
                    refine qq_gf (by exact rfl) (by exact rfl) (by exact rfl) rfl ?_
                    refine qq_y (OpY.s (y_pick_f (by exact rfl) (by exact rfl))) rfl ?_
                    refine qq_nil ?_
                    refine sx_merge ?_ ?_
                    · first | exact rfl | exact lk_bool rfl (by simp [(hF3 hg38_3 hg38_10 hg38_17).2.2])
                    · exact (by repeat (first | exact SubX.refl _ _ | refine SubX.skipT ?_ | refine SubX.skip rfl ?_))
                ·
                  refine qq_gf (by exact rfl) (by exact rfl) (by exact rfl) rfl ?_
                  refine qq_gf (by exact rfl) (by exact rfl) (by exact rfl) rfl ?_
                  refine qq_gf (by exact rfl) (by exact rfl) (by exact rfl) rfl ?_
                  refine qq_gf (by exact rfl) (by exact rfl) (by exact rfl) rfl ?_
                  refine qq_gf (by exact rfl) (by exact rfl) (by exact rfl) rfl ?_
                  refine qq_y (OpY.s (y_pick_f (by exact rfl) (by exact rfl))) rfl ?_
                  refine qq_y (OpY.s (y_move (by exact rfl))) rfl ?_
                  refine qq_gf (by exact rfl) (by exact rfl) (by exact rfl) rfl ?_
                  refine qq_gf (by exact rfl) (by exact rfl) (by exact rfl) rfl ?_
                  refine qq_gf (by exact rfl) (by exact rfl) (by exact rfl) rfl ?_
                  refine qq_gf (by exact rfl) (by exact rfl) (by exact rfl) rfl ?_
                  refine qq_gf (by exact rfl) (by exact rfl) (by exact rfl) rfl ?_
                  refine qq_gf (by exact rfl) (by exact rfl) (by exact rfl) rfl ?_
                  refine qq_gf (by exact rfl) (by exact rfl) (by exact rfl) rfl ?_
                  refine qq_gf (by exact rfl) (by exact rfl) (by exact rfl) rfl ?_
                  refine qq_gf (by exact rfl) (by exact rfl) (by exact rfl) rfl ?_
                  refine qq_gf (by exact rfl) (by exact rfl) (by exact rfl) rfl ?_
                  refine qq_gu (by exact rfl) (by exact rfl) rfl ?_
                  refine qq_gu (by exact rfl) (by exact rfl) rfl ?_
                  refine qq_gu (by exact rfl) (by exact rfl) rfl ?_
                  refine qq_gu (by exact rfl) (by exact rfl) rfl ?_
                  refine qq_gu (by exact rfl) (by exact rfl) rfl ?_
                  refine qq_gu (by exact rfl) (by exact rfl) rfl ?_
                  refine qq_gu (by exact rfl) (by exact rfl) rfl ?_
                  refine qq_gu (by exact rfl) (by exact rfl) rfl ?_
                  refine qq_gu (by exact rfl) (by exact rfl) rfl ?_
                  refine qq_gu (by exact rfl) (by exact rfl) rfl ?_
                  refine qq_gu (by exact rfl) (by exact rfl) rfl ?_
                  refine qq_gf (by exact rfl) (by exact rfl) (by exact rfl) rfl ?_
                  refine qq_y (OpY.s (y_pick_f (by exact rfl) (by exact rfl))) rfl ?_
                  refine qq_nil ?_
                  refine sx_merge ?_ ?_
                  · first | exact rfl | exact lk_bool rfl (by simp [(hF3 hg38_3 hg38_10 hg38_17).2.2])
                  · exact (by repeat (first | exact SubX.refl _ _ | refine SubX.skipT ?_ | refine SubX.skip rfl ?_))
              ·
                refine qq_gf (by exact rfl) (by exact rfl) (by exact rfl) rfl ?_
                refine qq_gf (by exact rfl) (by exact rfl) (by exact rfl) rfl ?_
                refine qq_gf (by exact rfl) (by exact rfl) (by exact rfl) rfl ?_
                refine qq_gf (by exact rfl) (by exact rfl) (by exact rfl) rfl ?_
                refine qq_gf (by exact rfl) (by exact rfl) (by exact rfl) rfl ?_
                refine qq_y (OpY.s (y_pick_f (by exact rfl) (by exact rfl))) rfl ?_
                refine qq_y (OpY.s (y_move (by exact rfl))) rfl ?_
                refine qq_gf (by exact rfl) (by exact rfl) (by exact rfl) rfl ?_
                refine qq_gf (by exact rfl) (by exact rfl) (by exact rfl) rfl ?_
                refine qq_gf (by exact rfl) (by exact rfl) (by exact rfl) rfl ?_
                refine qq_gf (by exact rfl) (by exact rfl) (by exact rfl) rfl ?_
                refine qq_gf (by exact rfl) (by exact rfl) (by exact rfl) rfl ?_
                refine qq_y (OpY.s (y_pick_f (by exact rfl) (by exact rfl))) rfl ?_
                refine qq_y (OpY.s (y_move (by exact rfl))) rfl ?_
                refine qq_gf (by exact rfl) (by exact rfl) (by exact rfl) rfl ?_
                refine qq_gf (by exact rfl) (by exact rfl) (by exact rfl) rfl ?_
                refine qq_gf (by exact rfl) (by exact rfl) (by exact rfl) rfl ?_
                refine qq_gf (by exact rfl) (by exact rfl) (by exact rfl) rfl ?_
                refine qq_gf (by exact rfl) (by exact rfl) (by exact rfl) rfl ?_
                refine qq_gf (by exact rfl) (by exact rfl) (by exact rfl) rfl ?_
                refine qq_gf (by exact rfl) (by exact rfl) (by exact rfl) rfl ?_
                refine qq_gf (by exact rfl) (by exact rfl) (by exact rfl) rfl ?_
                refine qq_gf (by exact rfl) (by exact rfl) (by exact rfl) rfl ?_
                refine qq_gf (by exact rfl) (by exact rfl) (by exact rfl) rfl ?_
                refine qq_gu (by exact rfl) (by exact rfl) rfl ?_
                refine qq_gu (by exact rfl) (by exact rfl) rfl ?_
                refine qq_gu (by exact rfl) (by exact rfl) rfl ?_
                refine qq_gu (by exact rfl) (by exact rfl) rfl ?_
                refine qq_gu (by exact rfl) (by exact rfl) rfl ?_
                refine qq_gu (by exact rfl) (by exact rfl) rfl ?_
                refine qq_gu (by exact rfl) (by exact rfl) rfl ?_
                refine qq_gu (by exact rfl) (by exact rfl) rfl ?_
                refine qq_gu (by exact rfl) (by exact rfl) rfl ?_
                refine qq_gu (by exact rfl) (by exact rfl) rfl ?_
                refine qq_gu (by exact rfl) (by exact rfl) rfl ?_
                refine qq_gf (by exact rfl) (by exact rfl) (by exact rfl) rfl ?_
                refine qq_y (OpY.s (y_pick_f (by exact rfl) (by exact rfl))) rfl ?_
                refine qq_nil ?_
                refine sx_merge ?_ ?_
                · first | exact rfl | exact lk_bool rfl (by simp [(hF3 hg38_3 hg38_10 hg38_17).2.2])
                · exact (by repeat (first | exact SubX.refl _ _ | refine SubX.skipT ?_ | refine SubX.skip rfl ?_))
            refine sx_then ?_
            refine sc_f (lk_bool rfl (rfl)) ?_
            refine sc_skip ?_
            refine sx_blk ?_
            refine sx_then ?_
            refine sc_region ?_
            refine sq_y (OpY.s (y_add (by exact rfl) (by exact rfl) (by omega))) rfl ?_
            refine sq_y (OpY.s (y_move (by exact rfl))) rfl ?_
            refine sq_nil ?_
            refine sx_round (j + 1) ?_ ?_ (by repeat (first | exact SubL.nil | refine SubL.cons (by first | exact rfl | exact lk_int rfl (by omega) | exact lk_eq rfl (by simp)) ?_)) (by repeat (first | exact Sel.nil | refine Sel.cons (by repeat (first | exact Rem.here | apply Rem.there)) ?_))
            · omega
            · omega
          ·
            refine sc_exit ?_
            refine sx_then_exit ?_
            refine sx_round_exit ?_
            refine sx_blk_hit ?_
            refine sx_blk ?_
            refine sx_then ?_
            refine sc_region ?_
            refine sq_y (OpY.s (y_add (by exact rfl) (by exact rfl) (by omega))) rfl ?_
            refine sq_y (OpY.s (y_move (by exact rfl))) rfl ?_
            refine sq_nil ?_
            refine sx_round (k + 1) ?_ ?_ (by repeat (first | exact SubL.nil | refine SubL.cons (by first | exact rfl | exact lk_int rfl (by omega) | exact lk_eq rfl (by simp)) ?_)) (by repeat (first | exact Sel.nil | refine Sel.cons (by repeat (first | exact Rem.here | apply Rem.there)) ?_))
            · omega
            · omega
        ·
          refine sc_exit ?_
          refine sx_then_exit ?_
          refine sx_round_exit ?_
          refine sx_blk_hit ?_
          refine sx_then ?_
          refine sc_seq ?_
          refine sc_region ?_
          refine sq_y (y_call (first := []) (caps := []) (by exact rfl) Try.call14 EvL.nil (fun w1 _ => alive14 w1)) rfl ?_
          refine sq_y (OpY.s (y_assign (by exact rfl))) rfl ?_
          refine sq_nil ?_
          refine sx_then ?_
          refine sc_ret ?_
          refine sx_ret1 (.inl rfl) rfl Try.results10 (by exact rfl) ?_
          intro w' hw'
          exact ⟨rfl, hw'.below (by repeat (first | exact .head _ | refine .tail _ ?_))⟩
theorem winners10 (w : World) (r : Rc) (a : Option Addr) (c : Nat) (f : Nat → Option Addr) (cf : Nat → Nat) (al : Option Addr) (cl : Nat) (ls : List Wd) (mz : Int) (hmz : 0 ≤ mz ∧ mz ≤ 65535) (hT : TmsA 0 w a r.teams f cf) (hl : WdsA 0 w al ls) (i1 : InI r.p) (i2 : InI r.lim) (i3 : InI r.rate) : Calls Try.prog 10 #[.agg (rcVal r a c).toArray, .slice al ls.length cl, .int .u16 mz] w fun e w' => e = .returned (.bool true) ∧ Below w.heap.size w w' := by
  by_cases hE : openE r ls true = 0
  · exact winners10b w r a c f cf al cl ls mz hmz hE (chk_zero (openE_zero hE).1).1 hT hl i1 i2 i3
  · exact winners10a w r a c f cf al cl ls mz _ rfl hE hT hl i1 i2 i3
end Go.Proofs.Ytegdfpilhlcplaa
