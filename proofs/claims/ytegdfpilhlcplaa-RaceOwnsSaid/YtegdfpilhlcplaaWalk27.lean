/- The walk of RaceOrder. -/
import Derived.Test.YtegdfpilhlcplaaLaw12
import Derived.Test.YtegdfpilhlcplaaWalk25
import Derived.Test.YtegdfpilhlcplaaEng10
namespace Go.Proofs.Ytegdfpilhlcplaa
open Go Go.Eng Go.RowKit Go.Proofs
set_option maxRecDepth 100000
/-- words, as a value -/
def WvA (w : World) (v : Value) (l : List Wd) : Prop := ∃ a c, v = .slice a l.length c ∧ l.length ≤ c ∧ WdsA 0 w a l
theorem own_wv {w0 w : World} {rs : List Res} (h : Hp w0 rs w) {v : Value} {n : Nat} {l : List Wd} (hm : Res.own v 57 4 n (l.flatMap wdRow) ∈ rs) (hn : l.length = n) (h64 : l.length ≤ 9223372036854775807) : WvA w v l := by
  subst hn
  have ho : w.ownsRow 0 57 4 v l.length (l.flatMap wdRow) := h.ok _ hm
  obtain ⟨a, c, h1, h2, h3⟩ := own_rows wdRow_len ho
  exact ⟨a, c, h1, h2, ⟨h3, h64⟩⟩
theorem winAns_form (r : Rc) (l : List Wd) : ∃ s c : Int, winAns r l = .tuple #[.int .i64 s, .int .i64 c, .int .i64 (openE r l true)] ∧ (0 ≤ s ∧ s ≤ 1048576) ∧ (0 ≤ c ∧ c ≤ 1048576) ∧ (openE r l true = 0 → s = (winS r l : Nat) ∧ c = (winC r l : Nat)) := by
  unfold winAns
  by_cases h : openE r l true = 0
  · have hn := rcB_nums (chk_zero (openE_zero h).1).1
    have h1 := maskN_pw (sureQ (winL r l)) r.teams.length
    have h2 := maskN_pw (canQ (winL r l)) r.teams.length
    have h3 := pw2_le (show r.teams.length ≤ 20 by omega)
    rw [if_pos h, h]
    refine ⟨_, _, rfl, ?_, ?_, fun _ => ⟨rfl, rfl⟩⟩ <;> simp only [winS, winC] <;> omega
  · rw [if_neg h]
    exact ⟨0, 0, rfl, by omega, by omega, fun h2 => absurd h2 h⟩

theorem ranks21v (w : World) (r : Rc) (a : Option Addr) (c : Nat) (f : Nat → Option Addr) (cf : Nat → Nat) (v : Value) (ls : List Wd) (mz : Int) (hT : TmsA 0 w a r.teams f cf) (hv : WvA w v ls) (i1 : InI r.p) (i2 : InI r.lim) (i3 : InI r.rate) : Calls Try.prog 21 #[.agg (rcVal r a c).toArray, v, .int .i64 mz] w fun e w' => ∃ z : Option Addr × Nat, e = .returned (.tuple #[.slice z.1 (ranksL r ls mz).length z.2, .int .i64 (openE r ls (minB mz))]) ∧ Below w.heap.size w w' ∧ SpsA w.heap.size w' z.1 (ranksL r ls mz) := by
  obtain ⟨al, cl, rfl, _, hl⟩ := hv
  exact ranks21p w r a c f cf al cl ls mz hT hl i1 i2 i3
theorem winners23v (w : World) (r : Rc) (a : Option Addr) (c : Nat) (f : Nat → Option Addr) (cf : Nat → Nat) (v : Value) (ls : List Wd) (hT : TmsA 0 w a r.teams f cf) (hv : WvA w v ls) (i1 : InI r.p) (i2 : InI r.lim) (i3 : InI r.rate) : Calls Try.prog 23 #[.agg (rcVal r a c).toArray, v] w fun e w' => e = .returned (winAns r ls) ∧ Below w.heap.size w w' := by
  obtain ⟨al, cl, rfl, _, hl⟩ := hv
  exact winners23 w r a c f cf al cl ls hT hl i1 i2 i3
theorem count17v (w : World) (r : Rc) (a : Option Addr) (c : Nat) (f : Nat → Option Addr) (cf : Nat → Nat) (v : Value) (ls : List Wd) (t m : Nat) (ht : t < r.teams.length) (hm : m ≤ 2000) (hE : openE r ls true = 0) (hT : TmsA 0 w a r.teams f cf) (hv : WvA w v ls) (i1 : InI r.p) (i2 : InI r.lim) (i3 : InI r.rate) : Calls Try.prog 17 #[.agg (rcVal r a c).toArray, v, .int .i64 t, .int .i64 m] w fun e w' => e = .returned (.tuple #[.agg (spRow (cntP r ls t (wrk r t m))).toArray, .int .i64 0]) ∧ Below w.heap.size w w' := by
  obtain ⟨al, cl, rfl, _, hl⟩ := hv
  exact count17z w r a c f cf al cl ls _ rfl t m ht hm hE hT hl i1 i2 i3
theorem points19v (w : World) (r : Rc) (a : Option Addr) (c : Nat) (f : Nat → Option Addr) (cf : Nat → Nat) (v : Value) (ls : List Wd) (t m : Nat) (ht : t < r.teams.length) (hm : m ≤ 2000) (hE : openE r ls true = 0) (hT : TmsA 0 w a r.teams f cf) (hv : WvA w v ls) (i1 : InI r.p) (i2 : InI r.lim) (i3 : InI r.rate) : Calls Try.prog 19 #[.agg (rcVal r a c).toArray, v, .int .i64 t, .int .i64 m] w fun e w' => e = .returned (.tuple #[.agg (spRow (ptsP r ls t (wrk r t m))).toArray, .int .i64 0]) ∧ Below w.heap.size w w' := by
  obtain ⟨al, cl, rfl, _, hl⟩ := hv
  exact points19z w r a c f cf al cl ls _ rfl t m ht hm hE hT hl i1 i2 i3
theorem clash25v (w : World) (r : Rc) (a : Option Addr) (c : Nat) (f : Nat → Option Addr) (cf : Nat → Nat) (v : Value) (ls : List Wd) (hT : TmsA 0 w a r.teams f cf) (hv : WvA w v ls) (i1 : InI r.p) (i2 : InI r.lim) (i3 : InI r.rate) : Calls Try.prog 25 #[.agg (rcVal r a c).toArray, v] w fun e w' => e = .returned (.tuple #[.int .i64 (clashN r ls).1, .int .i64 (clashN r ls).2]) ∧ Below w.heap.size w w' := by
  obtain ⟨al, cl, rfl, hcl, hl⟩ := hv
  exact clash25 w r a c f cf al cl ls hcl hT hl i1 i2 i3
theorem in38 (w : World) (x y : Sp) : Calls Try.prog 38 #[.agg (spRow x).toArray, .agg (spRow y).toArray] w fun e w' => e = .returned (.bool (decide (y.lo ≤ x.lo ∧ x.hi ≤ y.hi))) ∧ Below w.heap.size w w' := by
  refine calls_of_SC (args := [.agg (spRow x).toArray, .agg (spRow y).toArray]) Try.func38 rfl Try.ntmps38 rfl ?_
  simp only [argL, Nat.zero_add]
  refine sc_seq ?_
  refine sc_region ?_
  refine sq_box (by exact rfl) rfl (fun b2 => ?_)
  refine sq_box (by exact rfl) rfl (fun b3 => ?_)
  refine sq_y (OpY.s (y_assign (by exact rfl))) rfl ?_
  refine sq_nil ?_
  refine sx_then ?_
  refine sc_seq ?_
  refine sc_region ?_
  refine sq_y (OpY.s (by first | exact y_fab Try.underlying32 (by exact rfl) (by exact Try.sizeOf3) (by exact rfl) rfl | exact y_fa Try.underlying32 (by exact rfl) (by exact Try.sizeOf3) (by exact rfl) rfl)) rfl ?_
  refine sq_y (OpY.s (by first | exact y_load_blk Try.underlying3 rfl (by exact rfl) (by repeat (first | exact .head _ | refine .tail _ ?_)) (by exact rfl) | exact y_load_caj Try.underlying3 rfl (by exact rfl) (by repeat (first | exact .head _ | refine .tail _ ?_)) (by assumption) (by exact rfl) | exact y_load_ca0 Try.underlying3 rfl (by exact rfl) (by repeat (first | exact .head _ | refine .tail _ ?_)) (by assumption) (by exact rfl))) rfl ?_
  refine sq_y (OpY.s (by first | exact y_fab Try.underlying32 (by exact rfl) (by exact Try.sizeOf3) (by exact rfl) rfl | exact y_fa Try.underlying32 (by exact rfl) (by exact Try.sizeOf3) (by exact rfl) rfl)) rfl ?_
  refine sq_y (OpY.s (by first | exact y_load_blk Try.underlying3 rfl (by exact rfl) (by repeat (first | exact .head _ | refine .tail _ ?_)) (by exact rfl) | exact y_load_caj Try.underlying3 rfl (by exact rfl) (by repeat (first | exact .head _ | refine .tail _ ?_)) (by assumption) (by exact rfl) | exact y_load_ca0 Try.underlying3 rfl (by exact rfl) (by repeat (first | exact .head _ | refine .tail _ ?_)) (by assumption) (by exact rfl))) rfl ?_
  refine sq_y (OpY.s (y_geq (by exact rfl) (by exact rfl))) rfl ?_
  refine sq_y (OpY.s (y_move (by exact rfl))) rfl ?_
  first | refine sq_splitd (tt := 10) (by exact rfl) (fun hg1_5 => ?_) (fun hg1_5 => ?_) | refine sq_splitn (tt := 10) (by exact rfl) (fun hg1_5 => ?_) (fun hg1_5 => ?_) | refine sq_split (tt := 10) (by exact rfl) (fun hg1_5 => ?_) (fun hg1_5 => ?_)
  ·
    refine sq_gt (by exact rfl) (by exact rfl) (OpY.s (by first | exact y_fab Try.underlying32 (by exact rfl) (by exact Try.sizeOf3) (by exact rfl) rfl | exact y_fa Try.underlying32 (by exact rfl) (by exact Try.sizeOf3) (by exact rfl) rfl)) rfl ?_
    refine sq_gt (by exact rfl) (by exact rfl) (OpY.s (by first | exact y_load_blk Try.underlying3 rfl (by exact rfl) (by repeat (first | exact .head _ | refine .tail _ ?_)) (by exact rfl) | exact y_load_caj Try.underlying3 rfl (by exact rfl) (by repeat (first | exact .head _ | refine .tail _ ?_)) (by assumption) (by exact rfl) | exact y_load_ca0 Try.underlying3 rfl (by exact rfl) (by repeat (first | exact .head _ | refine .tail _ ?_)) (by assumption) (by exact rfl))) rfl ?_
    refine sq_gt (by exact rfl) (by exact rfl) (OpY.s (by first | exact y_fab Try.underlying32 (by exact rfl) (by exact Try.sizeOf3) (by exact rfl) rfl | exact y_fa Try.underlying32 (by exact rfl) (by exact Try.sizeOf3) (by exact rfl) rfl)) rfl ?_
    refine sq_gt (by exact rfl) (by exact rfl) (OpY.s (by first | exact y_load_blk Try.underlying3 rfl (by exact rfl) (by repeat (first | exact .head _ | refine .tail _ ?_)) (by exact rfl) | exact y_load_caj Try.underlying3 rfl (by exact rfl) (by repeat (first | exact .head _ | refine .tail _ ?_)) (by assumption) (by exact rfl) | exact y_load_ca0 Try.underlying3 rfl (by exact rfl) (by repeat (first | exact .head _ | refine .tail _ ?_)) (by assumption) (by exact rfl))) rfl ?_
    refine sq_gt (by exact rfl) (by exact rfl) (OpY.s (y_leq (by exact rfl) (by exact rfl))) rfl ?_
    refine sq_y (OpY.s (y_pick_t (by exact rfl) (by exact rfl))) rfl ?_
    refine sq_y (OpY.s (y_assign (by exact rfl))) rfl ?_
    refine sq_nil ?_
    refine sx_then ?_
    refine sc_ret ?_
    refine sx_ret1 (.inl rfl) rfl Try.results38 (by exact rfl) ?_
    intro w' hw'
    refine ⟨?_, hw'.below (by repeat (first | exact .head _ | refine .tail _ ?_))⟩
    simp [*]
  ·
    refine sq_gf (by exact rfl) (by exact rfl) (by exact rfl) rfl ?_
    refine sq_gf (by exact rfl) (by exact rfl) (by exact rfl) rfl ?_
    refine sq_gf (by exact rfl) (by exact rfl) (by exact rfl) rfl ?_
    refine sq_gf (by exact rfl) (by exact rfl) (by exact rfl) rfl ?_
    refine sq_gf (by exact rfl) (by exact rfl) (by exact rfl) rfl ?_
    refine sq_y (OpY.s (y_pick_f (by exact rfl) (by exact rfl))) rfl ?_
    refine sq_y (OpY.s (y_assign (by exact rfl))) rfl ?_
    refine sq_nil ?_
    refine sx_then ?_
    refine sc_ret ?_
    refine sx_ret1 (.inl rfl) rfl Try.results38 (by exact rfl) ?_
    intro w' hw'
    refine ⟨?_, hw'.below (by repeat (first | exact .head _ | refine .tail _ ?_))⟩
    simp [*]
theorem order9 (w : World) (r : Rc) (a : Option Addr) (c : Nat) (f : Nat → Option Addr) (cf : Nat → Nat) (al : Option Addr) (cl : Nat) (ls : List Wd) (d : Wd) (mz : Int) (tz : Nat) (htz : tz ≤ 255) (hT : TmsA 0 w a r.teams f cf) (hl : WdsA 0 w al ls) (i1 : InI r.p) (i2 : InI r.lim) (i3 : InI r.rate) : Calls Try.prog 9 #[.agg (rcVal r a c).toArray, .slice al ls.length cl, .agg (wdRow d).toArray, .int .i64 mz, .int .u8 tz] w fun e w' => e = .returned (.bool true) ∧ Below w.heap.size w w' := by
  have hlen := hl.len
  refine calls_of_SC (args := [.agg (rcVal r a c).toArray, .slice al ls.length cl, .agg (wdRow d).toArray, .int .i64 mz, .int .u8 tz]) Try.func9 rfl Try.ntmps9 rfl ?_
  simp only [argL, Nat.reduceAdd, Nat.zero_add]
  refine sc_seq ?_
  refine sc_region ?_
  refine sq_box (by exact rfl) rfl (fun b5 => ?_)
  refine sq_box (by exact rfl) rfl (fun b7 => ?_)
  refine sq_y (OpY.s (y_assign (by exact rfl))) rfl ?_
  refine sq_nil ?_
  refine sx_then ?_
  refine sc_seq ?_
  refine sc_seq ?_
  refine sc_region ?_
  refine sq_y (OpY.s (by first | exact y_load_all Try.underlying24 rfl Try.sizeOf24 (by exact rfl) (by repeat (first | exact .head _ | refine .tail _ ?_)) (by exact rfl) | exact y_load_ca Try.underlying24 rfl Try.sizeOf24 (by exact rfl) (by repeat (first | exact .head _ | refine .tail _ ?_)) (by assumption) (by exact rfl))) rfl ?_
  refine sq_y (OpY.s (y_move (by exact rfl))) rfl ?_
  refine sq_y (y_call (first := []) (caps := []) (by exact rfl) Try.call13 (EvL.cons (by exact rfl) (EvL.cons (by exact rfl) EvL.nil)) (fun w1 hw1 => great13 w1 r a c f cf al cl ls (hT.at hw1 (by repeat (first | exact .head _ | refine .tail _ ?_))) hl.len)) rfl ?_
  refine sq_y (OpY.s (y_move (by exact rfl))) rfl ?_
  first | refine sq_splitd (tt := 37) (by exact rfl) (fun hg1_3 => ?_) (fun hg1_3 => ?_) | refine sq_splitn (tt := 37) (by exact rfl) (fun hg1_3 => ?_) (fun hg1_3 => ?_) | refine sq_split (tt := 37) (by exact rfl) (fun hg1_3 => ?_) (fun hg1_3 => ?_)
  ·
    refine sq_gf (by exact rfl) (by exact rfl) (by exact rfl) rfl ?_
    refine sq_gf (by exact rfl) (by exact rfl) (by exact rfl) rfl ?_
    refine sq_gf (by exact rfl) (by exact rfl) (by exact rfl) rfl ?_
    refine sq_y (OpY.s (y_pick_t (by exact rfl) (by exact rfl))) rfl ?_
    refine sq_y (OpY.s (y_move (by exact rfl))) rfl ?_
    refine sq_gf (by exact rfl) (by exact rfl) (by exact rfl) rfl ?_
    refine sq_gf (by exact rfl) (by exact rfl) (by exact rfl) rfl ?_
    refine sq_gf (by exact rfl) (by exact rfl) (by exact rfl) rfl ?_
    refine sq_y (OpY.s (y_pick_t (by exact rfl) (by exact rfl))) rfl ?_
    refine sq_nil ?_
    refine sx_then ?_
    refine sc_t (by exact rfl) ?_
    refine sc_seq ?_
    refine sc_region ?_
    refine sq_y (y_call (first := []) (caps := []) (by exact rfl) Try.call14 EvL.nil (fun w1 _ => alive14 w1)) rfl ?_
    refine sq_y (OpY.s (y_assign (by exact rfl))) rfl ?_
    refine sq_nil ?_
    refine sx_then ?_
    refine sc_ret ?_
    refine sx_then_ret ?_
    refine sx_ret1 (.inl rfl) rfl Try.results9 (by exact rfl) ?_
    intro w' hw'
    exact ⟨rfl, hw'.below (by repeat (first | exact .head _ | refine .tail _ ?_))⟩
  ·
    refine sq_gt (by exact rfl) (by exact rfl) (OpY.s (y_move (by exact rfl))) rfl ?_
    refine sq_gt (by exact rfl) (by exact rfl) (OpY.s (y_len Try.underlying25 (by exact rfl))) rfl ?_
    refine sq_gt (by exact rfl) (by exact rfl) (OpY.s (y_gtr (by exact rfl) (by exact rfl))) rfl ?_
    refine sq_y (OpY.s (y_pick_f (by exact rfl) (by exact rfl))) rfl ?_
    refine sq_y (OpY.s (y_move (by exact rfl))) rfl ?_
    first | refine sq_splitd (tt := 42) (by exact rfl) (fun hg1_8 => ?_) (fun hg1_8 => ?_) | refine sq_splitn (tt := 42) (by exact rfl) (fun hg1_8 => ?_) (fun hg1_8 => ?_) | refine sq_split (tt := 42) (by exact rfl) (fun hg1_8 => ?_) (fun hg1_8 => ?_)
    ·
      refine sq_gf (by exact rfl) (by exact rfl) (by exact rfl) rfl ?_
      refine sq_gf (by exact rfl) (by exact rfl) (by exact rfl) rfl ?_
      refine sq_gf (by exact rfl) (by exact rfl) (by exact rfl) rfl ?_
      refine sq_y (OpY.s (y_pick_t (by exact rfl) (by exact rfl))) rfl ?_
      refine sq_nil ?_
      refine sx_then ?_
      refine sc_t (by exact rfl) ?_
      refine sc_seq ?_
      refine sc_region ?_
      refine sq_y (y_call (first := []) (caps := []) (by exact rfl) Try.call14 EvL.nil (fun w1 _ => alive14 w1)) rfl ?_
      refine sq_y (OpY.s (y_assign (by exact rfl))) rfl ?_
      refine sq_nil ?_
      refine sx_then ?_
      refine sc_ret ?_
      refine sx_then_ret ?_
      refine sx_ret1 (.inl rfl) rfl Try.results9 (by exact rfl) ?_
      intro w' hw'
      exact ⟨rfl, hw'.below (by repeat (first | exact .head _ | refine .tail _ ?_))⟩
    ·
      refine sq_gt (by exact rfl) (by exact rfl) (OpY.s (by first | exact y_load_all Try.underlying24 rfl Try.sizeOf24 (by exact rfl) (by repeat (first | exact .head _ | refine .tail _ ?_)) (by exact rfl) | exact y_load_ca Try.underlying24 rfl Try.sizeOf24 (by exact rfl) (by repeat (first | exact .head _ | refine .tail _ ?_)) (by assumption) (by exact rfl))) rfl ?_
      refine sq_gt (by exact rfl) (by exact rfl) (y_call (first := []) (caps := []) (by exact rfl) Try.call31 (EvL.cons (by exact rfl) EvL.nil) (fun w1 hw1 => race31 w1 _ r ((hT.at hw1 (by repeat (first | exact .head _ | refine .tail _ ?_))).rc i1 i2 i3))) rfl ?_
      refine sq_gt (by exact rfl) (by exact rfl) (OpY.s (y_not (by exact rfl))) rfl ?_
      refine sq_y (OpY.s (y_pick_f (by exact rfl) (by exact rfl))) rfl ?_
      refine sq_nil ?_
      refine sx_then ?_
      first | refine sc_if (by exact rfl) (fun hc0 => ?_) (fun hc0 => ?_) | refine sc_ifn (by exact rfl) (fun hc0 => ?_) (fun hc0 => ?_) | refine sc_cond (by exact rfl) (fun hc0 => ?_) (fun hc0 => ?_)
      ·
        refine sc_seq ?_
        refine sc_region ?_
        refine sq_y (y_call (first := []) (caps := []) (by exact rfl) Try.call14 EvL.nil (fun w1 _ => alive14 w1)) rfl ?_
        refine sq_y (OpY.s (y_assign (by exact rfl))) rfl ?_
        refine sq_nil ?_
        refine sx_then ?_
        refine sc_ret ?_
        refine sx_then_ret ?_
        refine sx_ret1 (.inl rfl) rfl Try.results9 (by exact rfl) ?_
        intro w' hw'
        exact ⟨rfl, hw'.below (by repeat (first | exact .head _ | refine .tail _ ?_))⟩
      ·
        refine sc_skip ?_
        refine sx_then ?_
        refine sc_seq ?_
        have hln : ls.length ≤ 38 := by omega
        have hms : ∀ x, x ∈ turnL ls tz ↔ x ∈ ls := fun x => mem_turnL
        have hmn : ls.length ≤ 40 := by omega
        have hml : (turnL ls tz).length ≤ 40 := by have := turnL_len ls tz; omega
        obtain ⟨xs, xc, hWx, hxs, hxc, hWx2⟩ := winAns_form r ls
        obtain ⟨ys, yc, hWy, hys, hyc, hWy2⟩ := winAns_form r (ls ++ [d])
        have hsub : ∀ x, x ∈ ls → x ∈ ls ++ [d] := fun x hx => List.mem_append_left _ hx
        have hEs : ∀ {vb}, openE r (ls ++ [d]) vb = 0 → openE r ls vb = 0 := fun h => openE_sub hsub hmn h
        refine sc_region ?_
        refine sq_y (OpY.s (by first | exact y_load_all Try.underlying24 rfl Try.sizeOf24 (by exact rfl) (by repeat (first | exact .head _ | refine .tail _ ?_)) (by exact rfl) | exact y_load_ca Try.underlying24 rfl Try.sizeOf24 (by exact rfl) (by repeat (first | exact .head _ | refine .tail _ ?_)) (by assumption) (by exact rfl))) rfl ?_
        refine sq_y (OpY.s (y_move (by exact rfl))) rfl ?_
        refine sq_y (OpY.s (y_move (by exact rfl))) rfl ?_
        refine sq_call_new (first := []) (caps := []) (Z := Option Addr × Nat) (fun z => .tuple #[.slice z.1 (ranksL r ls mz).length z.2, .int .i64 (openE r ls (minB mz))]) (fun lo w' z => SpsA lo w' z.1 (ranksL r ls mz)) (by exact rfl) Try.call21 (EvL.cons (by exact rfl) (EvL.cons (by exact rfl) (EvL.cons (by exact rfl) EvL.nil))) (fun w1 hw1 => ranks21p w1 r a c f cf al cl ls mz (hT.at hw1 (by repeat (first | exact .head _ | refine .tail _ ?_))) (hl.at hw1 (by repeat (first | exact .head _ | refine .tail _ ?_))) i1 i2 i3) rfl (fun lr1 wr1 zr1 hr1 => ?_)
        refine sq_y (OpY.s (y_move (by exact rfl))) rfl ?_
        refine sq_y (OpY.s (y_extract (by exact rfl) (by exact rfl))) rfl ?_
        refine sq_y (OpY.s (y_extract (by exact rfl) (by exact rfl))) rfl ?_
        refine sq_y (OpY.s (y_assign (by exact rfl))) rfl ?_
        refine sq_y (OpY.s (y_assign (by exact rfl))) rfl ?_
        refine sq_nil ?_
        refine sx_then ?_
        refine sc_seq ?_
        refine sc_region ?_
        refine sq_y (OpY.s (by first | exact y_load_all Try.underlying24 rfl Try.sizeOf24 (by exact rfl) (by repeat (first | exact .head _ | refine .tail _ ?_)) (by exact rfl) | exact y_load_ca Try.underlying24 rfl Try.sizeOf24 (by exact rfl) (by repeat (first | exact .head _ | refine .tail _ ?_)) (by assumption) (by exact rfl))) rfl ?_
        refine sq_y (OpY.s (y_move (by exact rfl))) rfl ?_
        refine sq_y (y_call (first := []) (caps := []) (by exact rfl) Try.call23 (EvL.cons (by exact rfl) (EvL.cons (by exact rfl) EvL.nil)) (fun w1 hw1 => (winners23 w1 r a c f cf al cl ls (hT.at hw1 (by repeat (first | exact .head _ | refine .tail _ ?_))) (hl.at hw1 (by repeat (first | exact .head _ | refine .tail _ ?_))) i1 i2 i3).mono (fun e w' h => ⟨h.1.trans (congrArg Ending.returned hWx), h.2⟩))) rfl ?_
        refine sq_y (OpY.s (y_move (by exact rfl))) rfl ?_
        refine sq_y (OpY.s (y_extract (by exact rfl) (by exact rfl))) rfl ?_
        refine sq_y (OpY.s (y_extract (by exact rfl) (by exact rfl))) rfl ?_
        refine sq_y (OpY.s (y_extract (by exact rfl) (by exact rfl))) rfl ?_
        refine sq_y (OpY.s (y_assign (by exact rfl))) rfl ?_
        refine sq_y (OpY.s (y_assign (by exact rfl))) rfl ?_
        refine sq_y (OpY.s (y_assign (by exact rfl))) rfl ?_
        refine sq_nil ?_
        refine sx_then ?_
        refine sc_seq ?_
        refine sc_region ?_
        refine sq_y (OpY.s (y_assign (by exact rfl))) rfl ?_
        refine sq_nil ?_
        refine sx_then ?_
        refine sc_seq ?_
        refine sc_seq ?_
        refine sc_region ?_
        refine sq_y (OpY.s (y_move (by exact rfl))) rfl ?_
        refine sq_y (OpY.s (y_len Try.underlying25 (by exact rfl))) rfl ?_
        refine sq_y (OpY.s (y_move (by exact rfl))) rfl ?_
        refine sq_nil ?_
        refine sx_then ?_
        refine sc_block ?_
        refine sc_nil_own 57 4 ?_
        refine sc_loop (σ := Nat × Value)
          (fun s => [(4, .int .u8 tz), (1, .slice al ls.length cl), (3, .int .i64 mz), (5, .pointer (some ⟨b5, 0, none⟩)), (7, .pointer (some ⟨b7, 0, none⟩)), (11, .slice zr1.1 (ranksL r ls mz).length zr1.2), (12, .int .i64 (openE r ls (minB mz))), (13, .int .i64 xs), (14, .int .i64 xc), (15, .int .i64 (openE r ls true)), (16, s.2), (63, .int .i64 ls.length), (64, .int .i64 s.1)])
          (fun s => [.own s.2 57 4 s.1 ((turnA ls tz s.1).flatMap wdRow), .reg lr1 wr1, .blk b7 (.cells (wdRow d).toArray 57 (0, 0)), .blk b5 (.cells (rcVal r a c).toArray 24 (0, 0)), .reg 0 w])
          (fun s => s.1 ≤ ls.length)
          (fun s => ls.length - s.1)
          ((0, .slice none 0 0)) ?_ (by repeat (first | exact SubL.nil | refine SubL.cons (by first | exact rfl | exact lk_int rfl (by omega) | exact lk_eq rfl (by simp)) ?_)) (by repeat (first | exact Sel.nil | refine Sel.cons (by repeat (first | exact Rem.here | apply Rem.there)) ?_)) ?_
        · exact Nat.zero_le _
        rintro ⟨k, v⟩ hk
        dsimp only at hk ⊢
        refine sc_seq ?_
        refine sc_region ?_
        refine sq_y (OpY.s (y_lss (by exact rfl) (by exact rfl))) rfl ?_
        refine sq_nil ?_
        refine sx_then ?_
        refine sc_seq ?_
        first | refine sc_if (by exact rfl) (fun hc1 => ?_) (fun hc1 => ?_) | refine sc_ifn (by exact rfl) (fun hc1 => ?_) (fun hc1 => ?_) | refine sc_cond (by exact rfl) (fun hc1 => ?_) (fun hc1 => ?_)
        ·
          have hk' : k < ls.length := by omega
          obtain ⟨x, hx⟩ : ∃ x, ls[(k + tz) % ls.length]? = some x := ⟨_, List.getElem?_eq_getElem (Nat.mod_lt _ (by omega))⟩
          have hix : (k + tz) % ls.length < ls.length := Nat.mod_lt _ (by omega)
          have hsm := (hl.el _ x hx).1
          have hca := (hl.el _ x hx).2
          have hfl : (turnA ls tz k).flatMap wdRow ++ [.int .i64 x.team, .int .i64 x.minute, .int .i64 x.got.lo, .int .i64 x.got.hi] = (turnA ls tz (k + 1)).flatMap wdRow := by rw [turnA_succ, getD_of hx]; simp [wdRow]
          refine sc_skip ?_
          refine sx_then ?_
          refine sc_seq ?_
          refine sc_block ?_
          refine sc_seq ?_
          refine sc_region ?_
          refine sq_y (OpY.s (y_move (by exact rfl))) rfl ?_
          refine sq_y (OpY.s (y_assign (by exact rfl))) rfl ?_
          refine sq_nil ?_
          refine sx_then ?_
          refine sc_region ?_
          refine sq_y (OpY.s (y_move (by exact rfl))) rfl ?_
          refine sq_y (OpY.s (y_move (by exact rfl))) rfl ?_
          refine sq_y (OpY.s (y_move (by exact rfl))) rfl ?_
          refine sq_y (OpY.s (y_move (by exact rfl))) rfl ?_
          refine sq_y (OpY.s (y_conv Try.underlying5 Try.underlying3 (by exact rfl) (wrap64_in (by omega) (by omega)))) rfl ?_
          refine sq_y (OpY.s (y_add (by exact rfl) (by exact rfl) (by omega))) rfl ?_
          refine sq_y (OpY.s (y_move (by exact rfl))) rfl ?_
          refine sq_y (OpY.s (y_len Try.underlying25 (by exact rfl))) rfl ?_
          refine sq_y (OpY.s (y_rem (by exact rfl) (by exact rfl) (by omega) (by omega))) rfl ?_
          refine sq_y (OpY.s (by first | exact y_ia_blk Try.underlying25 Try.sizeOf57 (by exact rfl) (ev_int (by exact rfl) (by simp)) hix | exact y_ia_el Try.underlying25 Try.sizeOf57 (by exact rfl) (ev_int (by exact rfl) (by simp)) hix (by first | assumption | simp))) rfl ?_
          refine sq_y (OpY.s (by first | exact y_load_ca Try.underlying57 rfl Try.sizeOf57 (by exact rfl) (by repeat (first | exact .head _ | refine .tail _ ?_)) hca rfl | exact y_load_all Try.underlying57 rfl Try.sizeOf57 (by exact rfl) (by repeat (first | exact .head _ | refine .tail _ ?_)) (by exact rfl) | exact y_load_ca Try.underlying57 rfl Try.sizeOf57 (by exact rfl) (by repeat (first | exact .head _ | refine .tail _ ?_)) (by assumption) (by exact rfl))) rfl ?_
          refine sq_bs Try.underlying25 ei57 (EvI.cons (by exact rfl) EvI.nil) (by first | (simp [Value.cells]; done) | (simp [Value.cells]; rfl) | (simp [Value.cells]; and_intros <;> rfl)) rfl rfl rfl (fun b78 => ?_)
          refine sq_append (news := [.int .i64 x.team, .int .i64 x.minute, .int .i64 x.got.lo, .int .i64 x.got.hi]) Try.underlying25 ei57 rfl (by decide) (by exact rfl) (by repeat (first | exact Rem.here | apply Rem.there)) (by exact rfl) rfl (fun _ hw => news_blk hw (by repeat (first | exact .head _ | refine .tail _ ?_))) (by simp [Value.oneCell']) (by omega) rfl (fun v79 ho79 => ?_)
          rw [hfl]
          refine sq_y (OpY.s (y_assign (by exact rfl))) rfl ?_
          refine sq_nil ?_
          refine sx_blk ?_
          refine sx_then ?_
          refine sc_region ?_
          refine sq_y (OpY.s (y_add (by exact rfl) (by exact rfl) (by omega))) rfl ?_
          refine sq_y (OpY.s (y_move (by exact rfl))) rfl ?_
          refine sq_nil ?_
          refine sx_round ((k + 1, v79)) ?_ ?_ (by repeat (first | exact SubL.nil | refine SubL.cons (by first | exact rfl | exact lk_int rfl (by omega) | exact lk_eq rfl (by simp)) ?_)) (by repeat (first | exact Sel.nil | refine Sel.cons (by repeat (first | exact Rem.here | apply Rem.there)) ?_))
          · show k + 1 ≤ ls.length; omega
          · show ls.length - (k + 1) < ls.length - k; omega
        ·
          have hkn : k = ls.length := by omega
          rw [hkn]
          refine sc_exit ?_
          refine sx_then_exit ?_
          refine sx_round_exit ?_
          refine sx_blk_hit ?_
          refine sx_then ?_
          refine sc_seq ?_
          refine sc_seq ?_
          refine sc_region ?_
          refine sq_y (OpY.s (y_move (by exact rfl))) rfl ?_
          refine sq_y (OpY.s (y_len Try.underlying25 (by exact rfl))) rfl ?_
          refine sq_y (OpY.s (y_gtr (by exact rfl) (by exact rfl))) rfl ?_
          refine sq_nil ?_
          refine sx_then ?_
          refine sc_midE (Z := Value) (fun z => [(1, .slice al ls.length cl), (3, .int .i64 mz), (5, .pointer (some ⟨b5, 0, none⟩)), (7, .pointer (some ⟨b7, 0, none⟩)), (11, .slice zr1.1 (ranksL r ls mz).length zr1.2), (12, .int .i64 (openE r ls (minB mz))), (13, .int .i64 xs), (14, .int .i64 xc), (15, .int .i64 (openE r ls true)), (16, z)]) (fun z => [.own z 57 4 (turnL ls tz).length ((turnL ls tz).flatMap wdRow), .reg lr1 wr1, .blk b7 (.cells (wdRow d).toArray 57 (0, 0)), .blk b5 (.cells (rcVal r a c).toArray 24 (0, 0)), .reg 0 w]) ?_ ?_
          ·
            first | refine sc_if (by exact rfl) (fun hc2 => ?_) (fun hc2 => ?_) | refine sc_ifn (by exact rfl) (fun hc2 => ?_) (fun hc2 => ?_) | refine sc_cond (by exact rfl) (fun hc2 => ?_) (fun hc2 => ?_)
            ·
              have h0 : 0 < ls.length := by omega
              have hrw : ∀ v, Res.own v 57 4 (ls.length + 1) ((turnA ls tz ls.length).flatMap wdRow ++ [.int .i64 ((turnA ls tz ls.length).getD 0 wd0).team, .int .i64 ((turnA ls tz ls.length).getD 0 wd0).minute, .int .i64 ((turnA ls tz ls.length).getD 0 wd0).got.lo, .int .i64 ((turnA ls tz ls.length).getD 0 wd0).got.hi]) = Res.own v 57 4 (turnL ls tz).length ((turnL ls tz).flatMap wdRow) := fun v => by rw [turnL_pos ls tz h0]; simp [wdRow, turnA_len]
              refine sc_region ?_
              refine sq_y (OpY.s (y_move (by exact rfl))) rfl ?_
              refine sq_y (OpY.s (y_move (by exact rfl))) rfl ?_
              refine sq_y (OpY.s (y_ia_own (i := 0) Try.underlying25 Try.sizeOf57 (by exact rfl) (by repeat (first | exact .head _ | refine .tail _ ?_)) (by exact rfl) (by omega))) rfl ?_
              refine sq_y (OpY.s (y_load_own (row := wdRow ((turnA ls tz ls.length).getD 0 wd0)) (i := 0) Try.underlying57 rfl Try.sizeOf57 (by exact rfl) (by repeat (first | exact .head _ | refine .tail _ ?_)) (by omega) (fun j u hj => flat_get wdRow_len _ 0 _ (get_of_lt wd0 (by rw [turnA_len]; omega)) j u hj) rfl)) rfl ?_
              refine sq_bs Try.underlying25 ei57 (EvI.cons (by exact rfl) EvI.nil) (by first | (simp [Value.cells]; done) | (simp [Value.cells]; rfl) | (simp [Value.cells]; and_intros <;> rfl)) rfl rfl rfl (fun b88 => ?_)
              refine sq_append (news := [.int .i64 ((turnA ls tz ls.length).getD 0 wd0).team, .int .i64 ((turnA ls tz ls.length).getD 0 wd0).minute, .int .i64 ((turnA ls tz ls.length).getD 0 wd0).got.lo, .int .i64 ((turnA ls tz ls.length).getD 0 wd0).got.hi]) Try.underlying25 ei57 rfl (by decide) (by exact rfl) (by repeat (first | exact Rem.here | apply Rem.there)) (by exact rfl) rfl (fun _ hw => news_blk hw (by repeat (first | exact .head _ | refine .tail _ ?_))) (by simp [Value.oneCell']) (by omega) rfl (fun v89 ho89 => ?_)
              rw [hrw]
              refine sq_y (OpY.s (y_assign (by exact rfl))) rfl ?_
              refine sq_nil ?_
              exact sx_midE (v89) (by repeat (first | exact SubL.nil | refine SubL.cons (by first | exact rfl | exact lk_int rfl (by omega) | exact lk_eq rfl (by simp)) ?_)) (by repeat (first | exact Sel.nil | refine Sel.cons (by repeat (first | exact Rem.here | apply Rem.there)) ?_))
            ·
              have h0 : ls.length = 0 := by omega
              have hrw : ∀ v, Res.own v 57 4 ls.length ((turnA ls tz ls.length).flatMap wdRow) = Res.own v 57 4 (turnL ls tz).length ((turnL ls tz).flatMap wdRow) := fun v => by rw [turnL_nil ls tz h0, turnA_len]
              rw [hrw]
              refine sc_skip ?_
              exact sx_midE (v) (by repeat (first | exact SubL.nil | refine SubL.cons (by first | exact rfl | exact lk_int rfl (by omega) | exact lk_eq rfl (by simp)) ?_)) (by repeat (first | exact Sel.nil | refine Sel.cons (by repeat (first | exact Rem.here | apply Rem.there)) ?_))
          rintro z
          try dsimp only
          refine sx_then ?_
          refine sc_seq ?_
          refine sc_region ?_
          refine sq_y (OpY.s (by first | exact y_load_all Try.underlying24 rfl Try.sizeOf24 (by exact rfl) (by repeat (first | exact .head _ | refine .tail _ ?_)) (by exact rfl) | exact y_load_ca Try.underlying24 rfl Try.sizeOf24 (by exact rfl) (by repeat (first | exact .head _ | refine .tail _ ?_)) (by assumption) (by exact rfl))) rfl ?_
          refine sq_y (OpY.s (y_move (by exact rfl))) rfl ?_
          refine sq_y (OpY.s (y_move (by exact rfl))) rfl ?_
          refine sq_call_new (first := []) (caps := []) (Z := Option Addr × Nat) (fun z => .tuple #[.slice z.1 (ranksL r ls mz).length z.2, .int .i64 (openE r ls (minB mz))]) (fun lo w' z => SpsA lo w' z.1 (ranksL r ls mz)) (by exact rfl) Try.call21 (EvL.cons (by exact rfl) (EvL.cons (by exact rfl) (EvL.cons (by exact rfl) EvL.nil))) (fun w1 hw1 => by
                have h := ranks21v w1 r a c f cf z (turnL ls tz) mz (hT.at hw1 (by repeat (first | exact .head _ | refine .tail _ ?_))) (own_wv hw1 (by repeat (first | exact .head _ | refine .tail _ ?_)) rfl (by have := turnL_len ls tz; omega)) i1 i2 i3
                rw [ranksL_same hms hml hmn, openE_same hms hml hmn] at h
                exact h) rfl (fun lr2 wr2 zr2 hr2 => ?_)
          refine sq_y (OpY.s (y_move (by exact rfl))) rfl ?_
          refine sq_y (OpY.s (y_extract (by exact rfl) (by exact rfl))) rfl ?_
          refine sq_y (OpY.s (y_extract (by exact rfl) (by exact rfl))) rfl ?_
          refine sq_y (OpY.s (y_assign (by exact rfl))) rfl ?_
          refine sq_y (OpY.s (y_assign (by exact rfl))) rfl ?_
          refine sq_nil ?_
          refine sx_then ?_
          refine sc_seq ?_
          refine sc_region ?_
          refine sq_y (OpY.s (by first | exact y_load_all Try.underlying24 rfl Try.sizeOf24 (by exact rfl) (by repeat (first | exact .head _ | refine .tail _ ?_)) (by exact rfl) | exact y_load_ca Try.underlying24 rfl Try.sizeOf24 (by exact rfl) (by repeat (first | exact .head _ | refine .tail _ ?_)) (by assumption) (by exact rfl))) rfl ?_
          refine sq_y (OpY.s (y_move (by exact rfl))) rfl ?_
          refine sq_y (y_call (first := []) (caps := []) (by exact rfl) Try.call23 (EvL.cons (by exact rfl) (EvL.cons (by exact rfl) EvL.nil)) (fun w1 hw1 => (winners23v w1 r a c f cf z (turnL ls tz) (hT.at hw1 (by repeat (first | exact .head _ | refine .tail _ ?_))) (own_wv hw1 (by repeat (first | exact .head _ | refine .tail _ ?_)) rfl (by have := turnL_len ls tz; omega)) i1 i2 i3).mono (fun e w' h => ⟨h.1.trans (congrArg Ending.returned ((winAns_same hms hml hmn).trans hWx)), h.2⟩))) rfl ?_
          refine sq_y (OpY.s (y_move (by exact rfl))) rfl ?_
          refine sq_y (OpY.s (y_extract (by exact rfl) (by exact rfl))) rfl ?_
          refine sq_y (OpY.s (y_extract (by exact rfl) (by exact rfl))) rfl ?_
          refine sq_y (OpY.s (y_extract (by exact rfl) (by exact rfl))) rfl ?_
          refine sq_y (OpY.s (y_assign (by exact rfl))) rfl ?_
          refine sq_y (OpY.s (y_assign (by exact rfl))) rfl ?_
          refine sq_y (OpY.s (y_assign (by exact rfl))) rfl ?_
          refine sq_nil ?_
          refine sx_then ?_
          refine sc_seq ?_
          refine sc_seq ?_
          refine sc_region ?_
          refine sq_y (OpY.s (y_move (by exact rfl))) rfl ?_
          refine sq_y (OpY.s (y_move (by exact rfl))) rfl ?_
          refine sq_y (y_call (first := []) (caps := []) (by exact rfl) Try.call27 (EvL.cons (by exact rfl) (EvL.cons (by exact rfl) EvL.nil)) (fun w1 hw1 => spans27 w1 zr2.1 zr1.1 zr2.2 zr1.2 _ _ (hr2.at hw1 (by repeat (first | exact .head _ | refine .tail _ ?_))) (hr1.at hw1 (by repeat (first | exact .head _ | refine .tail _ ?_))))) rfl ?_
          refine sq_y (OpY.s (y_not (by exact rfl))) rfl ?_
          refine sq_y (OpY.s (y_move (by exact rfl))) rfl ?_
          refine sq_known (tt := 108) (b' := false) (by exact rfl) (by simp) ?_
          refine sq_gt (by exact rfl) (by exact rfl) (OpY.s (y_move (by exact rfl))) rfl ?_
          refine sq_gt (by exact rfl) (by exact rfl) (OpY.s (y_move (by exact rfl))) rfl ?_
          refine sq_gt (by exact rfl) (by exact rfl) (OpY.s (y_neq (by exact rfl) (by exact rfl))) rfl ?_
          refine sq_y (OpY.s (y_pick_f (by exact rfl) (by exact rfl))) rfl ?_
          refine sq_y (OpY.s (y_move (by exact rfl))) rfl ?_
          refine sq_known (tt := 113) (b' := false) (by exact rfl) (by simp) ?_
          refine sq_gt (by exact rfl) (by exact rfl) (OpY.s (y_move (by exact rfl))) rfl ?_
          refine sq_gt (by exact rfl) (by exact rfl) (OpY.s (y_move (by exact rfl))) rfl ?_
          refine sq_gt (by exact rfl) (by exact rfl) (OpY.s (y_neq (by exact rfl) (by exact rfl))) rfl ?_
          refine sq_y (OpY.s (y_pick_f (by exact rfl) (by exact rfl))) rfl ?_
          refine sq_y (OpY.s (y_move (by exact rfl))) rfl ?_
          refine sq_known (tt := 118) (b' := false) (by exact rfl) (by simp) ?_
          refine sq_gt (by exact rfl) (by exact rfl) (OpY.s (y_move (by exact rfl))) rfl ?_
          refine sq_gt (by exact rfl) (by exact rfl) (OpY.s (y_move (by exact rfl))) rfl ?_
          refine sq_gt (by exact rfl) (by exact rfl) (OpY.s (y_neq (by exact rfl) (by exact rfl))) rfl ?_
          refine sq_y (OpY.s (y_pick_f (by exact rfl) (by exact rfl))) rfl ?_
          refine sq_y (OpY.s (y_move (by exact rfl))) rfl ?_
          refine sq_known (tt := 123) (b' := false) (by exact rfl) (by simp) ?_
          refine sq_gt (by exact rfl) (by exact rfl) (OpY.s (y_move (by exact rfl))) rfl ?_
          refine sq_gt (by exact rfl) (by exact rfl) (OpY.s (y_move (by exact rfl))) rfl ?_
          refine sq_gt (by exact rfl) (by exact rfl) (OpY.s (y_neq (by exact rfl) (by exact rfl))) rfl ?_
          refine sq_y (OpY.s (y_pick_f (by exact rfl) (by exact rfl))) rfl ?_
          refine sq_nil ?_
          refine sx_then ?_
          refine sc_f (lk_bool rfl (by simp)) ?_
          refine sc_skip ?_
          refine sx_then ?_
          refine sc_seq ?_
          refine sc_midE (Z := Value) (fun z => [(1, .slice al ls.length cl), (3, .int .i64 mz), (5, .pointer (some ⟨b5, 0, none⟩)), (7, .pointer (some ⟨b7, 0, none⟩)), (11, .slice zr1.1 (ranksL r ls mz).length zr1.2), (12, .int .i64 (openE r ls (minB mz))), (13, .int .i64 xs), (14, .int .i64 xc), (15, .int .i64 (openE r ls true)), (23, z)]) (fun z => [.own z 57 4 (ls.length + 1) ((ls ++ [d]).flatMap wdRow), .reg lr1 wr1, .blk b7 (.cells (wdRow d).toArray 57 (0, 0)), .blk b5 (.cells (rcVal r a c).toArray 24 (0, 0)), .reg 0 w]) ?_ ?_
          ·
            refine sc_drawX ([.blk b7 (.cells (wdRow d).toArray 57 (0, 0)), .reg 0 w]) (by kernel_rfl) ?_
            refine xj_s 1 (by exact rfl) (by kernel_rfl) (by repeat (first | exact Sel.nil | refine Sel.cons (by repeat (first | exact Rem.here | apply Rem.there)) ?_)) (y_move (by exact rfl)) rfl ?_
            refine xj_s 3 (by exact rfl) (by kernel_rfl) (by repeat (first | exact Sel.nil | refine Sel.cons (by repeat (first | exact Rem.here | apply Rem.there)) ?_)) (by first | exact y_load_all Try.underlying57 rfl Try.sizeOf57 (by exact rfl) (by repeat (first | exact .head _ | refine .tail _ ?_)) (by exact rfl) | exact y_load_ca Try.underlying57 rfl Try.sizeOf57 (by exact rfl) (by repeat (first | exact .head _ | refine .tail _ ?_)) (by assumption) (by exact rfl)) rfl ?_
            refine xj_all (l := [0, 4]) (by kernel_rfl) (by simp) (Each.cons ⟨_, rfl, ?_⟩ (Each.cons ⟨_, rfl, ?_⟩ Each.nil))
            ·
              refine sq_bs Try.underlying25 ei57 EvI.nil (by first | (simp [Value.cells]; done) | (simp [Value.cells]; rfl) | (simp [Value.cells]; and_intros <;> rfl)) rfl rfl rfl (fun b128 => ?_)
              refine sq_nil ?_
              refine sx_xp (by repeat (first | exact Sel.nil | refine Sel.cons (by repeat (first | exact Rem.here | apply Rem.there)) ?_)) ?_
              refine xj_all (l := [2, 4]) (by kernel_rfl) (by simp) (Each.cons ⟨_, rfl, ?_⟩ (Each.cons ⟨_, rfl, ?_⟩ Each.nil))
              ·
                refine sq_blk_own (e := 57) (n := 0) (sz := 4) (xs := []) (by repeat (first | exact Rem.here | apply Rem.there)) rfl (by decide) ?_
                refine sq_append_rows (news := ls.flatMap wdRow) Try.underlying25 ei57 Try.sizeOf57 rfl (by decide) (by exact rfl) (by repeat (first | exact Rem.here | apply Rem.there)) (by exact rfl) hl.noa (flat_len wdRow_len ls) (fun ad had w1 hw1 => wds_cells (by rw [← had]; exact hl.at hw1 (by repeat (first | exact .head _ | refine .tail _ ?_)))) (wds_one ls) (by omega) rfl (fun v130 ho130 => ?_)
                refine sq_nil ?_
                refine sx_xp (by repeat (first | exact Sel.nil | refine Sel.cons (by repeat (first | exact Rem.here | apply Rem.there)) ?_)) ?_
                rw [List.nil_append, Nat.zero_add ls.length]
                refine xj_one 4 (by exact rfl) (by kernel_rfl) ?_
                refine sq_bs Try.underlying25 ei57 (EvI.cons (by exact rfl) EvI.nil) (by first | (simp [Value.cells]; done) | (simp [Value.cells]; rfl) | (simp [Value.cells]; and_intros <;> rfl)) rfl rfl rfl (fun b132 => ?_)
                refine sq_nil ?_
                refine sx_xp (by repeat (first | exact Sel.nil | refine Sel.cons (by repeat (first | exact Rem.here | apply Rem.there)) ?_)) ?_
                refine xj_one 5 (by exact rfl) (by kernel_rfl) ?_
                refine sq_append (news := [.int .i64 d.team, .int .i64 d.minute, .int .i64 d.got.lo, .int .i64 d.got.hi]) Try.underlying25 ei57 rfl (by decide) (by exact rfl) (by repeat (first | exact Rem.here | apply Rem.there)) (by exact rfl) rfl (fun _ hw => news_blk hw (by repeat (first | exact .head _ | refine .tail _ ?_))) (by simp [Value.oneCell']) (by omega) rfl (fun v133 ho133 => ?_)
                refine sq_nil ?_
                refine sx_xp (by repeat (first | exact Sel.nil | refine Sel.cons (by repeat (first | exact Rem.here | apply Rem.there)) ?_)) ?_
                rw [show ls.flatMap wdRow ++ [.int .i64 d.team, .int .i64 d.minute, .int .i64 d.got.lo, .int .i64 d.got.hi] = (ls ++ [d]).flatMap wdRow by simp [wdRow]]
                refine xj_s 6 (by exact rfl) (by kernel_rfl) (by repeat (first | exact Sel.nil | refine Sel.cons (by repeat (first | exact Rem.here | apply Rem.there)) ?_)) (y_assign (by exact rfl)) rfl ?_
                refine xj_done (by kernel_rfl) ?_
                exact sx_midE (v133) (by repeat (first | exact SubL.nil | refine SubL.cons (by first | exact rfl | exact lk_int rfl (by omega) | exact lk_eq rfl (by simp)) ?_)) (by repeat (first | exact Sel.nil | refine Sel.cons (by repeat (first | exact Rem.here | apply Rem.there)) ?_))
              ·
                refine sq_bs Try.underlying25 ei57 (EvI.cons (by exact rfl) EvI.nil) (by first | (simp [Value.cells]; done) | (simp [Value.cells]; rfl) | (simp [Value.cells]; and_intros <;> rfl)) rfl rfl rfl (fun b132 => ?_)
                refine sq_nil ?_
                refine sx_xp (by repeat (first | exact Sel.nil | refine Sel.cons (by repeat (first | exact Rem.here | apply Rem.there)) ?_)) ?_
                refine xj_one 2 (by exact rfl) (by kernel_rfl) ?_
                refine sq_blk_own (e := 57) (n := 0) (sz := 4) (xs := []) (by repeat (first | exact Rem.here | apply Rem.there)) rfl (by decide) ?_
                refine sq_append_rows (news := ls.flatMap wdRow) Try.underlying25 ei57 Try.sizeOf57 rfl (by decide) (by exact rfl) (by repeat (first | exact Rem.here | apply Rem.there)) (by exact rfl) hl.noa (flat_len wdRow_len ls) (fun ad had w1 hw1 => wds_cells (by rw [← had]; exact hl.at hw1 (by repeat (first | exact .head _ | refine .tail _ ?_)))) (wds_one ls) (by omega) rfl (fun v130 ho130 => ?_)
                refine sq_nil ?_
                refine sx_xp (by repeat (first | exact Sel.nil | refine Sel.cons (by repeat (first | exact Rem.here | apply Rem.there)) ?_)) ?_
                rw [List.nil_append, Nat.zero_add ls.length]
                refine xj_one 5 (by exact rfl) (by kernel_rfl) ?_
                refine sq_append (news := [.int .i64 d.team, .int .i64 d.minute, .int .i64 d.got.lo, .int .i64 d.got.hi]) Try.underlying25 ei57 rfl (by decide) (by exact rfl) (by repeat (first | exact Rem.here | apply Rem.there)) (by exact rfl) rfl (fun _ hw => news_blk hw (by repeat (first | exact .head _ | refine .tail _ ?_))) (by simp [Value.oneCell']) (by omega) rfl (fun v133 ho133 => ?_)
                refine sq_nil ?_
                refine sx_xp (by repeat (first | exact Sel.nil | refine Sel.cons (by repeat (first | exact Rem.here | apply Rem.there)) ?_)) ?_
                rw [show ls.flatMap wdRow ++ [.int .i64 d.team, .int .i64 d.minute, .int .i64 d.got.lo, .int .i64 d.got.hi] = (ls ++ [d]).flatMap wdRow by simp [wdRow]]
                refine xj_s 6 (by exact rfl) (by kernel_rfl) (by repeat (first | exact Sel.nil | refine Sel.cons (by repeat (first | exact Rem.here | apply Rem.there)) ?_)) (y_assign (by exact rfl)) rfl ?_
                refine xj_done (by kernel_rfl) ?_
                exact sx_midE (v133) (by repeat (first | exact SubL.nil | refine SubL.cons (by first | exact rfl | exact lk_int rfl (by omega) | exact lk_eq rfl (by simp)) ?_)) (by repeat (first | exact Sel.nil | refine Sel.cons (by repeat (first | exact Rem.here | apply Rem.there)) ?_))
            ·
              refine sq_bs Try.underlying25 ei57 (EvI.cons (by exact rfl) EvI.nil) (by first | (simp [Value.cells]; done) | (simp [Value.cells]; rfl) | (simp [Value.cells]; and_intros <;> rfl)) rfl rfl rfl (fun b132 => ?_)
              refine sq_nil ?_
              refine sx_xp (by repeat (first | exact Sel.nil | refine Sel.cons (by repeat (first | exact Rem.here | apply Rem.there)) ?_)) ?_
              refine xj_one 0 (by exact rfl) (by kernel_rfl) ?_
              refine sq_bs Try.underlying25 ei57 EvI.nil (by first | (simp [Value.cells]; done) | (simp [Value.cells]; rfl) | (simp [Value.cells]; and_intros <;> rfl)) rfl rfl rfl (fun b128 => ?_)
              refine sq_nil ?_
              refine sx_xp (by repeat (first | exact Sel.nil | refine Sel.cons (by repeat (first | exact Rem.here | apply Rem.there)) ?_)) ?_
              refine xj_one 2 (by exact rfl) (by kernel_rfl) ?_
              refine sq_blk_own (e := 57) (n := 0) (sz := 4) (xs := []) (by repeat (first | exact Rem.here | apply Rem.there)) rfl (by decide) ?_
              refine sq_append_rows (news := ls.flatMap wdRow) Try.underlying25 ei57 Try.sizeOf57 rfl (by decide) (by exact rfl) (by repeat (first | exact Rem.here | apply Rem.there)) (by exact rfl) hl.noa (flat_len wdRow_len ls) (fun ad had w1 hw1 => wds_cells (by rw [← had]; exact hl.at hw1 (by repeat (first | exact .head _ | refine .tail _ ?_)))) (wds_one ls) (by omega) rfl (fun v130 ho130 => ?_)
              refine sq_nil ?_
              refine sx_xp (by repeat (first | exact Sel.nil | refine Sel.cons (by repeat (first | exact Rem.here | apply Rem.there)) ?_)) ?_
              rw [List.nil_append, Nat.zero_add ls.length]
              refine xj_one 5 (by exact rfl) (by kernel_rfl) ?_
              refine sq_append (news := [.int .i64 d.team, .int .i64 d.minute, .int .i64 d.got.lo, .int .i64 d.got.hi]) Try.underlying25 ei57 rfl (by decide) (by exact rfl) (by repeat (first | exact Rem.here | apply Rem.there)) (by exact rfl) rfl (fun _ hw => news_blk hw (by repeat (first | exact .head _ | refine .tail _ ?_))) (by simp [Value.oneCell']) (by omega) rfl (fun v133 ho133 => ?_)
              refine sq_nil ?_
              refine sx_xp (by repeat (first | exact Sel.nil | refine Sel.cons (by repeat (first | exact Rem.here | apply Rem.there)) ?_)) ?_
              rw [show ls.flatMap wdRow ++ [.int .i64 d.team, .int .i64 d.minute, .int .i64 d.got.lo, .int .i64 d.got.hi] = (ls ++ [d]).flatMap wdRow by simp [wdRow]]
              refine xj_s 6 (by exact rfl) (by kernel_rfl) (by repeat (first | exact Sel.nil | refine Sel.cons (by repeat (first | exact Rem.here | apply Rem.there)) ?_)) (y_assign (by exact rfl)) rfl ?_
              refine xj_done (by kernel_rfl) ?_
              exact sx_midE (v133) (by repeat (first | exact SubL.nil | refine SubL.cons (by first | exact rfl | exact lk_int rfl (by omega) | exact lk_eq rfl (by simp)) ?_)) (by repeat (first | exact Sel.nil | refine Sel.cons (by repeat (first | exact Rem.here | apply Rem.there)) ?_))
          rintro z2
          try dsimp only
          refine sx_then ?_
          refine sc_seq ?_
          refine sc_region ?_
          refine sq_y (OpY.s (by first | exact y_load_all Try.underlying24 rfl Try.sizeOf24 (by exact rfl) (by repeat (first | exact .head _ | refine .tail _ ?_)) (by exact rfl) | exact y_load_ca Try.underlying24 rfl Try.sizeOf24 (by exact rfl) (by repeat (first | exact .head _ | refine .tail _ ?_)) (by assumption) (by exact rfl))) rfl ?_
          refine sq_y (OpY.s (y_move (by exact rfl))) rfl ?_
          refine sq_y (OpY.s (y_move (by exact rfl))) rfl ?_
          refine sq_call_new (first := []) (caps := []) (Z := Option Addr × Nat) (fun z => .tuple #[.slice z.1 (ranksL r (ls ++ [d]) mz).length z.2, .int .i64 (openE r (ls ++ [d]) (minB mz))]) (fun lo w' z => SpsA lo w' z.1 (ranksL r (ls ++ [d]) mz)) (by exact rfl) Try.call21 (EvL.cons (by exact rfl) (EvL.cons (by exact rfl) (EvL.cons (by exact rfl) EvL.nil))) (fun w1 hw1 => ranks21v w1 r a c f cf z2 (ls ++ [d]) mz (hT.at hw1 (by repeat (first | exact .head _ | refine .tail _ ?_))) (own_wv hw1 (by repeat (first | exact .head _ | refine .tail _ ?_)) (by simp) (by simp; omega)) i1 i2 i3) rfl (fun lr3 wr3 zr3 hr3 => ?_)
          refine sq_y (OpY.s (y_move (by exact rfl))) rfl ?_
          refine sq_y (OpY.s (y_extract (by exact rfl) (by exact rfl))) rfl ?_
          refine sq_y (OpY.s (y_extract (by exact rfl) (by exact rfl))) rfl ?_
          refine sq_y (OpY.s (y_assign (by exact rfl))) rfl ?_
          refine sq_y (OpY.s (y_assign (by exact rfl))) rfl ?_
          refine sq_nil ?_
          refine sx_then ?_
          refine sc_seq ?_
          refine sc_region ?_
          refine sq_y (OpY.s (by first | exact y_load_all Try.underlying24 rfl Try.sizeOf24 (by exact rfl) (by repeat (first | exact .head _ | refine .tail _ ?_)) (by exact rfl) | exact y_load_ca Try.underlying24 rfl Try.sizeOf24 (by exact rfl) (by repeat (first | exact .head _ | refine .tail _ ?_)) (by assumption) (by exact rfl))) rfl ?_
          refine sq_y (OpY.s (y_move (by exact rfl))) rfl ?_
          refine sq_y (y_call (first := []) (caps := []) (by exact rfl) Try.call23 (EvL.cons (by exact rfl) (EvL.cons (by exact rfl) EvL.nil)) (fun w1 hw1 => (winners23v w1 r a c f cf z2 (ls ++ [d]) (hT.at hw1 (by repeat (first | exact .head _ | refine .tail _ ?_))) (own_wv hw1 (by repeat (first | exact .head _ | refine .tail _ ?_)) (by simp) (by simp; omega)) i1 i2 i3).mono (fun e w' h => ⟨h.1.trans (congrArg Ending.returned hWy), h.2⟩))) rfl ?_
          refine sq_y (OpY.s (y_move (by exact rfl))) rfl ?_
          refine sq_y (OpY.s (y_extract (by exact rfl) (by exact rfl))) rfl ?_
          refine sq_y (OpY.s (y_extract (by exact rfl) (by exact rfl))) rfl ?_
          refine sq_y (OpY.s (y_extract (by exact rfl) (by exact rfl))) rfl ?_
          refine sq_y (OpY.s (y_assign (by exact rfl))) rfl ?_
          refine sq_y (OpY.s (y_assign (by exact rfl))) rfl ?_
          refine sq_y (OpY.s (y_assign (by exact rfl))) rfl ?_
          refine sq_nil ?_
          refine sx_then ?_
          refine sc_seq ?_
          refine sc_seq ?_
          refine sc_region ?_
          refine sq_y (OpY.s (y_move (by exact rfl))) rfl ?_
          refine sq_y (OpY.s (y_eql (by exact rfl) (by exact rfl))) rfl ?_
          refine sq_y (OpY.s (y_move (by exact rfl))) rfl ?_
          first | refine sq_splitd (tt := 150) (by exact rfl) (fun hg20_2 => ?_) (fun hg20_2 => ?_) | refine sq_splitn (tt := 150) (by exact rfl) (fun hg20_2 => ?_) (fun hg20_2 => ?_) | refine sq_split (tt := 150) (by exact rfl) (fun hg20_2 => ?_) (fun hg20_2 => ?_)
          ·
            refine sq_gt (by exact rfl) (by exact rfl) (OpY.s (y_move (by exact rfl))) rfl ?_
            refine sq_gt (by exact rfl) (by exact rfl) (OpY.s (y_neq (by exact rfl) (by exact rfl))) rfl ?_
            refine sq_gt (by exact rfl) (by exact rfl) (OpY.s (y_move (by exact rfl))) rfl ?_
            refine sq_known (tt := 153) (b' := false) (by exact rfl) (by simp [hEs hg20_2]) ?_
            refine sq_gt (by exact rfl) (by exact rfl) (OpY.s (y_move (by exact rfl))) rfl ?_
            refine sq_gt (by exact rfl) (by exact rfl) (OpY.s (y_move (by exact rfl))) rfl ?_
            refine sq_gt (by exact rfl) (by exact rfl) (OpY.s (y_andNot (by exact rfl) (by exact rfl) (by omega) (by omega))) rfl ?_
            refine sq_gt (by exact rfl) (by exact rfl) (OpY.s (y_neq (by exact rfl) (by exact rfl))) rfl ?_
            refine sq_gt (by exact rfl) (by exact rfl) (OpY.s (y_pick_f (by exact rfl) (by exact rfl))) rfl ?_
            refine sq_gt (by exact rfl) (by exact rfl) (OpY.s (y_move (by exact rfl))) rfl ?_
            refine sq_known (tt := 159) (b' := false) (by exact rfl) (by rw [(hWy2 hg20_2).2, (hWx2 (hEs hg20_2)).2, Int.toNat_natCast, Int.toNat_natCast, can_more hsub]; rfl) ?_
            refine sq_gt (by exact rfl) (by exact rfl) (OpY.s (y_move (by exact rfl))) rfl ?_
            refine sq_gt (by exact rfl) (by exact rfl) (OpY.s (y_move (by exact rfl))) rfl ?_
            refine sq_gt (by exact rfl) (by exact rfl) (OpY.s (y_andNot (by exact rfl) (by exact rfl) (by omega) (by omega))) rfl ?_
            refine sq_gt (by exact rfl) (by exact rfl) (OpY.s (y_neq (by exact rfl) (by exact rfl))) rfl ?_
            refine sq_gt (by exact rfl) (by exact rfl) (OpY.s (y_pick_f (by exact rfl) (by exact rfl))) rfl ?_
            refine sq_y (OpY.s (y_pick_t (by exact rfl) (by exact rfl))) rfl ?_
            refine sq_y (OpY.s (y_move (by exact rfl))) rfl ?_
            refine sq_known (tt := 166) (b' := false) (by exact rfl) (by first | rfl | (rw [(hWy2 hg20_2).1, (hWx2 (hEs hg20_2)).1, Int.toNat_natCast, Int.toNat_natCast, sure_more hsub]; rfl)) ?_
            refine sq_gt (by exact rfl) (by exact rfl) (OpY.s (y_move (by exact rfl))) rfl ?_
            refine sq_gt (by exact rfl) (by exact rfl) (OpY.s (y_eql (by exact rfl) (by exact rfl))) rfl ?_
            refine sq_gt (by exact rfl) (by exact rfl) (OpY.s (y_move (by exact rfl))) rfl ?_
            first | refine sq_splitd (tt := 169) (by exact rfl) (fun hg20_21 => ?_) (fun hg20_21 => ?_) | refine sq_splitn (tt := 169) (by exact rfl) (fun hg20_21 => ?_) (fun hg20_21 => ?_) | refine sq_split (tt := 169) (by exact rfl) (fun hg20_21 => ?_) (fun hg20_21 => ?_)
            ·
              refine sq_gt (by exact rfl) (by exact rfl) (OpY.s (y_move (by exact rfl))) rfl ?_
              refine sq_gt (by exact rfl) (by exact rfl) (OpY.s (y_neq (by exact rfl) (by exact rfl))) rfl ?_
              refine sq_gt (by exact rfl) (by exact rfl) (OpY.s (y_move (by exact rfl))) rfl ?_
              refine sq_known (tt := 172) (b' := false) (by exact rfl) (by simp [hEs hg20_21]) ?_
              refine sq_gt (by exact rfl) (by exact rfl) (OpY.s (y_move (by exact rfl))) rfl ?_
              refine sq_gt (by exact rfl) (by exact rfl) (OpY.s (y_len Try.underlying36 (by exact rfl))) rfl ?_
              refine sq_gt (by exact rfl) (by exact rfl) (OpY.s (y_move (by exact rfl))) rfl ?_
              refine sq_gt (by exact rfl) (by exact rfl) (OpY.s (y_len Try.underlying36 (by exact rfl))) rfl ?_
              refine sq_gt (by exact rfl) (by exact rfl) (OpY.s (y_neq (by exact rfl) (by exact rfl))) rfl ?_
              refine sq_gt (by exact rfl) (by exact rfl) (OpY.s (y_pick_f (by exact rfl) (by exact rfl))) rfl ?_
              refine sq_gt (by exact rfl) (by exact rfl) (OpY.s (y_pick_t (by exact rfl) (by exact rfl))) rfl ?_
              refine sq_y (OpY.s (y_pick_f (by exact rfl) (by exact rfl))) rfl ?_
              refine sq_nil ?_
              refine sx_then ?_
              refine sc_f (lk_bool rfl (by first | rfl | simp [ranksL, hg20_21, hEs hg20_21, rankL, scoreL])) ?_
              refine sc_skip ?_
              refine sx_then ?_
              refine sc_seq ?_
              refine sc_region ?_
              refine sq_y (OpY.s (y_assign (by exact rfl))) rfl ?_
              refine sq_nil ?_
              refine sx_then ?_
              refine sc_seq ?_
              refine sc_seq ?_
              refine sc_region ?_
              refine sq_y (OpY.s (y_move (by exact rfl))) rfl ?_
              refine sq_y (OpY.s (y_len Try.underlying36 (by exact rfl))) rfl ?_
              refine sq_y (OpY.s (y_move (by exact rfl))) rfl ?_
              refine sq_nil ?_
              refine sx_then ?_
              refine sc_block ?_
              refine sc_loop (σ := Nat)
                (fun s => [(1, .slice al ls.length cl), (3, .int .i64 mz), (5, .pointer (some ⟨b5, 0, none⟩)), (7, .pointer (some ⟨b7, 0, none⟩)), (11, .slice zr1.1 (ranksL r ls mz).length zr1.2), (12, .int .i64 (openE r ls (minB mz))), (13, .int .i64 xs), (14, .int .i64 xc), (15, .int .i64 (openE r ls true)), (18, .slice zr3.1 (ranksL r (ls ++ [d]) mz).length zr3.2), (23, z2), (24, .func (.func 38) #[] #[]), (182, .int .i64 (ranksL r (ls ++ [d]) mz).length), (183, .int .i64 s)])
                (fun s => [.reg lr3 wr3, .own z2 57 4 (ls.length + 1) ((ls ++ [d]).flatMap wdRow), .reg lr1 wr1, .blk b7 (.cells (wdRow d).toArray 57 (0, 0)), .blk b5 (.cells (rcVal r a c).toArray 24 (0, 0)), .reg 0 w])
                (fun s => s ≤ (ranksL r (ls ++ [d]) mz).length)
                (fun s => (ranksL r (ls ++ [d]) mz).length - s)
                (0) ?_ (by repeat (first | exact SubL.nil | refine SubL.cons (by first | exact rfl | exact lk_int rfl (by omega) | exact lk_eq rfl (by simp)) ?_)) (by repeat (first | exact Sel.nil | refine Sel.cons (by repeat (first | exact Rem.here | apply Rem.there)) ?_)) ?_
              · exact Nat.zero_le _
              rintro k hk
              refine sc_seq ?_
              refine sc_region ?_
              refine sq_y (OpY.s (y_lss (by exact rfl) (by exact rfl))) rfl ?_
              refine sq_nil ?_
              refine sx_then ?_
              refine sc_seq ?_
              first | refine sc_if (by exact rfl) (fun hc5 => ?_) (fun hc5 => ?_) | refine sc_ifn (by exact rfl) (fun hc5 => ?_) (fun hc5 => ?_) | refine sc_cond (by exact rfl) (fun hc5 => ?_) (fun hc5 => ?_)
              ·
                have hk' : k < (ranksL r (ls ++ [d]) mz).length := by omega
                have hE3 : openE r (ls ++ [d]) (minB mz) = 0 := by
                  by_cases h : openE r (ls ++ [d]) (minB mz) = 0
                  · exact h
                  · unfold ranksL at hk'; rw [if_neg h] at hk'; simp at hk'
                have hmB := (openE_zero hE3).2.1
                obtain ⟨m, hm1⟩ := Int.eq_ofNat_of_zero_le (show 0 ≤ mz by simp only [minB, decide_eq_true_eq] at hmB; omega)
                subst hm1
                have hm : m ≤ 2000 := by simp only [minB, decide_eq_true_eq] at hmB; omega
                have hE1 := hEs hE3
                rw [hmB] at hE3 hE1
                have hR3 : ranksL r (ls ++ [d]) m = rankL (scoreL r (ls ++ [d]) fun x => wrk r x m) := by unfold ranksL; rw [hmB, if_pos hE3]; rfl
                have hR1 : ranksL r ls m = rankL (scoreL r ls fun x => wrk r x m) := by unfold ranksL; rw [hmB, if_pos hE1]; rfl
                have hk2 : k < r.teams.length := by rw [hR3] at hk'; simpa [rankL, scoreL] using hk'
                have hnums := rcB_nums (chk_zero (openE_zero hE3).1).1
                obtain ⟨x3, hx3⟩ : ∃ x, (ranksL r (ls ++ [d]) m)[k]? = some x := ⟨_, List.getElem?_eq_getElem hk'⟩
                have hkl : k < (ranksL r ls m).length := by rw [hR1]; simpa [rankL, scoreL] using hk2
                obtain ⟨x1, hx1⟩ : ∃ x, (ranksL r ls m)[k]? = some x := ⟨_, List.getElem?_eq_getElem hkl⟩
                have hs3 := (hr3.el k x3 hx3).1
                have hc3 := (hr3.el k x3 hx3).2
                have hs1 := (hr1.el k x1 hx1).1
                have hc1 := (hr1.el k x1 hx1).2
                have hrn := rank_narrow (r := r) (m := fun x => wrk r x m) hsub hk2
                rw [← hR3, ← hR1, getD_of hx3, getD_of hx1] at hrn
                have hpn := ptsP_narrow (r := r) hsub k (wrk r k m)
                have hcn := cntP_narrow (r := r) hsub k (wrk r k m)
                have hpe : ¬ (k : Int) = d.team → ptsP r (ls ++ [d]) k (wrk r k m) = ptsP r ls k (wrk r k m) := fun h => by unfold ptsP; rw [allW_snoc, if_neg (fun e => h e.symm)]
                have hce : ¬ (k : Int) = d.team → cntP r (ls ++ [d]) k (wrk r k m) = cntP r ls k (wrk r k m) := fun h => by unfold cntP; rw [allW_snoc, if_neg (fun e => h e.symm)]
                refine sc_skip ?_
                refine sx_then ?_
                refine sc_seq ?_
                refine sc_block ?_
                refine sc_seq ?_
                refine sc_region ?_
                refine sq_y (OpY.s (y_move (by exact rfl))) rfl ?_
                refine sq_y (OpY.s (y_assign (by exact rfl))) rfl ?_
                refine sq_nil ?_
                refine sx_then ?_
                refine sc_seq ?_
                refine sc_region ?_
                refine sq_y (OpY.s (by first | exact y_load_all Try.underlying24 rfl Try.sizeOf24 (by exact rfl) (by repeat (first | exact .head _ | refine .tail _ ?_)) (by exact rfl) | exact y_load_ca Try.underlying24 rfl Try.sizeOf24 (by exact rfl) (by repeat (first | exact .head _ | refine .tail _ ?_)) (by assumption) (by exact rfl))) rfl ?_
                refine sq_y (OpY.s (y_move (by exact rfl))) rfl ?_
                refine sq_y (OpY.s (y_move (by exact rfl))) rfl ?_
                refine sq_y (OpY.s (y_move (by exact rfl))) rfl ?_
                refine sq_y (y_call (first := []) (caps := []) (by exact rfl) Try.call19 (EvL.cons (by exact rfl) (EvL.cons (by exact rfl) (EvL.cons (by exact rfl) (EvL.cons (by exact rfl) EvL.nil)))) (fun w1 hw1 => points19z w1 r a c f cf al cl ls _ rfl k m hk2 hm hE1 (hT.at hw1 (by repeat (first | exact .head _ | refine .tail _ ?_))) (hl.at hw1 (by repeat (first | exact .head _ | refine .tail _ ?_))) i1 i2 i3)) rfl ?_
                refine sq_y (OpY.s (y_move (by exact rfl))) rfl ?_
                refine sq_y (OpY.s (y_extract (by exact rfl) (by exact rfl))) rfl ?_
                refine sq_y (OpY.s (y_extract (by exact rfl) (by exact rfl))) rfl ?_
                refine sq_alloc Try.zeroValue32 rfl (fun b26 => ?_)
                refine sq_store_all Try.sizeOf32 (by exact rfl) (by exact rfl) rfl (by repeat (first | exact Rem.here | apply Rem.there)) rfl rfl ?_
                refine sq_y (OpY.s (y_assign (by exact rfl))) rfl ?_
                refine sq_nil ?_
                refine sx_then ?_
                refine sc_seq ?_
                refine sc_region ?_
                refine sq_y (OpY.s (by first | exact y_load_all Try.underlying24 rfl Try.sizeOf24 (by exact rfl) (by repeat (first | exact .head _ | refine .tail _ ?_)) (by exact rfl) | exact y_load_ca Try.underlying24 rfl Try.sizeOf24 (by exact rfl) (by repeat (first | exact .head _ | refine .tail _ ?_)) (by assumption) (by exact rfl))) rfl ?_
                refine sq_y (OpY.s (y_move (by exact rfl))) rfl ?_
                refine sq_y (OpY.s (y_move (by exact rfl))) rfl ?_
                refine sq_y (OpY.s (y_move (by exact rfl))) rfl ?_
                refine sq_y (y_call (first := []) (caps := []) (by exact rfl) Try.call19 (EvL.cons (by exact rfl) (EvL.cons (by exact rfl) (EvL.cons (by exact rfl) (EvL.cons (by exact rfl) EvL.nil)))) (fun w1 hw1 => points19v w1 r a c f cf z2 (ls ++ [d]) k m hk2 hm hE3 (hT.at hw1 (by repeat (first | exact .head _ | refine .tail _ ?_))) (own_wv hw1 (by repeat (first | exact .head _ | refine .tail _ ?_)) (by simp) (by simp; omega)) i1 i2 i3)) rfl ?_
                refine sq_y (OpY.s (y_move (by exact rfl))) rfl ?_
                refine sq_y (OpY.s (y_extract (by exact rfl) (by exact rfl))) rfl ?_
                refine sq_y (OpY.s (y_extract (by exact rfl) (by exact rfl))) rfl ?_
                refine sq_alloc Try.zeroValue32 rfl (fun b28 => ?_)
                refine sq_store_all Try.sizeOf32 (by exact rfl) (by exact rfl) rfl (by repeat (first | exact Rem.here | apply Rem.there)) rfl rfl ?_
                refine sq_y (OpY.s (y_assign (by exact rfl))) rfl ?_
                refine sq_nil ?_
                refine sx_then ?_
                refine sc_seq ?_
                refine sc_region ?_
                refine sq_y (OpY.s (by first | exact y_load_all Try.underlying24 rfl Try.sizeOf24 (by exact rfl) (by repeat (first | exact .head _ | refine .tail _ ?_)) (by exact rfl) | exact y_load_ca Try.underlying24 rfl Try.sizeOf24 (by exact rfl) (by repeat (first | exact .head _ | refine .tail _ ?_)) (by assumption) (by exact rfl))) rfl ?_
                refine sq_y (OpY.s (y_move (by exact rfl))) rfl ?_
                refine sq_y (OpY.s (y_move (by exact rfl))) rfl ?_
                refine sq_y (OpY.s (y_move (by exact rfl))) rfl ?_
                refine sq_y (y_call (first := []) (caps := []) (by exact rfl) Try.call17 (EvL.cons (by exact rfl) (EvL.cons (by exact rfl) (EvL.cons (by exact rfl) (EvL.cons (by exact rfl) EvL.nil)))) (fun w1 hw1 => count17z w1 r a c f cf al cl ls _ rfl k m hk2 hm hE1 (hT.at hw1 (by repeat (first | exact .head _ | refine .tail _ ?_))) (hl.at hw1 (by repeat (first | exact .head _ | refine .tail _ ?_))) i1 i2 i3)) rfl ?_
                refine sq_y (OpY.s (y_move (by exact rfl))) rfl ?_
                refine sq_y (OpY.s (y_extract (by exact rfl) (by exact rfl))) rfl ?_
                refine sq_y (OpY.s (y_extract (by exact rfl) (by exact rfl))) rfl ?_
                refine sq_alloc Try.zeroValue32 rfl (fun b30 => ?_)
                refine sq_store_all Try.sizeOf32 (by exact rfl) (by exact rfl) rfl (by repeat (first | exact Rem.here | apply Rem.there)) rfl rfl ?_
                refine sq_y (OpY.s (y_assign (by exact rfl))) rfl ?_
                refine sq_nil ?_
                refine sx_then ?_
                refine sc_seq ?_
                refine sc_region ?_
                refine sq_y (OpY.s (by first | exact y_load_all Try.underlying24 rfl Try.sizeOf24 (by exact rfl) (by repeat (first | exact .head _ | refine .tail _ ?_)) (by exact rfl) | exact y_load_ca Try.underlying24 rfl Try.sizeOf24 (by exact rfl) (by repeat (first | exact .head _ | refine .tail _ ?_)) (by assumption) (by exact rfl))) rfl ?_
                refine sq_y (OpY.s (y_move (by exact rfl))) rfl ?_
                refine sq_y (OpY.s (y_move (by exact rfl))) rfl ?_
                refine sq_y (OpY.s (y_move (by exact rfl))) rfl ?_
                refine sq_y (y_call (first := []) (caps := []) (by exact rfl) Try.call17 (EvL.cons (by exact rfl) (EvL.cons (by exact rfl) (EvL.cons (by exact rfl) (EvL.cons (by exact rfl) EvL.nil)))) (fun w1 hw1 => count17v w1 r a c f cf z2 (ls ++ [d]) k m hk2 hm hE3 (hT.at hw1 (by repeat (first | exact .head _ | refine .tail _ ?_))) (own_wv hw1 (by repeat (first | exact .head _ | refine .tail _ ?_)) (by simp) (by simp; omega)) i1 i2 i3)) rfl ?_
                refine sq_y (OpY.s (y_move (by exact rfl))) rfl ?_
                refine sq_y (OpY.s (y_extract (by exact rfl) (by exact rfl))) rfl ?_
                refine sq_y (OpY.s (y_extract (by exact rfl) (by exact rfl))) rfl ?_
                refine sq_alloc Try.zeroValue32 rfl (fun b32 => ?_)
                refine sq_store_all Try.sizeOf32 (by exact rfl) (by exact rfl) rfl (by repeat (first | exact Rem.here | apply Rem.there)) rfl rfl ?_
                refine sq_y (OpY.s (y_assign (by exact rfl))) rfl ?_
                refine sq_nil ?_
                refine sx_then ?_
                refine sc_seq ?_
                refine sc_draw rfl (by kernel_rfl) (by kernel_rfl) ?_
                refine qq_y (OpY.s (y_move (by exact rfl))) rfl ?_
                refine qq_y (OpY.s (y_neq (by exact rfl) (by exact rfl))) rfl ?_
                refine qq_y (OpY.s (y_move (by exact rfl))) rfl ?_
                refine qq_known (tt := 220) (b' := false) (by exact rfl) (by simp) ?_
                refine qq_gt (by exact rfl) (by exact rfl) (OpY.s (y_move (by exact rfl))) rfl ?_
                refine qq_gt (by exact rfl) (by exact rfl) (OpY.s (y_neq (by exact rfl) (by exact rfl))) rfl ?_
                refine qq_y (OpY.s (y_pick_f (by exact rfl) (by exact rfl))) rfl ?_
                refine qq_y (OpY.s (y_move (by exact rfl))) rfl ?_
                refine qq_known (tt := 224) (b' := false) (by exact rfl) (by simp) ?_
                refine qq_gt (by exact rfl) (by exact rfl) (OpY.s (y_move (by exact rfl))) rfl ?_
                refine qq_gt (by exact rfl) (by exact rfl) (OpY.s (y_neq (by exact rfl) (by exact rfl))) rfl ?_
                refine qq_y (OpY.s (y_pick_f (by exact rfl) (by exact rfl))) rfl ?_
                refine qq_y (OpY.s (y_move (by exact rfl))) rfl ?_
                refine qq_known (tt := 228) (b' := false) (by exact rfl) (by simp) ?_
                refine qq_gt (by exact rfl) (by exact rfl) (OpY.s (y_move (by exact rfl))) rfl ?_
                refine qq_gt (by exact rfl) (by exact rfl) (OpY.s (y_neq (by exact rfl) (by exact rfl))) rfl ?_
                refine qq_y (OpY.s (y_pick_f (by exact rfl) (by exact rfl))) rfl ?_
                refine qq_y (OpY.s (y_move (by exact rfl))) rfl ?_
                refine qq_known (tt := 232) (b' := false) (by exact rfl) (by simp) ?_
                refine qq_gt (by exact rfl) (by exact rfl) (OpY.s (y_move (by exact rfl))) rfl ?_
                refine qq_gt (by exact rfl) (by exact rfl) (OpY.s (y_move (by exact rfl))) rfl ?_
                refine qq_gt (by exact rfl) (by exact rfl) (OpY.s (y_move (by exact rfl))) rfl ?_
                refine qq_gt (by exact rfl) (by exact rfl) (OpY.s (by first | exact y_ia_blk Try.underlying36 Try.sizeOf32 (by exact rfl) (by exact rfl) (by omega) | exact y_ia_el Try.underlying36 Try.sizeOf32 (by exact rfl) (by exact rfl) (by omega) (by first | assumption | simp))) rfl ?_
                refine qq_gt (by exact rfl) (by exact rfl) (OpY.s (by first | exact y_load_ca Try.underlying32 rfl Try.sizeOf32 (by exact rfl) (by repeat (first | exact .head _ | refine .tail _ ?_)) hc3 rfl | exact y_load_all Try.underlying32 rfl Try.sizeOf32 (by exact rfl) (by repeat (first | exact .head _ | refine .tail _ ?_)) (by exact rfl) | exact y_load_2 Try.underlying32 rfl Try.sizeOf32 (by exact rfl) (by repeat (first | exact .head _ | refine .tail _ ?_)) (by exact rfl) (by exact rfl) | exact y_load_ca Try.underlying32 rfl Try.sizeOf32 (by exact rfl) (by repeat (first | exact .head _ | refine .tail _ ?_)) (by assumption) (by exact rfl))) rfl ?_
                refine qq_gt (by exact rfl) (by exact rfl) (OpY.s (y_move (by exact rfl))) rfl ?_
                refine qq_gt (by exact rfl) (by exact rfl) (OpY.s (y_move (by exact rfl))) rfl ?_
                refine qq_gt (by exact rfl) (by exact rfl) (OpY.s (by first | exact y_ia_blk Try.underlying36 Try.sizeOf32 (by exact rfl) (by exact rfl) (by omega) | exact y_ia_el Try.underlying36 Try.sizeOf32 (by exact rfl) (by exact rfl) (by omega) (by first | assumption | simp))) rfl ?_
                refine qq_gt (by exact rfl) (by exact rfl) (OpY.s (by first | exact y_load_ca Try.underlying32 rfl Try.sizeOf32 (by exact rfl) (by repeat (first | exact .head _ | refine .tail _ ?_)) hc1 rfl | exact y_load_all Try.underlying32 rfl Try.sizeOf32 (by exact rfl) (by repeat (first | exact .head _ | refine .tail _ ?_)) (by exact rfl) | exact y_load_2 Try.underlying32 rfl Try.sizeOf32 (by exact rfl) (by repeat (first | exact .head _ | refine .tail _ ?_)) (by exact rfl) (by exact rfl) | exact y_load_ca Try.underlying32 rfl Try.sizeOf32 (by exact rfl) (by repeat (first | exact .head _ | refine .tail _ ?_)) (by assumption) (by exact rfl))) rfl ?_
                refine qq_gt (by exact rfl) (by exact rfl) (y_call (first := []) (caps := []) (by exact rfl) Try.call38 (EvL.cons (by exact rfl) (EvL.cons (by exact rfl) EvL.nil)) (fun w1 _ => in38 w1 (x3) (x1))) rfl ?_
                refine qq_gt (by exact rfl) (by exact rfl) (OpY.s (y_not (by exact rfl))) rfl ?_
                refine qq_y (OpY.s (y_pick_f (by exact rfl) (by exact rfl))) rfl ?_
                refine qq_y (OpY.s (y_move (by exact rfl))) rfl ?_
                refine qq_known (tt := 245) (b' := false) (by exact rfl) (by simp [hrn.1, hrn.2]) ?_
                refine qq_gt (by exact rfl) (by exact rfl) (OpY.s (y_move (by exact rfl))) rfl ?_
                refine qq_gt (by exact rfl) (by exact rfl) (OpY.s (by first | exact y_load_all Try.underlying32 rfl Try.sizeOf32 (by exact rfl) (by repeat (first | exact .head _ | refine .tail _ ?_)) (by exact rfl) | exact y_load_2 Try.underlying32 rfl Try.sizeOf32 (by exact rfl) (by repeat (first | exact .head _ | refine .tail _ ?_)) (by exact rfl) (by exact rfl) | exact y_load_ca Try.underlying32 rfl Try.sizeOf32 (by exact rfl) (by repeat (first | exact .head _ | refine .tail _ ?_)) (by assumption) (by exact rfl))) rfl ?_
                refine qq_gt (by exact rfl) (by exact rfl) (OpY.s (by first | exact y_load_all Try.underlying32 rfl Try.sizeOf32 (by exact rfl) (by repeat (first | exact .head _ | refine .tail _ ?_)) (by exact rfl) | exact y_load_2 Try.underlying32 rfl Try.sizeOf32 (by exact rfl) (by repeat (first | exact .head _ | refine .tail _ ?_)) (by exact rfl) (by exact rfl) | exact y_load_ca Try.underlying32 rfl Try.sizeOf32 (by exact rfl) (by repeat (first | exact .head _ | refine .tail _ ?_)) (by assumption) (by exact rfl))) rfl ?_
                refine qq_gt (by exact rfl) (by exact rfl) (y_call (first := []) (caps := []) (by exact rfl) Try.call38 (EvL.cons (by exact rfl) (EvL.cons (by exact rfl) EvL.nil)) (fun w1 _ => in38 w1 (ptsP r (ls ++ [d]) k (wrk r k m)) (ptsP r ls k (wrk r k m)))) rfl ?_
                refine qq_gt (by exact rfl) (by exact rfl) (OpY.s (y_not (by exact rfl))) rfl ?_
                refine qq_y (OpY.s (y_pick_f (by exact rfl) (by exact rfl))) rfl ?_
                refine qq_y (OpY.s (y_move (by exact rfl))) rfl ?_
                refine qq_known (tt := 252) (b' := false) (by exact rfl) (by simp [hpn.1, hpn.2]) ?_
                refine qq_gt (by exact rfl) (by exact rfl) (OpY.s (y_move (by exact rfl))) rfl ?_
                refine qq_gt (by exact rfl) (by exact rfl) (OpY.s (by first | exact y_load_all Try.underlying32 rfl Try.sizeOf32 (by exact rfl) (by repeat (first | exact .head _ | refine .tail _ ?_)) (by exact rfl) | exact y_load_2 Try.underlying32 rfl Try.sizeOf32 (by exact rfl) (by repeat (first | exact .head _ | refine .tail _ ?_)) (by exact rfl) (by exact rfl) | exact y_load_ca Try.underlying32 rfl Try.sizeOf32 (by exact rfl) (by repeat (first | exact .head _ | refine .tail _ ?_)) (by assumption) (by exact rfl))) rfl ?_
                refine qq_gt (by exact rfl) (by exact rfl) (OpY.s (by first | exact y_load_all Try.underlying32 rfl Try.sizeOf32 (by exact rfl) (by repeat (first | exact .head _ | refine .tail _ ?_)) (by exact rfl) | exact y_load_2 Try.underlying32 rfl Try.sizeOf32 (by exact rfl) (by repeat (first | exact .head _ | refine .tail _ ?_)) (by exact rfl) (by exact rfl) | exact y_load_ca Try.underlying32 rfl Try.sizeOf32 (by exact rfl) (by repeat (first | exact .head _ | refine .tail _ ?_)) (by assumption) (by exact rfl))) rfl ?_
                refine qq_gt (by exact rfl) (by exact rfl) (y_call (first := []) (caps := []) (by exact rfl) Try.call38 (EvL.cons (by exact rfl) (EvL.cons (by exact rfl) EvL.nil)) (fun w1 _ => in38 w1 (cntP r (ls ++ [d]) k (wrk r k m)) (cntP r ls k (wrk r k m)))) rfl ?_
                refine qq_gt (by exact rfl) (by exact rfl) (OpY.s (y_not (by exact rfl))) rfl ?_
                refine qq_y (OpY.s (y_pick_f (by exact rfl) (by exact rfl))) rfl ?_
                refine qq_y (OpY.s (y_move (by exact rfl))) rfl ?_
                refine qq_known (tt := 259) (b' := false) (by exact rfl) (by simp [hcn.1, hcn.2]) ?_
                refine qq_gt (by exact rfl) (by exact rfl) (OpY.s (y_move (by exact rfl))) rfl ?_
                refine qq_gt (by exact rfl) (by exact rfl) (OpY.s (by first | exact y_fab Try.underlying57 (by exact rfl) (by exact Try.sizeOf3) (by exact rfl) rfl | exact y_fa Try.underlying57 (by exact rfl) (by exact Try.sizeOf3) (by exact rfl) rfl)) rfl ?_
                refine qq_gt (by exact rfl) (by exact rfl) (OpY.s (by first | exact y_load_blk Try.underlying3 rfl (by exact rfl) (by repeat (first | exact .head _ | refine .tail _ ?_)) (by exact rfl) | exact y_load_caj Try.underlying3 rfl (by exact rfl) (by repeat (first | exact .head _ | refine .tail _ ?_)) (by assumption) (by exact rfl) | exact y_load_ca0 Try.underlying3 rfl (by exact rfl) (by repeat (first | exact .head _ | refine .tail _ ?_)) (by assumption) (by exact rfl))) rfl ?_
                refine qq_gt (by exact rfl) (by exact rfl) (OpY.s (y_neq (by exact rfl) (by exact rfl))) rfl ?_
                refine qq_gt (by exact rfl) (by exact rfl) (OpY.s (y_move (by exact rfl))) rfl ?_
                first | refine qq_splitd (tt := 264) (by exact rfl) (fun hg30_46 => ?_) (fun hg30_46 => ?_) | refine qq_splitn (tt := 264) (by exact rfl) (fun hg30_46 => ?_) (fun hg30_46 => ?_) | refine qq_split (tt := 264) (by exact rfl) (fun hg30_46 => ?_) (fun hg30_46 => ?_)
                ·
                  refine qq_gt (by exact rfl) (by exact rfl) (OpY.s (by first | exact y_load_all Try.underlying32 rfl Try.sizeOf32 (by exact rfl) (by repeat (first | exact .head _ | refine .tail _ ?_)) (by exact rfl) | exact y_load_2 Try.underlying32 rfl Try.sizeOf32 (by exact rfl) (by repeat (first | exact .head _ | refine .tail _ ?_)) (by exact rfl) (by exact rfl) | exact y_load_ca Try.underlying32 rfl Try.sizeOf32 (by exact rfl) (by repeat (first | exact .head _ | refine .tail _ ?_)) (by assumption) (by exact rfl))) rfl ?_
                  refine qq_gt (by exact rfl) (by exact rfl) (OpY.s (by first | exact y_load_all Try.underlying32 rfl Try.sizeOf32 (by exact rfl) (by repeat (first | exact .head _ | refine .tail _ ?_)) (by exact rfl) | exact y_load_2 Try.underlying32 rfl Try.sizeOf32 (by exact rfl) (by repeat (first | exact .head _ | refine .tail _ ?_)) (by exact rfl) (by exact rfl) | exact y_load_ca Try.underlying32 rfl Try.sizeOf32 (by exact rfl) (by repeat (first | exact .head _ | refine .tail _ ?_)) (by assumption) (by exact rfl))) rfl ?_
                  refine qq_gt (by exact rfl) (by exact rfl) (OpY.s (y_neqs (by kernel_rfl) (by exact rfl) (by exact rfl) (neq32 _ _ _ _))) rfl ?_
                  refine qq_gt (by exact rfl) (by exact rfl) (OpY.s (y_move (by exact rfl))) rfl ?_
                  refine qq_known (tt := 268) (b' := false) (by exact rfl) (by simp [hpe hg30_46]) ?_
                  refine qq_gt (by exact rfl) (by exact rfl) (OpY.s (by first | exact y_load_all Try.underlying32 rfl Try.sizeOf32 (by exact rfl) (by repeat (first | exact .head _ | refine .tail _ ?_)) (by exact rfl) | exact y_load_2 Try.underlying32 rfl Try.sizeOf32 (by exact rfl) (by repeat (first | exact .head _ | refine .tail _ ?_)) (by exact rfl) (by exact rfl) | exact y_load_ca Try.underlying32 rfl Try.sizeOf32 (by exact rfl) (by repeat (first | exact .head _ | refine .tail _ ?_)) (by assumption) (by exact rfl))) rfl ?_
                  refine qq_gt (by exact rfl) (by exact rfl) (OpY.s (by first | exact y_load_all Try.underlying32 rfl Try.sizeOf32 (by exact rfl) (by repeat (first | exact .head _ | refine .tail _ ?_)) (by exact rfl) | exact y_load_2 Try.underlying32 rfl Try.sizeOf32 (by exact rfl) (by repeat (first | exact .head _ | refine .tail _ ?_)) (by exact rfl) (by exact rfl) | exact y_load_ca Try.underlying32 rfl Try.sizeOf32 (by exact rfl) (by repeat (first | exact .head _ | refine .tail _ ?_)) (by assumption) (by exact rfl))) rfl ?_
                  refine qq_gt (by exact rfl) (by exact rfl) (OpY.s (y_neqs (by kernel_rfl) (by exact rfl) (by exact rfl) (neq32 _ _ _ _))) rfl ?_
                  refine qq_gt (by exact rfl) (by exact rfl) (OpY.s (y_pick_f (by exact rfl) (by exact rfl))) rfl ?_
                  refine qq_gt (by exact rfl) (by exact rfl) (OpY.s (y_pick_t (by exact rfl) (by exact rfl))) rfl ?_
                  refine qq_y (OpY.s (y_pick_f (by exact rfl) (by exact rfl))) rfl ?_
                  refine qq_nil ?_
                  refine sx_then ?_
                  refine sc_f (lk_bool rfl (by simp [hce hg30_46])) ?_
                  refine sc_skip ?_
                  refine sx_blk ?_
                  refine sx_then ?_
                  refine sc_region ?_
                  refine sq_y (OpY.s (y_add (by exact rfl) (by exact rfl) (by omega))) rfl ?_
                  refine sq_y (OpY.s (y_move (by exact rfl))) rfl ?_
                  refine sq_nil ?_
                  refine sx_round (k + 1) ?_ ?_ (by repeat (first | exact SubL.nil | refine SubL.cons (by first | exact rfl | exact lk_int rfl (by omega) | exact lk_eq rfl (by simp)) ?_)) (by repeat (first | exact Sel.nil | refine Sel.cons (by repeat (first | exact Rem.here | apply Rem.there)) ?_))
                  · omega
                  · omega
                ·
                  refine qq_gf (by exact rfl) (by exact rfl) (by exact rfl) rfl ?_
                  refine qq_gf (by exact rfl) (by exact rfl) (by exact rfl) rfl ?_
                  refine qq_gf (by exact rfl) (by exact rfl) (by exact rfl) rfl ?_
                  refine qq_gf (by exact rfl) (by exact rfl) (by exact rfl) rfl ?_
                  refine qq_gu (by exact rfl) (by exact rfl) rfl ?_
                  refine qq_gu (by exact rfl) (by exact rfl) rfl ?_
                  refine qq_gu (by exact rfl) (by exact rfl) rfl ?_
                  refine qq_gf (by exact rfl) (by exact rfl) (by exact rfl) rfl ?_
                  refine qq_gt (by exact rfl) (by exact rfl) (OpY.s (y_pick_f (by exact rfl) (by exact rfl))) rfl ?_
                  refine qq_y (OpY.s (y_pick_f (by exact rfl) (by exact rfl))) rfl ?_
                  refine qq_nil ?_
                  refine sx_then ?_
                  refine sc_f (by exact rfl) ?_
                  refine sc_skip ?_
                  refine sx_blk ?_
                  refine sx_then ?_
                  refine sc_region ?_
                  refine sq_y (OpY.s (y_add (by exact rfl) (by exact rfl) (by omega))) rfl ?_
                  refine sq_y (OpY.s (y_move (by exact rfl))) rfl ?_
                  refine sq_nil ?_
                  refine sx_round (k + 1) ?_ ?_ (by repeat (first | exact SubL.nil | refine SubL.cons (by first | exact rfl | exact lk_int rfl (by omega) | exact lk_eq rfl (by simp)) ?_)) (by repeat (first | exact Sel.nil | refine Sel.cons (by repeat (first | exact Rem.here | apply Rem.there)) ?_))
                  · omega
                  · omega
              ·
                refine sc_exit ?_
                refine sx_then_exit ?_
                refine sx_round_exit ?_
                refine sx_blk_hit ?_
                refine sx_then ?_
                refine sc_seq ?_
                refine sc_region ?_
                refine sq_y (y_call (first := []) (caps := []) (by exact rfl) Try.call14 EvL.nil (fun w1 _ => alive14 w1)) rfl ?_
                refine sq_y (OpY.s (y_assign (by exact rfl))) rfl ?_
                refine sq_nil ?_
                refine sx_then ?_
                refine sc_ret ?_
                refine sx_ret1 (.inl rfl) rfl Try.results9 (by exact rfl) ?_
                intro w' hw'
                exact ⟨rfl, hw'.below (by repeat (first | exact .head _ | refine .tail _ ?_))⟩
            ·
              refine sq_gf (by exact rfl) (by exact rfl) (by exact rfl) rfl ?_
              refine sq_gf (by exact rfl) (by exact rfl) (by exact rfl) rfl ?_
              refine sq_gf (by exact rfl) (by exact rfl) (by exact rfl) rfl ?_
              refine sq_gu (by exact rfl) (by exact rfl) rfl ?_
              refine sq_gu (by exact rfl) (by exact rfl) rfl ?_
              refine sq_gu (by exact rfl) (by exact rfl) rfl ?_
              refine sq_gu (by exact rfl) (by exact rfl) rfl ?_
              refine sq_gu (by exact rfl) (by exact rfl) rfl ?_
              refine sq_gf (by exact rfl) (by exact rfl) (by exact rfl) rfl ?_
              refine sq_gt (by exact rfl) (by exact rfl) (OpY.s (y_pick_f (by exact rfl) (by exact rfl))) rfl ?_
              refine sq_y (OpY.s (y_pick_f (by exact rfl) (by exact rfl))) rfl ?_
              refine sq_nil ?_
              refine sx_then ?_
              refine sc_f (by exact rfl) ?_
              refine sc_skip ?_
              refine sx_then ?_
              refine sc_seq ?_
              refine sc_region ?_
              refine sq_y (OpY.s (y_assign (by exact rfl))) rfl ?_
              refine sq_nil ?_
              refine sx_then ?_
              refine sc_seq ?_
              refine sc_seq ?_
              refine sc_region ?_
              refine sq_y (OpY.s (y_move (by exact rfl))) rfl ?_
              refine sq_y (OpY.s (y_len Try.underlying36 (by exact rfl))) rfl ?_
              refine sq_y (OpY.s (y_move (by exact rfl))) rfl ?_
              refine sq_nil ?_
              refine sx_then ?_
              refine sc_block ?_
              refine sc_loop (σ := Nat)
                (fun s => [(1, .slice al ls.length cl), (3, .int .i64 mz), (5, .pointer (some ⟨b5, 0, none⟩)), (7, .pointer (some ⟨b7, 0, none⟩)), (11, .slice zr1.1 (ranksL r ls mz).length zr1.2), (12, .int .i64 (openE r ls (minB mz))), (13, .int .i64 xs), (14, .int .i64 xc), (15, .int .i64 (openE r ls true)), (18, .slice zr3.1 (ranksL r (ls ++ [d]) mz).length zr3.2), (23, z2), (24, .func (.func 38) #[] #[]), (182, .int .i64 (ranksL r (ls ++ [d]) mz).length), (183, .int .i64 s)])
                (fun s => [.reg lr3 wr3, .own z2 57 4 (ls.length + 1) ((ls ++ [d]).flatMap wdRow), .reg lr1 wr1, .blk b7 (.cells (wdRow d).toArray 57 (0, 0)), .blk b5 (.cells (rcVal r a c).toArray 24 (0, 0)), .reg 0 w])
                (fun s => s ≤ (ranksL r (ls ++ [d]) mz).length)
                (fun s => (ranksL r (ls ++ [d]) mz).length - s)
                (0) ?_ (by repeat (first | exact SubL.nil | refine SubL.cons (by first | exact rfl | exact lk_int rfl (by omega) | exact lk_eq rfl (by simp)) ?_)) (by repeat (first | exact Sel.nil | refine Sel.cons (by repeat (first | exact Rem.here | apply Rem.there)) ?_)) ?_
              · exact Nat.zero_le _
              rintro k hk
              refine sc_seq ?_
              refine sc_region ?_
              refine sq_y (OpY.s (y_lss (by exact rfl) (by exact rfl))) rfl ?_
              refine sq_nil ?_
              refine sx_then ?_
              refine sc_seq ?_
              first | refine sc_if (by exact rfl) (fun hc5 => ?_) (fun hc5 => ?_) | refine sc_ifn (by exact rfl) (fun hc5 => ?_) (fun hc5 => ?_) | refine sc_cond (by exact rfl) (fun hc5 => ?_) (fun hc5 => ?_)
              ·
                have hk' : k < (ranksL r (ls ++ [d]) mz).length := by omega
                have hE3 : openE r (ls ++ [d]) (minB mz) = 0 := by
                  by_cases h : openE r (ls ++ [d]) (minB mz) = 0
                  · exact h
                  · unfold ranksL at hk'; rw [if_neg h] at hk'; simp at hk'
                have hmB := (openE_zero hE3).2.1
                obtain ⟨m, hm1⟩ := Int.eq_ofNat_of_zero_le (show 0 ≤ mz by simp only [minB, decide_eq_true_eq] at hmB; omega)
                subst hm1
                have hm : m ≤ 2000 := by simp only [minB, decide_eq_true_eq] at hmB; omega
                have hE1 := hEs hE3
                rw [hmB] at hE3 hE1
                have hR3 : ranksL r (ls ++ [d]) m = rankL (scoreL r (ls ++ [d]) fun x => wrk r x m) := by unfold ranksL; rw [hmB, if_pos hE3]; rfl
                have hR1 : ranksL r ls m = rankL (scoreL r ls fun x => wrk r x m) := by unfold ranksL; rw [hmB, if_pos hE1]; rfl
                have hk2 : k < r.teams.length := by rw [hR3] at hk'; simpa [rankL, scoreL] using hk'
                have hnums := rcB_nums (chk_zero (openE_zero hE3).1).1
                obtain ⟨x3, hx3⟩ : ∃ x, (ranksL r (ls ++ [d]) m)[k]? = some x := ⟨_, List.getElem?_eq_getElem hk'⟩
                have hkl : k < (ranksL r ls m).length := by rw [hR1]; simpa [rankL, scoreL] using hk2
                obtain ⟨x1, hx1⟩ : ∃ x, (ranksL r ls m)[k]? = some x := ⟨_, List.getElem?_eq_getElem hkl⟩
                have hs3 := (hr3.el k x3 hx3).1
                have hc3 := (hr3.el k x3 hx3).2
                have hs1 := (hr1.el k x1 hx1).1
                have hc1 := (hr1.el k x1 hx1).2
                have hrn := rank_narrow (r := r) (m := fun x => wrk r x m) hsub hk2
                rw [← hR3, ← hR1, getD_of hx3, getD_of hx1] at hrn
                have hpn := ptsP_narrow (r := r) hsub k (wrk r k m)
                have hcn := cntP_narrow (r := r) hsub k (wrk r k m)
                have hpe : ¬ (k : Int) = d.team → ptsP r (ls ++ [d]) k (wrk r k m) = ptsP r ls k (wrk r k m) := fun h => by unfold ptsP; rw [allW_snoc, if_neg (fun e => h e.symm)]
                have hce : ¬ (k : Int) = d.team → cntP r (ls ++ [d]) k (wrk r k m) = cntP r ls k (wrk r k m) := fun h => by unfold cntP; rw [allW_snoc, if_neg (fun e => h e.symm)]
                refine sc_skip ?_
                refine sx_then ?_
                refine sc_seq ?_
                refine sc_block ?_
                refine sc_seq ?_
                refine sc_region ?_
                refine sq_y (OpY.s (y_move (by exact rfl))) rfl ?_
                refine sq_y (OpY.s (y_assign (by exact rfl))) rfl ?_
                refine sq_nil ?_
                refine sx_then ?_
                refine sc_seq ?_
                refine sc_region ?_
                refine sq_y (OpY.s (by first | exact y_load_all Try.underlying24 rfl Try.sizeOf24 (by exact rfl) (by repeat (first | exact .head _ | refine .tail _ ?_)) (by exact rfl) | exact y_load_ca Try.underlying24 rfl Try.sizeOf24 (by exact rfl) (by repeat (first | exact .head _ | refine .tail _ ?_)) (by assumption) (by exact rfl))) rfl ?_
                refine sq_y (OpY.s (y_move (by exact rfl))) rfl ?_
                refine sq_y (OpY.s (y_move (by exact rfl))) rfl ?_
                refine sq_y (OpY.s (y_move (by exact rfl))) rfl ?_
                refine sq_y (y_call (first := []) (caps := []) (by exact rfl) Try.call19 (EvL.cons (by exact rfl) (EvL.cons (by exact rfl) (EvL.cons (by exact rfl) (EvL.cons (by exact rfl) EvL.nil)))) (fun w1 hw1 => points19z w1 r a c f cf al cl ls _ rfl k m hk2 hm hE1 (hT.at hw1 (by repeat (first | exact .head _ | refine .tail _ ?_))) (hl.at hw1 (by repeat (first | exact .head _ | refine .tail _ ?_))) i1 i2 i3)) rfl ?_
                refine sq_y (OpY.s (y_move (by exact rfl))) rfl ?_
                refine sq_y (OpY.s (y_extract (by exact rfl) (by exact rfl))) rfl ?_
                refine sq_y (OpY.s (y_extract (by exact rfl) (by exact rfl))) rfl ?_
                refine sq_alloc Try.zeroValue32 rfl (fun b26 => ?_)
                refine sq_store_all Try.sizeOf32 (by exact rfl) (by exact rfl) rfl (by repeat (first | exact Rem.here | apply Rem.there)) rfl rfl ?_
                refine sq_y (OpY.s (y_assign (by exact rfl))) rfl ?_
                refine sq_nil ?_
                refine sx_then ?_
                refine sc_seq ?_
                refine sc_region ?_
                refine sq_y (OpY.s (by first | exact y_load_all Try.underlying24 rfl Try.sizeOf24 (by exact rfl) (by repeat (first | exact .head _ | refine .tail _ ?_)) (by exact rfl) | exact y_load_ca Try.underlying24 rfl Try.sizeOf24 (by exact rfl) (by repeat (first | exact .head _ | refine .tail _ ?_)) (by assumption) (by exact rfl))) rfl ?_
                refine sq_y (OpY.s (y_move (by exact rfl))) rfl ?_
                refine sq_y (OpY.s (y_move (by exact rfl))) rfl ?_
                refine sq_y (OpY.s (y_move (by exact rfl))) rfl ?_
                refine sq_y (y_call (first := []) (caps := []) (by exact rfl) Try.call19 (EvL.cons (by exact rfl) (EvL.cons (by exact rfl) (EvL.cons (by exact rfl) (EvL.cons (by exact rfl) EvL.nil)))) (fun w1 hw1 => points19v w1 r a c f cf z2 (ls ++ [d]) k m hk2 hm hE3 (hT.at hw1 (by repeat (first | exact .head _ | refine .tail _ ?_))) (own_wv hw1 (by repeat (first | exact .head _ | refine .tail _ ?_)) (by simp) (by simp; omega)) i1 i2 i3)) rfl ?_
                refine sq_y (OpY.s (y_move (by exact rfl))) rfl ?_
                refine sq_y (OpY.s (y_extract (by exact rfl) (by exact rfl))) rfl ?_
                refine sq_y (OpY.s (y_extract (by exact rfl) (by exact rfl))) rfl ?_
                refine sq_alloc Try.zeroValue32 rfl (fun b28 => ?_)
                refine sq_store_all Try.sizeOf32 (by exact rfl) (by exact rfl) rfl (by repeat (first | exact Rem.here | apply Rem.there)) rfl rfl ?_
                refine sq_y (OpY.s (y_assign (by exact rfl))) rfl ?_
                refine sq_nil ?_
                refine sx_then ?_
                refine sc_seq ?_
                refine sc_region ?_
                refine sq_y (OpY.s (by first | exact y_load_all Try.underlying24 rfl Try.sizeOf24 (by exact rfl) (by repeat (first | exact .head _ | refine .tail _ ?_)) (by exact rfl) | exact y_load_ca Try.underlying24 rfl Try.sizeOf24 (by exact rfl) (by repeat (first | exact .head _ | refine .tail _ ?_)) (by assumption) (by exact rfl))) rfl ?_
                refine sq_y (OpY.s (y_move (by exact rfl))) rfl ?_
                refine sq_y (OpY.s (y_move (by exact rfl))) rfl ?_
                refine sq_y (OpY.s (y_move (by exact rfl))) rfl ?_
                refine sq_y (y_call (first := []) (caps := []) (by exact rfl) Try.call17 (EvL.cons (by exact rfl) (EvL.cons (by exact rfl) (EvL.cons (by exact rfl) (EvL.cons (by exact rfl) EvL.nil)))) (fun w1 hw1 => count17z w1 r a c f cf al cl ls _ rfl k m hk2 hm hE1 (hT.at hw1 (by repeat (first | exact .head _ | refine .tail _ ?_))) (hl.at hw1 (by repeat (first | exact .head _ | refine .tail _ ?_))) i1 i2 i3)) rfl ?_
                refine sq_y (OpY.s (y_move (by exact rfl))) rfl ?_
                refine sq_y (OpY.s (y_extract (by exact rfl) (by exact rfl))) rfl ?_
                refine sq_y (OpY.s (y_extract (by exact rfl) (by exact rfl))) rfl ?_
                refine sq_alloc Try.zeroValue32 rfl (fun b30 => ?_)
                refine sq_store_all Try.sizeOf32 (by exact rfl) (by exact rfl) rfl (by repeat (first | exact Rem.here | apply Rem.there)) rfl rfl ?_
                refine sq_y (OpY.s (y_assign (by exact rfl))) rfl ?_
                refine sq_nil ?_
                refine sx_then ?_
                refine sc_seq ?_
                refine sc_region ?_
                refine sq_y (OpY.s (by first | exact y_load_all Try.underlying24 rfl Try.sizeOf24 (by exact rfl) (by repeat (first | exact .head _ | refine .tail _ ?_)) (by exact rfl) | exact y_load_ca Try.underlying24 rfl Try.sizeOf24 (by exact rfl) (by repeat (first | exact .head _ | refine .tail _ ?_)) (by assumption) (by exact rfl))) rfl ?_
                refine sq_y (OpY.s (y_move (by exact rfl))) rfl ?_
                refine sq_y (OpY.s (y_move (by exact rfl))) rfl ?_
                refine sq_y (OpY.s (y_move (by exact rfl))) rfl ?_
                refine sq_y (y_call (first := []) (caps := []) (by exact rfl) Try.call17 (EvL.cons (by exact rfl) (EvL.cons (by exact rfl) (EvL.cons (by exact rfl) (EvL.cons (by exact rfl) EvL.nil)))) (fun w1 hw1 => count17v w1 r a c f cf z2 (ls ++ [d]) k m hk2 hm hE3 (hT.at hw1 (by repeat (first | exact .head _ | refine .tail _ ?_))) (own_wv hw1 (by repeat (first | exact .head _ | refine .tail _ ?_)) (by simp) (by simp; omega)) i1 i2 i3)) rfl ?_
                refine sq_y (OpY.s (y_move (by exact rfl))) rfl ?_
                refine sq_y (OpY.s (y_extract (by exact rfl) (by exact rfl))) rfl ?_
                refine sq_y (OpY.s (y_extract (by exact rfl) (by exact rfl))) rfl ?_
                refine sq_alloc Try.zeroValue32 rfl (fun b32 => ?_)
                refine sq_store_all Try.sizeOf32 (by exact rfl) (by exact rfl) rfl (by repeat (first | exact Rem.here | apply Rem.there)) rfl rfl ?_
                refine sq_y (OpY.s (y_assign (by exact rfl))) rfl ?_
                refine sq_nil ?_
                refine sx_then ?_
                refine sc_seq ?_
                refine sc_draw rfl (by kernel_rfl) (by kernel_rfl) ?_
                refine qq_y (OpY.s (y_move (by exact rfl))) rfl ?_
                refine qq_y (OpY.s (y_neq (by exact rfl) (by exact rfl))) rfl ?_
                refine qq_y (OpY.s (y_move (by exact rfl))) rfl ?_
                refine qq_known (tt := 220) (b' := false) (by exact rfl) (by simp) ?_
                refine qq_gt (by exact rfl) (by exact rfl) (OpY.s (y_move (by exact rfl))) rfl ?_
                refine qq_gt (by exact rfl) (by exact rfl) (OpY.s (y_neq (by exact rfl) (by exact rfl))) rfl ?_
                refine qq_y (OpY.s (y_pick_f (by exact rfl) (by exact rfl))) rfl ?_
                refine qq_y (OpY.s (y_move (by exact rfl))) rfl ?_
                refine qq_known (tt := 224) (b' := false) (by exact rfl) (by simp) ?_
                refine qq_gt (by exact rfl) (by exact rfl) (OpY.s (y_move (by exact rfl))) rfl ?_
                refine qq_gt (by exact rfl) (by exact rfl) (OpY.s (y_neq (by exact rfl) (by exact rfl))) rfl ?_
                refine qq_y (OpY.s (y_pick_f (by exact rfl) (by exact rfl))) rfl ?_
                refine qq_y (OpY.s (y_move (by exact rfl))) rfl ?_
                refine qq_known (tt := 228) (b' := false) (by exact rfl) (by simp) ?_
                refine qq_gt (by exact rfl) (by exact rfl) (OpY.s (y_move (by exact rfl))) rfl ?_
                refine qq_gt (by exact rfl) (by exact rfl) (OpY.s (y_neq (by exact rfl) (by exact rfl))) rfl ?_
                refine qq_y (OpY.s (y_pick_f (by exact rfl) (by exact rfl))) rfl ?_
                refine qq_y (OpY.s (y_move (by exact rfl))) rfl ?_
                refine qq_known (tt := 232) (b' := false) (by exact rfl) (by simp) ?_
                refine qq_gt (by exact rfl) (by exact rfl) (OpY.s (y_move (by exact rfl))) rfl ?_
                refine qq_gt (by exact rfl) (by exact rfl) (OpY.s (y_move (by exact rfl))) rfl ?_
                refine qq_gt (by exact rfl) (by exact rfl) (OpY.s (y_move (by exact rfl))) rfl ?_
                refine qq_gt (by exact rfl) (by exact rfl) (OpY.s (by first | exact y_ia_blk Try.underlying36 Try.sizeOf32 (by exact rfl) (by exact rfl) (by omega) | exact y_ia_el Try.underlying36 Try.sizeOf32 (by exact rfl) (by exact rfl) (by omega) (by first | assumption | simp))) rfl ?_
                refine qq_gt (by exact rfl) (by exact rfl) (OpY.s (by first | exact y_load_ca Try.underlying32 rfl Try.sizeOf32 (by exact rfl) (by repeat (first | exact .head _ | refine .tail _ ?_)) hc3 rfl | exact y_load_all Try.underlying32 rfl Try.sizeOf32 (by exact rfl) (by repeat (first | exact .head _ | refine .tail _ ?_)) (by exact rfl) | exact y_load_2 Try.underlying32 rfl Try.sizeOf32 (by exact rfl) (by repeat (first | exact .head _ | refine .tail _ ?_)) (by exact rfl) (by exact rfl) | exact y_load_ca Try.underlying32 rfl Try.sizeOf32 (by exact rfl) (by repeat (first | exact .head _ | refine .tail _ ?_)) (by assumption) (by exact rfl))) rfl ?_
                refine qq_gt (by exact rfl) (by exact rfl) (OpY.s (y_move (by exact rfl))) rfl ?_
                refine qq_gt (by exact rfl) (by exact rfl) (OpY.s (y_move (by exact rfl))) rfl ?_
                refine qq_gt (by exact rfl) (by exact rfl) (OpY.s (by first | exact y_ia_blk Try.underlying36 Try.sizeOf32 (by exact rfl) (by exact rfl) (by omega) | exact y_ia_el Try.underlying36 Try.sizeOf32 (by exact rfl) (by exact rfl) (by omega) (by first | assumption | simp))) rfl ?_
                refine qq_gt (by exact rfl) (by exact rfl) (OpY.s (by first | exact y_load_ca Try.underlying32 rfl Try.sizeOf32 (by exact rfl) (by repeat (first | exact .head _ | refine .tail _ ?_)) hc1 rfl | exact y_load_all Try.underlying32 rfl Try.sizeOf32 (by exact rfl) (by repeat (first | exact .head _ | refine .tail _ ?_)) (by exact rfl) | exact y_load_2 Try.underlying32 rfl Try.sizeOf32 (by exact rfl) (by repeat (first | exact .head _ | refine .tail _ ?_)) (by exact rfl) (by exact rfl) | exact y_load_ca Try.underlying32 rfl Try.sizeOf32 (by exact rfl) (by repeat (first | exact .head _ | refine .tail _ ?_)) (by assumption) (by exact rfl))) rfl ?_
                refine qq_gt (by exact rfl) (by exact rfl) (y_call (first := []) (caps := []) (by exact rfl) Try.call38 (EvL.cons (by exact rfl) (EvL.cons (by exact rfl) EvL.nil)) (fun w1 _ => in38 w1 (x3) (x1))) rfl ?_
                refine qq_gt (by exact rfl) (by exact rfl) (OpY.s (y_not (by exact rfl))) rfl ?_
                refine qq_y (OpY.s (y_pick_f (by exact rfl) (by exact rfl))) rfl ?_
                refine qq_y (OpY.s (y_move (by exact rfl))) rfl ?_
                refine qq_known (tt := 245) (b' := false) (by exact rfl) (by simp [hrn.1, hrn.2]) ?_
                refine qq_gt (by exact rfl) (by exact rfl) (OpY.s (y_move (by exact rfl))) rfl ?_
                refine qq_gt (by exact rfl) (by exact rfl) (OpY.s (by first | exact y_load_all Try.underlying32 rfl Try.sizeOf32 (by exact rfl) (by repeat (first | exact .head _ | refine .tail _ ?_)) (by exact rfl) | exact y_load_2 Try.underlying32 rfl Try.sizeOf32 (by exact rfl) (by repeat (first | exact .head _ | refine .tail _ ?_)) (by exact rfl) (by exact rfl) | exact y_load_ca Try.underlying32 rfl Try.sizeOf32 (by exact rfl) (by repeat (first | exact .head _ | refine .tail _ ?_)) (by assumption) (by exact rfl))) rfl ?_
                refine qq_gt (by exact rfl) (by exact rfl) (OpY.s (by first | exact y_load_all Try.underlying32 rfl Try.sizeOf32 (by exact rfl) (by repeat (first | exact .head _ | refine .tail _ ?_)) (by exact rfl) | exact y_load_2 Try.underlying32 rfl Try.sizeOf32 (by exact rfl) (by repeat (first | exact .head _ | refine .tail _ ?_)) (by exact rfl) (by exact rfl) | exact y_load_ca Try.underlying32 rfl Try.sizeOf32 (by exact rfl) (by repeat (first | exact .head _ | refine .tail _ ?_)) (by assumption) (by exact rfl))) rfl ?_
                refine qq_gt (by exact rfl) (by exact rfl) (y_call (first := []) (caps := []) (by exact rfl) Try.call38 (EvL.cons (by exact rfl) (EvL.cons (by exact rfl) EvL.nil)) (fun w1 _ => in38 w1 (ptsP r (ls ++ [d]) k (wrk r k m)) (ptsP r ls k (wrk r k m)))) rfl ?_
                refine qq_gt (by exact rfl) (by exact rfl) (OpY.s (y_not (by exact rfl))) rfl ?_
                refine qq_y (OpY.s (y_pick_f (by exact rfl) (by exact rfl))) rfl ?_
                refine qq_y (OpY.s (y_move (by exact rfl))) rfl ?_
                refine qq_known (tt := 252) (b' := false) (by exact rfl) (by simp [hpn.1, hpn.2]) ?_
                refine qq_gt (by exact rfl) (by exact rfl) (OpY.s (y_move (by exact rfl))) rfl ?_
                refine qq_gt (by exact rfl) (by exact rfl) (OpY.s (by first | exact y_load_all Try.underlying32 rfl Try.sizeOf32 (by exact rfl) (by repeat (first | exact .head _ | refine .tail _ ?_)) (by exact rfl) | exact y_load_2 Try.underlying32 rfl Try.sizeOf32 (by exact rfl) (by repeat (first | exact .head _ | refine .tail _ ?_)) (by exact rfl) (by exact rfl) | exact y_load_ca Try.underlying32 rfl Try.sizeOf32 (by exact rfl) (by repeat (first | exact .head _ | refine .tail _ ?_)) (by assumption) (by exact rfl))) rfl ?_
                refine qq_gt (by exact rfl) (by exact rfl) (OpY.s (by first | exact y_load_all Try.underlying32 rfl Try.sizeOf32 (by exact rfl) (by repeat (first | exact .head _ | refine .tail _ ?_)) (by exact rfl) | exact y_load_2 Try.underlying32 rfl Try.sizeOf32 (by exact rfl) (by repeat (first | exact .head _ | refine .tail _ ?_)) (by exact rfl) (by exact rfl) | exact y_load_ca Try.underlying32 rfl Try.sizeOf32 (by exact rfl) (by repeat (first | exact .head _ | refine .tail _ ?_)) (by assumption) (by exact rfl))) rfl ?_
                refine qq_gt (by exact rfl) (by exact rfl) (y_call (first := []) (caps := []) (by exact rfl) Try.call38 (EvL.cons (by exact rfl) (EvL.cons (by exact rfl) EvL.nil)) (fun w1 _ => in38 w1 (cntP r (ls ++ [d]) k (wrk r k m)) (cntP r ls k (wrk r k m)))) rfl ?_
                refine qq_gt (by exact rfl) (by exact rfl) (OpY.s (y_not (by exact rfl))) rfl ?_
                refine qq_y (OpY.s (y_pick_f (by exact rfl) (by exact rfl))) rfl ?_
                refine qq_y (OpY.s (y_move (by exact rfl))) rfl ?_
                refine qq_known (tt := 259) (b' := false) (by exact rfl) (by simp [hcn.1, hcn.2]) ?_
                refine qq_gt (by exact rfl) (by exact rfl) (OpY.s (y_move (by exact rfl))) rfl ?_
                refine qq_gt (by exact rfl) (by exact rfl) (OpY.s (by first | exact y_fab Try.underlying57 (by exact rfl) (by exact Try.sizeOf3) (by exact rfl) rfl | exact y_fa Try.underlying57 (by exact rfl) (by exact Try.sizeOf3) (by exact rfl) rfl)) rfl ?_
                refine qq_gt (by exact rfl) (by exact rfl) (OpY.s (by first | exact y_load_blk Try.underlying3 rfl (by exact rfl) (by repeat (first | exact .head _ | refine .tail _ ?_)) (by exact rfl) | exact y_load_caj Try.underlying3 rfl (by exact rfl) (by repeat (first | exact .head _ | refine .tail _ ?_)) (by assumption) (by exact rfl) | exact y_load_ca0 Try.underlying3 rfl (by exact rfl) (by repeat (first | exact .head _ | refine .tail _ ?_)) (by assumption) (by exact rfl))) rfl ?_
                refine qq_gt (by exact rfl) (by exact rfl) (OpY.s (y_neq (by exact rfl) (by exact rfl))) rfl ?_
                refine qq_gt (by exact rfl) (by exact rfl) (OpY.s (y_move (by exact rfl))) rfl ?_
                first | refine qq_splitd (tt := 264) (by exact rfl) (fun hg30_46 => ?_) (fun hg30_46 => ?_) | refine qq_splitn (tt := 264) (by exact rfl) (fun hg30_46 => ?_) (fun hg30_46 => ?_) | refine qq_split (tt := 264) (by exact rfl) (fun hg30_46 => ?_) (fun hg30_46 => ?_)
                ·
                  refine qq_gt (by exact rfl) (by exact rfl) (OpY.s (by first | exact y_load_all Try.underlying32 rfl Try.sizeOf32 (by exact rfl) (by repeat (first | exact .head _ | refine .tail _ ?_)) (by exact rfl) | exact y_load_2 Try.underlying32 rfl Try.sizeOf32 (by exact rfl) (by repeat (first | exact .head _ | refine .tail _ ?_)) (by exact rfl) (by exact rfl) | exact y_load_ca Try.underlying32 rfl Try.sizeOf32 (by exact rfl) (by repeat (first | exact .head _ | refine .tail _ ?_)) (by assumption) (by exact rfl))) rfl ?_
                  refine qq_gt (by exact rfl) (by exact rfl) (OpY.s (by first | exact y_load_all Try.underlying32 rfl Try.sizeOf32 (by exact rfl) (by repeat (first | exact .head _ | refine .tail _ ?_)) (by exact rfl) | exact y_load_2 Try.underlying32 rfl Try.sizeOf32 (by exact rfl) (by repeat (first | exact .head _ | refine .tail _ ?_)) (by exact rfl) (by exact rfl) | exact y_load_ca Try.underlying32 rfl Try.sizeOf32 (by exact rfl) (by repeat (first | exact .head _ | refine .tail _ ?_)) (by assumption) (by exact rfl))) rfl ?_
                  refine qq_gt (by exact rfl) (by exact rfl) (OpY.s (y_neqs (by kernel_rfl) (by exact rfl) (by exact rfl) (neq32 _ _ _ _))) rfl ?_
                  refine qq_gt (by exact rfl) (by exact rfl) (OpY.s (y_move (by exact rfl))) rfl ?_
                  refine qq_known (tt := 268) (b' := false) (by exact rfl) (by simp [hpe hg30_46]) ?_
                  refine qq_gt (by exact rfl) (by exact rfl) (OpY.s (by first | exact y_load_all Try.underlying32 rfl Try.sizeOf32 (by exact rfl) (by repeat (first | exact .head _ | refine .tail _ ?_)) (by exact rfl) | exact y_load_2 Try.underlying32 rfl Try.sizeOf32 (by exact rfl) (by repeat (first | exact .head _ | refine .tail _ ?_)) (by exact rfl) (by exact rfl) | exact y_load_ca Try.underlying32 rfl Try.sizeOf32 (by exact rfl) (by repeat (first | exact .head _ | refine .tail _ ?_)) (by assumption) (by exact rfl))) rfl ?_
                  refine qq_gt (by exact rfl) (by exact rfl) (OpY.s (by first | exact y_load_all Try.underlying32 rfl Try.sizeOf32 (by exact rfl) (by repeat (first | exact .head _ | refine .tail _ ?_)) (by exact rfl) | exact y_load_2 Try.underlying32 rfl Try.sizeOf32 (by exact rfl) (by repeat (first | exact .head _ | refine .tail _ ?_)) (by exact rfl) (by exact rfl) | exact y_load_ca Try.underlying32 rfl Try.sizeOf32 (by exact rfl) (by repeat (first | exact .head _ | refine .tail _ ?_)) (by assumption) (by exact rfl))) rfl ?_
                  refine qq_gt (by exact rfl) (by exact rfl) (OpY.s (y_neqs (by kernel_rfl) (by exact rfl) (by exact rfl) (neq32 _ _ _ _))) rfl ?_
                  refine qq_gt (by exact rfl) (by exact rfl) (OpY.s (y_pick_f (by exact rfl) (by exact rfl))) rfl ?_
                  refine qq_gt (by exact rfl) (by exact rfl) (OpY.s (y_pick_t (by exact rfl) (by exact rfl))) rfl ?_
                  refine qq_y (OpY.s (y_pick_f (by exact rfl) (by exact rfl))) rfl ?_
                  refine qq_nil ?_
                  refine sx_then ?_
                  refine sc_f (lk_bool rfl (by simp [hce hg30_46])) ?_
                  refine sc_skip ?_
                  refine sx_blk ?_
                  refine sx_then ?_
                  refine sc_region ?_
                  refine sq_y (OpY.s (y_add (by exact rfl) (by exact rfl) (by omega))) rfl ?_
                  refine sq_y (OpY.s (y_move (by exact rfl))) rfl ?_
                  refine sq_nil ?_
                  refine sx_round (k + 1) ?_ ?_ (by repeat (first | exact SubL.nil | refine SubL.cons (by first | exact rfl | exact lk_int rfl (by omega) | exact lk_eq rfl (by simp)) ?_)) (by repeat (first | exact Sel.nil | refine Sel.cons (by repeat (first | exact Rem.here | apply Rem.there)) ?_))
                  · omega
                  · omega
                ·
                  refine qq_gf (by exact rfl) (by exact rfl) (by exact rfl) rfl ?_
                  refine qq_gf (by exact rfl) (by exact rfl) (by exact rfl) rfl ?_
                  refine qq_gf (by exact rfl) (by exact rfl) (by exact rfl) rfl ?_
                  refine qq_gf (by exact rfl) (by exact rfl) (by exact rfl) rfl ?_
                  refine qq_gu (by exact rfl) (by exact rfl) rfl ?_
                  refine qq_gu (by exact rfl) (by exact rfl) rfl ?_
                  refine qq_gu (by exact rfl) (by exact rfl) rfl ?_
                  refine qq_gf (by exact rfl) (by exact rfl) (by exact rfl) rfl ?_
                  refine qq_gt (by exact rfl) (by exact rfl) (OpY.s (y_pick_f (by exact rfl) (by exact rfl))) rfl ?_
                  refine qq_y (OpY.s (y_pick_f (by exact rfl) (by exact rfl))) rfl ?_
                  refine qq_nil ?_
                  refine sx_then ?_
                  refine sc_f (by exact rfl) ?_
                  refine sc_skip ?_
                  refine sx_blk ?_
                  refine sx_then ?_
                  refine sc_region ?_
                  refine sq_y (OpY.s (y_add (by exact rfl) (by exact rfl) (by omega))) rfl ?_
                  refine sq_y (OpY.s (y_move (by exact rfl))) rfl ?_
                  refine sq_nil ?_
                  refine sx_round (k + 1) ?_ ?_ (by repeat (first | exact SubL.nil | refine SubL.cons (by first | exact rfl | exact lk_int rfl (by omega) | exact lk_eq rfl (by simp)) ?_)) (by repeat (first | exact Sel.nil | refine Sel.cons (by repeat (first | exact Rem.here | apply Rem.there)) ?_))
                  · omega
                  · omega
              ·
                refine sc_exit ?_
                refine sx_then_exit ?_
                refine sx_round_exit ?_
                refine sx_blk_hit ?_
                refine sx_then ?_
                refine sc_seq ?_
                refine sc_region ?_
                refine sq_y (y_call (first := []) (caps := []) (by exact rfl) Try.call14 EvL.nil (fun w1 _ => alive14 w1)) rfl ?_
                refine sq_y (OpY.s (y_assign (by exact rfl))) rfl ?_
                refine sq_nil ?_
                refine sx_then ?_
                refine sc_ret ?_
                refine sx_ret1 (.inl rfl) rfl Try.results9 (by exact rfl) ?_
                intro w' hw'
                exact ⟨rfl, hw'.below (by repeat (first | exact .head _ | refine .tail _ ?_))⟩
          ·
            refine sq_gf (by exact rfl) (by exact rfl) (by exact rfl) rfl ?_
            refine sq_gf (by exact rfl) (by exact rfl) (by exact rfl) rfl ?_
            refine sq_gf (by exact rfl) (by exact rfl) (by exact rfl) rfl ?_
            refine sq_gu (by exact rfl) (by exact rfl) rfl ?_
            refine sq_gu (by exact rfl) (by exact rfl) rfl ?_
            refine sq_gu (by exact rfl) (by exact rfl) rfl ?_
            refine sq_gu (by exact rfl) (by exact rfl) rfl ?_
            refine sq_gf (by exact rfl) (by exact rfl) (by exact rfl) rfl ?_
            refine sq_gf (by exact rfl) (by exact rfl) (by exact rfl) rfl ?_
            refine sq_gu (by exact rfl) (by exact rfl) rfl ?_
            refine sq_gu (by exact rfl) (by exact rfl) rfl ?_
            refine sq_gu (by exact rfl) (by exact rfl) rfl ?_
            refine sq_gu (by exact rfl) (by exact rfl) rfl ?_
            refine sq_gf (by exact rfl) (by exact rfl) (by exact rfl) rfl ?_
            refine sq_y (OpY.s (y_pick_f (by exact rfl) (by exact rfl))) rfl ?_
            refine sq_y (OpY.s (y_move (by exact rfl))) rfl ?_
            refine sq_gt (by exact rfl) (by exact rfl) (OpY.s (y_move (by exact rfl))) rfl ?_
            refine sq_gt (by exact rfl) (by exact rfl) (OpY.s (y_eql (by exact rfl) (by exact rfl))) rfl ?_
            refine sq_gt (by exact rfl) (by exact rfl) (OpY.s (y_move (by exact rfl))) rfl ?_
            first | refine sq_splitd (tt := 169) (by exact rfl) (fun hg20_21 => ?_) (fun hg20_21 => ?_) | refine sq_splitn (tt := 169) (by exact rfl) (fun hg20_21 => ?_) (fun hg20_21 => ?_) | refine sq_split (tt := 169) (by exact rfl) (fun hg20_21 => ?_) (fun hg20_21 => ?_)
            ·
              refine sq_gt (by exact rfl) (by exact rfl) (OpY.s (y_move (by exact rfl))) rfl ?_
              refine sq_gt (by exact rfl) (by exact rfl) (OpY.s (y_neq (by exact rfl) (by exact rfl))) rfl ?_
              refine sq_gt (by exact rfl) (by exact rfl) (OpY.s (y_move (by exact rfl))) rfl ?_
              refine sq_known (tt := 172) (b' := false) (by exact rfl) (by simp [hEs hg20_21]) ?_
              refine sq_gt (by exact rfl) (by exact rfl) (OpY.s (y_move (by exact rfl))) rfl ?_
              refine sq_gt (by exact rfl) (by exact rfl) (OpY.s (y_len Try.underlying36 (by exact rfl))) rfl ?_
              refine sq_gt (by exact rfl) (by exact rfl) (OpY.s (y_move (by exact rfl))) rfl ?_
              refine sq_gt (by exact rfl) (by exact rfl) (OpY.s (y_len Try.underlying36 (by exact rfl))) rfl ?_
              refine sq_gt (by exact rfl) (by exact rfl) (OpY.s (y_neq (by exact rfl) (by exact rfl))) rfl ?_
              refine sq_gt (by exact rfl) (by exact rfl) (OpY.s (y_pick_f (by exact rfl) (by exact rfl))) rfl ?_
              refine sq_gt (by exact rfl) (by exact rfl) (OpY.s (y_pick_t (by exact rfl) (by exact rfl))) rfl ?_
              refine sq_y (OpY.s (y_pick_f (by exact rfl) (by exact rfl))) rfl ?_
              refine sq_nil ?_
              refine sx_then ?_
              refine sc_f (lk_bool rfl (by first | rfl | simp [ranksL, hg20_21, hEs hg20_21, rankL, scoreL])) ?_
              refine sc_skip ?_
              refine sx_then ?_
              refine sc_seq ?_
              refine sc_region ?_
              refine sq_y (OpY.s (y_assign (by exact rfl))) rfl ?_
              refine sq_nil ?_
              refine sx_then ?_
              refine sc_seq ?_
              refine sc_seq ?_
              refine sc_region ?_
              refine sq_y (OpY.s (y_move (by exact rfl))) rfl ?_
              refine sq_y (OpY.s (y_len Try.underlying36 (by exact rfl))) rfl ?_
              refine sq_y (OpY.s (y_move (by exact rfl))) rfl ?_
              refine sq_nil ?_
              refine sx_then ?_
              refine sc_block ?_
              refine sc_loop (σ := Nat)
                (fun s => [(1, .slice al ls.length cl), (3, .int .i64 mz), (5, .pointer (some ⟨b5, 0, none⟩)), (7, .pointer (some ⟨b7, 0, none⟩)), (11, .slice zr1.1 (ranksL r ls mz).length zr1.2), (12, .int .i64 (openE r ls (minB mz))), (13, .int .i64 xs), (14, .int .i64 xc), (15, .int .i64 (openE r ls true)), (18, .slice zr3.1 (ranksL r (ls ++ [d]) mz).length zr3.2), (23, z2), (24, .func (.func 38) #[] #[]), (182, .int .i64 (ranksL r (ls ++ [d]) mz).length), (183, .int .i64 s)])
                (fun s => [.reg lr3 wr3, .own z2 57 4 (ls.length + 1) ((ls ++ [d]).flatMap wdRow), .reg lr1 wr1, .blk b7 (.cells (wdRow d).toArray 57 (0, 0)), .blk b5 (.cells (rcVal r a c).toArray 24 (0, 0)), .reg 0 w])
                (fun s => s ≤ (ranksL r (ls ++ [d]) mz).length)
                (fun s => (ranksL r (ls ++ [d]) mz).length - s)
                (0) ?_ (by repeat (first | exact SubL.nil | refine SubL.cons (by first | exact rfl | exact lk_int rfl (by omega) | exact lk_eq rfl (by simp)) ?_)) (by repeat (first | exact Sel.nil | refine Sel.cons (by repeat (first | exact Rem.here | apply Rem.there)) ?_)) ?_
              · exact Nat.zero_le _
              rintro k hk
              refine sc_seq ?_
              refine sc_region ?_
              refine sq_y (OpY.s (y_lss (by exact rfl) (by exact rfl))) rfl ?_
              refine sq_nil ?_
              refine sx_then ?_
              refine sc_seq ?_
              first | refine sc_if (by exact rfl) (fun hc5 => ?_) (fun hc5 => ?_) | refine sc_ifn (by exact rfl) (fun hc5 => ?_) (fun hc5 => ?_) | refine sc_cond (by exact rfl) (fun hc5 => ?_) (fun hc5 => ?_)
              ·
                have hk' : k < (ranksL r (ls ++ [d]) mz).length := by omega
                have hE3 : openE r (ls ++ [d]) (minB mz) = 0 := by
                  by_cases h : openE r (ls ++ [d]) (minB mz) = 0
                  · exact h
                  · unfold ranksL at hk'; rw [if_neg h] at hk'; simp at hk'
                have hmB := (openE_zero hE3).2.1
                obtain ⟨m, hm1⟩ := Int.eq_ofNat_of_zero_le (show 0 ≤ mz by simp only [minB, decide_eq_true_eq] at hmB; omega)
                subst hm1
                have hm : m ≤ 2000 := by simp only [minB, decide_eq_true_eq] at hmB; omega
                have hE1 := hEs hE3
                rw [hmB] at hE3 hE1
                have hR3 : ranksL r (ls ++ [d]) m = rankL (scoreL r (ls ++ [d]) fun x => wrk r x m) := by unfold ranksL; rw [hmB, if_pos hE3]; rfl
                have hR1 : ranksL r ls m = rankL (scoreL r ls fun x => wrk r x m) := by unfold ranksL; rw [hmB, if_pos hE1]; rfl
                have hk2 : k < r.teams.length := by rw [hR3] at hk'; simpa [rankL, scoreL] using hk'
                have hnums := rcB_nums (chk_zero (openE_zero hE3).1).1
                obtain ⟨x3, hx3⟩ : ∃ x, (ranksL r (ls ++ [d]) m)[k]? = some x := ⟨_, List.getElem?_eq_getElem hk'⟩
                have hkl : k < (ranksL r ls m).length := by rw [hR1]; simpa [rankL, scoreL] using hk2
                obtain ⟨x1, hx1⟩ : ∃ x, (ranksL r ls m)[k]? = some x := ⟨_, List.getElem?_eq_getElem hkl⟩
                have hs3 := (hr3.el k x3 hx3).1
                have hc3 := (hr3.el k x3 hx3).2
                have hs1 := (hr1.el k x1 hx1).1
                have hc1 := (hr1.el k x1 hx1).2
                have hrn := rank_narrow (r := r) (m := fun x => wrk r x m) hsub hk2
                rw [← hR3, ← hR1, getD_of hx3, getD_of hx1] at hrn
                have hpn := ptsP_narrow (r := r) hsub k (wrk r k m)
                have hcn := cntP_narrow (r := r) hsub k (wrk r k m)
                have hpe : ¬ (k : Int) = d.team → ptsP r (ls ++ [d]) k (wrk r k m) = ptsP r ls k (wrk r k m) := fun h => by unfold ptsP; rw [allW_snoc, if_neg (fun e => h e.symm)]
                have hce : ¬ (k : Int) = d.team → cntP r (ls ++ [d]) k (wrk r k m) = cntP r ls k (wrk r k m) := fun h => by unfold cntP; rw [allW_snoc, if_neg (fun e => h e.symm)]
                refine sc_skip ?_
                refine sx_then ?_
                refine sc_seq ?_
                refine sc_block ?_
                refine sc_seq ?_
                refine sc_region ?_
                refine sq_y (OpY.s (y_move (by exact rfl))) rfl ?_
                refine sq_y (OpY.s (y_assign (by exact rfl))) rfl ?_
                refine sq_nil ?_
                refine sx_then ?_
                refine sc_seq ?_
                refine sc_region ?_
                refine sq_y (OpY.s (by first | exact y_load_all Try.underlying24 rfl Try.sizeOf24 (by exact rfl) (by repeat (first | exact .head _ | refine .tail _ ?_)) (by exact rfl) | exact y_load_ca Try.underlying24 rfl Try.sizeOf24 (by exact rfl) (by repeat (first | exact .head _ | refine .tail _ ?_)) (by assumption) (by exact rfl))) rfl ?_
                refine sq_y (OpY.s (y_move (by exact rfl))) rfl ?_
                refine sq_y (OpY.s (y_move (by exact rfl))) rfl ?_
                refine sq_y (OpY.s (y_move (by exact rfl))) rfl ?_
                refine sq_y (y_call (first := []) (caps := []) (by exact rfl) Try.call19 (EvL.cons (by exact rfl) (EvL.cons (by exact rfl) (EvL.cons (by exact rfl) (EvL.cons (by exact rfl) EvL.nil)))) (fun w1 hw1 => points19z w1 r a c f cf al cl ls _ rfl k m hk2 hm hE1 (hT.at hw1 (by repeat (first | exact .head _ | refine .tail _ ?_))) (hl.at hw1 (by repeat (first | exact .head _ | refine .tail _ ?_))) i1 i2 i3)) rfl ?_
                refine sq_y (OpY.s (y_move (by exact rfl))) rfl ?_
                refine sq_y (OpY.s (y_extract (by exact rfl) (by exact rfl))) rfl ?_
                refine sq_y (OpY.s (y_extract (by exact rfl) (by exact rfl))) rfl ?_
                refine sq_alloc Try.zeroValue32 rfl (fun b26 => ?_)
                refine sq_store_all Try.sizeOf32 (by exact rfl) (by exact rfl) rfl (by repeat (first | exact Rem.here | apply Rem.there)) rfl rfl ?_
                refine sq_y (OpY.s (y_assign (by exact rfl))) rfl ?_
                refine sq_nil ?_
                refine sx_then ?_
                refine sc_seq ?_
                refine sc_region ?_
                refine sq_y (OpY.s (by first | exact y_load_all Try.underlying24 rfl Try.sizeOf24 (by exact rfl) (by repeat (first | exact .head _ | refine .tail _ ?_)) (by exact rfl) | exact y_load_ca Try.underlying24 rfl Try.sizeOf24 (by exact rfl) (by repeat (first | exact .head _ | refine .tail _ ?_)) (by assumption) (by exact rfl))) rfl ?_
                refine sq_y (OpY.s (y_move (by exact rfl))) rfl ?_
                refine sq_y (OpY.s (y_move (by exact rfl))) rfl ?_
                refine sq_y (OpY.s (y_move (by exact rfl))) rfl ?_
                refine sq_y (y_call (first := []) (caps := []) (by exact rfl) Try.call19 (EvL.cons (by exact rfl) (EvL.cons (by exact rfl) (EvL.cons (by exact rfl) (EvL.cons (by exact rfl) EvL.nil)))) (fun w1 hw1 => points19v w1 r a c f cf z2 (ls ++ [d]) k m hk2 hm hE3 (hT.at hw1 (by repeat (first | exact .head _ | refine .tail _ ?_))) (own_wv hw1 (by repeat (first | exact .head _ | refine .tail _ ?_)) (by simp) (by simp; omega)) i1 i2 i3)) rfl ?_
                refine sq_y (OpY.s (y_move (by exact rfl))) rfl ?_
                refine sq_y (OpY.s (y_extract (by exact rfl) (by exact rfl))) rfl ?_
                refine sq_y (OpY.s (y_extract (by exact rfl) (by exact rfl))) rfl ?_
                refine sq_alloc Try.zeroValue32 rfl (fun b28 => ?_)
                refine sq_store_all Try.sizeOf32 (by exact rfl) (by exact rfl) rfl (by repeat (first | exact Rem.here | apply Rem.there)) rfl rfl ?_
                refine sq_y (OpY.s (y_assign (by exact rfl))) rfl ?_
                refine sq_nil ?_
                refine sx_then ?_
                refine sc_seq ?_
                refine sc_region ?_
                refine sq_y (OpY.s (by first | exact y_load_all Try.underlying24 rfl Try.sizeOf24 (by exact rfl) (by repeat (first | exact .head _ | refine .tail _ ?_)) (by exact rfl) | exact y_load_ca Try.underlying24 rfl Try.sizeOf24 (by exact rfl) (by repeat (first | exact .head _ | refine .tail _ ?_)) (by assumption) (by exact rfl))) rfl ?_
                refine sq_y (OpY.s (y_move (by exact rfl))) rfl ?_
                refine sq_y (OpY.s (y_move (by exact rfl))) rfl ?_
                refine sq_y (OpY.s (y_move (by exact rfl))) rfl ?_
                refine sq_y (y_call (first := []) (caps := []) (by exact rfl) Try.call17 (EvL.cons (by exact rfl) (EvL.cons (by exact rfl) (EvL.cons (by exact rfl) (EvL.cons (by exact rfl) EvL.nil)))) (fun w1 hw1 => count17z w1 r a c f cf al cl ls _ rfl k m hk2 hm hE1 (hT.at hw1 (by repeat (first | exact .head _ | refine .tail _ ?_))) (hl.at hw1 (by repeat (first | exact .head _ | refine .tail _ ?_))) i1 i2 i3)) rfl ?_
                refine sq_y (OpY.s (y_move (by exact rfl))) rfl ?_
                refine sq_y (OpY.s (y_extract (by exact rfl) (by exact rfl))) rfl ?_
                refine sq_y (OpY.s (y_extract (by exact rfl) (by exact rfl))) rfl ?_
                refine sq_alloc Try.zeroValue32 rfl (fun b30 => ?_)
                refine sq_store_all Try.sizeOf32 (by exact rfl) (by exact rfl) rfl (by repeat (first | exact Rem.here | apply Rem.there)) rfl rfl ?_
                refine sq_y (OpY.s (y_assign (by exact rfl))) rfl ?_
                refine sq_nil ?_
                refine sx_then ?_
                refine sc_seq ?_
                refine sc_region ?_
                refine sq_y (OpY.s (by first | exact y_load_all Try.underlying24 rfl Try.sizeOf24 (by exact rfl) (by repeat (first | exact .head _ | refine .tail _ ?_)) (by exact rfl) | exact y_load_ca Try.underlying24 rfl Try.sizeOf24 (by exact rfl) (by repeat (first | exact .head _ | refine .tail _ ?_)) (by assumption) (by exact rfl))) rfl ?_
                refine sq_y (OpY.s (y_move (by exact rfl))) rfl ?_
                refine sq_y (OpY.s (y_move (by exact rfl))) rfl ?_
                refine sq_y (OpY.s (y_move (by exact rfl))) rfl ?_
                refine sq_y (y_call (first := []) (caps := []) (by exact rfl) Try.call17 (EvL.cons (by exact rfl) (EvL.cons (by exact rfl) (EvL.cons (by exact rfl) (EvL.cons (by exact rfl) EvL.nil)))) (fun w1 hw1 => count17v w1 r a c f cf z2 (ls ++ [d]) k m hk2 hm hE3 (hT.at hw1 (by repeat (first | exact .head _ | refine .tail _ ?_))) (own_wv hw1 (by repeat (first | exact .head _ | refine .tail _ ?_)) (by simp) (by simp; omega)) i1 i2 i3)) rfl ?_
                refine sq_y (OpY.s (y_move (by exact rfl))) rfl ?_
                refine sq_y (OpY.s (y_extract (by exact rfl) (by exact rfl))) rfl ?_
                refine sq_y (OpY.s (y_extract (by exact rfl) (by exact rfl))) rfl ?_
                refine sq_alloc Try.zeroValue32 rfl (fun b32 => ?_)
                refine sq_store_all Try.sizeOf32 (by exact rfl) (by exact rfl) rfl (by repeat (first | exact Rem.here | apply Rem.there)) rfl rfl ?_
                refine sq_y (OpY.s (y_assign (by exact rfl))) rfl ?_
                refine sq_nil ?_
                refine sx_then ?_
                refine sc_seq ?_
                refine sc_draw rfl (by kernel_rfl) (by kernel_rfl) ?_
                refine qq_y (OpY.s (y_move (by exact rfl))) rfl ?_
                refine qq_y (OpY.s (y_neq (by exact rfl) (by exact rfl))) rfl ?_
                refine qq_y (OpY.s (y_move (by exact rfl))) rfl ?_
                refine qq_known (tt := 220) (b' := false) (by exact rfl) (by simp) ?_
                refine qq_gt (by exact rfl) (by exact rfl) (OpY.s (y_move (by exact rfl))) rfl ?_
                refine qq_gt (by exact rfl) (by exact rfl) (OpY.s (y_neq (by exact rfl) (by exact rfl))) rfl ?_
                refine qq_y (OpY.s (y_pick_f (by exact rfl) (by exact rfl))) rfl ?_
                refine qq_y (OpY.s (y_move (by exact rfl))) rfl ?_
                refine qq_known (tt := 224) (b' := false) (by exact rfl) (by simp) ?_
                refine qq_gt (by exact rfl) (by exact rfl) (OpY.s (y_move (by exact rfl))) rfl ?_
                refine qq_gt (by exact rfl) (by exact rfl) (OpY.s (y_neq (by exact rfl) (by exact rfl))) rfl ?_
                refine qq_y (OpY.s (y_pick_f (by exact rfl) (by exact rfl))) rfl ?_
                refine qq_y (OpY.s (y_move (by exact rfl))) rfl ?_
                refine qq_known (tt := 228) (b' := false) (by exact rfl) (by simp) ?_
                refine qq_gt (by exact rfl) (by exact rfl) (OpY.s (y_move (by exact rfl))) rfl ?_
                refine qq_gt (by exact rfl) (by exact rfl) (OpY.s (y_neq (by exact rfl) (by exact rfl))) rfl ?_
                refine qq_y (OpY.s (y_pick_f (by exact rfl) (by exact rfl))) rfl ?_
                refine qq_y (OpY.s (y_move (by exact rfl))) rfl ?_
                refine qq_known (tt := 232) (b' := false) (by exact rfl) (by simp) ?_
                refine qq_gt (by exact rfl) (by exact rfl) (OpY.s (y_move (by exact rfl))) rfl ?_
                refine qq_gt (by exact rfl) (by exact rfl) (OpY.s (y_move (by exact rfl))) rfl ?_
                refine qq_gt (by exact rfl) (by exact rfl) (OpY.s (y_move (by exact rfl))) rfl ?_
                refine qq_gt (by exact rfl) (by exact rfl) (OpY.s (by first | exact y_ia_blk Try.underlying36 Try.sizeOf32 (by exact rfl) (by exact rfl) (by omega) | exact y_ia_el Try.underlying36 Try.sizeOf32 (by exact rfl) (by exact rfl) (by omega) (by first | assumption | simp))) rfl ?_
                refine qq_gt (by exact rfl) (by exact rfl) (OpY.s (by first | exact y_load_ca Try.underlying32 rfl Try.sizeOf32 (by exact rfl) (by repeat (first | exact .head _ | refine .tail _ ?_)) hc3 rfl | exact y_load_all Try.underlying32 rfl Try.sizeOf32 (by exact rfl) (by repeat (first | exact .head _ | refine .tail _ ?_)) (by exact rfl) | exact y_load_2 Try.underlying32 rfl Try.sizeOf32 (by exact rfl) (by repeat (first | exact .head _ | refine .tail _ ?_)) (by exact rfl) (by exact rfl) | exact y_load_ca Try.underlying32 rfl Try.sizeOf32 (by exact rfl) (by repeat (first | exact .head _ | refine .tail _ ?_)) (by assumption) (by exact rfl))) rfl ?_
                refine qq_gt (by exact rfl) (by exact rfl) (OpY.s (y_move (by exact rfl))) rfl ?_
                refine qq_gt (by exact rfl) (by exact rfl) (OpY.s (y_move (by exact rfl))) rfl ?_
                refine qq_gt (by exact rfl) (by exact rfl) (OpY.s (by first | exact y_ia_blk Try.underlying36 Try.sizeOf32 (by exact rfl) (by exact rfl) (by omega) | exact y_ia_el Try.underlying36 Try.sizeOf32 (by exact rfl) (by exact rfl) (by omega) (by first | assumption | simp))) rfl ?_
                refine qq_gt (by exact rfl) (by exact rfl) (OpY.s (by first | exact y_load_ca Try.underlying32 rfl Try.sizeOf32 (by exact rfl) (by repeat (first | exact .head _ | refine .tail _ ?_)) hc1 rfl | exact y_load_all Try.underlying32 rfl Try.sizeOf32 (by exact rfl) (by repeat (first | exact .head _ | refine .tail _ ?_)) (by exact rfl) | exact y_load_2 Try.underlying32 rfl Try.sizeOf32 (by exact rfl) (by repeat (first | exact .head _ | refine .tail _ ?_)) (by exact rfl) (by exact rfl) | exact y_load_ca Try.underlying32 rfl Try.sizeOf32 (by exact rfl) (by repeat (first | exact .head _ | refine .tail _ ?_)) (by assumption) (by exact rfl))) rfl ?_
                refine qq_gt (by exact rfl) (by exact rfl) (y_call (first := []) (caps := []) (by exact rfl) Try.call38 (EvL.cons (by exact rfl) (EvL.cons (by exact rfl) EvL.nil)) (fun w1 _ => in38 w1 (x3) (x1))) rfl ?_
                refine qq_gt (by exact rfl) (by exact rfl) (OpY.s (y_not (by exact rfl))) rfl ?_
                refine qq_y (OpY.s (y_pick_f (by exact rfl) (by exact rfl))) rfl ?_
                refine qq_y (OpY.s (y_move (by exact rfl))) rfl ?_
                refine qq_known (tt := 245) (b' := false) (by exact rfl) (by simp [hrn.1, hrn.2]) ?_
                refine qq_gt (by exact rfl) (by exact rfl) (OpY.s (y_move (by exact rfl))) rfl ?_
                refine qq_gt (by exact rfl) (by exact rfl) (OpY.s (by first | exact y_load_all Try.underlying32 rfl Try.sizeOf32 (by exact rfl) (by repeat (first | exact .head _ | refine .tail _ ?_)) (by exact rfl) | exact y_load_2 Try.underlying32 rfl Try.sizeOf32 (by exact rfl) (by repeat (first | exact .head _ | refine .tail _ ?_)) (by exact rfl) (by exact rfl) | exact y_load_ca Try.underlying32 rfl Try.sizeOf32 (by exact rfl) (by repeat (first | exact .head _ | refine .tail _ ?_)) (by assumption) (by exact rfl))) rfl ?_
                refine qq_gt (by exact rfl) (by exact rfl) (OpY.s (by first | exact y_load_all Try.underlying32 rfl Try.sizeOf32 (by exact rfl) (by repeat (first | exact .head _ | refine .tail _ ?_)) (by exact rfl) | exact y_load_2 Try.underlying32 rfl Try.sizeOf32 (by exact rfl) (by repeat (first | exact .head _ | refine .tail _ ?_)) (by exact rfl) (by exact rfl) | exact y_load_ca Try.underlying32 rfl Try.sizeOf32 (by exact rfl) (by repeat (first | exact .head _ | refine .tail _ ?_)) (by assumption) (by exact rfl))) rfl ?_
                refine qq_gt (by exact rfl) (by exact rfl) (y_call (first := []) (caps := []) (by exact rfl) Try.call38 (EvL.cons (by exact rfl) (EvL.cons (by exact rfl) EvL.nil)) (fun w1 _ => in38 w1 (ptsP r (ls ++ [d]) k (wrk r k m)) (ptsP r ls k (wrk r k m)))) rfl ?_
                refine qq_gt (by exact rfl) (by exact rfl) (OpY.s (y_not (by exact rfl))) rfl ?_
                refine qq_y (OpY.s (y_pick_f (by exact rfl) (by exact rfl))) rfl ?_
                refine qq_y (OpY.s (y_move (by exact rfl))) rfl ?_
                refine qq_known (tt := 252) (b' := false) (by exact rfl) (by simp [hpn.1, hpn.2]) ?_
                refine qq_gt (by exact rfl) (by exact rfl) (OpY.s (y_move (by exact rfl))) rfl ?_
                refine qq_gt (by exact rfl) (by exact rfl) (OpY.s (by first | exact y_load_all Try.underlying32 rfl Try.sizeOf32 (by exact rfl) (by repeat (first | exact .head _ | refine .tail _ ?_)) (by exact rfl) | exact y_load_2 Try.underlying32 rfl Try.sizeOf32 (by exact rfl) (by repeat (first | exact .head _ | refine .tail _ ?_)) (by exact rfl) (by exact rfl) | exact y_load_ca Try.underlying32 rfl Try.sizeOf32 (by exact rfl) (by repeat (first | exact .head _ | refine .tail _ ?_)) (by assumption) (by exact rfl))) rfl ?_
                refine qq_gt (by exact rfl) (by exact rfl) (OpY.s (by first | exact y_load_all Try.underlying32 rfl Try.sizeOf32 (by exact rfl) (by repeat (first | exact .head _ | refine .tail _ ?_)) (by exact rfl) | exact y_load_2 Try.underlying32 rfl Try.sizeOf32 (by exact rfl) (by repeat (first | exact .head _ | refine .tail _ ?_)) (by exact rfl) (by exact rfl) | exact y_load_ca Try.underlying32 rfl Try.sizeOf32 (by exact rfl) (by repeat (first | exact .head _ | refine .tail _ ?_)) (by assumption) (by exact rfl))) rfl ?_
                refine qq_gt (by exact rfl) (by exact rfl) (y_call (first := []) (caps := []) (by exact rfl) Try.call38 (EvL.cons (by exact rfl) (EvL.cons (by exact rfl) EvL.nil)) (fun w1 _ => in38 w1 (cntP r (ls ++ [d]) k (wrk r k m)) (cntP r ls k (wrk r k m)))) rfl ?_
                refine qq_gt (by exact rfl) (by exact rfl) (OpY.s (y_not (by exact rfl))) rfl ?_
                refine qq_y (OpY.s (y_pick_f (by exact rfl) (by exact rfl))) rfl ?_
                refine qq_y (OpY.s (y_move (by exact rfl))) rfl ?_
                refine qq_known (tt := 259) (b' := false) (by exact rfl) (by simp [hcn.1, hcn.2]) ?_
                refine qq_gt (by exact rfl) (by exact rfl) (OpY.s (y_move (by exact rfl))) rfl ?_
                refine qq_gt (by exact rfl) (by exact rfl) (OpY.s (by first | exact y_fab Try.underlying57 (by exact rfl) (by exact Try.sizeOf3) (by exact rfl) rfl | exact y_fa Try.underlying57 (by exact rfl) (by exact Try.sizeOf3) (by exact rfl) rfl)) rfl ?_
                refine qq_gt (by exact rfl) (by exact rfl) (OpY.s (by first | exact y_load_blk Try.underlying3 rfl (by exact rfl) (by repeat (first | exact .head _ | refine .tail _ ?_)) (by exact rfl) | exact y_load_caj Try.underlying3 rfl (by exact rfl) (by repeat (first | exact .head _ | refine .tail _ ?_)) (by assumption) (by exact rfl) | exact y_load_ca0 Try.underlying3 rfl (by exact rfl) (by repeat (first | exact .head _ | refine .tail _ ?_)) (by assumption) (by exact rfl))) rfl ?_
                refine qq_gt (by exact rfl) (by exact rfl) (OpY.s (y_neq (by exact rfl) (by exact rfl))) rfl ?_
                refine qq_gt (by exact rfl) (by exact rfl) (OpY.s (y_move (by exact rfl))) rfl ?_
                first | refine qq_splitd (tt := 264) (by exact rfl) (fun hg30_46 => ?_) (fun hg30_46 => ?_) | refine qq_splitn (tt := 264) (by exact rfl) (fun hg30_46 => ?_) (fun hg30_46 => ?_) | refine qq_split (tt := 264) (by exact rfl) (fun hg30_46 => ?_) (fun hg30_46 => ?_)
                ·
                  refine qq_gt (by exact rfl) (by exact rfl) (OpY.s (by first | exact y_load_all Try.underlying32 rfl Try.sizeOf32 (by exact rfl) (by repeat (first | exact .head _ | refine .tail _ ?_)) (by exact rfl) | exact y_load_2 Try.underlying32 rfl Try.sizeOf32 (by exact rfl) (by repeat (first | exact .head _ | refine .tail _ ?_)) (by exact rfl) (by exact rfl) | exact y_load_ca Try.underlying32 rfl Try.sizeOf32 (by exact rfl) (by repeat (first | exact .head _ | refine .tail _ ?_)) (by assumption) (by exact rfl))) rfl ?_
                  refine qq_gt (by exact rfl) (by exact rfl) (OpY.s (by first | exact y_load_all Try.underlying32 rfl Try.sizeOf32 (by exact rfl) (by repeat (first | exact .head _ | refine .tail _ ?_)) (by exact rfl) | exact y_load_2 Try.underlying32 rfl Try.sizeOf32 (by exact rfl) (by repeat (first | exact .head _ | refine .tail _ ?_)) (by exact rfl) (by exact rfl) | exact y_load_ca Try.underlying32 rfl Try.sizeOf32 (by exact rfl) (by repeat (first | exact .head _ | refine .tail _ ?_)) (by assumption) (by exact rfl))) rfl ?_
                  refine qq_gt (by exact rfl) (by exact rfl) (OpY.s (y_neqs (by kernel_rfl) (by exact rfl) (by exact rfl) (neq32 _ _ _ _))) rfl ?_
                  refine qq_gt (by exact rfl) (by exact rfl) (OpY.s (y_move (by exact rfl))) rfl ?_
                  refine qq_known (tt := 268) (b' := false) (by exact rfl) (by simp [hpe hg30_46]) ?_
                  refine qq_gt (by exact rfl) (by exact rfl) (OpY.s (by first | exact y_load_all Try.underlying32 rfl Try.sizeOf32 (by exact rfl) (by repeat (first | exact .head _ | refine .tail _ ?_)) (by exact rfl) | exact y_load_2 Try.underlying32 rfl Try.sizeOf32 (by exact rfl) (by repeat (first | exact .head _ | refine .tail _ ?_)) (by exact rfl) (by exact rfl) | exact y_load_ca Try.underlying32 rfl Try.sizeOf32 (by exact rfl) (by repeat (first | exact .head _ | refine .tail _ ?_)) (by assumption) (by exact rfl))) rfl ?_
                  refine qq_gt (by exact rfl) (by exact rfl) (OpY.s (by first | exact y_load_all Try.underlying32 rfl Try.sizeOf32 (by exact rfl) (by repeat (first | exact .head _ | refine .tail _ ?_)) (by exact rfl) | exact y_load_2 Try.underlying32 rfl Try.sizeOf32 (by exact rfl) (by repeat (first | exact .head _ | refine .tail _ ?_)) (by exact rfl) (by exact rfl) | exact y_load_ca Try.underlying32 rfl Try.sizeOf32 (by exact rfl) (by repeat (first | exact .head _ | refine .tail _ ?_)) (by assumption) (by exact rfl))) rfl ?_
                  refine qq_gt (by exact rfl) (by exact rfl) (OpY.s (y_neqs (by kernel_rfl) (by exact rfl) (by exact rfl) (neq32 _ _ _ _))) rfl ?_
                  refine qq_gt (by exact rfl) (by exact rfl) (OpY.s (y_pick_f (by exact rfl) (by exact rfl))) rfl ?_
                  refine qq_gt (by exact rfl) (by exact rfl) (OpY.s (y_pick_t (by exact rfl) (by exact rfl))) rfl ?_
                  refine qq_y (OpY.s (y_pick_f (by exact rfl) (by exact rfl))) rfl ?_
                  refine qq_nil ?_
                  refine sx_then ?_
                  refine sc_f (lk_bool rfl (by simp [hce hg30_46])) ?_
                  refine sc_skip ?_
                  refine sx_blk ?_
                  refine sx_then ?_
                  refine sc_region ?_
                  refine sq_y (OpY.s (y_add (by exact rfl) (by exact rfl) (by omega))) rfl ?_
                  refine sq_y (OpY.s (y_move (by exact rfl))) rfl ?_
                  refine sq_nil ?_
                  refine sx_round (k + 1) ?_ ?_ (by repeat (first | exact SubL.nil | refine SubL.cons (by first | exact rfl | exact lk_int rfl (by omega) | exact lk_eq rfl (by simp)) ?_)) (by repeat (first | exact Sel.nil | refine Sel.cons (by repeat (first | exact Rem.here | apply Rem.there)) ?_))
                  · omega
                  · omega
                ·
                  refine qq_gf (by exact rfl) (by exact rfl) (by exact rfl) rfl ?_
                  refine qq_gf (by exact rfl) (by exact rfl) (by exact rfl) rfl ?_
                  refine qq_gf (by exact rfl) (by exact rfl) (by exact rfl) rfl ?_
                  refine qq_gf (by exact rfl) (by exact rfl) (by exact rfl) rfl ?_
                  refine qq_gu (by exact rfl) (by exact rfl) rfl ?_
                  refine qq_gu (by exact rfl) (by exact rfl) rfl ?_
                  refine qq_gu (by exact rfl) (by exact rfl) rfl ?_
                  refine qq_gf (by exact rfl) (by exact rfl) (by exact rfl) rfl ?_
                  refine qq_gt (by exact rfl) (by exact rfl) (OpY.s (y_pick_f (by exact rfl) (by exact rfl))) rfl ?_
                  refine qq_y (OpY.s (y_pick_f (by exact rfl) (by exact rfl))) rfl ?_
                  refine qq_nil ?_
                  refine sx_then ?_
                  refine sc_f (by exact rfl) ?_
                  refine sc_skip ?_
                  refine sx_blk ?_
                  refine sx_then ?_
                  refine sc_region ?_
                  refine sq_y (OpY.s (y_add (by exact rfl) (by exact rfl) (by omega))) rfl ?_
                  refine sq_y (OpY.s (y_move (by exact rfl))) rfl ?_
                  refine sq_nil ?_
                  refine sx_round (k + 1) ?_ ?_ (by repeat (first | exact SubL.nil | refine SubL.cons (by first | exact rfl | exact lk_int rfl (by omega) | exact lk_eq rfl (by simp)) ?_)) (by repeat (first | exact Sel.nil | refine Sel.cons (by repeat (first | exact Rem.here | apply Rem.there)) ?_))
                  · omega
                  · omega
              ·
                refine sc_exit ?_
                refine sx_then_exit ?_
                refine sx_round_exit ?_
                refine sx_blk_hit ?_
                refine sx_then ?_
                refine sc_seq ?_
                refine sc_region ?_
                refine sq_y (y_call (first := []) (caps := []) (by exact rfl) Try.call14 EvL.nil (fun w1 _ => alive14 w1)) rfl ?_
                refine sq_y (OpY.s (y_assign (by exact rfl))) rfl ?_
                refine sq_nil ?_
                refine sx_then ?_
                refine sc_ret ?_
                refine sx_ret1 (.inl rfl) rfl Try.results9 (by exact rfl) ?_
                intro w' hw'
                exact ⟨rfl, hw'.below (by repeat (first | exact .head _ | refine .tail _ ?_))⟩
            ·
              refine sq_gf (by exact rfl) (by exact rfl) (by exact rfl) rfl ?_
              refine sq_gf (by exact rfl) (by exact rfl) (by exact rfl) rfl ?_
              refine sq_gf (by exact rfl) (by exact rfl) (by exact rfl) rfl ?_
              refine sq_gu (by exact rfl) (by exact rfl) rfl ?_
              refine sq_gu (by exact rfl) (by exact rfl) rfl ?_
              refine sq_gu (by exact rfl) (by exact rfl) rfl ?_
              refine sq_gu (by exact rfl) (by exact rfl) rfl ?_
              refine sq_gu (by exact rfl) (by exact rfl) rfl ?_
              refine sq_gf (by exact rfl) (by exact rfl) (by exact rfl) rfl ?_
              refine sq_gt (by exact rfl) (by exact rfl) (OpY.s (y_pick_f (by exact rfl) (by exact rfl))) rfl ?_
              refine sq_y (OpY.s (y_pick_f (by exact rfl) (by exact rfl))) rfl ?_
              refine sq_nil ?_
              refine sx_then ?_
              refine sc_f (by exact rfl) ?_
              refine sc_skip ?_
              refine sx_then ?_
              refine sc_seq ?_
              refine sc_region ?_
              refine sq_y (OpY.s (y_assign (by exact rfl))) rfl ?_
              refine sq_nil ?_
              refine sx_then ?_
              refine sc_seq ?_
              refine sc_seq ?_
              refine sc_region ?_
              refine sq_y (OpY.s (y_move (by exact rfl))) rfl ?_
              refine sq_y (OpY.s (y_len Try.underlying36 (by exact rfl))) rfl ?_
              refine sq_y (OpY.s (y_move (by exact rfl))) rfl ?_
              refine sq_nil ?_
              refine sx_then ?_
              refine sc_block ?_
              refine sc_loop (σ := Nat)
                (fun s => [(1, .slice al ls.length cl), (3, .int .i64 mz), (5, .pointer (some ⟨b5, 0, none⟩)), (7, .pointer (some ⟨b7, 0, none⟩)), (11, .slice zr1.1 (ranksL r ls mz).length zr1.2), (12, .int .i64 (openE r ls (minB mz))), (13, .int .i64 xs), (14, .int .i64 xc), (15, .int .i64 (openE r ls true)), (18, .slice zr3.1 (ranksL r (ls ++ [d]) mz).length zr3.2), (23, z2), (24, .func (.func 38) #[] #[]), (182, .int .i64 (ranksL r (ls ++ [d]) mz).length), (183, .int .i64 s)])
                (fun s => [.reg lr3 wr3, .own z2 57 4 (ls.length + 1) ((ls ++ [d]).flatMap wdRow), .reg lr1 wr1, .blk b7 (.cells (wdRow d).toArray 57 (0, 0)), .blk b5 (.cells (rcVal r a c).toArray 24 (0, 0)), .reg 0 w])
                (fun s => s ≤ (ranksL r (ls ++ [d]) mz).length)
                (fun s => (ranksL r (ls ++ [d]) mz).length - s)
                (0) ?_ (by repeat (first | exact SubL.nil | refine SubL.cons (by first | exact rfl | exact lk_int rfl (by omega) | exact lk_eq rfl (by simp)) ?_)) (by repeat (first | exact Sel.nil | refine Sel.cons (by repeat (first | exact Rem.here | apply Rem.there)) ?_)) ?_
              · exact Nat.zero_le _
              rintro k hk
              refine sc_seq ?_
              refine sc_region ?_
              refine sq_y (OpY.s (y_lss (by exact rfl) (by exact rfl))) rfl ?_
              refine sq_nil ?_
              refine sx_then ?_
              refine sc_seq ?_
              first | refine sc_if (by exact rfl) (fun hc5 => ?_) (fun hc5 => ?_) | refine sc_ifn (by exact rfl) (fun hc5 => ?_) (fun hc5 => ?_) | refine sc_cond (by exact rfl) (fun hc5 => ?_) (fun hc5 => ?_)
              ·
                have hk' : k < (ranksL r (ls ++ [d]) mz).length := by omega
                have hE3 : openE r (ls ++ [d]) (minB mz) = 0 := by
                  by_cases h : openE r (ls ++ [d]) (minB mz) = 0
                  · exact h
                  · unfold ranksL at hk'; rw [if_neg h] at hk'; simp at hk'
                have hmB := (openE_zero hE3).2.1
                obtain ⟨m, hm1⟩ := Int.eq_ofNat_of_zero_le (show 0 ≤ mz by simp only [minB, decide_eq_true_eq] at hmB; omega)
                subst hm1
                have hm : m ≤ 2000 := by simp only [minB, decide_eq_true_eq] at hmB; omega
                have hE1 := hEs hE3
                rw [hmB] at hE3 hE1
                have hR3 : ranksL r (ls ++ [d]) m = rankL (scoreL r (ls ++ [d]) fun x => wrk r x m) := by unfold ranksL; rw [hmB, if_pos hE3]; rfl
                have hR1 : ranksL r ls m = rankL (scoreL r ls fun x => wrk r x m) := by unfold ranksL; rw [hmB, if_pos hE1]; rfl
                have hk2 : k < r.teams.length := by rw [hR3] at hk'; simpa [rankL, scoreL] using hk'
                have hnums := rcB_nums (chk_zero (openE_zero hE3).1).1
                obtain ⟨x3, hx3⟩ : ∃ x, (ranksL r (ls ++ [d]) m)[k]? = some x := ⟨_, List.getElem?_eq_getElem hk'⟩
                have hkl : k < (ranksL r ls m).length := by rw [hR1]; simpa [rankL, scoreL] using hk2
                obtain ⟨x1, hx1⟩ : ∃ x, (ranksL r ls m)[k]? = some x := ⟨_, List.getElem?_eq_getElem hkl⟩
                have hs3 := (hr3.el k x3 hx3).1
                have hc3 := (hr3.el k x3 hx3).2
                have hs1 := (hr1.el k x1 hx1).1
                have hc1 := (hr1.el k x1 hx1).2
                have hrn := rank_narrow (r := r) (m := fun x => wrk r x m) hsub hk2
                rw [← hR3, ← hR1, getD_of hx3, getD_of hx1] at hrn
                have hpn := ptsP_narrow (r := r) hsub k (wrk r k m)
                have hcn := cntP_narrow (r := r) hsub k (wrk r k m)
                have hpe : ¬ (k : Int) = d.team → ptsP r (ls ++ [d]) k (wrk r k m) = ptsP r ls k (wrk r k m) := fun h => by unfold ptsP; rw [allW_snoc, if_neg (fun e => h e.symm)]
                have hce : ¬ (k : Int) = d.team → cntP r (ls ++ [d]) k (wrk r k m) = cntP r ls k (wrk r k m) := fun h => by unfold cntP; rw [allW_snoc, if_neg (fun e => h e.symm)]
                refine sc_skip ?_
                refine sx_then ?_
                refine sc_seq ?_
                refine sc_block ?_
                refine sc_seq ?_
                refine sc_region ?_
                refine sq_y (OpY.s (y_move (by exact rfl))) rfl ?_
                refine sq_y (OpY.s (y_assign (by exact rfl))) rfl ?_
                refine sq_nil ?_
                refine sx_then ?_
                refine sc_seq ?_
                refine sc_region ?_
                refine sq_y (OpY.s (by first | exact y_load_all Try.underlying24 rfl Try.sizeOf24 (by exact rfl) (by repeat (first | exact .head _ | refine .tail _ ?_)) (by exact rfl) | exact y_load_ca Try.underlying24 rfl Try.sizeOf24 (by exact rfl) (by repeat (first | exact .head _ | refine .tail _ ?_)) (by assumption) (by exact rfl))) rfl ?_
                refine sq_y (OpY.s (y_move (by exact rfl))) rfl ?_
                refine sq_y (OpY.s (y_move (by exact rfl))) rfl ?_
                refine sq_y (OpY.s (y_move (by exact rfl))) rfl ?_
                refine sq_y (y_call (first := []) (caps := []) (by exact rfl) Try.call19 (EvL.cons (by exact rfl) (EvL.cons (by exact rfl) (EvL.cons (by exact rfl) (EvL.cons (by exact rfl) EvL.nil)))) (fun w1 hw1 => points19z w1 r a c f cf al cl ls _ rfl k m hk2 hm hE1 (hT.at hw1 (by repeat (first | exact .head _ | refine .tail _ ?_))) (hl.at hw1 (by repeat (first | exact .head _ | refine .tail _ ?_))) i1 i2 i3)) rfl ?_
                refine sq_y (OpY.s (y_move (by exact rfl))) rfl ?_
                refine sq_y (OpY.s (y_extract (by exact rfl) (by exact rfl))) rfl ?_
                refine sq_y (OpY.s (y_extract (by exact rfl) (by exact rfl))) rfl ?_
                refine sq_alloc Try.zeroValue32 rfl (fun b26 => ?_)
                refine sq_store_all Try.sizeOf32 (by exact rfl) (by exact rfl) rfl (by repeat (first | exact Rem.here | apply Rem.there)) rfl rfl ?_
                refine sq_y (OpY.s (y_assign (by exact rfl))) rfl ?_
                refine sq_nil ?_
                refine sx_then ?_
                refine sc_seq ?_
                refine sc_region ?_
                refine sq_y (OpY.s (by first | exact y_load_all Try.underlying24 rfl Try.sizeOf24 (by exact rfl) (by repeat (first | exact .head _ | refine .tail _ ?_)) (by exact rfl) | exact y_load_ca Try.underlying24 rfl Try.sizeOf24 (by exact rfl) (by repeat (first | exact .head _ | refine .tail _ ?_)) (by assumption) (by exact rfl))) rfl ?_
                refine sq_y (OpY.s (y_move (by exact rfl))) rfl ?_
                refine sq_y (OpY.s (y_move (by exact rfl))) rfl ?_
                refine sq_y (OpY.s (y_move (by exact rfl))) rfl ?_
                refine sq_y (y_call (first := []) (caps := []) (by exact rfl) Try.call19 (EvL.cons (by exact rfl) (EvL.cons (by exact rfl) (EvL.cons (by exact rfl) (EvL.cons (by exact rfl) EvL.nil)))) (fun w1 hw1 => points19v w1 r a c f cf z2 (ls ++ [d]) k m hk2 hm hE3 (hT.at hw1 (by repeat (first | exact .head _ | refine .tail _ ?_))) (own_wv hw1 (by repeat (first | exact .head _ | refine .tail _ ?_)) (by simp) (by simp; omega)) i1 i2 i3)) rfl ?_
                refine sq_y (OpY.s (y_move (by exact rfl))) rfl ?_
                refine sq_y (OpY.s (y_extract (by exact rfl) (by exact rfl))) rfl ?_
                refine sq_y (OpY.s (y_extract (by exact rfl) (by exact rfl))) rfl ?_
                refine sq_alloc Try.zeroValue32 rfl (fun b28 => ?_)
                refine sq_store_all Try.sizeOf32 (by exact rfl) (by exact rfl) rfl (by repeat (first | exact Rem.here | apply Rem.there)) rfl rfl ?_
                refine sq_y (OpY.s (y_assign (by exact rfl))) rfl ?_
                refine sq_nil ?_
                refine sx_then ?_
                refine sc_seq ?_
                refine sc_region ?_
                refine sq_y (OpY.s (by first | exact y_load_all Try.underlying24 rfl Try.sizeOf24 (by exact rfl) (by repeat (first | exact .head _ | refine .tail _ ?_)) (by exact rfl) | exact y_load_ca Try.underlying24 rfl Try.sizeOf24 (by exact rfl) (by repeat (first | exact .head _ | refine .tail _ ?_)) (by assumption) (by exact rfl))) rfl ?_
                refine sq_y (OpY.s (y_move (by exact rfl))) rfl ?_
                refine sq_y (OpY.s (y_move (by exact rfl))) rfl ?_
                refine sq_y (OpY.s (y_move (by exact rfl))) rfl ?_
                refine sq_y (y_call (first := []) (caps := []) (by exact rfl) Try.call17 (EvL.cons (by exact rfl) (EvL.cons (by exact rfl) (EvL.cons (by exact rfl) (EvL.cons (by exact rfl) EvL.nil)))) (fun w1 hw1 => count17z w1 r a c f cf al cl ls _ rfl k m hk2 hm hE1 (hT.at hw1 (by repeat (first | exact .head _ | refine .tail _ ?_))) (hl.at hw1 (by repeat (first | exact .head _ | refine .tail _ ?_))) i1 i2 i3)) rfl ?_
                refine sq_y (OpY.s (y_move (by exact rfl))) rfl ?_
                refine sq_y (OpY.s (y_extract (by exact rfl) (by exact rfl))) rfl ?_
                refine sq_y (OpY.s (y_extract (by exact rfl) (by exact rfl))) rfl ?_
                refine sq_alloc Try.zeroValue32 rfl (fun b30 => ?_)
                refine sq_store_all Try.sizeOf32 (by exact rfl) (by exact rfl) rfl (by repeat (first | exact Rem.here | apply Rem.there)) rfl rfl ?_
                refine sq_y (OpY.s (y_assign (by exact rfl))) rfl ?_
                refine sq_nil ?_
                refine sx_then ?_
                refine sc_seq ?_
                refine sc_region ?_
                refine sq_y (OpY.s (by first | exact y_load_all Try.underlying24 rfl Try.sizeOf24 (by exact rfl) (by repeat (first | exact .head _ | refine .tail _ ?_)) (by exact rfl) | exact y_load_ca Try.underlying24 rfl Try.sizeOf24 (by exact rfl) (by repeat (first | exact .head _ | refine .tail _ ?_)) (by assumption) (by exact rfl))) rfl ?_
                refine sq_y (OpY.s (y_move (by exact rfl))) rfl ?_
                refine sq_y (OpY.s (y_move (by exact rfl))) rfl ?_
                refine sq_y (OpY.s (y_move (by exact rfl))) rfl ?_
                refine sq_y (y_call (first := []) (caps := []) (by exact rfl) Try.call17 (EvL.cons (by exact rfl) (EvL.cons (by exact rfl) (EvL.cons (by exact rfl) (EvL.cons (by exact rfl) EvL.nil)))) (fun w1 hw1 => count17v w1 r a c f cf z2 (ls ++ [d]) k m hk2 hm hE3 (hT.at hw1 (by repeat (first | exact .head _ | refine .tail _ ?_))) (own_wv hw1 (by repeat (first | exact .head _ | refine .tail _ ?_)) (by simp) (by simp; omega)) i1 i2 i3)) rfl ?_
                refine sq_y (OpY.s (y_move (by exact rfl))) rfl ?_
                refine sq_y (OpY.s (y_extract (by exact rfl) (by exact rfl))) rfl ?_
                refine sq_y (OpY.s (y_extract (by exact rfl) (by exact rfl))) rfl ?_
                refine sq_alloc Try.zeroValue32 rfl (fun b32 => ?_)
                refine sq_store_all Try.sizeOf32 (by exact rfl) (by exact rfl) rfl (by repeat (first | exact Rem.here | apply Rem.there)) rfl rfl ?_
                refine sq_y (OpY.s (y_assign (by exact rfl))) rfl ?_
                refine sq_nil ?_
                refine sx_then ?_
                refine sc_seq ?_
                refine sc_draw rfl (by kernel_rfl) (by kernel_rfl) ?_
                refine qq_y (OpY.s (y_move (by exact rfl))) rfl ?_
                refine qq_y (OpY.s (y_neq (by exact rfl) (by exact rfl))) rfl ?_
                refine qq_y (OpY.s (y_move (by exact rfl))) rfl ?_
                refine qq_known (tt := 220) (b' := false) (by exact rfl) (by simp) ?_
                refine qq_gt (by exact rfl) (by exact rfl) (OpY.s (y_move (by exact rfl))) rfl ?_
                refine qq_gt (by exact rfl) (by exact rfl) (OpY.s (y_neq (by exact rfl) (by exact rfl))) rfl ?_
                refine qq_y (OpY.s (y_pick_f (by exact rfl) (by exact rfl))) rfl ?_
                refine qq_y (OpY.s (y_move (by exact rfl))) rfl ?_
                refine qq_known (tt := 224) (b' := false) (by exact rfl) (by simp) ?_
                refine qq_gt (by exact rfl) (by exact rfl) (OpY.s (y_move (by exact rfl))) rfl ?_
                refine qq_gt (by exact rfl) (by exact rfl) (OpY.s (y_neq (by exact rfl) (by exact rfl))) rfl ?_
                refine qq_y (OpY.s (y_pick_f (by exact rfl) (by exact rfl))) rfl ?_
                refine qq_y (OpY.s (y_move (by exact rfl))) rfl ?_
                refine qq_known (tt := 228) (b' := false) (by exact rfl) (by simp) ?_
                refine qq_gt (by exact rfl) (by exact rfl) (OpY.s (y_move (by exact rfl))) rfl ?_
                refine qq_gt (by exact rfl) (by exact rfl) (OpY.s (y_neq (by exact rfl) (by exact rfl))) rfl ?_
                refine qq_y (OpY.s (y_pick_f (by exact rfl) (by exact rfl))) rfl ?_
                refine qq_y (OpY.s (y_move (by exact rfl))) rfl ?_
                refine qq_known (tt := 232) (b' := false) (by exact rfl) (by simp) ?_
                refine qq_gt (by exact rfl) (by exact rfl) (OpY.s (y_move (by exact rfl))) rfl ?_
                refine qq_gt (by exact rfl) (by exact rfl) (OpY.s (y_move (by exact rfl))) rfl ?_
                refine qq_gt (by exact rfl) (by exact rfl) (OpY.s (y_move (by exact rfl))) rfl ?_
                refine qq_gt (by exact rfl) (by exact rfl) (OpY.s (by first | exact y_ia_blk Try.underlying36 Try.sizeOf32 (by exact rfl) (by exact rfl) (by omega) | exact y_ia_el Try.underlying36 Try.sizeOf32 (by exact rfl) (by exact rfl) (by omega) (by first | assumption | simp))) rfl ?_
                refine qq_gt (by exact rfl) (by exact rfl) (OpY.s (by first | exact y_load_ca Try.underlying32 rfl Try.sizeOf32 (by exact rfl) (by repeat (first | exact .head _ | refine .tail _ ?_)) hc3 rfl | exact y_load_all Try.underlying32 rfl Try.sizeOf32 (by exact rfl) (by repeat (first | exact .head _ | refine .tail _ ?_)) (by exact rfl) | exact y_load_2 Try.underlying32 rfl Try.sizeOf32 (by exact rfl) (by repeat (first | exact .head _ | refine .tail _ ?_)) (by exact rfl) (by exact rfl) | exact y_load_ca Try.underlying32 rfl Try.sizeOf32 (by exact rfl) (by repeat (first | exact .head _ | refine .tail _ ?_)) (by assumption) (by exact rfl))) rfl ?_
                refine qq_gt (by exact rfl) (by exact rfl) (OpY.s (y_move (by exact rfl))) rfl ?_
                refine qq_gt (by exact rfl) (by exact rfl) (OpY.s (y_move (by exact rfl))) rfl ?_
                refine qq_gt (by exact rfl) (by exact rfl) (OpY.s (by first | exact y_ia_blk Try.underlying36 Try.sizeOf32 (by exact rfl) (by exact rfl) (by omega) | exact y_ia_el Try.underlying36 Try.sizeOf32 (by exact rfl) (by exact rfl) (by omega) (by first | assumption | simp))) rfl ?_
                refine qq_gt (by exact rfl) (by exact rfl) (OpY.s (by first | exact y_load_ca Try.underlying32 rfl Try.sizeOf32 (by exact rfl) (by repeat (first | exact .head _ | refine .tail _ ?_)) hc1 rfl | exact y_load_all Try.underlying32 rfl Try.sizeOf32 (by exact rfl) (by repeat (first | exact .head _ | refine .tail _ ?_)) (by exact rfl) | exact y_load_2 Try.underlying32 rfl Try.sizeOf32 (by exact rfl) (by repeat (first | exact .head _ | refine .tail _ ?_)) (by exact rfl) (by exact rfl) | exact y_load_ca Try.underlying32 rfl Try.sizeOf32 (by exact rfl) (by repeat (first | exact .head _ | refine .tail _ ?_)) (by assumption) (by exact rfl))) rfl ?_
                refine qq_gt (by exact rfl) (by exact rfl) (y_call (first := []) (caps := []) (by exact rfl) Try.call38 (EvL.cons (by exact rfl) (EvL.cons (by exact rfl) EvL.nil)) (fun w1 _ => in38 w1 (x3) (x1))) rfl ?_
                refine qq_gt (by exact rfl) (by exact rfl) (OpY.s (y_not (by exact rfl))) rfl ?_
                refine qq_y (OpY.s (y_pick_f (by exact rfl) (by exact rfl))) rfl ?_
                refine qq_y (OpY.s (y_move (by exact rfl))) rfl ?_
                refine qq_known (tt := 245) (b' := false) (by exact rfl) (by simp [hrn.1, hrn.2]) ?_
                refine qq_gt (by exact rfl) (by exact rfl) (OpY.s (y_move (by exact rfl))) rfl ?_
                refine qq_gt (by exact rfl) (by exact rfl) (OpY.s (by first | exact y_load_all Try.underlying32 rfl Try.sizeOf32 (by exact rfl) (by repeat (first | exact .head _ | refine .tail _ ?_)) (by exact rfl) | exact y_load_2 Try.underlying32 rfl Try.sizeOf32 (by exact rfl) (by repeat (first | exact .head _ | refine .tail _ ?_)) (by exact rfl) (by exact rfl) | exact y_load_ca Try.underlying32 rfl Try.sizeOf32 (by exact rfl) (by repeat (first | exact .head _ | refine .tail _ ?_)) (by assumption) (by exact rfl))) rfl ?_
                refine qq_gt (by exact rfl) (by exact rfl) (OpY.s (by first | exact y_load_all Try.underlying32 rfl Try.sizeOf32 (by exact rfl) (by repeat (first | exact .head _ | refine .tail _ ?_)) (by exact rfl) | exact y_load_2 Try.underlying32 rfl Try.sizeOf32 (by exact rfl) (by repeat (first | exact .head _ | refine .tail _ ?_)) (by exact rfl) (by exact rfl) | exact y_load_ca Try.underlying32 rfl Try.sizeOf32 (by exact rfl) (by repeat (first | exact .head _ | refine .tail _ ?_)) (by assumption) (by exact rfl))) rfl ?_
                refine qq_gt (by exact rfl) (by exact rfl) (y_call (first := []) (caps := []) (by exact rfl) Try.call38 (EvL.cons (by exact rfl) (EvL.cons (by exact rfl) EvL.nil)) (fun w1 _ => in38 w1 (ptsP r (ls ++ [d]) k (wrk r k m)) (ptsP r ls k (wrk r k m)))) rfl ?_
                refine qq_gt (by exact rfl) (by exact rfl) (OpY.s (y_not (by exact rfl))) rfl ?_
                refine qq_y (OpY.s (y_pick_f (by exact rfl) (by exact rfl))) rfl ?_
                refine qq_y (OpY.s (y_move (by exact rfl))) rfl ?_
                refine qq_known (tt := 252) (b' := false) (by exact rfl) (by simp [hpn.1, hpn.2]) ?_
                refine qq_gt (by exact rfl) (by exact rfl) (OpY.s (y_move (by exact rfl))) rfl ?_
                refine qq_gt (by exact rfl) (by exact rfl) (OpY.s (by first | exact y_load_all Try.underlying32 rfl Try.sizeOf32 (by exact rfl) (by repeat (first | exact .head _ | refine .tail _ ?_)) (by exact rfl) | exact y_load_2 Try.underlying32 rfl Try.sizeOf32 (by exact rfl) (by repeat (first | exact .head _ | refine .tail _ ?_)) (by exact rfl) (by exact rfl) | exact y_load_ca Try.underlying32 rfl Try.sizeOf32 (by exact rfl) (by repeat (first | exact .head _ | refine .tail _ ?_)) (by assumption) (by exact rfl))) rfl ?_
                refine qq_gt (by exact rfl) (by exact rfl) (OpY.s (by first | exact y_load_all Try.underlying32 rfl Try.sizeOf32 (by exact rfl) (by repeat (first | exact .head _ | refine .tail _ ?_)) (by exact rfl) | exact y_load_2 Try.underlying32 rfl Try.sizeOf32 (by exact rfl) (by repeat (first | exact .head _ | refine .tail _ ?_)) (by exact rfl) (by exact rfl) | exact y_load_ca Try.underlying32 rfl Try.sizeOf32 (by exact rfl) (by repeat (first | exact .head _ | refine .tail _ ?_)) (by assumption) (by exact rfl))) rfl ?_
                refine qq_gt (by exact rfl) (by exact rfl) (y_call (first := []) (caps := []) (by exact rfl) Try.call38 (EvL.cons (by exact rfl) (EvL.cons (by exact rfl) EvL.nil)) (fun w1 _ => in38 w1 (cntP r (ls ++ [d]) k (wrk r k m)) (cntP r ls k (wrk r k m)))) rfl ?_
                refine qq_gt (by exact rfl) (by exact rfl) (OpY.s (y_not (by exact rfl))) rfl ?_
                refine qq_y (OpY.s (y_pick_f (by exact rfl) (by exact rfl))) rfl ?_
                refine qq_y (OpY.s (y_move (by exact rfl))) rfl ?_
                refine qq_known (tt := 259) (b' := false) (by exact rfl) (by simp [hcn.1, hcn.2]) ?_
                refine qq_gt (by exact rfl) (by exact rfl) (OpY.s (y_move (by exact rfl))) rfl ?_
                refine qq_gt (by exact rfl) (by exact rfl) (OpY.s (by first | exact y_fab Try.underlying57 (by exact rfl) (by exact Try.sizeOf3) (by exact rfl) rfl | exact y_fa Try.underlying57 (by exact rfl) (by exact Try.sizeOf3) (by exact rfl) rfl)) rfl ?_
                refine qq_gt (by exact rfl) (by exact rfl) (OpY.s (by first | exact y_load_blk Try.underlying3 rfl (by exact rfl) (by repeat (first | exact .head _ | refine .tail _ ?_)) (by exact rfl) | exact y_load_caj Try.underlying3 rfl (by exact rfl) (by repeat (first | exact .head _ | refine .tail _ ?_)) (by assumption) (by exact rfl) | exact y_load_ca0 Try.underlying3 rfl (by exact rfl) (by repeat (first | exact .head _ | refine .tail _ ?_)) (by assumption) (by exact rfl))) rfl ?_
                refine qq_gt (by exact rfl) (by exact rfl) (OpY.s (y_neq (by exact rfl) (by exact rfl))) rfl ?_
                refine qq_gt (by exact rfl) (by exact rfl) (OpY.s (y_move (by exact rfl))) rfl ?_
                first | refine qq_splitd (tt := 264) (by exact rfl) (fun hg30_46 => ?_) (fun hg30_46 => ?_) | refine qq_splitn (tt := 264) (by exact rfl) (fun hg30_46 => ?_) (fun hg30_46 => ?_) | refine qq_split (tt := 264) (by exact rfl) (fun hg30_46 => ?_) (fun hg30_46 => ?_)
                ·
                  refine qq_gt (by exact rfl) (by exact rfl) (OpY.s (by first | exact y_load_all Try.underlying32 rfl Try.sizeOf32 (by exact rfl) (by repeat (first | exact .head _ | refine .tail _ ?_)) (by exact rfl) | exact y_load_2 Try.underlying32 rfl Try.sizeOf32 (by exact rfl) (by repeat (first | exact .head _ | refine .tail _ ?_)) (by exact rfl) (by exact rfl) | exact y_load_ca Try.underlying32 rfl Try.sizeOf32 (by exact rfl) (by repeat (first | exact .head _ | refine .tail _ ?_)) (by assumption) (by exact rfl))) rfl ?_
                  refine qq_gt (by exact rfl) (by exact rfl) (OpY.s (by first | exact y_load_all Try.underlying32 rfl Try.sizeOf32 (by exact rfl) (by repeat (first | exact .head _ | refine .tail _ ?_)) (by exact rfl) | exact y_load_2 Try.underlying32 rfl Try.sizeOf32 (by exact rfl) (by repeat (first | exact .head _ | refine .tail _ ?_)) (by exact rfl) (by exact rfl) | exact y_load_ca Try.underlying32 rfl Try.sizeOf32 (by exact rfl) (by repeat (first | exact .head _ | refine .tail _ ?_)) (by assumption) (by exact rfl))) rfl ?_
                  refine qq_gt (by exact rfl) (by exact rfl) (OpY.s (y_neqs (by kernel_rfl) (by exact rfl) (by exact rfl) (neq32 _ _ _ _))) rfl ?_
                  refine qq_gt (by exact rfl) (by exact rfl) (OpY.s (y_move (by exact rfl))) rfl ?_
                  refine qq_known (tt := 268) (b' := false) (by exact rfl) (by simp [hpe hg30_46]) ?_
                  refine qq_gt (by exact rfl) (by exact rfl) (OpY.s (by first | exact y_load_all Try.underlying32 rfl Try.sizeOf32 (by exact rfl) (by repeat (first | exact .head _ | refine .tail _ ?_)) (by exact rfl) | exact y_load_2 Try.underlying32 rfl Try.sizeOf32 (by exact rfl) (by repeat (first | exact .head _ | refine .tail _ ?_)) (by exact rfl) (by exact rfl) | exact y_load_ca Try.underlying32 rfl Try.sizeOf32 (by exact rfl) (by repeat (first | exact .head _ | refine .tail _ ?_)) (by assumption) (by exact rfl))) rfl ?_
                  refine qq_gt (by exact rfl) (by exact rfl) (OpY.s (by first | exact y_load_all Try.underlying32 rfl Try.sizeOf32 (by exact rfl) (by repeat (first | exact .head _ | refine .tail _ ?_)) (by exact rfl) | exact y_load_2 Try.underlying32 rfl Try.sizeOf32 (by exact rfl) (by repeat (first | exact .head _ | refine .tail _ ?_)) (by exact rfl) (by exact rfl) | exact y_load_ca Try.underlying32 rfl Try.sizeOf32 (by exact rfl) (by repeat (first | exact .head _ | refine .tail _ ?_)) (by assumption) (by exact rfl))) rfl ?_
                  refine qq_gt (by exact rfl) (by exact rfl) (OpY.s (y_neqs (by kernel_rfl) (by exact rfl) (by exact rfl) (neq32 _ _ _ _))) rfl ?_
                  refine qq_gt (by exact rfl) (by exact rfl) (OpY.s (y_pick_f (by exact rfl) (by exact rfl))) rfl ?_
                  refine qq_gt (by exact rfl) (by exact rfl) (OpY.s (y_pick_t (by exact rfl) (by exact rfl))) rfl ?_
                  refine qq_y (OpY.s (y_pick_f (by exact rfl) (by exact rfl))) rfl ?_
                  refine qq_nil ?_
                  refine sx_then ?_
                  refine sc_f (lk_bool rfl (by simp [hce hg30_46])) ?_
                  refine sc_skip ?_
                  refine sx_blk ?_
                  refine sx_then ?_
                  refine sc_region ?_
                  refine sq_y (OpY.s (y_add (by exact rfl) (by exact rfl) (by omega))) rfl ?_
                  refine sq_y (OpY.s (y_move (by exact rfl))) rfl ?_
                  refine sq_nil ?_
                  refine sx_round (k + 1) ?_ ?_ (by repeat (first | exact SubL.nil | refine SubL.cons (by first | exact rfl | exact lk_int rfl (by omega) | exact lk_eq rfl (by simp)) ?_)) (by repeat (first | exact Sel.nil | refine Sel.cons (by repeat (first | exact Rem.here | apply Rem.there)) ?_))
                  · omega
                  · omega
                ·
                  refine qq_gf (by exact rfl) (by exact rfl) (by exact rfl) rfl ?_
                  refine qq_gf (by exact rfl) (by exact rfl) (by exact rfl) rfl ?_
                  refine qq_gf (by exact rfl) (by exact rfl) (by exact rfl) rfl ?_
                  refine qq_gf (by exact rfl) (by exact rfl) (by exact rfl) rfl ?_
                  refine qq_gu (by exact rfl) (by exact rfl) rfl ?_
                  refine qq_gu (by exact rfl) (by exact rfl) rfl ?_
                  refine qq_gu (by exact rfl) (by exact rfl) rfl ?_
                  refine qq_gf (by exact rfl) (by exact rfl) (by exact rfl) rfl ?_
                  refine qq_gt (by exact rfl) (by exact rfl) (OpY.s (y_pick_f (by exact rfl) (by exact rfl))) rfl ?_
                  refine qq_y (OpY.s (y_pick_f (by exact rfl) (by exact rfl))) rfl ?_
                  refine qq_nil ?_
                  refine sx_then ?_
                  refine sc_f (by exact rfl) ?_
                  refine sc_skip ?_
                  refine sx_blk ?_
                  refine sx_then ?_
                  refine sc_region ?_
                  refine sq_y (OpY.s (y_add (by exact rfl) (by exact rfl) (by omega))) rfl ?_
                  refine sq_y (OpY.s (y_move (by exact rfl))) rfl ?_
                  refine sq_nil ?_
                  refine sx_round (k + 1) ?_ ?_ (by repeat (first | exact SubL.nil | refine SubL.cons (by first | exact rfl | exact lk_int rfl (by omega) | exact lk_eq rfl (by simp)) ?_)) (by repeat (first | exact Sel.nil | refine Sel.cons (by repeat (first | exact Rem.here | apply Rem.there)) ?_))
                  · omega
                  · omega
              ·
                refine sc_exit ?_
                refine sx_then_exit ?_
                refine sx_round_exit ?_
                refine sx_blk_hit ?_
                refine sx_then ?_
                refine sc_seq ?_
                refine sc_region ?_
                refine sq_y (y_call (first := []) (caps := []) (by exact rfl) Try.call14 EvL.nil (fun w1 _ => alive14 w1)) rfl ?_
                refine sq_y (OpY.s (y_assign (by exact rfl))) rfl ?_
                refine sq_nil ?_
                refine sx_then ?_
                refine sc_ret ?_
                refine sx_ret1 (.inl rfl) rfl Try.results9 (by exact rfl) ?_
                intro w' hw'
                exact ⟨rfl, hw'.below (by repeat (first | exact .head _ | refine .tail _ ?_))⟩
theorem order9i (w : World) (r : Rc) (a : Option Addr) (c : Nat) (f : Nat → Option Addr) (cf : Nat → Nat) (al : Option Addr) (cl : Nat) (ls : List Wd) (d : Wd) (mz : Int) (tz : Int) (htz : 0 ≤ tz ∧ tz ≤ 255) (hT : TmsA 0 w a r.teams f cf) (hl : WdsA 0 w al ls) (i1 : InI r.p) (i2 : InI r.lim) (i3 : InI r.rate) : Calls Try.prog 9 #[.agg (rcVal r a c).toArray, .slice al ls.length cl, .agg (wdRow d).toArray, .int .i64 mz, .int .u8 tz] w fun e w' => e = .returned (.bool true) ∧ Below w.heap.size w w' := by
  obtain ⟨t, rfl⟩ := Int.eq_ofNat_of_zero_le htz.1
  exact order9 w r a c f cf al cl ls d mz t (by omega) hT hl i1 i2 i3
end Go.Proofs.Ytegdfpilhlcplaa
