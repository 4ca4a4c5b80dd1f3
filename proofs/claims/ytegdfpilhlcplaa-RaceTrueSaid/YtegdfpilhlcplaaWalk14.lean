/- The walks of the specification: Can, all, Count, Points. -/
import Derived.Test.YtegdfpilhlcplaaWalk13
import Derived.Test.YtegdfpilhlcplaaLaw5
namespace Go.Proofs.Ytegdfpilhlcplaa
open Go Go.Eng Go.RowKit Go.Proofs
set_option maxRecDepth 100000
theorem ints_get {lo : Nat} {w : World} {a : Option Addr} {n : Nat} {g : Nat → Int} (h : IntsA lo w a ((List.range n).map g)) {i : Nat} (hi : i < n) : a.isSome = true ∧ CA lo w (elt a i 1) [.int .i64 (g i)] := h i (g i) (by simp [hi])
/-- points as the specification counts them -/
def scV (h : Nat → Int) (p pen : Int) (m : Nat) : Int := h m - pen + (List.range m).countP fun k => decide (h k = p)
theorem scV_eq {h h' : Nat → Int} {p pen : Int} {m : Nat} (he : ∀ k, k ≤ m → h k = h' k) (hp : ∀ k, k ≤ m → h' k ≤ p) : scV h p pen m = ptsC h' p pen m := by
  unfold scV ptsC
  rw [he m (Nat.le_refl _)]
  congr 2
  refine List.countP_congr fun k hk => ?_
  have hk := List.mem_range.1 hk
  have h1 := he k (by omega)
  have h2 := hp k (by omega)
  simp only [decide_eq_true_eq]; omega

theorem bounds49a (w : World) (r : Rc) (a : Option Addr) (c : Nat) (f : Nat → Option Addr) (cf : Nat → Nat) (al : Option Addr) (cl : Nat) (ls : List Wd) (n : Nat) (hn : ls.length = n) (team : Nat) (hteam : team < r.teams.length) (hok : rcB r = true) (hwd : ∀ d, d ∈ ls → wdB r d = true) (hT : TmsA 0 w a r.teams f cf) (hl : WdsA 0 w al ls) (i1 : InI r.p) (i2 : InI r.lim) (i3 : InI r.rate) :
    Calls Try.prog 49 #[.agg (rcVal r a c).toArray, .slice al n cl, .int .i64 team] w fun e w' => ∃ z : Option Addr × Option Addr, e = .returned (.tuple #[.slice z.1 (r.lim.toNat + 1) (r.lim.toNat + 1), .slice z.2 (r.lim.toNat + 1) (r.lim.toNat + 1), .bool (trT r ls team)]) ∧ Below w.heap.size w w' ∧
      IntsA w.heap.size w' z.1 ((List.range (r.lim.toNat + 1)).map (lowB r team ls)) ∧ IntsA w.heap.size w' z.2 ((List.range (r.lim.toNat + 1)).map (highB r team ls)) := by
  subst hn
  refine (bounds49 w r a c f cf al cl ls team hteam hok hwd hT hl i1 i2 i3).mono ?_
  rintro e w' ⟨z, he, hb, h1, h2⟩
  exact ⟨(some ⟨z.1, 0, none⟩, some ⟨z.2, 0, none⟩), by rw [he, isB_eq hok hwd], hb, h1, h2⟩
theorem can61 (w : World) (r : Rc) (a : Option Addr) (c : Nat) (f : Nat → Option Addr) (cf : Nat → Nat) (al : Option Addr) (cl : Nat) (ls : List Wd) (n : Nat) (hn : ls.length = n) (hok : rcB r = true) (hwd : ∀ d, d ∈ ls → wdB r d = true) (hT : TmsA 0 w a r.teams f cf) (hl : WdsA 0 w al ls) (i1 : InI r.p) (i2 : InI r.lim) (i3 : InI r.rate) : Calls Try.prog 61 #[.agg (rcVal r a c).toArray, .slice al n cl] w fun e w' => e = .returned (.bool ((List.range r.teams.length).all (trT r ls))) ∧ Below w.heap.size w w' := by
  have hlen := hT.len
  refine calls_of_SC (args := [.agg (rcVal r a c).toArray, .slice al n cl]) Try.func61 rfl Try.ntmps61 rfl ?_
  simp only [argL, Nat.zero_add]
  refine sc_seq ?_
  refine sc_region ?_
  refine sq_box (by exact rfl) rfl (fun b2 => ?_)
  refine sq_y (OpY.s (y_assign (by exact rfl))) rfl ?_
  refine sq_nil ?_
  refine sx_then ?_
  refine sc_seq ?_
  refine sc_seq ?_
  refine sc_region ?_
  refine sq_y (OpY.s (y_assign (by exact rfl))) rfl ?_
  refine sq_nil ?_
  refine sx_then ?_
  refine sc_block ?_
  refine sc_loop (σ := Nat)
    (fun s => [(1, .slice al n cl), (2, .pointer (some ⟨b2, 0, none⟩)), (5, .int .i64 s)])
    (fun s => [.blk b2 (.cells (rcVal r a c).toArray 24 (0, 0)), .reg 0 w])
    (fun s => s ≤ r.teams.length ∧ ∀ t, t < s → trT r ls t = true)
    (fun s => r.teams.length - s)
    (0) ?_ (by repeat (first | exact SubL.nil | refine SubL.cons (by first | exact rfl | exact lk_int rfl (by omega) | exact lk_eq rfl (by simp)) ?_)) (by repeat (first | exact Sel.nil | refine Sel.cons (by repeat (first | exact Rem.here | apply Rem.there)) ?_)) ?_
  · exact ⟨Nat.zero_le _, fun t ht => absurd ht (Nat.not_lt_zero t)⟩
  rintro k ⟨hk, hall⟩
  refine sc_seq ?_
  refine sc_seq ?_
  refine sc_region ?_
  refine sq_y (OpY.s (y_move (by exact rfl))) rfl ?_
  refine sq_y (OpY.s (by first | exact y_fab Try.underlying24 (by exact rfl) (by exact Try.sizeOf22) (by exact rfl) rfl | exact y_fa Try.underlying24 (by exact rfl) (by exact Try.sizeOf22) (by exact rfl) rfl)) rfl ?_
  refine sq_y (OpY.s (by first | exact y_load_blk Try.underlying22 rfl (by exact rfl) (by repeat (first | exact .head _ | refine .tail _ ?_)) (by exact rfl) | exact y_load_caj Try.underlying22 rfl (by exact rfl) (by repeat (first | exact .head _ | refine .tail _ ?_)) (by assumption) (by exact rfl) | exact y_load_ca0 Try.underlying22 rfl (by exact rfl) (by repeat (first | exact .head _ | refine .tail _ ?_)) (by assumption) (by exact rfl))) rfl ?_
  refine sq_y (OpY.s (y_len Try.underlying22 (by exact rfl))) rfl ?_
  refine sq_y (OpY.s (y_lss (by exact rfl) (by exact rfl))) rfl ?_
  refine sq_nil ?_
  refine sx_then ?_
  first | refine sc_if (by exact rfl) (fun hc0 => ?_) (fun hc0 => ?_) | refine sc_ifn (by exact rfl) (fun hc0 => ?_) (fun hc0 => ?_) | refine sc_cond (by exact rfl) (fun hc0 => ?_) (fun hc0 => ?_)
  ·
    have ht : k < r.teams.length := by omega
    refine sc_skip ?_
    refine sx_then ?_
    refine sc_seq ?_
    refine sc_block ?_
    refine sc_seq ?_
    refine sc_region ?_
    refine sq_y (OpY.s (by first | exact y_load_all Try.underlying24 rfl Try.sizeOf24 (by exact rfl) (by repeat (first | exact .head _ | refine .tail _ ?_)) (by exact rfl) | exact y_load_ca Try.underlying24 rfl Try.sizeOf24 (by exact rfl) (by repeat (first | exact .head _ | refine .tail _ ?_)) (by assumption) (by exact rfl))) rfl ?_
    refine sq_y (OpY.s (y_move (by exact rfl))) rfl ?_
    refine sq_y (OpY.s (y_move (by exact rfl))) rfl ?_
    refine sq_call_new (first := []) (caps := []) (Z := Option Addr × Option Addr) (fun z => .tuple #[.slice z.1 (r.lim.toNat + 1) (r.lim.toNat + 1), .slice z.2 (r.lim.toNat + 1) (r.lim.toNat + 1), .bool (trT r ls (k))]) (fun lo w' z => IntsA lo w' z.1 ((List.range (r.lim.toNat + 1)).map (lowB r (k) ls)) ∧ IntsA lo w' z.2 ((List.range (r.lim.toNat + 1)).map (highB r (k) ls))) (by exact rfl) Try.call49 (EvL.cons (by exact rfl) (EvL.cons (by exact rfl) (EvL.cons (by exact rfl) EvL.nil))) (fun w1 hw1 => bounds49a w1 r a c f cf al cl ls _ hn (k) ht hok hwd (hT.at hw1 (by repeat (first | exact .head _ | refine .tail _ ?_))) (hl.at hw1 (by repeat (first | exact .head _ | refine .tail _ ?_))) i1 i2 i3) rfl (fun lo49 w49 z49 h49 => ?_)
    refine sq_y (OpY.s (y_move (by exact rfl))) rfl ?_
    refine sq_y (OpY.s (y_extract (by exact rfl) (by exact rfl))) rfl ?_
    refine sq_y (OpY.s (y_extract (by exact rfl) (by exact rfl))) rfl ?_
    refine sq_y (OpY.s (y_extract (by exact rfl) (by exact rfl))) rfl ?_
    refine sq_y (OpY.s (y_assign (by exact rfl))) rfl ?_
    refine sq_y (OpY.s (y_assign (by exact rfl))) rfl ?_
    refine sq_y (OpY.s (y_assign (by exact rfl))) rfl ?_
    refine sq_nil ?_
    refine sx_then ?_
    refine sc_seq ?_
    refine sc_region ?_
    refine sq_y (OpY.s (y_move (by exact rfl))) rfl ?_
    refine sq_y (OpY.s (y_not (by exact rfl))) rfl ?_
    refine sq_nil ?_
    refine sx_then ?_
    first | refine sc_if (by exact rfl) (fun hc1 => ?_) (fun hc1 => ?_) | refine sc_ifn (by exact rfl) (fun hc1 => ?_) (fun hc1 => ?_) | refine sc_cond (by exact rfl) (fun hc1 => ?_) (fun hc1 => ?_)
    ·
      refine sc_seq ?_
      refine sc_region ?_
      refine sq_y (OpY.s (y_assign (by exact rfl))) rfl ?_
      refine sq_nil ?_
      refine sx_then ?_
      refine sc_ret ?_
      refine sx_blk_ret ?_
      refine sx_then_ret ?_
      refine sx_round_ret ?_
      refine sx_blk_ret ?_
      refine sx_then_ret ?_
      refine sx_ret1 (.inl rfl) rfl Try.results61 (by exact rfl) ?_
      intro w' hw'
      refine ⟨?_, hw'.below (by repeat (first | exact .head _ | refine .tail _ ?_))⟩
      congr 2
      symm
      rw [List.all_eq_false]
      exact ⟨k, List.mem_range.2 ht, by simpa using hc1⟩
    ·
      refine sc_skip ?_
      refine sx_blk ?_
      refine sx_then ?_
      refine sc_region ?_
      refine sq_y (OpY.s (y_move (by exact rfl))) rfl ?_
      refine sq_y (OpY.s (y_add (by exact rfl) (by exact rfl) (by omega))) rfl ?_
      refine sq_y (OpY.s (y_assign (by exact rfl))) rfl ?_
      refine sq_nil ?_
      refine sx_round (k + 1) ?_ ?_ (by repeat (first | exact SubL.nil | refine SubL.cons (by first | exact rfl | exact lk_int rfl (by omega) | exact lk_eq rfl (by simp)) ?_)) (by repeat (first | exact Sel.nil | refine Sel.cons (by repeat (first | exact Rem.here | apply Rem.there)) ?_))
      · refine ⟨by omega, fun t ht => ?_⟩
        rcases Nat.lt_succ_iff_lt_or_eq.1 ht with h | rfl
        · exact hall t h
        · simpa using hc1
      · omega
  ·
    refine sc_exit ?_
    refine sx_then_exit ?_
    refine sx_round_exit ?_
    refine sx_blk_hit ?_
    refine sx_then ?_
    refine sc_seq ?_
    refine sc_region ?_
    refine sq_y (OpY.s (y_assign (by exact rfl))) rfl ?_
    refine sq_nil ?_
    refine sx_then ?_
    refine sc_ret ?_
    refine sx_ret1 (.inl rfl) rfl Try.results61 (by exact rfl) ?_
    intro w' hw'
    refine ⟨?_, hw'.below (by repeat (first | exact .head _ | refine .tail _ ?_))⟩
    congr 2
    symm
    rw [List.all_eq_true]
    intro t ht
    exact hall t (by have := List.mem_range.1 ht; omega)
theorem all48 (w : World) (r : Rc) (a : Option Addr) (c : Nat) (f : Nat → Option Addr) (cf : Nat → Nat) (al : Option Addr) (cl : Nat) (ls : List Wd) (tz mz : Int) (hT : TmsA 0 w a r.teams f cf) (hl : WdsA 0 w al ls) (i1 : InI r.p) (i2 : InI r.lim) (i3 : InI r.rate) : Calls Try.prog 48 #[.agg (rcVal r a c).toArray, .slice al ls.length cl, .int .i64 tz, .int .i64 mz] w fun e w' => e = .returned (.int .i64 (findE r ls tz mz)) ∧ Below w.heap.size w w' := by
  have hlen := hT.len
  refine calls_of_SC (args := [.agg (rcVal r a c).toArray, .slice al ls.length cl, .int .i64 tz, .int .i64 mz]) Try.func48 rfl Try.ntmps48 rfl ?_
  simp only [argL, Nat.reduceAdd, Nat.zero_add]
  refine sc_seq ?_
  refine sc_region ?_
  refine sq_box (by exact rfl) rfl (fun b4 => ?_)
  refine sq_y (OpY.s (y_assign (by exact rfl))) rfl ?_
  refine sq_nil ?_
  refine sx_then ?_
  refine sc_seq ?_
  refine sc_region ?_
  refine sq_y (OpY.s (by first | exact y_load_all Try.underlying24 rfl Try.sizeOf24 (by exact rfl) (by repeat (first | exact .head _ | refine .tail _ ?_)) (by exact rfl) | exact y_load_ca Try.underlying24 rfl Try.sizeOf24 (by exact rfl) (by repeat (first | exact .head _ | refine .tail _ ?_)) (by assumption) (by exact rfl))) rfl ?_
  refine sq_y (OpY.s (y_move (by exact rfl))) rfl ?_
  refine sq_y (y_call (first := []) (caps := []) (by exact rfl) Try.call60 (EvL.cons (by exact rfl) (EvL.cons (by exact rfl) EvL.nil)) (fun w1 hw1 => check60 w1 _ r al cl ls ((hT.at hw1 (by repeat (first | exact .head _ | refine .tail _ ?_))).rc i1 i2 i3) (hl.at hw1 (by repeat (first | exact .head _ | refine .tail _ ?_))))) rfl ?_
  refine sq_y (OpY.s (y_assign (by exact rfl))) rfl ?_
  refine sq_nil ?_
  refine sx_then ?_
  refine sc_seq ?_
  refine sc_seq ?_
  refine sc_region ?_
  refine sq_y (OpY.s (y_move (by exact rfl))) rfl ?_
  refine sq_y (OpY.s (y_neq (by exact rfl) (by exact rfl))) rfl ?_
  refine sq_nil ?_
  refine sx_then ?_
  first | refine sc_if (by exact rfl) (fun hc0 => ?_) (fun hc0 => ?_) | refine sc_ifn (by exact rfl) (fun hc0 => ?_) (fun hc0 => ?_) | refine sc_cond (by exact rfl) (fun hc0 => ?_) (fun hc0 => ?_)
  ·
    refine sc_seq ?_
    refine sc_region ?_
    refine sq_y (OpY.s (y_move (by exact rfl))) rfl ?_
    refine sq_y (OpY.s (y_assign (by exact rfl))) rfl ?_
    refine sq_nil ?_
    refine sx_then ?_
    refine sc_ret ?_
    refine sx_then_ret ?_
    refine sx_ret1 (.inl rfl) rfl Try.results48 (by exact rfl) ?_
    intro w' hw'
    refine ⟨?_, hw'.below (by repeat (first | exact .head _ | refine .tail _ ?_))⟩
    unfold findE openE; rw [if_pos hc0]
  ·
    refine sc_skip ?_
    refine sx_then ?_
    refine sc_seq ?_
    refine sc_seq ?_
    refine sc_merge 27 (.bool (!tmzB r tz mz)) ?_ ?_
    ·
      refine sc_region ?_
      refine sq_y (OpY.s (y_move (by exact rfl))) rfl ?_
      refine sq_y (OpY.s (by first | exact y_fab Try.underlying24 (by exact rfl) (by exact Try.sizeOf22) (by exact rfl) rfl | exact y_fa Try.underlying24 (by exact rfl) (by exact Try.sizeOf22) (by exact rfl) rfl)) rfl ?_
      refine sq_y (OpY.s (by first | exact y_load_blk Try.underlying22 rfl (by exact rfl) (by repeat (first | exact .head _ | refine .tail _ ?_)) (by exact rfl) | exact y_load_caj Try.underlying22 rfl (by exact rfl) (by repeat (first | exact .head _ | refine .tail _ ?_)) (by assumption) (by exact rfl) | exact y_load_ca0 Try.underlying22 rfl (by exact rfl) (by repeat (first | exact .head _ | refine .tail _ ?_)) (by assumption) (by exact rfl))) rfl ?_
      refine sq_y (OpY.s (y_len Try.underlying22 (by exact rfl))) rfl ?_
      refine sq_y (OpY.s (y_sub (by exact rfl) (by exact rfl) (by omega))) rfl ?_
      refine sq_y (y_call (first := []) (caps := []) (by exact rfl) Try.call42 (EvL.cons (by exact rfl) (EvL.cons (by exact rfl) (EvL.cons (by exact rfl) EvL.nil))) (fun w1 _ => within42 _ _ _ w1)) rfl ?_
      refine sq_y (OpY.s (y_not (by exact rfl))) rfl ?_
      refine sq_y (OpY.s (y_move (by exact rfl))) rfl ?_
      first | refine sq_splitd (tt := 23) (by exact rfl) (fun hg4_7 => ?_) (fun hg4_7 => ?_) | refine sq_splitn (tt := 23) (by exact rfl) (fun hg4_7 => ?_) (fun hg4_7 => ?_) | refine sq_split (tt := 23) (by exact rfl) (fun hg4_7 => ?_) (fun hg4_7 => ?_)
      ·
        refine sq_gf (by exact rfl) (by exact rfl) (by exact rfl) rfl ?_
        refine sq_gf (by exact rfl) (by exact rfl) (by exact rfl) rfl ?_
        refine sq_gf (by exact rfl) (by exact rfl) (by exact rfl) rfl ?_
        refine sq_y (OpY.s (y_pick_t (by exact rfl) (by exact rfl))) rfl ?_
        refine sq_nil ?_
        refine sx_merge ?_ ?_
        · exact lk_bool rfl (by unfold tmzB minB; simp [*])
        · exact (by repeat (first | exact SubX.refl _ _ | refine SubX.skipT ?_ | refine SubX.skip rfl ?_))
      ·
        refine sq_gt (by exact rfl) (by exact rfl) (OpY.s (y_move (by exact rfl))) rfl ?_
        refine sq_gt (by exact rfl) (by exact rfl) (y_call (first := []) (caps := []) (by exact rfl) Try.call42 (EvL.cons (by exact rfl) (EvL.cons (by exact rfl) (EvL.cons (by exact rfl) EvL.nil))) (fun w1 _ => within42 _ _ _ w1)) rfl ?_
        refine sq_gt (by exact rfl) (by exact rfl) (OpY.s (y_not (by exact rfl))) rfl ?_
        refine sq_y (OpY.s (y_pick_f (by exact rfl) (by exact rfl))) rfl ?_
        refine sq_nil ?_
        refine sx_merge ?_ ?_
        · exact lk_bool rfl (by unfold tmzB minB; simp [*])
        · exact (by repeat (first | exact SubX.refl _ _ | refine SubX.skipT ?_ | refine SubX.skip rfl ?_))
    refine sx_then ?_
    first | refine sc_if (by exact rfl) (fun hc1 => ?_) (fun hc1 => ?_) | refine sc_ifn (by exact rfl) (fun hc1 => ?_) (fun hc1 => ?_) | refine sc_cond (by exact rfl) (fun hc1 => ?_) (fun hc1 => ?_)
    ·
      refine sc_seq ?_
      refine sc_region ?_
      refine sq_y (OpY.s (y_assign (by exact rfl))) rfl ?_
      refine sq_nil ?_
      refine sx_then ?_
      refine sc_ret ?_
      refine sx_then_ret ?_
      refine sx_ret1 (.inl rfl) rfl Try.results48 (by exact rfl) ?_
      intro w' hw'
      refine ⟨?_, hw'.below (by repeat (first | exact .head _ | refine .tail _ ?_))⟩
      have hv : tmzB r tz mz = false := by simpa using hc1
      unfold findE openE; rw [if_neg (fun h => h hc0), if_pos hv]
    ·
      refine sc_skip ?_
      refine sx_then ?_
      refine sc_seq ?_
      refine sc_seq ?_
      obtain ⟨hok, hll, hwd⟩ := chk_zero hc0
      refine sc_region ?_
      refine sq_y (OpY.s (by first | exact y_load_all Try.underlying24 rfl Try.sizeOf24 (by exact rfl) (by repeat (first | exact .head _ | refine .tail _ ?_)) (by exact rfl) | exact y_load_ca Try.underlying24 rfl Try.sizeOf24 (by exact rfl) (by repeat (first | exact .head _ | refine .tail _ ?_)) (by assumption) (by exact rfl))) rfl ?_
      refine sq_y (OpY.s (y_move (by exact rfl))) rfl ?_
      refine sq_y (y_call (first := []) (caps := []) (by exact rfl) Try.call61 (EvL.cons (by exact rfl) (EvL.cons (by exact rfl) EvL.nil)) (fun w1 hw1 => can61 w1 r a c f cf al cl ls _ rfl hok hwd (hT.at hw1 (by repeat (first | exact .head _ | refine .tail _ ?_))) (hl.at hw1 (by repeat (first | exact .head _ | refine .tail _ ?_))) i1 i2 i3)) rfl ?_
      refine sq_y (OpY.s (y_not (by exact rfl))) rfl ?_
      refine sq_nil ?_
      refine sx_then ?_
      first | refine sc_if (by exact rfl) (fun hc2 => ?_) (fun hc2 => ?_) | refine sc_ifn (by exact rfl) (fun hc2 => ?_) (fun hc2 => ?_) | refine sc_cond (by exact rfl) (fun hc2 => ?_) (fun hc2 => ?_)
      ·
        refine sc_seq ?_
        refine sc_region ?_
        refine sq_y (OpY.s (y_assign (by exact rfl))) rfl ?_
        refine sq_nil ?_
        refine sx_then ?_
        refine sc_ret ?_
        refine sx_then_ret ?_
        refine sx_ret1 (.inl rfl) rfl Try.results48 (by exact rfl) ?_
        intro w' hw'
        refine ⟨?_, hw'.below (by repeat (first | exact .head _ | refine .tail _ ?_))⟩
        have hv : ¬ tmzB r tz mz = false := by simpa using hc1
        unfold findE openE; rw [if_neg (fun h => h hc0), if_neg hv, if_neg (by intro h; rw [h] at hc2; simp at hc2)]
      ·
        refine sc_skip ?_
        refine sx_then ?_
        refine sc_seq ?_
        refine sc_region ?_
        refine sq_y (OpY.s (y_assign (by exact rfl))) rfl ?_
        refine sq_nil ?_
        refine sx_then ?_
        refine sc_ret ?_
        refine sx_ret1 (.inl rfl) rfl Try.results48 (by exact rfl) ?_
        intro w' hw'
        refine ⟨?_, hw'.below (by repeat (first | exact .head _ | refine .tail _ ?_))⟩
        have hv : ¬ tmzB r tz mz = false := by simpa using hc1
        unfold findE openE; rw [if_neg (fun h => h hc0), if_neg hv, if_pos (by simpa using hc2)]
theorem count18 (w : World) (r : Rc) (a : Option Addr) (c : Nat) (f : Nat → Option Addr) (cf : Nat → Nat) (al : Option Addr) (cl : Nat) (ls : List Wd) (tz mz : Int) (hT : TmsA 0 w a r.teams f cf) (hl : WdsA 0 w al ls) (i1 : InI r.p) (i2 : InI r.lim) (i3 : InI r.rate) : Calls Try.prog 18 #[.agg (rcVal r a c).toArray, .slice al ls.length cl, .int .i64 tz, .int .i64 mz] w fun e w' => e = .returned (countAns r ls tz mz) ∧ Below w.heap.size w w' := by
  refine calls_of_SC (args := [.agg (rcVal r a c).toArray, .slice al ls.length cl, .int .i64 tz, .int .i64 mz]) Try.func18 rfl Try.ntmps18 rfl ?_
  simp only [argL, Nat.reduceAdd, Nat.zero_add]
  refine sc_seq ?_
  refine sc_region ?_
  refine sq_box (by exact rfl) rfl (fun b4 => ?_)
  refine sq_alloc Try.zeroValue32 rfl (fun b8 => ?_)
  refine sq_y (OpY.s (y_assign (by exact rfl))) rfl ?_
  refine sq_nil ?_
  refine sx_then ?_
  refine sc_seq ?_
  refine sc_region ?_
  refine sq_y (OpY.s (by first | exact y_load_all Try.underlying24 rfl Try.sizeOf24 (by exact rfl) (by repeat (first | exact .head _ | refine .tail _ ?_)) (by exact rfl) | exact y_load_ca Try.underlying24 rfl Try.sizeOf24 (by exact rfl) (by repeat (first | exact .head _ | refine .tail _ ?_)) (by assumption) (by exact rfl))) rfl ?_
  refine sq_y (OpY.s (y_move (by exact rfl))) rfl ?_
  refine sq_y (OpY.s (y_move (by exact rfl))) rfl ?_
  refine sq_y (OpY.s (y_move (by exact rfl))) rfl ?_
  refine sq_y (y_call (first := []) (caps := []) (by exact rfl) Try.call48 (EvL.cons (by exact rfl) (EvL.cons (by exact rfl) (EvL.cons (by exact rfl) (EvL.cons (by exact rfl) EvL.nil)))) (fun w1 hw1 => all48 w1 r a c f cf al cl ls tz mz (hT.at hw1 (by repeat (first | exact .head _ | refine .tail _ ?_))) (hl.at hw1 (by repeat (first | exact .head _ | refine .tail _ ?_))) i1 i2 i3)) rfl ?_
  refine sq_y (OpY.s (y_assign (by exact rfl))) rfl ?_
  refine sq_nil ?_
  refine sx_then ?_
  refine sc_seq ?_
  refine sc_seq ?_
  refine sc_region ?_
  refine sq_y (OpY.s (y_move (by exact rfl))) rfl ?_
  refine sq_y (OpY.s (y_neq (by exact rfl) (by exact rfl))) rfl ?_
  refine sq_nil ?_
  refine sx_then ?_
  first | refine sc_if (by exact rfl) (fun hc0 => ?_) (fun hc0 => ?_) | refine sc_ifn (by exact rfl) (fun hc0 => ?_) (fun hc0 => ?_) | refine sc_cond (by exact rfl) (fun hc0 => ?_) (fun hc0 => ?_)
  ·
    refine sc_seq ?_
    refine sc_region ?_
    refine sq_y (OpY.s (y_build bt32 EvP.nil (by exact rfl))) rfl ?_
    refine sq_y (OpY.s (y_move (by exact rfl))) rfl ?_
    refine sq_store_all Try.sizeOf32 (by exact rfl) (by exact rfl) rfl (by repeat (first | exact Rem.here | apply Rem.there)) rfl rfl ?_
    refine sq_y (OpY.s (y_assign (by exact rfl))) rfl ?_
    refine sq_nil ?_
    refine sx_then ?_
    refine sc_ret ?_
    refine sx_then_ret ?_
    refine sx_retct (.inl rfl) rfl Try.results18 Try.underlying32 rfl Try.sizeOf32 (by exact rfl) (by repeat (first | exact .head _ | refine .tail _ ?_)) rfl (by exact rfl) ?_
    intro w' hw'
    refine ⟨?_, hw'.below (by repeat (first | exact .head _ | refine .tail _ ?_))⟩
    unfold countAns spanAns; rw [if_neg hc0]; rfl
  ·
    refine sc_skip ?_
    refine sx_then ?_
    refine sc_seq ?_
    have hE : findE r ls tz mz = 0 := hc0
    obtain ⟨hz1, hz2, hz3⟩ := openE_zero hE
    obtain ⟨hok, hll, hwd⟩ := chk_zero hz1
    obtain ⟨t, m, rfl, rfl, ht, hm⟩ := tmzB_parts hz2
    have hlim := rcB_nums hok
    have hwk := wrk_le r t m (by omega)
    refine sc_region ?_
    refine sq_y (OpY.s (by first | exact y_load_all Try.underlying24 rfl Try.sizeOf24 (by exact rfl) (by repeat (first | exact .head _ | refine .tail _ ?_)) (by exact rfl) | exact y_load_ca Try.underlying24 rfl Try.sizeOf24 (by exact rfl) (by repeat (first | exact .head _ | refine .tail _ ?_)) (by assumption) (by exact rfl))) rfl ?_
    refine sq_y (OpY.s (y_move (by exact rfl))) rfl ?_
    refine sq_y (OpY.s (y_move (by exact rfl))) rfl ?_
    refine sq_call_new (first := []) (caps := []) (Z := Option Addr × Option Addr) (fun z => .tuple #[.slice z.1 (r.lim.toNat + 1) (r.lim.toNat + 1), .slice z.2 (r.lim.toNat + 1) (r.lim.toNat + 1), .bool (trT r ls (t))]) (fun lo w' z => IntsA lo w' z.1 ((List.range (r.lim.toNat + 1)).map (lowB r (t) ls)) ∧ IntsA lo w' z.2 ((List.range (r.lim.toNat + 1)).map (highB r (t) ls))) (by exact rfl) Try.call49 (EvL.cons (by exact rfl) (EvL.cons (by exact rfl) (EvL.cons (by exact rfl) EvL.nil))) (fun w1 hw1 => bounds49a w1 r a c f cf al cl ls _ rfl (t) ht hok hwd (hT.at hw1 (by repeat (first | exact .head _ | refine .tail _ ?_))) (hl.at hw1 (by repeat (first | exact .head _ | refine .tail _ ?_))) i1 i2 i3) rfl (fun lo49 w49 z49 h49 => ?_)
    refine sq_y (OpY.s (y_move (by exact rfl))) rfl ?_
    refine sq_y (OpY.s (y_extract (by exact rfl) (by exact rfl))) rfl ?_
    refine sq_y (OpY.s (y_extract (by exact rfl) (by exact rfl))) rfl ?_
    refine sq_y (OpY.s (y_extract (by exact rfl) (by exact rfl))) rfl ?_
    refine sq_y (OpY.s (y_assign (by exact rfl))) rfl ?_
    refine sq_y (OpY.s (y_assign (by exact rfl))) rfl ?_
    refine sq_y (OpY.s (y_assign (by exact rfl))) rfl ?_
    refine sq_nil ?_
    refine sx_then ?_
    refine sc_seq ?_
    refine sc_region ?_
    refine sq_y (OpY.s (by first | exact y_load_all Try.underlying24 rfl Try.sizeOf24 (by exact rfl) (by repeat (first | exact .head _ | refine .tail _ ?_)) (by exact rfl) | exact y_load_ca Try.underlying24 rfl Try.sizeOf24 (by exact rfl) (by repeat (first | exact .head _ | refine .tail _ ?_)) (by assumption) (by exact rfl))) rfl ?_
    refine sq_y (OpY.s (y_move (by exact rfl))) rfl ?_
    refine sq_y (OpY.s (y_move (by exact rfl))) rfl ?_
    refine sq_y (y_call (first := []) (caps := []) (by exact rfl) Try.call43 (EvL.cons (by exact rfl) (EvL.cons (by exact rfl) (EvL.cons (by exact rfl) EvL.nil))) (fun w1 hw1 => minutes43 w1 _ r t m ((hT.at hw1 (by repeat (first | exact .head _ | refine .tail _ ?_))).rc i1 i2 i3) (by omega) ht hm)) rfl ?_
    refine sq_y (OpY.s (y_assign (by exact rfl))) rfl ?_
    refine sq_nil ?_
    refine sx_then ?_
    refine sc_seq ?_
    have hl49 := (ints_get h49.1 (show wrk r t m < r.lim.toNat + 1 by omega))
    have hh49 := (ints_get h49.2 (show wrk r t m < r.lim.toNat + 1 by omega))
    have hs1 := hl49.1
    have hs2 := hh49.1
    have hc1 := hl49.2
    have hc2 := hh49.2
    refine sc_drawX ([.reg lo49 w49, .reg 0 w]) (by kernel_rfl) ?_
    refine xj_s 0 (by exact rfl) (by kernel_rfl) (by repeat (first | exact Sel.nil | refine Sel.cons (by repeat (first | exact Rem.here | apply Rem.there)) ?_)) (y_move (by exact rfl)) rfl ?_
    refine xj_s 1 (by exact rfl) (by kernel_rfl) (by repeat (first | exact Sel.nil | refine Sel.cons (by repeat (first | exact Rem.here | apply Rem.there)) ?_)) (y_move (by exact rfl)) rfl ?_
    refine xj_s 2 (by exact rfl) (by kernel_rfl) (by repeat (first | exact Sel.nil | refine Sel.cons (by repeat (first | exact Rem.here | apply Rem.there)) ?_)) (by first | exact y_ia_blk Try.underlying51 Try.sizeOf3 (by exact rfl) (by exact rfl) (by omega) | exact y_ia_el Try.underlying51 Try.sizeOf3 (by exact rfl) (by exact rfl) (by omega) (by first | assumption | simp)) rfl ?_
    refine xj_s 3 (by exact rfl) (by kernel_rfl) (by repeat (first | exact Sel.nil | refine Sel.cons (by repeat (first | exact Rem.here | apply Rem.there)) ?_)) (by first | exact y_load_blk Try.underlying3 rfl (by exact rfl) (by repeat (first | exact .head _ | refine .tail _ ?_)) (by exact rfl) | exact y_load_caj Try.underlying3 rfl (by exact rfl) (by repeat (first | exact .head _ | refine .tail _ ?_)) (by assumption) (by exact rfl) | exact y_load_ca0 Try.underlying3 rfl (by exact rfl) (by repeat (first | exact .head _ | refine .tail _ ?_)) (by assumption) (by exact rfl)) rfl ?_
    refine xj_s 4 (by exact rfl) (by kernel_rfl) (by repeat (first | exact Sel.nil | refine Sel.cons (by repeat (first | exact Rem.here | apply Rem.there)) ?_)) (y_move (by exact rfl)) rfl ?_
    refine xj_s 5 (by exact rfl) (by kernel_rfl) (by repeat (first | exact Sel.nil | refine Sel.cons (by repeat (first | exact Rem.here | apply Rem.there)) ?_)) (y_move (by exact rfl)) rfl ?_
    refine xj_s 6 (by exact rfl) (by kernel_rfl) (by repeat (first | exact Sel.nil | refine Sel.cons (by repeat (first | exact Rem.here | apply Rem.there)) ?_)) (by first | exact y_ia_blk Try.underlying51 Try.sizeOf3 (by exact rfl) (by exact rfl) (by omega) | exact y_ia_el Try.underlying51 Try.sizeOf3 (by exact rfl) (by exact rfl) (by omega) (by first | assumption | simp)) rfl ?_
    refine xj_s 7 (by exact rfl) (by kernel_rfl) (by repeat (first | exact Sel.nil | refine Sel.cons (by repeat (first | exact Rem.here | apply Rem.there)) ?_)) (by first | exact y_load_blk Try.underlying3 rfl (by exact rfl) (by repeat (first | exact .head _ | refine .tail _ ?_)) (by exact rfl) | exact y_load_caj Try.underlying3 rfl (by exact rfl) (by repeat (first | exact .head _ | refine .tail _ ?_)) (by assumption) (by exact rfl) | exact y_load_ca0 Try.underlying3 rfl (by exact rfl) (by repeat (first | exact .head _ | refine .tail _ ?_)) (by assumption) (by exact rfl)) rfl ?_
    refine xj_s 8 (by exact rfl) (by kernel_rfl) (by repeat (first | exact Sel.nil | refine Sel.cons (by repeat (first | exact Rem.here | apply Rem.there)) ?_)) (y_build bt32 (EvP.cons (by exact rfl) (EvP.cons (by exact rfl) EvP.nil)) (by exact rfl)) rfl ?_
    refine xj_one 9 (by exact rfl) (by kernel_rfl) ?_
    refine sq_store_all Try.sizeOf32 (by exact rfl) (by exact rfl) rfl (by repeat (first | exact Rem.here | apply Rem.there)) rfl rfl ?_
    refine sq_nil ?_
    refine sx_xp (by repeat (first | exact Sel.nil | refine Sel.cons (by repeat (first | exact Rem.here | apply Rem.there)) ?_)) ?_
    refine xj_s 10 (by exact rfl) (by kernel_rfl) (by repeat (first | exact Sel.nil | refine Sel.cons (by repeat (first | exact Rem.here | apply Rem.there)) ?_)) (y_assign (by exact rfl)) rfl ?_
    refine xj_done (by kernel_rfl) ?_
    refine sx_then ?_
    refine sc_ret ?_
    refine sx_retct (.inl rfl) rfl Try.results18 Try.underlying32 rfl Try.sizeOf32 (by exact rfl) (by repeat (first | exact .head _ | refine .tail _ ?_)) rfl (by exact rfl) ?_
    intro w' hw'
    refine ⟨?_, hw'.below (by repeat (first | exact .head _ | refine .tail _ ?_))⟩
    unfold countAns spanAns cntP; rw [if_pos hE, lowB_eq hok (by omega), highB_eq hok (by omega)]; rfl
theorem score34 (w : World) (r : Rc) (a : Option Addr) (c : Nat) (f : Nat → Option Addr) (cf : Nat → Nat) (t : Nat) (ah : Option Addr) (n ch : Nat) (h : Nat → Int) (m : Nat) (hT : TmsA 0 w a r.teams f cf) (hok : rcB r = true) (ht : t < r.teams.length) (hh : IntsA 0 w ah ((List.range n).map h)) (hm : m < n) (hn : n ≤ 1001) (hbd : ∀ k, 0 ≤ h k ∧ h k ≤ 10000) :
    Calls Try.prog 34 #[.agg (rcVal r a c).toArray, .int .i64 t, .slice ah n ch, .int .i64 m] w fun e w' => e = .returned (.int .i64 (scV h r.p (penOf r t) m)) ∧ Below w.heap.size w w' := by
  obtain ⟨tm, hte⟩ : ∃ tm, r.teams[t]? = some tm := ⟨_, List.getElem?_eq_getElem ht⟩
  have hsomeT := (hT.el t tm hte).1
  have hcaT := (hT.el t tm hte).2
  have htm := rcB_team hok (List.mem_of_getElem? hte)
  have hpen : 0 ≤ tm.pen ∧ tm.pen ≤ 1000 := by simp only [tmB, Bool.and_eq_true, decide_eq_true_eq] at htm; exact htm.1.1
  have hpe : penOf r t = tm.pen := by unfold penOf; rw [getD_of hte]
  have hlenT := hT.len
  have hbm := hbd m
  have hgm := ints_get hh hm
  have hsm := hgm.1
  have hcm := hgm.2
  have hcb : ∀ k, (List.range k).countP (fun k => decide (h k = r.p)) ≤ k := fun k => by
    have := List.countP_le_length (p := fun k => decide (h k = r.p)) (l := List.range k)
    rwa [List.length_range] at this
  refine calls_of_SC (args := [.agg (rcVal r a c).toArray, .int .i64 t, .slice ah n ch, .int .i64 m]) Try.func34 rfl Try.ntmps34 rfl ?_
  simp only [argL, Nat.reduceAdd, Nat.zero_add]
  refine sc_seq ?_
  refine sc_region ?_
  refine sq_box (by exact rfl) rfl (fun b4 => ?_)
  refine sq_y (OpY.s (y_assign (by exact rfl))) rfl ?_
  refine sq_nil ?_
  refine sx_then ?_
  refine sc_seq ?_
  refine sc_draw rfl (by kernel_rfl) (by kernel_rfl) ?_
  refine qq_y (OpY.s (y_move (by exact rfl))) rfl ?_
  refine qq_y (OpY.s (y_move (by exact rfl))) rfl ?_
  refine qq_y (OpY.s (by first | exact y_ia_blk Try.underlying51 Try.sizeOf3 (by exact rfl) (by exact rfl) (by omega) | exact y_ia_el Try.underlying51 Try.sizeOf3 (by exact rfl) (by exact rfl) (by omega) (by first | assumption | simp))) rfl ?_
  refine qq_y (OpY.s (by first | exact y_load_blk Try.underlying3 rfl (by exact rfl) (by repeat (first | exact .head _ | refine .tail _ ?_)) (by exact rfl) | exact y_load_caj Try.underlying3 rfl (by exact rfl) (by repeat (first | exact .head _ | refine .tail _ ?_)) (by assumption) (by exact rfl) | exact y_load_ca0 Try.underlying3 rfl (by exact rfl) (by repeat (first | exact .head _ | refine .tail _ ?_)) (by assumption) (by exact rfl))) rfl ?_
  refine qq_y (OpY.s (by first | exact y_fab Try.underlying24 (by exact rfl) (by exact Try.sizeOf22) (by exact rfl) rfl | exact y_fa Try.underlying24 (by exact rfl) (by exact Try.sizeOf22) (by exact rfl) rfl)) rfl ?_
  refine qq_y (OpY.s (by first | exact y_load_blk Try.underlying22 rfl (by exact rfl) (by repeat (first | exact .head _ | refine .tail _ ?_)) (by exact rfl) | exact y_load_caj Try.underlying22 rfl (by exact rfl) (by repeat (first | exact .head _ | refine .tail _ ?_)) (by assumption) (by exact rfl) | exact y_load_ca0 Try.underlying22 rfl (by exact rfl) (by repeat (first | exact .head _ | refine .tail _ ?_)) (by assumption) (by exact rfl))) rfl ?_
  refine qq_y (OpY.s (y_move (by exact rfl))) rfl ?_
  refine qq_y (OpY.s (by first | exact y_ia_blk Try.underlying22 Try.sizeOf66 (by exact rfl) (by exact rfl) (by omega) | exact y_ia_el Try.underlying22 Try.sizeOf66 (by exact rfl) (by exact rfl) (by omega) (by first | assumption | simp))) rfl ?_
  refine qq_y (OpY.s (by first | exact y_fab Try.underlying66 (by exact rfl) (by exact Try.sizeOf3) (by exact rfl) rfl | exact y_fa Try.underlying66 (by exact rfl) (by exact Try.sizeOf3) (by exact rfl) rfl)) rfl ?_
  refine qq_y (OpY.s (by first | exact y_load_blk Try.underlying3 rfl (by exact rfl) (by repeat (first | exact .head _ | refine .tail _ ?_)) (by exact rfl) | exact y_load_caj Try.underlying3 rfl (by exact rfl) (by repeat (first | exact .head _ | refine .tail _ ?_)) (by assumption) (by exact rfl) | exact y_load_ca0 Try.underlying3 rfl (by exact rfl) (by repeat (first | exact .head _ | refine .tail _ ?_)) (by assumption) (by exact rfl))) rfl ?_
  refine qq_y (OpY.s (y_sub (by exact rfl) (by exact rfl) (by omega))) rfl ?_
  refine qq_y (OpY.s (y_assign (by exact rfl))) rfl ?_
  refine qq_nil ?_
  refine sx_then ?_
  refine sc_seq ?_
  refine sc_seq ?_
  refine sc_region ?_
  refine sq_y (OpY.s (y_assign (by exact rfl))) rfl ?_
  refine sq_nil ?_
  refine sx_then ?_
  refine sc_block ?_
  have e0 : h m - tm.pen = h m - tm.pen + ((List.range 0).countP (fun k => decide (h k = r.p)) : Nat) := by simp
  refine sc_loop (σ := Nat)
    (fun s => [(2, .slice ah n ch), (3, .int .i64 m), (4, .pointer (some ⟨b4, 0, none⟩)), (9, .int .i64 (h m - tm.pen + ((List.range s).countP (fun k => decide (h k = r.p)) : Nat))), (10, .int .i64 s)])
    (fun s => [.blk b4 (.cells (rcVal r a c).toArray 24 (0, 0)), .reg 0 w])
    (fun s => s ≤ m)
    (fun s => m - s)
    (0) ?_ (by repeat (first | exact SubL.nil | refine SubL.cons (by first | exact rfl | exact lk_int rfl e0 | exact lk_int rfl (by omega)) ?_)) (by repeat (first | exact Sel.nil | refine Sel.cons (by repeat (first | exact Rem.here | apply Rem.there)) ?_)) ?_
  · exact Nat.zero_le _
  rintro k hk
  have hck := hcb k
  refine sc_seq ?_
  refine sc_seq ?_
  refine sc_region ?_
  refine sq_y (OpY.s (y_move (by exact rfl))) rfl ?_
  refine sq_y (OpY.s (y_move (by exact rfl))) rfl ?_
  refine sq_y (OpY.s (y_lss (by exact rfl) (by exact rfl))) rfl ?_
  refine sq_nil ?_
  refine sx_then ?_
  first | refine sc_if (by exact rfl) (fun hc0 => ?_) (fun hc0 => ?_) | refine sc_ifn (by exact rfl) (fun hc0 => ?_) (fun hc0 => ?_) | refine sc_cond (by exact rfl) (fun hc0 => ?_) (fun hc0 => ?_)
  ·
    have hk' : k < m := by omega
    have hgk := ints_get hh (show k < n by omega)
    have hsk := hgk.1
    have hck2 := hgk.2
    refine sc_skip ?_
    refine sx_then ?_
    refine sc_seq ?_
    refine sc_block ?_
    refine sc_seq ?_
    refine sc_draw rfl (by kernel_rfl) (by kernel_rfl) ?_
    refine qq_y (OpY.s (y_move (by exact rfl))) rfl ?_
    refine qq_y (OpY.s (y_move (by exact rfl))) rfl ?_
    refine qq_y (OpY.s (by first | exact y_ia_blk Try.underlying51 Try.sizeOf3 (by exact rfl) (by exact rfl) (by omega) | exact y_ia_el Try.underlying51 Try.sizeOf3 (by exact rfl) (by exact rfl) (by omega) (by first | assumption | simp))) rfl ?_
    refine qq_y (OpY.s (by first | exact y_load_blk Try.underlying3 rfl (by exact rfl) (by repeat (first | exact .head _ | refine .tail _ ?_)) (by exact rfl) | exact y_load_caj Try.underlying3 rfl (by exact rfl) (by repeat (first | exact .head _ | refine .tail _ ?_)) (by assumption) (by exact rfl) | exact y_load_ca0 Try.underlying3 rfl (by exact rfl) (by repeat (first | exact .head _ | refine .tail _ ?_)) (by assumption) (by exact rfl))) rfl ?_
    refine qq_y (OpY.s (by first | exact y_fab Try.underlying24 (by exact rfl) (by exact Try.sizeOf3) (by exact rfl) rfl | exact y_fa Try.underlying24 (by exact rfl) (by exact Try.sizeOf3) (by exact rfl) rfl)) rfl ?_
    refine qq_y (OpY.s (by first | exact y_load_blk Try.underlying3 rfl (by exact rfl) (by repeat (first | exact .head _ | refine .tail _ ?_)) (by exact rfl) | exact y_load_caj Try.underlying3 rfl (by exact rfl) (by repeat (first | exact .head _ | refine .tail _ ?_)) (by assumption) (by exact rfl) | exact y_load_ca0 Try.underlying3 rfl (by exact rfl) (by repeat (first | exact .head _ | refine .tail _ ?_)) (by assumption) (by exact rfl))) rfl ?_
    refine qq_y (OpY.s (y_eql (by exact rfl) (by exact rfl))) rfl ?_
    refine qq_nil ?_
    refine sx_then ?_
    first | refine sc_if (by exact rfl) (fun hc1 => ?_) (fun hc1 => ?_) | refine sc_ifn (by exact rfl) (fun hc1 => ?_) (fun hc1 => ?_) | refine sc_cond (by exact rfl) (fun hc1 => ?_) (fun hc1 => ?_)
    ·
      have e1 : h m - tm.pen + ((List.range k).countP (fun k => decide (h k = r.p)) : Nat) + 1 = h m - tm.pen + ((List.range (k + 1)).countP (fun k => decide (h k = r.p)) : Nat) := by
        rw [List.range_succ, List.countP_append, List.countP_singleton, if_pos (decide_eq_true hc1)]; omega
      refine sc_region ?_
      refine sq_y (OpY.s (y_move (by exact rfl))) rfl ?_
      refine sq_y (OpY.s (y_add (by exact rfl) (by exact rfl) (by omega))) rfl ?_
      refine sq_y (OpY.s (y_assign (by exact rfl))) rfl ?_
      refine sq_nil ?_
      refine sx_blk ?_
      refine sx_then ?_
      refine sc_region ?_
      refine sq_y (OpY.s (y_move (by exact rfl))) rfl ?_
      refine sq_y (OpY.s (y_add (by exact rfl) (by exact rfl) (by omega))) rfl ?_
      refine sq_y (OpY.s (y_assign (by exact rfl))) rfl ?_
      refine sq_nil ?_
      refine sx_round (k + 1) ?_ ?_ (by repeat (first | exact SubL.nil | refine SubL.cons (by first | exact rfl | exact lk_int rfl e1 | exact lk_int rfl (by omega)) ?_)) (by repeat (first | exact Sel.nil | refine Sel.cons (by repeat (first | exact Rem.here | apply Rem.there)) ?_))
      · omega
      · omega
    ·
      have e1 : h m - tm.pen + ((List.range k).countP (fun k => decide (h k = r.p)) : Nat) = h m - tm.pen + ((List.range (k + 1)).countP (fun k => decide (h k = r.p)) : Nat) := by
        rw [List.range_succ, List.countP_append, List.countP_singleton, if_neg (by simpa using hc1)]; omega
      refine sc_skip ?_
      refine sx_blk ?_
      refine sx_then ?_
      refine sc_region ?_
      refine sq_y (OpY.s (y_move (by exact rfl))) rfl ?_
      refine sq_y (OpY.s (y_add (by exact rfl) (by exact rfl) (by omega))) rfl ?_
      refine sq_y (OpY.s (y_assign (by exact rfl))) rfl ?_
      refine sq_nil ?_
      refine sx_round (k + 1) ?_ ?_ (by repeat (first | exact SubL.nil | refine SubL.cons (by first | exact rfl | exact lk_int rfl e1 | exact lk_int rfl (by omega)) ?_)) (by repeat (first | exact Sel.nil | refine Sel.cons (by repeat (first | exact Rem.here | apply Rem.there)) ?_))
      · omega
      · omega
  ·
    refine sc_exit ?_
    refine sx_then_exit ?_
    refine sx_round_exit ?_
    refine sx_blk_hit ?_
    refine sx_then ?_
    refine sc_seq ?_
    refine sc_region ?_
    refine sq_y (OpY.s (y_move (by exact rfl))) rfl ?_
    refine sq_y (OpY.s (y_assign (by exact rfl))) rfl ?_
    refine sq_nil ?_
    refine sx_then ?_
    refine sc_ret ?_
    refine sx_ret1 (.inl rfl) rfl Try.results34 (by exact rfl) ?_
    intro w' hw'
    refine ⟨?_, hw'.below (by repeat (first | exact .head _ | refine .tail _ ?_))⟩
    have hkm : k = m := by omega
    subst hkm
    unfold scV; rw [hpe]
end Go.Proofs.Ytegdfpilhlcplaa
