/- The walk of RaceClash. -/
import Derived.Test.YtegdfpilhlcplaaLaw9
namespace Go.Proofs.Ytegdfpilhlcplaa
open Go Go.Eng Go.RowKit Go.Proofs
set_option maxRecDepth 100000

theorem clash25x (w : World) (r : Rc) (a : Option Addr) (c : Nat) (f : Nat → Option Addr) (cf : Nat → Nat) (al : Option Addr) (cl : Nat) (ls : List Wd) (n : Nat) (hn : ls.length = n) (hcl : ls.length ≤ cl) (x y : Int) (hx : clashN r ls = (x, y)) (hT : TmsA 0 w a r.teams f cf) (hl : WdsA 0 w al ls) (i1 : InI r.p) (i2 : InI r.lim) (i3 : InI r.rate) : Calls Try.prog 25 #[.agg (rcVal r a c).toArray, .slice al n cl] w fun e w' => e = .returned (.tuple #[.int .i64 x, .int .i64 y]) ∧ Below w.heap.size w w' := by
  subst hn
  have h := clash25 w r a c f cf al cl ls hcl hT hl i1 i2 i3
  rw [hx] at h; exact h
theorem clash8a (w : World) (r : Rc) (a : Option Addr) (c : Nat) (f : Nat → Option Addr) (cf : Nat → Nat) (al : Option Addr) (cl : Nat) (ls : List Wd) (hcl : ls.length ≤ cl) (hT : TmsA 0 w a r.teams f cf) (hl : WdsA 0 w al ls) (i1 : InI r.p) (i2 : InI r.lim) (i3 : InI r.rate) (h0 : chk r ls ≠ 0) (h4 : chk r ls ≠ 4) (hN : clashN r ls = (0, chk r ls)) (hE : openE r ls (minB 0) = chk r ls) : Calls Try.prog 8 #[.agg (rcVal r a c).toArray, .slice al ls.length cl] w fun e w' => e = .returned (.bool true) ∧ Below w.heap.size w w' := by
  have hlen := hl.len
  refine calls_of_SC (args := [.agg (rcVal r a c).toArray, .slice al ls.length cl]) Try.func8 rfl Try.ntmps8 rfl ?_
  simp only [argL, Nat.zero_add]
  refine sc_seq ?_
  refine sc_region ?_
  refine sq_box (by exact rfl) rfl (fun b2 => ?_)
  refine sq_box (by exact rfl) rfl (fun b3 => ?_)
  refine sq_y (OpY.s (y_assign (by exact rfl))) rfl ?_
  refine sq_nil ?_
  refine sx_then ?_
  refine sc_seq ?_
  refine sc_seq ?_
  refine sc_region ?_
  refine sq_y (OpY.s (by first | exact y_load_all Try.underlying24 rfl Try.sizeOf24 (by exact rfl) (by repeat (first | exact .head _ | refine .tail _ ?_)) (by exact rfl) | exact y_load_ca Try.underlying24 rfl Try.sizeOf24 (by exact rfl) (by repeat (first | exact .head _ | refine .tail _ ?_)) (by assumption) (by exact rfl))) rfl ?_
  refine sq_y (OpY.s (by first | exact y_load_blk Try.underlying25 rfl (by exact rfl) (by repeat (first | exact .head _ | refine .tail _ ?_)) (by exact rfl) | exact y_load_caj Try.underlying25 rfl (by exact rfl) (by repeat (first | exact .head _ | refine .tail _ ?_)) (by assumption) (by exact rfl) | exact y_load_ca0 Try.underlying25 rfl (by exact rfl) (by repeat (first | exact .head _ | refine .tail _ ?_)) (by assumption) (by exact rfl))) rfl ?_
  refine sq_y (y_call (first := []) (caps := []) (by exact rfl) Try.call13 (EvL.cons (by exact rfl) (EvL.cons (by exact rfl) EvL.nil)) (fun w1 hw1 => great13 w1 r a c f cf al cl ls (hT.at hw1 (by repeat (first | exact .head _ | refine .tail _ ?_))) hl.len)) rfl ?_
  refine sq_nil ?_
  refine sx_then ?_
  first | refine sc_if (by exact rfl) (fun hc0 => ?_) (fun hc0 => ?_) | refine sc_ifn (by exact rfl) (fun hc0 => ?_) (fun hc0 => ?_) | refine sc_cond (by exact rfl) (fun hc0 => ?_) (fun hc0 => ?_)
  ·
    refine sc_seq ?_
    refine sc_region ?_
    refine sq_y (y_call (first := []) (caps := []) (by exact rfl) Try.call14 EvL.nil (fun w1 _ => alive14 w1)) rfl ?_
    refine sq_y (OpY.s (y_assign (by exact rfl))) rfl ?_
    refine sq_nil ?_
    refine sx_then ?_
    refine sc_ret ?_
    refine sx_then_ret ?_
    refine sx_ret1 (.inl rfl) rfl Try.results8 (by exact rfl) ?_
    intro w' hw'
    exact ⟨rfl, hw'.below (by repeat (first | exact .head _ | refine .tail _ ?_))⟩
  ·
    refine sc_skip ?_
    refine sx_then ?_
    refine sc_seq ?_
    refine sc_region ?_
    refine sq_y (OpY.s (by first | exact y_load_all Try.underlying24 rfl Try.sizeOf24 (by exact rfl) (by repeat (first | exact .head _ | refine .tail _ ?_)) (by exact rfl) | exact y_load_ca Try.underlying24 rfl Try.sizeOf24 (by exact rfl) (by repeat (first | exact .head _ | refine .tail _ ?_)) (by assumption) (by exact rfl))) rfl ?_
    refine sq_y (OpY.s (by first | exact y_load_blk Try.underlying25 rfl (by exact rfl) (by repeat (first | exact .head _ | refine .tail _ ?_)) (by exact rfl) | exact y_load_caj Try.underlying25 rfl (by exact rfl) (by repeat (first | exact .head _ | refine .tail _ ?_)) (by assumption) (by exact rfl) | exact y_load_ca0 Try.underlying25 rfl (by exact rfl) (by repeat (first | exact .head _ | refine .tail _ ?_)) (by assumption) (by exact rfl))) rfl ?_
    refine sq_y (y_call (first := []) (caps := []) (by exact rfl) Try.call25 (EvL.cons (by exact rfl) (EvL.cons (by exact rfl) EvL.nil)) (fun w1 hw1 => clash25x w1 r a c f cf al cl ls _ rfl hcl 0 (chk r ls) hN (hT.at hw1 (by repeat (first | exact .head _ | refine .tail _ ?_))) (hl.at hw1 (by repeat (first | exact .head _ | refine .tail _ ?_))) i1 i2 i3)) rfl ?_
    refine sq_y (OpY.s (y_move (by exact rfl))) rfl ?_
    refine sq_y (OpY.s (y_extract (by exact rfl) (by exact rfl))) rfl ?_
    refine sq_y (OpY.s (y_extract (by exact rfl) (by exact rfl))) rfl ?_
    refine sq_y (OpY.s (y_assign (by exact rfl))) rfl ?_
    refine sq_y (OpY.s (y_assign (by exact rfl))) rfl ?_
    refine sq_nil ?_
    refine sx_then ?_
    refine sc_seq ?_
    refine sc_seq ?_
    refine sc_region ?_
    refine sq_y (OpY.s (y_move (by exact rfl))) rfl ?_
    refine sq_y (OpY.s (y_neq (by exact rfl) (by exact rfl))) rfl ?_
    refine sq_y (OpY.s (y_move (by exact rfl))) rfl ?_
    refine sq_known (tt := 24) (b' := true) (by exact rfl) (by simp [*]) ?_
    refine sq_gt (by exact rfl) (by exact rfl) (OpY.s (y_move (by exact rfl))) rfl ?_
    refine sq_gt (by exact rfl) (by exact rfl) (OpY.s (y_neq (by exact rfl) (by exact rfl))) rfl ?_
    refine sq_y (OpY.s (y_pick_t (by exact rfl) (by exact rfl))) rfl ?_
    refine sq_nil ?_
    refine sx_then ?_
    refine sc_t (lk_bool rfl (by simp [*])) ?_
    refine sc_seq ?_
    refine sc_region ?_
    refine sq_y (OpY.s (by first | exact y_load_all Try.underlying24 rfl Try.sizeOf24 (by exact rfl) (by repeat (first | exact .head _ | refine .tail _ ?_)) (by exact rfl) | exact y_load_ca Try.underlying24 rfl Try.sizeOf24 (by exact rfl) (by repeat (first | exact .head _ | refine .tail _ ?_)) (by assumption) (by exact rfl))) rfl ?_
    refine sq_y (OpY.s (by first | exact y_load_blk Try.underlying25 rfl (by exact rfl) (by repeat (first | exact .head _ | refine .tail _ ?_)) (by exact rfl) | exact y_load_caj Try.underlying25 rfl (by exact rfl) (by repeat (first | exact .head _ | refine .tail _ ?_)) (by assumption) (by exact rfl) | exact y_load_ca0 Try.underlying25 rfl (by exact rfl) (by repeat (first | exact .head _ | refine .tail _ ?_)) (by assumption) (by exact rfl))) rfl ?_
    refine sq_call_new (first := []) (caps := []) (Z := Option Addr × Nat) (fun z => .tuple #[.slice z.1 (ranksL r ls 0).length z.2, .int .i64 (openE r ls (minB 0))]) (fun _ _ _ => True) (by exact rfl) Try.call21 (EvL.cons (by exact rfl) (EvL.cons (by exact rfl) (EvL.cons (by exact rfl) EvL.nil))) (fun w1 hw1 => (ranks21p w1 r a c f cf al cl ls 0 (hT.at hw1 (by repeat (first | exact .head _ | refine .tail _ ?_))) (hl.at hw1 (by repeat (first | exact .head _ | refine .tail _ ?_))) i1 i2 i3).mono (fun e w' ⟨z, he, hb, _⟩ => ⟨z, he, hb, trivial⟩)) rfl (fun lr wr zr hr => ?_)
    refine sq_y (OpY.s (y_move (by exact rfl))) rfl ?_
    refine sq_y (OpY.s (y_extract (by exact rfl) (by exact rfl))) rfl ?_
    refine sq_y (OpY.s (y_extract (by exact rfl) (by exact rfl))) rfl ?_
    refine sq_y (OpY.s (y_assign (by exact rfl))) rfl ?_
    refine sq_y (OpY.s (y_assign (by exact rfl))) rfl ?_
    refine sq_nil ?_
    refine sx_then ?_
    refine sc_seq ?_
    refine sc_region ?_
    refine sq_y (OpY.s (y_move (by exact rfl))) rfl ?_
    refine sq_y (OpY.s (y_eql (by exact rfl) (by exact rfl))) rfl ?_
    refine sq_y (OpY.s (y_move (by exact rfl))) rfl ?_
    refine sq_known (tt := 36) (b' := true) (by exact rfl) (by simp [*]) ?_
    refine sq_gt (by exact rfl) (by exact rfl) (OpY.s (y_move (by exact rfl))) rfl ?_
    refine sq_gt (by exact rfl) (by exact rfl) (OpY.s (y_move (by exact rfl))) rfl ?_
    refine sq_gt (by exact rfl) (by exact rfl) (OpY.s (y_eql (by exact rfl) (by exact rfl))) rfl ?_
    refine sq_y (OpY.s (y_pick_t (by exact rfl) (by exact rfl))) rfl ?_
    refine sq_y (OpY.s (y_move (by exact rfl))) rfl ?_
    refine sq_known (tt := 41) (b' := true) (by exact rfl) (by simp [*]) ?_
    refine sq_gt (by exact rfl) (by exact rfl) (y_call (first := []) (caps := []) (by exact rfl) Try.call14 EvL.nil (fun w1 _ => alive14 w1)) rfl ?_
    refine sq_y (OpY.s (y_pick_t (by exact rfl) (by exact rfl))) rfl ?_
    refine sq_y (OpY.s (y_assign (by exact rfl))) rfl ?_
    refine sq_nil ?_
    refine sx_then ?_
    refine sc_ret ?_
    refine sx_then_ret ?_
    refine sx_ret1 (.inl rfl) rfl Try.results8 (by exact rfl) ?_
    intro w' hw'
    exact ⟨rfl, hw'.below (by repeat (first | exact .head _ | refine .tail _ ?_))⟩
theorem clash8b (w : World) (r : Rc) (a : Option Addr) (c : Nat) (f : Nat → Option Addr) (cf : Nat → Nat) (al : Option Addr) (cl : Nat) (ls : List Wd) (hcl : ls.length ≤ cl) (hT : TmsA 0 w a r.teams f cf) (hl : WdsA 0 w al ls) (i1 : InI r.p) (i2 : InI r.lim) (i3 : InI r.rate) (hN : clashN r ls = (0, 4)) (hF : fitsB r ls = true) : Calls Try.prog 8 #[.agg (rcVal r a c).toArray, .slice al ls.length cl] w fun e w' => e = .returned (.bool true) ∧ Below w.heap.size w w' := by
  have hlen := hl.len
  refine calls_of_SC (args := [.agg (rcVal r a c).toArray, .slice al ls.length cl]) Try.func8 rfl Try.ntmps8 rfl ?_
  simp only [argL, Nat.zero_add]
  refine sc_seq ?_
  refine sc_region ?_
  refine sq_box (by exact rfl) rfl (fun b2 => ?_)
  refine sq_box (by exact rfl) rfl (fun b3 => ?_)
  refine sq_y (OpY.s (y_assign (by exact rfl))) rfl ?_
  refine sq_nil ?_
  refine sx_then ?_
  refine sc_seq ?_
  refine sc_seq ?_
  refine sc_region ?_
  refine sq_y (OpY.s (by first | exact y_load_all Try.underlying24 rfl Try.sizeOf24 (by exact rfl) (by repeat (first | exact .head _ | refine .tail _ ?_)) (by exact rfl) | exact y_load_ca Try.underlying24 rfl Try.sizeOf24 (by exact rfl) (by repeat (first | exact .head _ | refine .tail _ ?_)) (by assumption) (by exact rfl))) rfl ?_
  refine sq_y (OpY.s (by first | exact y_load_blk Try.underlying25 rfl (by exact rfl) (by repeat (first | exact .head _ | refine .tail _ ?_)) (by exact rfl) | exact y_load_caj Try.underlying25 rfl (by exact rfl) (by repeat (first | exact .head _ | refine .tail _ ?_)) (by assumption) (by exact rfl) | exact y_load_ca0 Try.underlying25 rfl (by exact rfl) (by repeat (first | exact .head _ | refine .tail _ ?_)) (by assumption) (by exact rfl))) rfl ?_
  refine sq_y (y_call (first := []) (caps := []) (by exact rfl) Try.call13 (EvL.cons (by exact rfl) (EvL.cons (by exact rfl) EvL.nil)) (fun w1 hw1 => great13 w1 r a c f cf al cl ls (hT.at hw1 (by repeat (first | exact .head _ | refine .tail _ ?_))) hl.len)) rfl ?_
  refine sq_nil ?_
  refine sx_then ?_
  first | refine sc_if (by exact rfl) (fun hc0 => ?_) (fun hc0 => ?_) | refine sc_ifn (by exact rfl) (fun hc0 => ?_) (fun hc0 => ?_) | refine sc_cond (by exact rfl) (fun hc0 => ?_) (fun hc0 => ?_)
  ·
    refine sc_seq ?_
    refine sc_region ?_
    refine sq_y (y_call (first := []) (caps := []) (by exact rfl) Try.call14 EvL.nil (fun w1 _ => alive14 w1)) rfl ?_
    refine sq_y (OpY.s (y_assign (by exact rfl))) rfl ?_
    refine sq_nil ?_
    refine sx_then ?_
    refine sc_ret ?_
    refine sx_then_ret ?_
    refine sx_ret1 (.inl rfl) rfl Try.results8 (by exact rfl) ?_
    intro w' hw'
    exact ⟨rfl, hw'.below (by repeat (first | exact .head _ | refine .tail _ ?_))⟩
  ·
    refine sc_skip ?_
    refine sx_then ?_
    refine sc_seq ?_
    refine sc_region ?_
    refine sq_y (OpY.s (by first | exact y_load_all Try.underlying24 rfl Try.sizeOf24 (by exact rfl) (by repeat (first | exact .head _ | refine .tail _ ?_)) (by exact rfl) | exact y_load_ca Try.underlying24 rfl Try.sizeOf24 (by exact rfl) (by repeat (first | exact .head _ | refine .tail _ ?_)) (by assumption) (by exact rfl))) rfl ?_
    refine sq_y (OpY.s (by first | exact y_load_blk Try.underlying25 rfl (by exact rfl) (by repeat (first | exact .head _ | refine .tail _ ?_)) (by exact rfl) | exact y_load_caj Try.underlying25 rfl (by exact rfl) (by repeat (first | exact .head _ | refine .tail _ ?_)) (by assumption) (by exact rfl) | exact y_load_ca0 Try.underlying25 rfl (by exact rfl) (by repeat (first | exact .head _ | refine .tail _ ?_)) (by assumption) (by exact rfl))) rfl ?_
    refine sq_y (y_call (first := []) (caps := []) (by exact rfl) Try.call25 (EvL.cons (by exact rfl) (EvL.cons (by exact rfl) EvL.nil)) (fun w1 hw1 => clash25x w1 r a c f cf al cl ls _ rfl hcl 0 4 hN (hT.at hw1 (by repeat (first | exact .head _ | refine .tail _ ?_))) (hl.at hw1 (by repeat (first | exact .head _ | refine .tail _ ?_))) i1 i2 i3)) rfl ?_
    refine sq_y (OpY.s (y_move (by exact rfl))) rfl ?_
    refine sq_y (OpY.s (y_extract (by exact rfl) (by exact rfl))) rfl ?_
    refine sq_y (OpY.s (y_extract (by exact rfl) (by exact rfl))) rfl ?_
    refine sq_y (OpY.s (y_assign (by exact rfl))) rfl ?_
    refine sq_y (OpY.s (y_assign (by exact rfl))) rfl ?_
    refine sq_nil ?_
    refine sx_then ?_
    refine sc_seq ?_
    refine sc_seq ?_
    refine sc_region ?_
    refine sq_y (OpY.s (y_move (by exact rfl))) rfl ?_
    refine sq_y (OpY.s (y_neq (by exact rfl) (by exact rfl))) rfl ?_
    refine sq_y (OpY.s (y_move (by exact rfl))) rfl ?_
    refine sq_known (tt := 24) (b' := true) (by exact rfl) (by simp [*]) ?_
    refine sq_gt (by exact rfl) (by exact rfl) (OpY.s (y_move (by exact rfl))) rfl ?_
    refine sq_gt (by exact rfl) (by exact rfl) (OpY.s (y_neq (by exact rfl) (by exact rfl))) rfl ?_
    refine sq_y (OpY.s (y_pick_t (by exact rfl) (by exact rfl))) rfl ?_
    refine sq_nil ?_
    refine sx_then ?_
    refine sc_f (lk_bool rfl (by simp [*])) ?_
    refine sc_skip ?_
    refine sx_then ?_
    refine sc_seq ?_
    refine sc_region ?_
    refine sq_y (OpY.s (y_makeFunc EvL.nil (EvL.cons (by exact rfl) (EvL.cons (by exact rfl) EvL.nil)))) rfl ?_
    refine sq_y (OpY.s (y_assign (by exact rfl))) rfl ?_
    refine sq_nil ?_
    refine sx_then ?_
    refine sc_seq ?_
    refine sc_seq ?_
    refine sc_region ?_
    refine sq_y (OpY.s (y_move (by exact rfl))) rfl ?_
    refine sq_y (OpY.s (y_neq (by exact rfl) (by exact rfl))) rfl ?_
    refine sq_nil ?_
    refine sx_then ?_
    refine sc_t (lk_bool rfl (by simp [*])) ?_
    refine sc_seq ?_
    refine sc_region ?_
    refine sq_y (OpY.s (y_move (by exact rfl))) rfl ?_
    refine sq_y (OpY.s (y_eql (by exact rfl) (by exact rfl))) rfl ?_
    refine sq_y (OpY.s (y_move (by exact rfl))) rfl ?_
    refine sq_known (tt := 49) (b' := true) (by exact rfl) (by simp [*]) ?_
    refine sq_gt (by exact rfl) (by exact rfl) (OpY.s (y_move (by exact rfl))) rfl ?_
    refine sq_gt (by exact rfl) (by exact rfl) (OpY.s (by first | exact y_load_blk Try.underlying25 rfl (by exact rfl) (by repeat (first | exact .head _ | refine .tail _ ?_)) (by exact rfl) | exact y_load_caj Try.underlying25 rfl (by exact rfl) (by repeat (first | exact .head _ | refine .tail _ ?_)) (by assumption) (by exact rfl) | exact y_load_ca0 Try.underlying25 rfl (by exact rfl) (by repeat (first | exact .head _ | refine .tail _ ?_)) (by assumption) (by exact rfl))) rfl ?_
    refine sq_gt (by exact rfl) (by exact rfl) (OpY.s (y_len Try.underlying25 (by exact rfl))) rfl ?_
    refine sq_gt (by exact rfl) (by exact rfl) (y_call (first := []) (caps := [.pointer (some ⟨b2, 0, none⟩), .pointer (some ⟨b3, 0, none⟩)]) (by exact rfl) Try.call37 (EvL.cons (by exact rfl) EvL.nil) (fun w1 hw1 => fits37 w1 r a c f cf al cl ls ⟨b2, 0, none⟩ ⟨b3, 0, none⟩ _ (ls.length) (rfl) (Nat.le_refl _) hcl (hT.at hw1 (by repeat (first | exact .head _ | refine .tail _ ?_))) (hl.at hw1 (by repeat (first | exact .head _ | refine .tail _ ?_))) i1 i2 i3 (CA.blk (vs := rcVal r a c) hw1 (by repeat (first | exact .head _ | refine .tail _ ?_))) (CA.blk (vs := [.slice al ls.length cl]) hw1 (by repeat (first | exact .head _ | refine .tail _ ?_))))) rfl ?_
    refine sq_y (OpY.s (y_pick_t (by exact rfl) (by exact rfl))) rfl ?_
    refine sq_y (OpY.s (y_move (by exact rfl))) rfl ?_
    refine sq_known (tt := 55) (b' := true) (by exact rfl) (by rw [List.take_length]; exact hF) ?_
    refine sq_gt (by exact rfl) (by exact rfl) (y_call (first := []) (caps := []) (by exact rfl) Try.call14 EvL.nil (fun w1 _ => alive14 w1)) rfl ?_
    refine sq_y (OpY.s (y_pick_t (by exact rfl) (by exact rfl))) rfl ?_
    refine sq_y (OpY.s (y_assign (by exact rfl))) rfl ?_
    refine sq_nil ?_
    refine sx_then ?_
    refine sc_ret ?_
    refine sx_then_ret ?_
    refine sx_ret1 (.inl rfl) rfl Try.results8 (by exact rfl) ?_
    intro w' hw'
    exact ⟨rfl, hw'.below (by repeat (first | exact .head _ | refine .tail _ ?_))⟩
theorem clash8c (w : World) (r : Rc) (a : Option Addr) (c : Nat) (f : Nat → Option Addr) (cf : Nat → Nat) (al : Option Addr) (cl : Nat) (ls : List Wd) (hcl : ls.length ≤ cl) (hT : TmsA 0 w a r.teams f cf) (hl : WdsA 0 w al ls) (i1 : InI r.p) (i2 : InI r.lim) (i3 : InI r.rate) (i : Nat) (hi : i < ls.length) (hN : clashN r ls = ((i : Int), 0)) (hF1 : fitsB r (ls.take i) = true) (hF2 : fitsB r (ls.take (i + 1)) = false) (hF3 : fitsB r ls = false) (hN2 : clashN r (ls.take (i + 1)) = ((i : Int), 0)) : Calls Try.prog 8 #[.agg (rcVal r a c).toArray, .slice al ls.length cl] w fun e w' => e = .returned (.bool true) ∧ Below w.heap.size w w' := by
  have hlen := hl.len
  refine calls_of_SC (args := [.agg (rcVal r a c).toArray, .slice al ls.length cl]) Try.func8 rfl Try.ntmps8 rfl ?_
  simp only [argL, Nat.zero_add]
  refine sc_seq ?_
  refine sc_region ?_
  refine sq_box (by exact rfl) rfl (fun b2 => ?_)
  refine sq_box (by exact rfl) rfl (fun b3 => ?_)
  refine sq_y (OpY.s (y_assign (by exact rfl))) rfl ?_
  refine sq_nil ?_
  refine sx_then ?_
  refine sc_seq ?_
  refine sc_seq ?_
  refine sc_region ?_
  refine sq_y (OpY.s (by first | exact y_load_all Try.underlying24 rfl Try.sizeOf24 (by exact rfl) (by repeat (first | exact .head _ | refine .tail _ ?_)) (by exact rfl) | exact y_load_ca Try.underlying24 rfl Try.sizeOf24 (by exact rfl) (by repeat (first | exact .head _ | refine .tail _ ?_)) (by assumption) (by exact rfl))) rfl ?_
  refine sq_y (OpY.s (by first | exact y_load_blk Try.underlying25 rfl (by exact rfl) (by repeat (first | exact .head _ | refine .tail _ ?_)) (by exact rfl) | exact y_load_caj Try.underlying25 rfl (by exact rfl) (by repeat (first | exact .head _ | refine .tail _ ?_)) (by assumption) (by exact rfl) | exact y_load_ca0 Try.underlying25 rfl (by exact rfl) (by repeat (first | exact .head _ | refine .tail _ ?_)) (by assumption) (by exact rfl))) rfl ?_
  refine sq_y (y_call (first := []) (caps := []) (by exact rfl) Try.call13 (EvL.cons (by exact rfl) (EvL.cons (by exact rfl) EvL.nil)) (fun w1 hw1 => great13 w1 r a c f cf al cl ls (hT.at hw1 (by repeat (first | exact .head _ | refine .tail _ ?_))) hl.len)) rfl ?_
  refine sq_nil ?_
  refine sx_then ?_
  first | refine sc_if (by exact rfl) (fun hc0 => ?_) (fun hc0 => ?_) | refine sc_ifn (by exact rfl) (fun hc0 => ?_) (fun hc0 => ?_) | refine sc_cond (by exact rfl) (fun hc0 => ?_) (fun hc0 => ?_)
  ·
    refine sc_seq ?_
    refine sc_region ?_
    refine sq_y (y_call (first := []) (caps := []) (by exact rfl) Try.call14 EvL.nil (fun w1 _ => alive14 w1)) rfl ?_
    refine sq_y (OpY.s (y_assign (by exact rfl))) rfl ?_
    refine sq_nil ?_
    refine sx_then ?_
    refine sc_ret ?_
    refine sx_then_ret ?_
    refine sx_ret1 (.inl rfl) rfl Try.results8 (by exact rfl) ?_
    intro w' hw'
    exact ⟨rfl, hw'.below (by repeat (first | exact .head _ | refine .tail _ ?_))⟩
  ·
    refine sc_skip ?_
    refine sx_then ?_
    refine sc_seq ?_
    refine sc_region ?_
    refine sq_y (OpY.s (by first | exact y_load_all Try.underlying24 rfl Try.sizeOf24 (by exact rfl) (by repeat (first | exact .head _ | refine .tail _ ?_)) (by exact rfl) | exact y_load_ca Try.underlying24 rfl Try.sizeOf24 (by exact rfl) (by repeat (first | exact .head _ | refine .tail _ ?_)) (by assumption) (by exact rfl))) rfl ?_
    refine sq_y (OpY.s (by first | exact y_load_blk Try.underlying25 rfl (by exact rfl) (by repeat (first | exact .head _ | refine .tail _ ?_)) (by exact rfl) | exact y_load_caj Try.underlying25 rfl (by exact rfl) (by repeat (first | exact .head _ | refine .tail _ ?_)) (by assumption) (by exact rfl) | exact y_load_ca0 Try.underlying25 rfl (by exact rfl) (by repeat (first | exact .head _ | refine .tail _ ?_)) (by assumption) (by exact rfl))) rfl ?_
    refine sq_y (y_call (first := []) (caps := []) (by exact rfl) Try.call25 (EvL.cons (by exact rfl) (EvL.cons (by exact rfl) EvL.nil)) (fun w1 hw1 => clash25x w1 r a c f cf al cl ls _ rfl hcl i 0 hN (hT.at hw1 (by repeat (first | exact .head _ | refine .tail _ ?_))) (hl.at hw1 (by repeat (first | exact .head _ | refine .tail _ ?_))) i1 i2 i3)) rfl ?_
    refine sq_y (OpY.s (y_move (by exact rfl))) rfl ?_
    refine sq_y (OpY.s (y_extract (by exact rfl) (by exact rfl))) rfl ?_
    refine sq_y (OpY.s (y_extract (by exact rfl) (by exact rfl))) rfl ?_
    refine sq_y (OpY.s (y_assign (by exact rfl))) rfl ?_
    refine sq_y (OpY.s (y_assign (by exact rfl))) rfl ?_
    refine sq_nil ?_
    refine sx_then ?_
    refine sc_seq ?_
    refine sc_seq ?_
    refine sc_region ?_
    refine sq_y (OpY.s (y_move (by exact rfl))) rfl ?_
    refine sq_y (OpY.s (y_neq (by exact rfl) (by exact rfl))) rfl ?_
    refine sq_y (OpY.s (y_move (by exact rfl))) rfl ?_
    refine sq_known (tt := 24) (b' := false) (by exact rfl) (by simp [*]) ?_
    refine sq_gf (by exact rfl) (by exact rfl) (by exact rfl) rfl ?_
    refine sq_gf (by exact rfl) (by exact rfl) (by exact rfl) rfl ?_
    refine sq_y (OpY.s (y_pick_f (by exact rfl) (by exact rfl))) rfl ?_
    refine sq_nil ?_
    refine sx_then ?_
    refine sc_f (by exact rfl) ?_
    refine sc_skip ?_
    refine sx_then ?_
    refine sc_seq ?_
    refine sc_region ?_
    refine sq_y (OpY.s (y_makeFunc EvL.nil (EvL.cons (by exact rfl) (EvL.cons (by exact rfl) EvL.nil)))) rfl ?_
    refine sq_y (OpY.s (y_assign (by exact rfl))) rfl ?_
    refine sq_nil ?_
    refine sx_then ?_
    refine sc_seq ?_
    refine sc_seq ?_
    refine sc_region ?_
    refine sq_y (OpY.s (y_move (by exact rfl))) rfl ?_
    refine sq_y (OpY.s (y_neq (by exact rfl) (by exact rfl))) rfl ?_
    refine sq_nil ?_
    refine sx_then ?_
    refine sc_f (lk_bool rfl (by simp [*])) ?_
    refine sc_skip ?_
    refine sx_then ?_
    refine sc_seq ?_
    refine sc_seq ?_
    refine sc_region ?_
    refine sq_y (OpY.s (y_move (by exact rfl))) rfl ?_
    refine sq_y (OpY.s (y_lss (by exact rfl) (by exact rfl))) rfl ?_
    refine sq_y (OpY.s (y_move (by exact rfl))) rfl ?_
    refine sq_known (tt := 60) (b' := false) (by exact rfl) (by first | (simp; done) | (simp; omega)) ?_
    refine sq_gt (by exact rfl) (by exact rfl) (OpY.s (y_move (by exact rfl))) rfl ?_
    refine sq_gt (by exact rfl) (by exact rfl) (OpY.s (by first | exact y_load_blk Try.underlying25 rfl (by exact rfl) (by repeat (first | exact .head _ | refine .tail _ ?_)) (by exact rfl) | exact y_load_caj Try.underlying25 rfl (by exact rfl) (by repeat (first | exact .head _ | refine .tail _ ?_)) (by assumption) (by exact rfl) | exact y_load_ca0 Try.underlying25 rfl (by exact rfl) (by repeat (first | exact .head _ | refine .tail _ ?_)) (by assumption) (by exact rfl))) rfl ?_
    refine sq_gt (by exact rfl) (by exact rfl) (OpY.s (y_len Try.underlying25 (by exact rfl))) rfl ?_
    refine sq_gt (by exact rfl) (by exact rfl) (OpY.s (y_geq (by exact rfl) (by exact rfl))) rfl ?_
    refine sq_y (OpY.s (y_pick_f (by exact rfl) (by exact rfl))) rfl ?_
    refine sq_y (OpY.s (y_move (by exact rfl))) rfl ?_
    refine sq_known (tt := 66) (b' := false) (by exact rfl) (by first | (simp; done) | (simp; omega)) ?_
    refine sq_gt (by exact rfl) (by exact rfl) (OpY.s (y_move (by exact rfl))) rfl ?_
    refine sq_gt (by exact rfl) (by exact rfl) (OpY.s (y_move (by exact rfl))) rfl ?_
    refine sq_gt (by exact rfl) (by exact rfl) (y_call (first := []) (caps := [.pointer (some ⟨b2, 0, none⟩), .pointer (some ⟨b3, 0, none⟩)]) (by exact rfl) Try.call37 (EvL.cons (by exact rfl) EvL.nil) (fun w1 hw1 => fits37 w1 r a c f cf al cl ls ⟨b2, 0, none⟩ ⟨b3, 0, none⟩ _ (i) (rfl) (by omega) hcl (hT.at hw1 (by repeat (first | exact .head _ | refine .tail _ ?_))) (hl.at hw1 (by repeat (first | exact .head _ | refine .tail _ ?_))) i1 i2 i3 (CA.blk (vs := rcVal r a c) hw1 (by repeat (first | exact .head _ | refine .tail _ ?_))) (CA.blk (vs := [.slice al ls.length cl]) hw1 (by repeat (first | exact .head _ | refine .tail _ ?_))))) rfl ?_
    refine sq_gt (by exact rfl) (by exact rfl) (OpY.s (y_not (by exact rfl))) rfl ?_
    refine sq_y (OpY.s (y_pick_f (by exact rfl) (by exact rfl))) rfl ?_
    refine sq_y (OpY.s (y_move (by exact rfl))) rfl ?_
    refine sq_known (tt := 72) (b' := false) (by exact rfl) (by rw [hF1]; rfl) ?_
    refine sq_gt (by exact rfl) (by exact rfl) (OpY.s (y_move (by exact rfl))) rfl ?_
    refine sq_gt (by exact rfl) (by exact rfl) (OpY.s (y_move (by exact rfl))) rfl ?_
    refine sq_gt (by exact rfl) (by exact rfl) (OpY.s (y_add (by exact rfl) (by exact rfl) (by omega))) rfl ?_
    refine sq_gt (by exact rfl) (by exact rfl) (y_call (first := []) (caps := [.pointer (some ⟨b2, 0, none⟩), .pointer (some ⟨b3, 0, none⟩)]) (by exact rfl) Try.call37 (EvL.cons (by exact rfl) EvL.nil) (fun w1 hw1 => fits37 w1 r a c f cf al cl ls ⟨b2, 0, none⟩ ⟨b3, 0, none⟩ _ (i + 1) (by omega) (by omega) hcl (hT.at hw1 (by repeat (first | exact .head _ | refine .tail _ ?_))) (hl.at hw1 (by repeat (first | exact .head _ | refine .tail _ ?_))) i1 i2 i3 (CA.blk (vs := rcVal r a c) hw1 (by repeat (first | exact .head _ | refine .tail _ ?_))) (CA.blk (vs := [.slice al ls.length cl]) hw1 (by repeat (first | exact .head _ | refine .tail _ ?_))))) rfl ?_
    refine sq_y (OpY.s (y_pick_f (by exact rfl) (by exact rfl))) rfl ?_
    refine sq_y (OpY.s (y_move (by exact rfl))) rfl ?_
    refine sq_known (tt := 78) (b' := false) (by exact rfl) (hF2) ?_
    refine sq_gt (by exact rfl) (by exact rfl) (OpY.s (y_move (by exact rfl))) rfl ?_
    refine sq_gt (by exact rfl) (by exact rfl) (OpY.s (by first | exact y_load_blk Try.underlying25 rfl (by exact rfl) (by repeat (first | exact .head _ | refine .tail _ ?_)) (by exact rfl) | exact y_load_caj Try.underlying25 rfl (by exact rfl) (by repeat (first | exact .head _ | refine .tail _ ?_)) (by assumption) (by exact rfl) | exact y_load_ca0 Try.underlying25 rfl (by exact rfl) (by repeat (first | exact .head _ | refine .tail _ ?_)) (by assumption) (by exact rfl))) rfl ?_
    refine sq_gt (by exact rfl) (by exact rfl) (OpY.s (y_len Try.underlying25 (by exact rfl))) rfl ?_
    refine sq_gt (by exact rfl) (by exact rfl) (y_call (first := []) (caps := [.pointer (some ⟨b2, 0, none⟩), .pointer (some ⟨b3, 0, none⟩)]) (by exact rfl) Try.call37 (EvL.cons (by exact rfl) EvL.nil) (fun w1 hw1 => fits37 w1 r a c f cf al cl ls ⟨b2, 0, none⟩ ⟨b3, 0, none⟩ _ (ls.length) (rfl) (Nat.le_refl _) hcl (hT.at hw1 (by repeat (first | exact .head _ | refine .tail _ ?_))) (hl.at hw1 (by repeat (first | exact .head _ | refine .tail _ ?_))) i1 i2 i3 (CA.blk (vs := rcVal r a c) hw1 (by repeat (first | exact .head _ | refine .tail _ ?_))) (CA.blk (vs := [.slice al ls.length cl]) hw1 (by repeat (first | exact .head _ | refine .tail _ ?_))))) rfl ?_
    refine sq_y (OpY.s (y_pick_f (by exact rfl) (by exact rfl))) rfl ?_
    refine sq_nil ?_
    refine sx_then ?_
    refine sc_f (lk_bool rfl (by rw [List.take_length]; exact hF3)) ?_
    refine sc_skip ?_
    refine sx_then ?_
    refine sc_seq ?_
    refine sc_draw rfl (by kernel_rfl) (by kernel_rfl) ?_
    refine qq_y (OpY.s (by first | exact y_load_all Try.underlying24 rfl Try.sizeOf24 (by exact rfl) (by repeat (first | exact .head _ | refine .tail _ ?_)) (by exact rfl) | exact y_load_ca Try.underlying24 rfl Try.sizeOf24 (by exact rfl) (by repeat (first | exact .head _ | refine .tail _ ?_)) (by assumption) (by exact rfl))) rfl ?_
    refine qq_y (OpY.s (by first | exact y_load_blk Try.underlying25 rfl (by exact rfl) (by repeat (first | exact .head _ | refine .tail _ ?_)) (by exact rfl) | exact y_load_caj Try.underlying25 rfl (by exact rfl) (by repeat (first | exact .head _ | refine .tail _ ?_)) (by assumption) (by exact rfl) | exact y_load_ca0 Try.underlying25 rfl (by exact rfl) (by repeat (first | exact .head _ | refine .tail _ ?_)) (by assumption) (by exact rfl))) rfl ?_
    refine qq_y (OpY.s (y_move (by exact rfl))) rfl ?_
    refine qq_y (OpY.s (y_add (by exact rfl) (by exact rfl) (by omega))) rfl ?_
    refine qq_y (OpY.s (y_slice_h (h := i + 1) Try.underlying25 Try.sizeOf57 (by exact rfl) (ev_int (by exact rfl) (by omega)) (by omega))) rfl ?_
    refine qq_y (y_call (first := []) (caps := []) (by exact rfl) Try.call25 (EvL.cons (by exact rfl) (EvL.cons (by exact rfl) EvL.nil)) (fun w1 hw1 => clash25x w1 r a c f cf al cl (ls.take (i + 1)) (i + 1) (by rw [List.length_take]; omega) (by rw [List.length_take]; omega) i 0 hN2 (hT.at hw1 (by repeat (first | exact .head _ | refine .tail _ ?_))) ((hl.take (i + 1)).at hw1 (by repeat (first | exact .head _ | refine .tail _ ?_))) i1 i2 i3)) rfl ?_
    refine qq_y (OpY.s (y_move (by exact rfl))) rfl ?_
    refine qq_y (OpY.s (y_extract (by exact rfl) (by exact rfl))) rfl ?_
    refine qq_y (OpY.s (y_extract (by exact rfl) (by exact rfl))) rfl ?_
    refine qq_y (OpY.s (y_assign (by exact rfl))) rfl ?_
    refine qq_y (OpY.s (y_assign (by exact rfl))) rfl ?_
    refine qq_nil ?_
    refine sx_then ?_
    refine sc_seq ?_
    refine sc_region ?_
    refine sq_y (OpY.s (y_move (by exact rfl))) rfl ?_
    refine sq_y (OpY.s (y_move (by exact rfl))) rfl ?_
    refine sq_y (OpY.s (y_eql (by exact rfl) (by exact rfl))) rfl ?_
    refine sq_y (OpY.s (y_move (by exact rfl))) rfl ?_
    refine sq_known (tt := 96) (b' := true) (by exact rfl) (by simp [*]) ?_
    refine sq_gt (by exact rfl) (by exact rfl) (OpY.s (y_move (by exact rfl))) rfl ?_
    refine sq_gt (by exact rfl) (by exact rfl) (OpY.s (y_eql (by exact rfl) (by exact rfl))) rfl ?_
    refine sq_y (OpY.s (y_pick_t (by exact rfl) (by exact rfl))) rfl ?_
    refine sq_y (OpY.s (y_move (by exact rfl))) rfl ?_
    refine sq_known (tt := 100) (b' := true) (by exact rfl) (by simp [*]) ?_
    refine sq_gt (by exact rfl) (by exact rfl) (y_call (first := []) (caps := []) (by exact rfl) Try.call14 EvL.nil (fun w1 _ => alive14 w1)) rfl ?_
    refine sq_y (OpY.s (y_pick_t (by exact rfl) (by exact rfl))) rfl ?_
    refine sq_y (OpY.s (y_assign (by exact rfl))) rfl ?_
    refine sq_nil ?_
    refine sx_then ?_
    refine sc_ret ?_
    refine sx_ret1 (.inl rfl) rfl Try.results8 (by exact rfl) ?_
    intro w' hw'
    exact ⟨rfl, hw'.below (by repeat (first | exact .head _ | refine .tail _ ?_))⟩
theorem clash8 (w : World) (r : Rc) (a : Option Addr) (c : Nat) (f : Nat → Option Addr) (cf : Nat → Nat) (al : Option Addr) (cl : Nat) (ls : List Wd) (hcl : ls.length ≤ cl) (hT : TmsA 0 w a r.teams f cf) (hl : WdsA 0 w al ls) (i1 : InI r.p) (i2 : InI r.lim) (i3 : InI r.rate) : Calls Try.prog 8 #[.agg (rcVal r a c).toArray, .slice al ls.length cl] w fun e w' => e = .returned (.bool true) ∧ Below w.heap.size w w' := by
  rcases clash_cases r ls with ⟨h1, h2, h3, h4⟩ | ⟨h1, h2⟩ | ⟨i, h1, h2, h3, h4, h5, h6⟩
  · exact clash8a w r a c f cf al cl ls hcl hT hl i1 i2 i3 h1 h2 h3 h4
  · exact clash8b w r a c f cf al cl ls hcl hT hl i1 i2 i3 h1 h2
  · exact clash8c w r a c f cf al cl ls hcl hT hl i1 i2 i3 i h1 h2 h3 h4 h5 h6
end Go.Proofs.Ytegdfpilhlcplaa
