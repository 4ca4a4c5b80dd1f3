/- The walk of RaceClash. -/
import Derived.Test.YtegdfpilhlcplaaWalk20
import Derived.Test.YtegdfpilhlcplaaLaw8
namespace Go.Proofs.Ytegdfpilhlcplaa
open Go Go.Eng Go.RowKit Go.Proofs
set_option maxRecDepth 100000

theorem ranks21pn (w : World) (r : Rc) (a : Option Addr) (c : Nat) (f : Nat → Option Addr) (cf : Nat → Nat) (al : Option Addr) (cl : Nat) (ls : List Wd) (n : Nat) (hn : ls.length = n) (mz : Int) (hT : TmsA 0 w a r.teams f cf) (hl : WdsA 0 w al ls) (i1 : InI r.p) (i2 : InI r.lim) (i3 : InI r.rate) : Calls Try.prog 21 #[.agg (rcVal r a c).toArray, .slice al n cl, .int .i64 mz] w fun e w' => ∃ z : Option Addr × Nat, e = .returned (.tuple #[.slice z.1 (ranksL r ls mz).length z.2, .int .i64 (openE r ls (minB mz))]) ∧ Below w.heap.size w w' ∧ SpsA w.heap.size w' z.1 (ranksL r ls mz) := by
  subst hn; exact ranks21p w r a c f cf al cl ls mz hT hl i1 i2 i3
def fitsB (r : Rc) (l : List Wd) : Bool := decide (openE r l (minB 0) = 0)
theorem fits37 (w : World) (r : Rc) (a : Option Addr) (c : Nat) (f : Nat → Option Addr) (cf : Nat → Nat) (al : Option Addr) (cl : Nat) (ls : List Wd) (b1 b2 : Addr) (kz : Int) (k : Nat) (hkz : kz = k) (hk : k ≤ ls.length) (hcl : ls.length ≤ cl) (hT : TmsA 0 w a r.teams f cf) (hl : WdsA 0 w al ls) (i1 : InI r.p) (i2 : InI r.lim) (i3 : InI r.rate) (h1 : CA 0 w b1 (rcVal r a c)) (h2 : CA 0 w b2 [.slice al ls.length cl]) : Calls Try.prog 37 #[.int .i64 kz, .pointer (some b1), .pointer (some b2)] w fun e w' => e = .returned (.bool (fitsB r (ls.take k))) ∧ Below w.heap.size w w' := by
  subst hkz
  refine calls_of_SC (args := [.int .i64 k, .pointer (some b1), .pointer (some b2)]) Try.func37 rfl Try.ntmps37 rfl ?_
  simp only [argL, Nat.reduceAdd, Nat.zero_add]
  refine sc_seq ?_
  refine sc_region ?_
  refine sq_y (OpY.s (y_assign (by exact rfl))) rfl ?_
  refine sq_nil ?_
  refine sx_then ?_
  refine sc_seq ?_
  refine sc_drawX ([.reg 0 w]) (by kernel_rfl) ?_
  refine xj_s 0 (by exact rfl) (by kernel_rfl) (by repeat (first | exact Sel.nil | refine Sel.cons (by repeat (first | exact Rem.here | apply Rem.there)) ?_)) (by first | exact y_load_ca Try.underlying24 rfl Try.sizeOf24 (by exact rfl) (by repeat (first | exact .head _ | refine .tail _ ?_)) h1 rfl | exact y_load_all Try.underlying24 rfl Try.sizeOf24 (by exact rfl) (by repeat (first | exact .head _ | refine .tail _ ?_)) (by exact rfl) | exact y_load_ca Try.underlying24 rfl Try.sizeOf24 (by exact rfl) (by repeat (first | exact .head _ | refine .tail _ ?_)) (by assumption) (by exact rfl)) rfl ?_
  refine xj_s 1 (by exact rfl) (by kernel_rfl) (by repeat (first | exact Sel.nil | refine Sel.cons (by repeat (first | exact Rem.here | apply Rem.there)) ?_)) (by first | exact y_load_blk Try.underlying25 rfl (by exact rfl) (by repeat (first | exact .head _ | refine .tail _ ?_)) (by exact rfl) | exact y_load_caj Try.underlying25 rfl (by exact rfl) (by repeat (first | exact .head _ | refine .tail _ ?_)) (by assumption) (by exact rfl) | exact y_load_ca0 Try.underlying25 rfl (by exact rfl) (by repeat (first | exact .head _ | refine .tail _ ?_)) (by assumption) (by exact rfl)) rfl ?_
  refine xj_s 2 (by exact rfl) (by kernel_rfl) (by repeat (first | exact Sel.nil | refine Sel.cons (by repeat (first | exact Rem.here | apply Rem.there)) ?_)) (y_move (by exact rfl)) rfl ?_
  refine xj_s 3 (by exact rfl) (by kernel_rfl) (by repeat (first | exact Sel.nil | refine Sel.cons (by repeat (first | exact Rem.here | apply Rem.there)) ?_)) (y_slice_h (h := k) Try.underlying25 Try.sizeOf57 (by exact rfl) (by exact rfl) (by omega)) rfl ?_
  refine xj_one 4 (by exact rfl) (by kernel_rfl) ?_
  refine sq_call_new (first := []) (caps := []) (Z := Option Addr × Nat) (fun z => .tuple #[.slice z.1 (ranksL r (ls.take k) 0).length z.2, .int .i64 (openE r (ls.take k) (minB 0))]) (fun _ _ _ => True) (by exact rfl) Try.call21 (EvL.cons (by exact rfl) (EvL.cons (by exact rfl) (EvL.cons (by exact rfl) EvL.nil))) (fun w1 hw1 => (ranks21pn w1 r a c f cf al cl (ls.take k) k (by rw [List.length_take]; omega) 0 (hT.at hw1 (by repeat (first | exact .head _ | refine .tail _ ?_))) ((hl.take k).at hw1 (by repeat (first | exact .head _ | refine .tail _ ?_))) i1 i2 i3).mono (fun e w' ⟨z, he, hb, _⟩ => ⟨z, he, hb, trivial⟩)) rfl (fun lr wr zr hr => ?_)
  refine sq_nil ?_
  refine sx_xp (by repeat (first | exact Sel.nil | refine Sel.cons (by repeat (first | exact Rem.here | apply Rem.there)) ?_)) ?_
  refine xj_s 5 (by exact rfl) (by kernel_rfl) (by repeat (first | exact Sel.nil | refine Sel.cons (by repeat (first | exact Rem.here | apply Rem.there)) ?_)) (y_move (by exact rfl)) rfl ?_
  refine xj_s 6 (by exact rfl) (by kernel_rfl) (by repeat (first | exact Sel.nil | refine Sel.cons (by repeat (first | exact Rem.here | apply Rem.there)) ?_)) (y_extract (by exact rfl) (by exact rfl)) rfl ?_
  refine xj_s 7 (by exact rfl) (by kernel_rfl) (by repeat (first | exact Sel.nil | refine Sel.cons (by repeat (first | exact Rem.here | apply Rem.there)) ?_)) (y_extract (by exact rfl) (by exact rfl)) rfl ?_
  refine xj_s 8 (by exact rfl) (by kernel_rfl) (by repeat (first | exact Sel.nil | refine Sel.cons (by repeat (first | exact Rem.here | apply Rem.there)) ?_)) (y_assign (by exact rfl)) rfl ?_
  refine xj_s 9 (by exact rfl) (by kernel_rfl) (by repeat (first | exact Sel.nil | refine Sel.cons (by repeat (first | exact Rem.here | apply Rem.there)) ?_)) (y_assign (by exact rfl)) rfl ?_
  refine xj_done (by kernel_rfl) ?_
  refine sx_then ?_
  refine sc_seq ?_
  refine sc_region ?_
  refine sq_y (OpY.s (y_move (by exact rfl))) rfl ?_
  refine sq_y (OpY.s (y_eql (by exact rfl) (by exact rfl))) rfl ?_
  refine sq_y (OpY.s (y_assign (by exact rfl))) rfl ?_
  refine sq_nil ?_
  refine sx_then ?_
  refine sc_ret ?_
  refine sx_ret1 (.inl rfl) rfl Try.results37 (by exact rfl) ?_
  intro w' hw'
  exact ⟨rfl, hw'.below (by repeat (first | exact .head _ | refine .tail _ ?_))⟩
end Go.Proofs.Ytegdfpilhlcplaa
