/- The walk of newCourse. -/
import Derived.Test.YtegdfpilhlcplaaWalk8
namespace Go.Proofs.Ytegdfpilhlcplaa
open Go Go.Eng Go.RowKit Go.Proofs
set_option maxRecDepth 100000

theorem say77z (w0 w : World) (rest : List Res) (bc b7 b3 : Nat) (r : Rc) (a : Option Addr) (c team : Nat) (ws : List (Int × Sp)) (m : Int) (got : Sp) (v1 v2 v3 : Value) (hlen : ws.length ≤ 1000)
    (hw : Hp w0 (.own v1 116 1 (ws).length (loRow r.rate (ws)) :: .own v2 116 1 (ws).length (hiRow r.rate (ws)) :: .own v3 3 1 (ws).length (atRow (ws)) :: .blk bc (.cells ([.int .i64 r.p, .int .i64 r.lim, .int .i64 r.rate, .slice a r.teams.length c, .int .i64 team, v1, v2, v3] : List Value).toArray 100 (0, 0)) :: .blk b7 (.cells [Value.pointer (some ⟨bc, 0, none⟩)].toArray 72 (0, 0)) :: .blk b3 (.cells (rcVal r a c).toArray 24 (0, 0)) :: rest) w) :
    Calls Try.prog 77 #[.int .i64 m, .agg (spRow got).toArray, .pointer (some ⟨b7, 0, none⟩), .pointer (some ⟨b3, 0, none⟩)] w fun e w' => ∃ z : Value × Value × Value, True ∧ e = .returned (.tuple #[]) ∧ Hp w0 (.own z.1 116 1 (ws ++ [(m, got)]).length (loRow r.rate (ws ++ [(m, got)])) :: .own z.2.1 116 1 (ws ++ [(m, got)]).length (hiRow r.rate (ws ++ [(m, got)])) :: .own z.2.2 3 1 (ws ++ [(m, got)]).length (atRow (ws ++ [(m, got)])) :: .blk bc (.cells ([.int .i64 r.p, .int .i64 r.lim, .int .i64 r.rate, .slice a r.teams.length c, .int .i64 team, z.1, z.2.1, z.2.2] : List Value).toArray 100 (0, 0)) :: .blk b7 (.cells [Value.pointer (some ⟨bc, 0, none⟩)].toArray 72 (0, 0)) :: .blk b3 (.cells (rcVal r a c).toArray 24 (0, 0)) :: rest) w' :=
  (say77 w0 w rest bc b7 b3 r a c team ws m got v1 v2 v3 hlen hw).mono fun _ _ ⟨he, v1, v2, v3, h⟩ => ⟨(v1, v2, v3), trivial, he, h⟩
theorem fold2 (fn : FuncId) (tm : Array Value) (c d : Code) (D p q : Nat) (u v : Value) : ((LP fn tm [p, q] c d D).params.zip [u, v].toArray).foldl (fun tmps (t, a) => tmps.setIfInBounds t a) (LP fn tm [p, q] c d D).tmps = (tm.setIfInBounds p u).setIfInBounds q v := by simp [LP]
theorem of78 (w0 w : World) (rest : List Res) (r : Rc) (a : Option Addr) (c team : Nat) (al : Option Addr) (cl n : Nat) (hw : Hp w0 rest w) :
    Calls Try.prog 78 #[.agg (rcVal r a c).toArray, .slice al n cl, .int .i64 team] w fun e w' => ∃ z : Nat × Nat × Nat, e = .returned (.func (.func 87) #[] #[.pointer (some ⟨z.1, 0, none⟩), .pointer (some ⟨z.2.1, 0, none⟩), .pointer (some ⟨z.2.2, 0, none⟩)]) ∧ Hp w0 (.blk z.1 (.cells [Value.slice al n cl].toArray 25 (0, 0)) :: .blk z.2.1 (.cells [Value.int .i64 team].toArray 3 (0, 0)) :: .blk z.2.2 (.cells (rcVal r a c).toArray 24 (0, 0)) :: rest) w' := by
  refine calls_of_SCr (hw := hw) (args := [.agg (rcVal r a c).toArray, .slice al n cl, .int .i64 team]) Try.func78 rfl Try.ntmps78 rfl ?_
  simp only [argL, Nat.reduceAdd, Nat.zero_add]
  refine sc_seq ?_
  refine sc_region ?_
  refine sq_box (by exact rfl) rfl (fun b3 => ?_)
  refine sq_box (by exact rfl) rfl (fun b4 => ?_)
  refine sq_box (by exact rfl) rfl (fun b5 => ?_)
  refine sq_y (OpY.s (y_assign (by exact rfl))) rfl ?_
  refine sq_nil ?_
  refine sx_then ?_
  refine sc_seq ?_
  refine sc_region ?_
  refine sq_y (OpY.s (y_makeFunc EvL.nil (EvL.cons (by exact rfl) (EvL.cons (by exact rfl) (EvL.cons (by exact rfl) EvL.nil))))) rfl ?_
  refine sq_y (OpY.s (y_assign (by exact rfl))) rfl ?_
  refine sq_nil ?_
  refine sx_then ?_
  refine sc_ret ?_
  refine sx_ret1 (.inl rfl) rfl Try.results78 (by exact rfl) ?_
  intro w' hw'
  exact ⟨(b4, b5, b3), rfl, hw'.sel (by repeat (first | exact Sel.refl _ | exact Sel.nil | refine Sel.cons (by repeat (first | exact Rem.here | apply Rem.there)) ?_ | refine Sel.skip ?_))⟩
theorem newCourse58 (w : World) (r : Rc) (a : Option Addr) (c : Nat) (f : Nat → Option Addr) (cf : Nat → Nat) (team : Nat) (al : Option Addr) (cl : Nat) (ls : List Wd)
    (hT : TmsA 0 w a r.teams f cf) (hl : WdsA 0 w al ls) (i1 : InI r.p) (i2 : InI r.lim) (i3 : InI r.rate) (hok : rcB r = true) (hteam : team < r.teams.length) (hls : ∀ d, d ∈ ls → 0 ≤ d.minute ∧ d.minute ≤ 2000) (hlen : ls.length ≤ 40) :
    Calls Try.prog 58 #[.agg (rcVal r a c).toArray, .slice al ls.length cl, .int .i64 team] w fun e w' => ∃ p, e = .returned (.pointer (some p)) ∧ Below w.heap.size w w' ∧ CoN w.heap.size w' p r a c team (allW r team ls) := by
  have hlim := rcB_nums hok
  refine calls_of_SCm (args := [.agg (rcVal r a c).toArray, .slice al ls.length cl, .int .i64 team]) Try.func58 rfl Try.ntmps58 rfl ?_
  simp only [argL, Nat.reduceAdd, Nat.zero_add]
  refine sc_seq ?_
  refine sc_region ?_
  refine sq_box (by exact rfl) rfl (fun b3 => ?_)
  refine sq_y (OpY.s (y_assign (by exact rfl))) rfl ?_
  refine sq_nil ?_
  refine sx_then ?_
  refine sc_seq ?_
  refine sc_region ?_
  refine sq_y (OpY.s (by first | exact y_load_all Try.underlying24 rfl Try.sizeOf24 (by exact rfl) (by repeat (first | exact .head _ | refine .tail _ ?_)) (by exact rfl) | exact y_load_ca Try.underlying24 rfl Try.sizeOf24 (by exact rfl) (by repeat (first | exact .head _ | refine .tail _ ?_)) (by assumption) (by exact rfl))) rfl ?_
  refine sq_y (OpY.s (y_move (by exact rfl))) rfl ?_
  refine sq_y (OpY.s (y_build bt100 (EvP.cons (by exact rfl) (EvP.cons (by exact rfl) EvP.nil)) (by exact rfl))) rfl ?_
  refine sq_box (by exact rfl) rfl (fun bc => ?_)
  refine sq_alloc Try.zeroValue72 rfl (fun b7 => ?_)
  refine sq_store Try.sizeOf72 (by exact rfl) (by exact rfl) (by first | rfl | assumption) (by repeat (first | exact Rem.here | apply Rem.there)) (by first | exact Nat.le_of_ble_eq_true rfl | simp | omega) ?_
  refine sq_nil ?_
  refine sx_then ?_
  refine sc_seq ?_
  refine sc_region ?_
  refine sq_y (OpY.s (y_makeFunc EvL.nil (EvL.cons (by exact rfl) (EvL.cons (by exact rfl) EvL.nil)))) rfl ?_
  refine sq_alloc Try.zeroValue108 rfl (fun b8 => ?_)
  refine sq_store Try.sizeOf108 (by exact rfl) (by exact rfl) (by first | rfl | assumption) (by repeat (first | exact Rem.here | apply Rem.there)) (by first | exact Nat.le_of_ble_eq_true rfl | simp | omega) ?_
  refine sq_nil ?_
  refine sx_then ?_
  refine sc_seq ?_
  refine sc_nil_own 116 1 (sc_nil_own 116 1 (sc_nil_own 3 1 ?_))
  refine sc_region ?_
  refine sq_y (OpY.s (by first | exact y_load_blk Try.underlying108 rfl (by exact rfl) (by repeat (first | exact .head _ | refine .tail _ ?_)) (by exact rfl) | exact y_load_caj Try.underlying108 rfl (by exact rfl) (by repeat (first | exact .head _ | refine .tail _ ?_)) (by assumption) (by exact rfl) | exact y_load_ca0 Try.underlying108 rfl (by exact rfl) (by repeat (first | exact .head _ | refine .tail _ ?_)) (by assumption) (by exact rfl))) rfl ?_
  refine sq_y (OpY.s (y_build bt32 EvP.nil (by exact rfl))) rfl ?_
  refine sq_call_fr (first := []) (caps := [.pointer (some ⟨b7, 0, none⟩), .pointer (some ⟨b3, 0, none⟩)]) (vs := [.int .i64 (0), .agg (spRow ⟨0, 0⟩).toArray]) (rs1 := [.own (Value.slice none 0 0) 116 1 ([]).length (loRow r.rate ([])), .own (Value.slice none 0 0) 116 1 ([]).length (hiRow r.rate ([])), .own (Value.slice none 0 0) 3 1 ([]).length (atRow ([])), .blk bc (.cells ([.int .i64 r.p, .int .i64 r.lim, .int .i64 r.rate, .slice a r.teams.length c, .int .i64 team, (Value.slice none 0 0), (Value.slice none 0 0), (Value.slice none 0 0)] : List Value).toArray 100 (0, 0)), .blk b7 (.cells [Value.pointer (some ⟨bc, 0, none⟩)].toArray 72 (0, 0)), .blk b3 (.cells (rcVal r a c).toArray 24 (0, 0))]) (Z := Value × Value × Value) (fun _ => .tuple #[]) (fun z => [.own z.1 116 1 ([((0 : Int), (⟨0, 0⟩ : Sp))]).length (loRow r.rate ([((0 : Int), (⟨0, 0⟩ : Sp))])), .own z.2.1 116 1 ([((0 : Int), (⟨0, 0⟩ : Sp))]).length (hiRow r.rate ([((0 : Int), (⟨0, 0⟩ : Sp))])), .own z.2.2 3 1 ([((0 : Int), (⟨0, 0⟩ : Sp))]).length (atRow ([((0 : Int), (⟨0, 0⟩ : Sp))])), .blk bc (.cells ([.int .i64 r.p, .int .i64 r.lim, .int .i64 r.rate, .slice a r.teams.length c, .int .i64 team, z.1, z.2.1, z.2.2] : List Value).toArray 100 (0, 0)), .blk b7 (.cells [Value.pointer (some ⟨bc, 0, none⟩)].toArray 72 (0, 0)), .blk b3 (.cells (rcVal r a c).toArray 24 (0, 0))]) (fun _ => True) (by exact rfl) Try.call77 (EvL.cons (by exact rfl) (EvL.cons (by exact rfl) EvL.nil)) (by repeat (first | exact Rems.nil | apply Rems.cons (by repeat (first | exact Rem.here | apply Rem.there)))) (fun w1 hw1 => say77z w w1 _ bc b7 b3 r a c team [] (0) ⟨0, 0⟩ (Value.slice none 0 0) (Value.slice none 0 0) (Value.slice none 0 0) (by simp) hw1) rfl (fun z18 _ => ?_)
  refine sq_nil ?_
  refine sx_then ?_
  refine sc_seq ?_
  refine sc_region ?_
  refine sq_y (OpY.s (by first | exact y_load_blk Try.underlying108 rfl (by exact rfl) (by repeat (first | exact .head _ | refine .tail _ ?_)) (by exact rfl) | exact y_load_caj Try.underlying108 rfl (by exact rfl) (by repeat (first | exact .head _ | refine .tail _ ?_)) (by assumption) (by exact rfl) | exact y_load_ca0 Try.underlying108 rfl (by exact rfl) (by repeat (first | exact .head _ | refine .tail _ ?_)) (by assumption) (by exact rfl))) rfl ?_
  refine sq_y (OpY.s (by first | exact y_fab Try.underlying24 (by exact rfl) (by exact Try.sizeOf3) (by exact rfl) rfl | exact y_fa Try.underlying24 (by exact rfl) (by exact Try.sizeOf3) (by exact rfl) rfl)) rfl ?_
  refine sq_y (OpY.s (by first | exact y_load_blk Try.underlying3 rfl (by exact rfl) (by repeat (first | exact .head _ | refine .tail _ ?_)) (by exact rfl) | exact y_load_caj Try.underlying3 rfl (by exact rfl) (by repeat (first | exact .head _ | refine .tail _ ?_)) (by assumption) (by exact rfl) | exact y_load_ca0 Try.underlying3 rfl (by exact rfl) (by repeat (first | exact .head _ | refine .tail _ ?_)) (by assumption) (by exact rfl))) rfl ?_
  refine sq_y (OpY.s (by first | exact y_fab Try.underlying24 (by exact rfl) (by exact Try.sizeOf3) (by exact rfl) rfl | exact y_fa Try.underlying24 (by exact rfl) (by exact Try.sizeOf3) (by exact rfl) rfl)) rfl ?_
  refine sq_y (OpY.s (by first | exact y_load_blk Try.underlying3 rfl (by exact rfl) (by repeat (first | exact .head _ | refine .tail _ ?_)) (by exact rfl) | exact y_load_caj Try.underlying3 rfl (by exact rfl) (by repeat (first | exact .head _ | refine .tail _ ?_)) (by assumption) (by exact rfl) | exact y_load_ca0 Try.underlying3 rfl (by exact rfl) (by repeat (first | exact .head _ | refine .tail _ ?_)) (by assumption) (by exact rfl))) rfl ?_
  refine sq_y (OpY.s (y_build bt32 (EvP.cons (by exact rfl) EvP.nil) (by exact rfl))) rfl ?_
  refine sq_call_fr (first := []) (caps := [.pointer (some ⟨b7, 0, none⟩), .pointer (some ⟨b3, 0, none⟩)]) (vs := [.int .i64 (r.lim), .agg (spRow ⟨0, r.p⟩).toArray]) (rs1 := [.own z18.1 116 1 ([((0 : Int), (⟨0, 0⟩ : Sp))]).length (loRow r.rate ([((0 : Int), (⟨0, 0⟩ : Sp))])), .own z18.2.1 116 1 ([((0 : Int), (⟨0, 0⟩ : Sp))]).length (hiRow r.rate ([((0 : Int), (⟨0, 0⟩ : Sp))])), .own z18.2.2 3 1 ([((0 : Int), (⟨0, 0⟩ : Sp))]).length (atRow ([((0 : Int), (⟨0, 0⟩ : Sp))])), .blk bc (.cells ([.int .i64 r.p, .int .i64 r.lim, .int .i64 r.rate, .slice a r.teams.length c, .int .i64 team, z18.1, z18.2.1, z18.2.2] : List Value).toArray 100 (0, 0)), .blk b7 (.cells [Value.pointer (some ⟨bc, 0, none⟩)].toArray 72 (0, 0)), .blk b3 (.cells (rcVal r a c).toArray 24 (0, 0))]) (Z := Value × Value × Value) (fun _ => .tuple #[]) (fun z => [.own z.1 116 1 ([((0 : Int), (⟨0, 0⟩ : Sp)), (r.lim, (⟨0, r.p⟩ : Sp))]).length (loRow r.rate ([((0 : Int), (⟨0, 0⟩ : Sp)), (r.lim, (⟨0, r.p⟩ : Sp))])), .own z.2.1 116 1 ([((0 : Int), (⟨0, 0⟩ : Sp)), (r.lim, (⟨0, r.p⟩ : Sp))]).length (hiRow r.rate ([((0 : Int), (⟨0, 0⟩ : Sp)), (r.lim, (⟨0, r.p⟩ : Sp))])), .own z.2.2 3 1 ([((0 : Int), (⟨0, 0⟩ : Sp)), (r.lim, (⟨0, r.p⟩ : Sp))]).length (atRow ([((0 : Int), (⟨0, 0⟩ : Sp)), (r.lim, (⟨0, r.p⟩ : Sp))])), .blk bc (.cells ([.int .i64 r.p, .int .i64 r.lim, .int .i64 r.rate, .slice a r.teams.length c, .int .i64 team, z.1, z.2.1, z.2.2] : List Value).toArray 100 (0, 0)), .blk b7 (.cells [Value.pointer (some ⟨bc, 0, none⟩)].toArray 72 (0, 0)), .blk b3 (.cells (rcVal r a c).toArray 24 (0, 0))]) (fun _ => True) (by exact rfl) Try.call77 (EvL.cons (by exact rfl) (EvL.cons (by exact rfl) EvL.nil)) (by repeat (first | exact Rems.nil | apply Rems.cons (by repeat (first | exact Rem.here | apply Rem.there)))) (fun w1 hw1 => say77z w w1 _ bc b7 b3 r a c team [((0 : Int), (⟨0, 0⟩ : Sp))] (r.lim) ⟨0, r.p⟩ z18.1 z18.2.1 z18.2.2 (by simp) hw1) rfl (fun z25 _ => ?_)
  refine sq_nil ?_
  refine sx_then ?_
  refine sc_seq ?_
  refine sc_seq ?_
  refine sc_region ?_
  refine sq_y (OpY.s (by first | exact y_load_all Try.underlying24 rfl Try.sizeOf24 (by exact rfl) (by repeat (first | exact .head _ | refine .tail _ ?_)) (by exact rfl) | exact y_load_ca Try.underlying24 rfl Try.sizeOf24 (by exact rfl) (by repeat (first | exact .head _ | refine .tail _ ?_)) (by assumption) (by exact rfl))) rfl ?_
  refine sq_y (OpY.s (y_move (by exact rfl))) rfl ?_
  refine sq_y (OpY.s (y_move (by exact rfl))) rfl ?_
  refine sq_call (first := []) (caps := []) (Z := Nat × Nat × Nat) (fun z => .func (.func 87) #[] #[.pointer (some ⟨z.1, 0, none⟩), .pointer (some ⟨z.2.1, 0, none⟩), .pointer (some ⟨z.2.2, 0, none⟩)]) (fun z => .blk z.1 (.cells [Value.slice al ls.length cl].toArray 25 (0, 0)) :: .blk z.2.1 (.cells [Value.int .i64 team].toArray 3 (0, 0)) :: .blk z.2.2 (.cells (rcVal r a c).toArray 24 (0, 0)) :: (.own z25.1 116 1 ([((0 : Int), (⟨0, 0⟩ : Sp)), (r.lim, (⟨0, r.p⟩ : Sp))]).length (loRow r.rate ([((0 : Int), (⟨0, 0⟩ : Sp)), (r.lim, (⟨0, r.p⟩ : Sp))])) :: .own z25.2.1 116 1 ([((0 : Int), (⟨0, 0⟩ : Sp)), (r.lim, (⟨0, r.p⟩ : Sp))]).length (hiRow r.rate ([((0 : Int), (⟨0, 0⟩ : Sp)), (r.lim, (⟨0, r.p⟩ : Sp))])) :: .own z25.2.2 3 1 ([((0 : Int), (⟨0, 0⟩ : Sp)), (r.lim, (⟨0, r.p⟩ : Sp))]).length (atRow ([((0 : Int), (⟨0, 0⟩ : Sp)), (r.lim, (⟨0, r.p⟩ : Sp))])) :: .blk bc (.cells ([.int .i64 r.p, .int .i64 r.lim, .int .i64 r.rate, .slice a r.teams.length c, .int .i64 team, z25.1, z25.2.1, z25.2.2] : List Value).toArray 100 (0, 0)) :: .blk b7 (.cells [Value.pointer (some ⟨bc, 0, none⟩)].toArray 72 (0, 0)) :: .blk b3 (.cells (rcVal r a c).toArray 24 (0, 0)) :: [.blk b8 (.cells [Value.func (.func 77) #[] #[.pointer (some ⟨b7, 0, none⟩), .pointer (some ⟨b3, 0, none⟩)]].toArray 108 (0, 0)), .reg 0 w])) (fun _ => True) (by exact rfl) Try.call78 (EvL.cons (by exact rfl) (EvL.cons (by exact rfl) (EvL.cons (by exact rfl) EvL.nil))) (fun w1 hw1 => (of78 w w1 _ r a c team al cl ls.length hw1).mono (fun e w2 ⟨z, he, hw2⟩ => ⟨z, trivial, he, hw2⟩)) rfl (fun z78 _ => ?_)
  refine sq_nil ?_
  refine sx_then ?_
  refine sc_block ?_
  refine sc_rangeFunc (Z := List (Int × Sp) × Value × Value × Value) (ps := [30, 31]) (lb := [.pointer (some ⟨z78.1, 0, none⟩), .pointer (some ⟨z78.2.1, 0, none⟩), .pointer (some ⟨z78.2.2, 0, none⟩)]) (fun z => (.own z.2.1 116 1 (z.1).length (loRow r.rate (z.1)) :: .own z.2.2.1 116 1 (z.1).length (hiRow r.rate (z.1)) :: .own z.2.2.2 3 1 (z.1).length (atRow (z.1)) :: .blk bc (.cells ([.int .i64 r.p, .int .i64 r.lim, .int .i64 r.rate, .slice a r.teams.length c, .int .i64 team, z.2.1, z.2.2.1, z.2.2.2] : List Value).toArray 100 (0, 0)) :: .blk b7 (.cells [Value.pointer (some ⟨bc, 0, none⟩)].toArray 72 (0, 0)) :: .blk b3 (.cells (rcVal r a c).toArray 24 (0, 0)) :: [.blk b8 (.cells [Value.func (.func 77) #[] #[.pointer (some ⟨b7, 0, none⟩), .pointer (some ⟨b3, 0, none⟩)]].toArray 108 (0, 0)), .reg 0 w])) (fun z => z.1 = allW r team ls) rfl (by exact rfl) Try.call87 ?_ ?_
  ·
    intro fn tm l D hts htL w1 hw1
    refine (of87 (Z := List (Int × Sp) × Value × Value × Value) w w1 l (LP fn tm [30, 31] _ _ D) rfl z78.1 z78.2.1 z78.2.2 r a c f cf team al cl ls (fun (z : List (Int × Sp) × Value × Value × Value) => .blk D (.deferred (some [])) :: (.own z.2.1 116 1 (z.1).length (loRow r.rate (z.1)) :: .own z.2.2.1 116 1 (z.1).length (hiRow r.rate (z.1)) :: .own z.2.2.2 3 1 (z.1).length (atRow (z.1)) :: .blk bc (.cells ([.int .i64 r.p, .int .i64 r.lim, .int .i64 r.rate, .slice a r.teams.length c, .int .i64 team, z.2.1, z.2.2.1, z.2.2.2] : List Value).toArray 100 (0, 0)) :: .blk b7 (.cells [Value.pointer (some ⟨bc, 0, none⟩)].toArray 72 (0, 0)) :: .blk b3 (.cells (rcVal r a c).toArray 24 (0, 0)) :: [.blk b8 (.cells [Value.func (.func 77) #[] #[.pointer (some ⟨b7, 0, none⟩), .pointer (some ⟨b3, 0, none⟩)]].toArray 108 (0, 0))])) (fun pre z => z.1 = (0, ⟨0, 0⟩) :: (r.lim, ⟨0, r.p⟩) :: pre) ([((0 : Int), (⟨0, 0⟩ : Sp)), (r.lim, (⟨0, r.p⟩ : Sp))], z25.1, z25.2.1, z25.2.2) rfl hT hl i1 i2 i3 hok hteam hls (hw1.sel (by repeat (first | exact Sel.refl _ | exact Sel.nil | refine Sel.cons (by repeat (first | exact Rem.here | apply Rem.there)) ?_ | refine Sel.skip ?_))) ?_).mono (fun e w' h => (by obtain ⟨z, hz, hv, hw'⟩ := h; exact ⟨z, hz, hv, hw'.sel (by repeat (first | exact Sel.refl _ | exact Sel.nil | refine Sel.cons (by repeat (first | exact Rem.here | apply Rem.there)) ?_ | refine Sel.skip ?_))⟩))
    rintro pre ⟨ws, v1, v2, v3⟩ x d b6 hz hpre w2 hw2
    dsimp only at hz hw2
    have hlw : ws.length ≤ 1000 := by
      have h1 := hpre.length_le
      have h2 := sayW_len r team ls
      rw [hz]; simp only [List.length_cons, List.length_append, List.length_nil] at h1 ⊢; omega
    obtain ⟨hs2, hL2⟩ := two_params (p := 30) (q := 31) (u := Value.int .i64 x.1) (v := Value.agg (spRow x.2).toArray) hts htL (Nat.le_of_ble_eq_true rfl) (Nat.le_of_ble_eq_true rfl)
    refine round_of_SC (N := 37) (by rw [fold2]; exact hs2) (by rw [fold2]; exact hL2) hw2 ?_
    refine sc_seq ?_
    refine sc_region ?_
    refine sq_y (OpY.s (y_assign (by exact rfl))) rfl ?_
    refine sq_nil ?_
    refine sx_then ?_
    refine sc_region ?_
    refine sq_alloc Try.zeroValue32 rfl (fun b10 => ?_)
    refine sq_store_all Try.sizeOf32 (by exact rfl) (by exact rfl) rfl (by repeat (first | exact Rem.here | apply Rem.there)) rfl rfl ?_
    refine sq_nil ?_
    refine sx_begin rfl (by repeat (first | exact Rem.here | apply Rem.there)) rfl ?_
    refine sc_block ?_
    refine sc_region ?_
    refine sq_y (OpY.s (by first | exact y_load_blk Try.underlying108 rfl (by exact rfl) (by repeat (first | exact .head _ | refine .tail _ ?_)) (by exact rfl) | exact y_load_caj Try.underlying108 rfl (by exact rfl) (by repeat (first | exact .head _ | refine .tail _ ?_)) (by assumption) (by exact rfl) | exact y_load_ca0 Try.underlying108 rfl (by exact rfl) (by repeat (first | exact .head _ | refine .tail _ ?_)) (by assumption) (by exact rfl))) rfl ?_
    refine sq_y (OpY.s (y_move (by exact rfl))) rfl ?_
    refine sq_y (OpY.s (by first | exact y_load_all Try.underlying32 rfl Try.sizeOf32 (by exact rfl) (by repeat (first | exact .head _ | refine .tail _ ?_)) (by exact rfl) | exact y_load_2 Try.underlying32 rfl Try.sizeOf32 (by exact rfl) (by repeat (first | exact .head _ | refine .tail _ ?_)) (by exact rfl) (by exact rfl) | exact y_load_ca Try.underlying32 rfl Try.sizeOf32 (by exact rfl) (by repeat (first | exact .head _ | refine .tail _ ?_)) (by assumption) (by exact rfl))) rfl ?_
    refine sq_call_fr (first := []) (caps := [.pointer (some ⟨b7, 0, none⟩), .pointer (some ⟨b3, 0, none⟩)]) (vs := [.int .i64 (x.1), .agg (spRow x.2).toArray]) (rs1 := [.own v1 116 1 (ws).length (loRow r.rate (ws)), .own v2 116 1 (ws).length (hiRow r.rate (ws)), .own v3 3 1 (ws).length (atRow (ws)), .blk bc (.cells ([.int .i64 r.p, .int .i64 r.lim, .int .i64 r.rate, .slice a r.teams.length c, .int .i64 team, v1, v2, v3] : List Value).toArray 100 (0, 0)), .blk b7 (.cells [Value.pointer (some ⟨bc, 0, none⟩)].toArray 72 (0, 0)), .blk b3 (.cells (rcVal r a c).toArray 24 (0, 0))]) (Z := Value × Value × Value) (fun _ => .tuple #[]) (fun z => [.own z.1 116 1 (ws ++ [x]).length (loRow r.rate (ws ++ [x])), .own z.2.1 116 1 (ws ++ [x]).length (hiRow r.rate (ws ++ [x])), .own z.2.2 3 1 (ws ++ [x]).length (atRow (ws ++ [x])), .blk bc (.cells ([.int .i64 r.p, .int .i64 r.lim, .int .i64 r.rate, .slice a r.teams.length c, .int .i64 team, z.1, z.2.1, z.2.2] : List Value).toArray 100 (0, 0)), .blk b7 (.cells [Value.pointer (some ⟨bc, 0, none⟩)].toArray 72 (0, 0)), .blk b3 (.cells (rcVal r a c).toArray 24 (0, 0))]) (fun _ => True) (by exact rfl) Try.call77 (EvL.cons (by exact rfl) (EvL.cons (by exact rfl) EvL.nil)) (by repeat (first | exact Rems.nil | apply Rems.cons (by repeat (first | exact Rem.here | apply Rem.there)))) (fun w1 hw1 => say77z w w1 _ bc b7 b3 r a c team ws (x.1) x.2 v1 v2 v3 hlw hw1) rfl (fun z35 _ => ?_)
    refine sq_nil ?_
    refine sx_blk ?_
    refine sx_endround (by repeat (first | exact Rem.here | apply Rem.there)) ?_
    intro w' hw'
    exact ⟨(ws ++ [x], z35.1, z35.2.1, z35.2.2), by dsimp only; rw [hz]; simp, rfl, hw'.sel (by repeat (first | exact Sel.refl _ | exact Sel.nil | refine Sel.cons (by repeat (first | exact Rem.here | apply Rem.there)) ?_ | refine Sel.skip ?_))⟩
  ·
    rintro D ⟨ws, v1, v2, v3⟩ hz
    dsimp only at hz ⊢
    subst hz
    refine sx_blk ?_
    refine sx_then ?_
    refine sc_seq ?_
    refine sc_region ?_
    refine sq_y (OpY.s (by first | exact y_load_blk Try.underlying72 rfl (by exact rfl) (by repeat (first | exact .head _ | refine .tail _ ?_)) (by exact rfl) | exact y_load_caj Try.underlying72 rfl (by exact rfl) (by repeat (first | exact .head _ | refine .tail _ ?_)) (by assumption) (by exact rfl) | exact y_load_ca0 Try.underlying72 rfl (by exact rfl) (by repeat (first | exact .head _ | refine .tail _ ?_)) (by assumption) (by exact rfl))) rfl ?_
    refine sq_y (OpY.s (y_assign (by exact rfl))) rfl ?_
    refine sq_nil ?_
    refine sx_then ?_
    refine sc_ret ?_
    refine sx_ret1m (.inl rfl) rfl (by repeat (first | exact Rem.here | apply Rem.there)) Try.results58 (by exact rfl) ?_
    intro w' hw'
    refine ⟨_, rfl, hw'.below (by repeat (first | exact .head _ | refine .tail _ ?_)), CoN.of_own (v1 := v1) (v2 := v2) (v3 := v3) ⟨blk_new hw' (by repeat (first | exact Rem.here | apply Rem.there)) (by repeat (first | exact .head _ | refine .tail _ ?_)), (CA.blk hw' (by repeat (first | exact .head _ | refine .tail _ ?_))).2⟩ (own_new hw' (by repeat (first | exact Rem.here | apply Rem.there)) (by repeat (first | exact .head _ | refine .tail _ ?_))) (own_new hw' (by repeat (first | exact Rem.here | apply Rem.there)) (by repeat (first | exact .head _ | refine .tail _ ?_))) (own_new hw' (by repeat (first | exact Rem.here | apply Rem.there)) (by repeat (first | exact .head _ | refine .tail _ ?_)))⟩
end Go.Proofs.Ytegdfpilhlcplaa
