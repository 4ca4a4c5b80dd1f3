/- The walk of newCourse: all that is said of a team. -/
import Derived.Test.YtegdfpilhlcplaaWalk7
import Derived.Test.YtegdfpilhlcplaaRep2
namespace Go.Proofs.Ytegdfpilhlcplaa
open Go Go.Eng Go.RowKit Go.Proofs
set_option maxRecDepth 100000

theorem say77 (w0 w : World) (rest : List Res) (bc b7 b3 : Nat) (r : Rc) (a : Option Addr) (c team : Nat) (ws : List (Int × Sp)) (m : Int) (got : Sp) (v1 v2 v3 : Value) (hlen : ws.length ≤ 1000)
    (hw : Hp w0 (.own v1 116 1 (ws).length (loRow r.rate (ws)) :: .own v2 116 1 (ws).length (hiRow r.rate (ws)) :: .own v3 3 1 (ws).length (atRow (ws)) :: .blk bc (.cells ([.int .i64 r.p, .int .i64 r.lim, .int .i64 r.rate, .slice a r.teams.length c, .int .i64 team, v1, v2, v3] : List Value).toArray 100 (0, 0)) :: .blk b7 (.cells [Value.pointer (some ⟨bc, 0, none⟩)].toArray 72 (0, 0)) :: .blk b3 (.cells (rcVal r a c).toArray 24 (0, 0)) :: rest) w) :
    Calls Try.prog 77 #[.int .i64 m, .agg (spRow got).toArray, .pointer (some ⟨b7, 0, none⟩), .pointer (some ⟨b3, 0, none⟩)] w fun e w' => e = .returned (.tuple #[]) ∧ ∃ v1 v2 v3, Hp w0 (.own v1 116 1 (ws ++ [(m, got)]).length (loRow r.rate (ws ++ [(m, got)])) :: .own v2 116 1 (ws ++ [(m, got)]).length (hiRow r.rate (ws ++ [(m, got)])) :: .own v3 3 1 (ws ++ [(m, got)]).length (atRow (ws ++ [(m, got)])) :: .blk bc (.cells ([.int .i64 r.p, .int .i64 r.lim, .int .i64 r.rate, .slice a r.teams.length c, .int .i64 team, v1, v2, v3] : List Value).toArray 100 (0, 0)) :: .blk b7 (.cells [Value.pointer (some ⟨bc, 0, none⟩)].toArray 72 (0, 0)) :: .blk b3 (.cells (rcVal r a c).toArray 24 (0, 0)) :: rest) w' := by
  refine calls_of_SCr (hw := hw) (args := [.int .i64 m, .agg (spRow got).toArray, .pointer (some ⟨b7, 0, none⟩), .pointer (some ⟨b3, 0, none⟩)]) Try.func77 rfl Try.ntmps77 rfl ?_
  simp only [argL, Nat.reduceAdd, Nat.zero_add]
  refine sc_seq ?_
  refine sc_region ?_
  refine sq_box (by exact rfl) rfl (fun b5 => ?_)
  refine sq_nil ?_
  refine sx_then ?_
  refine sc_seq ?_
  refine sc_drawX ([.blk bc (.cells ([.int .i64 r.p, .int .i64 r.lim, .int .i64 r.rate, .slice a r.teams.length c, .int .i64 team, v1, v2, v3] : List Value).toArray 100 (0, 0)), .blk b7 (.cells [Value.pointer (some ⟨bc, 0, none⟩)].toArray 72 (0, 0)), .blk b3 (.cells (rcVal r a c).toArray 24 (0, 0)), .blk b5 (.cells (spRow got).toArray 32 (0, 0))]) (by kernel_rfl) ?_
  refine xj_s 0 (by exact rfl) (by kernel_rfl) (by repeat (first | exact Sel.refl _ | exact Sel.nil | refine Sel.cons (by repeat (first | exact Rem.here | apply Rem.there)) ?_ | refine Sel.skip ?_)) (by first | exact y_load_blk Try.underlying72 rfl (by exact rfl) (by repeat (first | exact .head _ | refine .tail _ ?_)) (by exact rfl) | exact y_load_caj Try.underlying72 rfl (by exact rfl) (by repeat (first | exact .head _ | refine .tail _ ?_)) (by assumption) (by exact rfl) | exact y_load_ca0 Try.underlying72 rfl (by exact rfl) (by repeat (first | exact .head _ | refine .tail _ ?_)) (by assumption) (by exact rfl)) rfl ?_
  refine xj_s 1 (by exact rfl) (by kernel_rfl) (by repeat (first | exact Sel.refl _ | exact Sel.nil | refine Sel.cons (by repeat (first | exact Rem.here | apply Rem.there)) ?_ | refine Sel.skip ?_)) (by first | exact y_load_blk Try.underlying72 rfl (by exact rfl) (by repeat (first | exact .head _ | refine .tail _ ?_)) (by exact rfl) | exact y_load_caj Try.underlying72 rfl (by exact rfl) (by repeat (first | exact .head _ | refine .tail _ ?_)) (by assumption) (by exact rfl) | exact y_load_ca0 Try.underlying72 rfl (by exact rfl) (by repeat (first | exact .head _ | refine .tail _ ?_)) (by assumption) (by exact rfl)) rfl ?_
  refine xj_s 2 (by exact rfl) (by kernel_rfl) (by repeat (first | exact Sel.refl _ | exact Sel.nil | refine Sel.cons (by repeat (first | exact Rem.here | apply Rem.there)) ?_ | refine Sel.skip ?_)) (y_nilCheck (by exact rfl)) rfl ?_
  refine xj_s 3 (by exact rfl) (by kernel_rfl) (by repeat (first | exact Sel.refl _ | exact Sel.nil | refine Sel.cons (by repeat (first | exact Rem.here | apply Rem.there)) ?_ | refine Sel.skip ?_)) (by first | exact y_fab Try.underlying100 (by exact rfl) (by exact Try.sizeOf98) (by exact rfl) rfl | exact y_fa Try.underlying100 (by exact rfl) (by exact Try.sizeOf98) (by exact rfl) rfl) rfl ?_
  refine xj_s 4 (by exact rfl) (by kernel_rfl) (by repeat (first | exact Sel.refl _ | exact Sel.nil | refine Sel.cons (by repeat (first | exact Rem.here | apply Rem.there)) ?_ | refine Sel.skip ?_)) (by first | exact y_load_blk Try.underlying98 rfl (by exact rfl) (by repeat (first | exact .head _ | refine .tail _ ?_)) (by exact rfl) | exact y_load_caj Try.underlying98 rfl (by exact rfl) (by repeat (first | exact .head _ | refine .tail _ ?_)) (by assumption) (by exact rfl) | exact y_load_ca0 Try.underlying98 rfl (by exact rfl) (by repeat (first | exact .head _ | refine .tail _ ?_)) (by assumption) (by exact rfl)) rfl ?_
  refine xj_s 5 (by exact rfl) (by kernel_rfl) (by repeat (first | exact Sel.refl _ | exact Sel.nil | refine Sel.cons (by repeat (first | exact Rem.here | apply Rem.there)) ?_ | refine Sel.skip ?_)) (y_move (by exact rfl)) rfl ?_
  refine xj_s 6 (by exact rfl) (by kernel_rfl) (by repeat (first | exact Sel.refl _ | exact Sel.nil | refine Sel.cons (by repeat (first | exact Rem.here | apply Rem.there)) ?_ | refine Sel.skip ?_)) (by first | exact y_fab Try.underlying32 (by exact rfl) (by exact Try.sizeOf3) (by exact rfl) rfl | exact y_fa Try.underlying32 (by exact rfl) (by exact Try.sizeOf3) (by exact rfl) rfl) rfl ?_
  refine xj_s 7 (by exact rfl) (by kernel_rfl) (by repeat (first | exact Sel.refl _ | exact Sel.nil | refine Sel.cons (by repeat (first | exact Rem.here | apply Rem.there)) ?_ | refine Sel.skip ?_)) (by first | exact y_load_blk Try.underlying3 rfl (by exact rfl) (by repeat (first | exact .head _ | refine .tail _ ?_)) (by exact rfl) | exact y_load_caj Try.underlying3 rfl (by exact rfl) (by repeat (first | exact .head _ | refine .tail _ ?_)) (by assumption) (by exact rfl) | exact y_load_ca0 Try.underlying3 rfl (by exact rfl) (by repeat (first | exact .head _ | refine .tail _ ?_)) (by assumption) (by exact rfl)) rfl ?_
  refine xj_s 8 (by exact rfl) (by kernel_rfl) (by repeat (first | exact Sel.refl _ | exact Sel.nil | refine Sel.cons (by repeat (first | exact Rem.here | apply Rem.there)) ?_ | refine Sel.skip ?_)) (by first | exact y_fab Try.underlying24 (by exact rfl) (by exact Try.sizeOf3) (by exact rfl) rfl | exact y_fa Try.underlying24 (by exact rfl) (by exact Try.sizeOf3) (by exact rfl) rfl) rfl ?_
  refine xj_s 9 (by exact rfl) (by kernel_rfl) (by repeat (first | exact Sel.refl _ | exact Sel.nil | refine Sel.cons (by repeat (first | exact Rem.here | apply Rem.there)) ?_ | refine Sel.skip ?_)) (by first | exact y_load_blk Try.underlying3 rfl (by exact rfl) (by repeat (first | exact .head _ | refine .tail _ ?_)) (by exact rfl) | exact y_load_caj Try.underlying3 rfl (by exact rfl) (by repeat (first | exact .head _ | refine .tail _ ?_)) (by assumption) (by exact rfl) | exact y_load_ca0 Try.underlying3 rfl (by exact rfl) (by repeat (first | exact .head _ | refine .tail _ ?_)) (by assumption) (by exact rfl)) rfl ?_
  refine xj_s 10 (by exact rfl) (by kernel_rfl) (by repeat (first | exact Sel.refl _ | exact Sel.nil | refine Sel.cons (by repeat (first | exact Rem.here | apply Rem.there)) ?_ | refine Sel.skip ?_)) (y_build bt106 (EvP.cons (by exact rfl) (EvP.cons (by exact rfl) (EvP.cons (by exact rfl) EvP.nil))) (by exact rfl)) rfl ?_
  refine xj_s 11 (by exact rfl) (by kernel_rfl) (by repeat (first | exact Sel.refl _ | exact Sel.nil | refine Sel.cons (by repeat (first | exact Rem.here | apply Rem.there)) ?_ | refine Sel.skip ?_)) (y_makeIface Try.underlying106 (fun _ h => by cases h) (by exact rfl)) rfl ?_
  refine xj_one 12 (by exact rfl) (by kernel_rfl) ?_
  refine sq_bs Try.underlying98 ei116 (EvI.cons (by exact rfl) EvI.nil) (by simp [Value.cells]) rfl rfl rfl (fun b18 => ?_)
  refine sq_nil ?_
  refine sx_xp (by repeat (first | exact Sel.refl _ | exact Sel.nil | refine Sel.cons (by repeat (first | exact Rem.here | apply Rem.there)) ?_ | refine Sel.skip ?_)) ?_
  refine xj_one 13 (by exact rfl) (by kernel_rfl) ?_
  refine sq_append (news := [.iface 106 (.agg #[.int .i64 m, .int .i64 got.lo, .int .i64 r.rate])]) Try.underlying98 ei116 rfl (by decide) (by exact rfl) (by repeat (first | exact Rem.here | apply Rem.there)) (by exact rfl) rfl (fun _ hw => news_blk hw (by repeat (first | exact .head _ | refine .tail _ ?_))) (by simp [Value.oneCell']) (by omega) rfl (fun v19 ho19 => ?_)
  refine sq_nil ?_
  refine sx_xp (by repeat (first | exact Sel.refl _ | exact Sel.nil | refine Sel.cons (by repeat (first | exact Rem.here | apply Rem.there)) ?_ | refine Sel.skip ?_)) ?_
  refine xj_s 14 (by exact rfl) (by kernel_rfl) (by repeat (first | exact Sel.refl _ | exact Sel.nil | refine Sel.cons (by repeat (first | exact Rem.here | apply Rem.there)) ?_ | refine Sel.skip ?_)) (y_nilCheck (by exact rfl)) rfl ?_
  refine xj_s 15 (by exact rfl) (by kernel_rfl) (by repeat (first | exact Sel.refl _ | exact Sel.nil | refine Sel.cons (by repeat (first | exact Rem.here | apply Rem.there)) ?_ | refine Sel.skip ?_)) (by first | exact y_fab Try.underlying100 (by exact rfl) (by exact Try.sizeOf98) (by exact rfl) rfl | exact y_fa Try.underlying100 (by exact rfl) (by exact Try.sizeOf98) (by exact rfl) rfl) rfl ?_
  refine xj_one 16 (by exact rfl) (by kernel_rfl) ?_
  refine sq_store Try.sizeOf98 (by exact rfl) (by exact rfl) (by first | rfl | assumption) (by repeat (first | exact Rem.here | apply Rem.there)) (by first | exact Nat.le_of_ble_eq_true rfl | simp | omega) ?_
  refine sq_nil ?_
  refine sx_xpl (by kernel_rfl) ?_
  refine xj_done (by kernel_rfl) ?_
  refine sx_then ?_
  refine sc_seq ?_
  refine sc_drawX ([.blk bc (.cells ([.int .i64 r.p, .int .i64 r.lim, .int .i64 r.rate, .slice a r.teams.length c, .int .i64 team, v19, v2, v3] : List Value).toArray 100 (0, 0)), .blk b7 (.cells [Value.pointer (some ⟨bc, 0, none⟩)].toArray 72 (0, 0)), .blk b3 (.cells (rcVal r a c).toArray 24 (0, 0)), .blk b5 (.cells (spRow got).toArray 32 (0, 0))]) (by kernel_rfl) ?_
  refine xj_s 0 (by exact rfl) (by kernel_rfl) (by repeat (first | exact Sel.refl _ | exact Sel.nil | refine Sel.cons (by repeat (first | exact Rem.here | apply Rem.there)) ?_ | refine Sel.skip ?_)) (by first | exact y_load_blk Try.underlying72 rfl (by exact rfl) (by repeat (first | exact .head _ | refine .tail _ ?_)) (by exact rfl) | exact y_load_caj Try.underlying72 rfl (by exact rfl) (by repeat (first | exact .head _ | refine .tail _ ?_)) (by assumption) (by exact rfl) | exact y_load_ca0 Try.underlying72 rfl (by exact rfl) (by repeat (first | exact .head _ | refine .tail _ ?_)) (by assumption) (by exact rfl)) rfl ?_
  refine xj_s 1 (by exact rfl) (by kernel_rfl) (by repeat (first | exact Sel.refl _ | exact Sel.nil | refine Sel.cons (by repeat (first | exact Rem.here | apply Rem.there)) ?_ | refine Sel.skip ?_)) (by first | exact y_load_blk Try.underlying72 rfl (by exact rfl) (by repeat (first | exact .head _ | refine .tail _ ?_)) (by exact rfl) | exact y_load_caj Try.underlying72 rfl (by exact rfl) (by repeat (first | exact .head _ | refine .tail _ ?_)) (by assumption) (by exact rfl) | exact y_load_ca0 Try.underlying72 rfl (by exact rfl) (by repeat (first | exact .head _ | refine .tail _ ?_)) (by assumption) (by exact rfl)) rfl ?_
  refine xj_s 2 (by exact rfl) (by kernel_rfl) (by repeat (first | exact Sel.refl _ | exact Sel.nil | refine Sel.cons (by repeat (first | exact Rem.here | apply Rem.there)) ?_ | refine Sel.skip ?_)) (y_nilCheck (by exact rfl)) rfl ?_
  refine xj_s 3 (by exact rfl) (by kernel_rfl) (by repeat (first | exact Sel.refl _ | exact Sel.nil | refine Sel.cons (by repeat (first | exact Rem.here | apply Rem.there)) ?_ | refine Sel.skip ?_)) (by first | exact y_fab Try.underlying100 (by exact rfl) (by exact Try.sizeOf98) (by exact rfl) rfl | exact y_fa Try.underlying100 (by exact rfl) (by exact Try.sizeOf98) (by exact rfl) rfl) rfl ?_
  refine xj_s 4 (by exact rfl) (by kernel_rfl) (by repeat (first | exact Sel.refl _ | exact Sel.nil | refine Sel.cons (by repeat (first | exact Rem.here | apply Rem.there)) ?_ | refine Sel.skip ?_)) (by first | exact y_load_blk Try.underlying98 rfl (by exact rfl) (by repeat (first | exact .head _ | refine .tail _ ?_)) (by exact rfl) | exact y_load_caj Try.underlying98 rfl (by exact rfl) (by repeat (first | exact .head _ | refine .tail _ ?_)) (by assumption) (by exact rfl) | exact y_load_ca0 Try.underlying98 rfl (by exact rfl) (by repeat (first | exact .head _ | refine .tail _ ?_)) (by assumption) (by exact rfl)) rfl ?_
  refine xj_s 5 (by exact rfl) (by kernel_rfl) (by repeat (first | exact Sel.refl _ | exact Sel.nil | refine Sel.cons (by repeat (first | exact Rem.here | apply Rem.there)) ?_ | refine Sel.skip ?_)) (y_move (by exact rfl)) rfl ?_
  refine xj_s 6 (by exact rfl) (by kernel_rfl) (by repeat (first | exact Sel.refl _ | exact Sel.nil | refine Sel.cons (by repeat (first | exact Rem.here | apply Rem.there)) ?_ | refine Sel.skip ?_)) (by first | exact y_fab Try.underlying32 (by exact rfl) (by exact Try.sizeOf3) (by exact rfl) rfl | exact y_fa Try.underlying32 (by exact rfl) (by exact Try.sizeOf3) (by exact rfl) rfl) rfl ?_
  refine xj_s 7 (by exact rfl) (by kernel_rfl) (by repeat (first | exact Sel.refl _ | exact Sel.nil | refine Sel.cons (by repeat (first | exact Rem.here | apply Rem.there)) ?_ | refine Sel.skip ?_)) (by first | exact y_load_blk Try.underlying3 rfl (by exact rfl) (by repeat (first | exact .head _ | refine .tail _ ?_)) (by exact rfl) | exact y_load_caj Try.underlying3 rfl (by exact rfl) (by repeat (first | exact .head _ | refine .tail _ ?_)) (by assumption) (by exact rfl) | exact y_load_ca0 Try.underlying3 rfl (by exact rfl) (by repeat (first | exact .head _ | refine .tail _ ?_)) (by assumption) (by exact rfl)) rfl ?_
  refine xj_s 8 (by exact rfl) (by kernel_rfl) (by repeat (first | exact Sel.refl _ | exact Sel.nil | refine Sel.cons (by repeat (first | exact Rem.here | apply Rem.there)) ?_ | refine Sel.skip ?_)) (by first | exact y_fab Try.underlying24 (by exact rfl) (by exact Try.sizeOf3) (by exact rfl) rfl | exact y_fa Try.underlying24 (by exact rfl) (by exact Try.sizeOf3) (by exact rfl) rfl) rfl ?_
  refine xj_s 9 (by exact rfl) (by kernel_rfl) (by repeat (first | exact Sel.refl _ | exact Sel.nil | refine Sel.cons (by repeat (first | exact Rem.here | apply Rem.there)) ?_ | refine Sel.skip ?_)) (by first | exact y_load_blk Try.underlying3 rfl (by exact rfl) (by repeat (first | exact .head _ | refine .tail _ ?_)) (by exact rfl) | exact y_load_caj Try.underlying3 rfl (by exact rfl) (by repeat (first | exact .head _ | refine .tail _ ?_)) (by assumption) (by exact rfl) | exact y_load_ca0 Try.underlying3 rfl (by exact rfl) (by repeat (first | exact .head _ | refine .tail _ ?_)) (by assumption) (by exact rfl)) rfl ?_
  refine xj_s 10 (by exact rfl) (by kernel_rfl) (by repeat (first | exact Sel.refl _ | exact Sel.nil | refine Sel.cons (by repeat (first | exact Rem.here | apply Rem.there)) ?_ | refine Sel.skip ?_)) (y_build bt107 (EvP.cons (by exact rfl) (EvP.cons (by exact rfl) (EvP.cons (by exact rfl) EvP.nil))) (by exact rfl)) rfl ?_
  refine xj_s 11 (by exact rfl) (by kernel_rfl) (by repeat (first | exact Sel.refl _ | exact Sel.nil | refine Sel.cons (by repeat (first | exact Rem.here | apply Rem.there)) ?_ | refine Sel.skip ?_)) (y_makeIface Try.underlying107 (fun _ h => by cases h) (by exact rfl)) rfl ?_
  refine xj_one 12 (by exact rfl) (by kernel_rfl) ?_
  refine sq_bs Try.underlying98 ei116 (EvI.cons (by exact rfl) EvI.nil) (by simp [Value.cells]) rfl rfl rfl (fun b34 => ?_)
  refine sq_nil ?_
  refine sx_xp (by repeat (first | exact Sel.refl _ | exact Sel.nil | refine Sel.cons (by repeat (first | exact Rem.here | apply Rem.there)) ?_ | refine Sel.skip ?_)) ?_
  refine xj_one 13 (by exact rfl) (by kernel_rfl) ?_
  refine sq_append (news := [.iface 107 (.agg #[.int .i64 m, .int .i64 got.hi, .int .i64 r.rate])]) Try.underlying98 ei116 rfl (by decide) (by exact rfl) (by repeat (first | exact Rem.here | apply Rem.there)) (by exact rfl) rfl (fun _ hw => news_blk hw (by repeat (first | exact .head _ | refine .tail _ ?_))) (by simp [Value.oneCell']) (by omega) rfl (fun v35 ho35 => ?_)
  refine sq_nil ?_
  refine sx_xp (by repeat (first | exact Sel.refl _ | exact Sel.nil | refine Sel.cons (by repeat (first | exact Rem.here | apply Rem.there)) ?_ | refine Sel.skip ?_)) ?_
  refine xj_s 14 (by exact rfl) (by kernel_rfl) (by repeat (first | exact Sel.refl _ | exact Sel.nil | refine Sel.cons (by repeat (first | exact Rem.here | apply Rem.there)) ?_ | refine Sel.skip ?_)) (y_nilCheck (by exact rfl)) rfl ?_
  refine xj_s 15 (by exact rfl) (by kernel_rfl) (by repeat (first | exact Sel.refl _ | exact Sel.nil | refine Sel.cons (by repeat (first | exact Rem.here | apply Rem.there)) ?_ | refine Sel.skip ?_)) (by first | exact y_fab Try.underlying100 (by exact rfl) (by exact Try.sizeOf98) (by exact rfl) rfl | exact y_fa Try.underlying100 (by exact rfl) (by exact Try.sizeOf98) (by exact rfl) rfl) rfl ?_
  refine xj_one 16 (by exact rfl) (by kernel_rfl) ?_
  refine sq_store Try.sizeOf98 (by exact rfl) (by exact rfl) (by first | rfl | assumption) (by repeat (first | exact Rem.here | apply Rem.there)) (by first | exact Nat.le_of_ble_eq_true rfl | simp | omega) ?_
  refine sq_nil ?_
  refine sx_xpl (by kernel_rfl) ?_
  refine xj_done (by kernel_rfl) ?_
  refine sx_then ?_
  refine sc_drawX ([.blk bc (.cells ([.int .i64 r.p, .int .i64 r.lim, .int .i64 r.rate, .slice a r.teams.length c, .int .i64 team, v19, v35, v3] : List Value).toArray 100 (0, 0)), .blk b7 (.cells [Value.pointer (some ⟨bc, 0, none⟩)].toArray 72 (0, 0)), .blk b3 (.cells (rcVal r a c).toArray 24 (0, 0)), .blk b5 (.cells (spRow got).toArray 32 (0, 0))]) (by kernel_rfl) ?_
  refine xj_s 0 (by exact rfl) (by kernel_rfl) (by repeat (first | exact Sel.refl _ | exact Sel.nil | refine Sel.cons (by repeat (first | exact Rem.here | apply Rem.there)) ?_ | refine Sel.skip ?_)) (by first | exact y_load_blk Try.underlying72 rfl (by exact rfl) (by repeat (first | exact .head _ | refine .tail _ ?_)) (by exact rfl) | exact y_load_caj Try.underlying72 rfl (by exact rfl) (by repeat (first | exact .head _ | refine .tail _ ?_)) (by assumption) (by exact rfl) | exact y_load_ca0 Try.underlying72 rfl (by exact rfl) (by repeat (first | exact .head _ | refine .tail _ ?_)) (by assumption) (by exact rfl)) rfl ?_
  refine xj_s 1 (by exact rfl) (by kernel_rfl) (by repeat (first | exact Sel.refl _ | exact Sel.nil | refine Sel.cons (by repeat (first | exact Rem.here | apply Rem.there)) ?_ | refine Sel.skip ?_)) (by first | exact y_load_blk Try.underlying72 rfl (by exact rfl) (by repeat (first | exact .head _ | refine .tail _ ?_)) (by exact rfl) | exact y_load_caj Try.underlying72 rfl (by exact rfl) (by repeat (first | exact .head _ | refine .tail _ ?_)) (by assumption) (by exact rfl) | exact y_load_ca0 Try.underlying72 rfl (by exact rfl) (by repeat (first | exact .head _ | refine .tail _ ?_)) (by assumption) (by exact rfl)) rfl ?_
  refine xj_s 2 (by exact rfl) (by kernel_rfl) (by repeat (first | exact Sel.refl _ | exact Sel.nil | refine Sel.cons (by repeat (first | exact Rem.here | apply Rem.there)) ?_ | refine Sel.skip ?_)) (y_nilCheck (by exact rfl)) rfl ?_
  refine xj_s 3 (by exact rfl) (by kernel_rfl) (by repeat (first | exact Sel.refl _ | exact Sel.nil | refine Sel.cons (by repeat (first | exact Rem.here | apply Rem.there)) ?_ | refine Sel.skip ?_)) (by first | exact y_fab Try.underlying100 (by exact rfl) (by exact Try.sizeOf51) (by exact rfl) rfl | exact y_fa Try.underlying100 (by exact rfl) (by exact Try.sizeOf51) (by exact rfl) rfl) rfl ?_
  refine xj_s 4 (by exact rfl) (by kernel_rfl) (by repeat (first | exact Sel.refl _ | exact Sel.nil | refine Sel.cons (by repeat (first | exact Rem.here | apply Rem.there)) ?_ | refine Sel.skip ?_)) (by first | exact y_load_blk Try.underlying51 rfl (by exact rfl) (by repeat (first | exact .head _ | refine .tail _ ?_)) (by exact rfl) | exact y_load_caj Try.underlying51 rfl (by exact rfl) (by repeat (first | exact .head _ | refine .tail _ ?_)) (by assumption) (by exact rfl) | exact y_load_ca0 Try.underlying51 rfl (by exact rfl) (by repeat (first | exact .head _ | refine .tail _ ?_)) (by assumption) (by exact rfl)) rfl ?_
  refine xj_s 5 (by exact rfl) (by kernel_rfl) (by repeat (first | exact Sel.refl _ | exact Sel.nil | refine Sel.cons (by repeat (first | exact Rem.here | apply Rem.there)) ?_ | refine Sel.skip ?_)) (y_move (by exact rfl)) rfl ?_
  refine xj_one 6 (by exact rfl) (by kernel_rfl) ?_
  refine sq_bs Try.underlying51 ei3 (EvI.cons (by exact rfl) EvI.nil) (by simp [Value.cells]) rfl rfl rfl (fun b44 => ?_)
  refine sq_nil ?_
  refine sx_xp (by repeat (first | exact Sel.refl _ | exact Sel.nil | refine Sel.cons (by repeat (first | exact Rem.here | apply Rem.there)) ?_ | refine Sel.skip ?_)) ?_
  refine xj_one 7 (by exact rfl) (by kernel_rfl) ?_
  refine sq_append (news := [.int .i64 m]) Try.underlying51 ei3 rfl (by decide) (by exact rfl) (by repeat (first | exact Rem.here | apply Rem.there)) (by exact rfl) rfl (fun _ hw => news_blk hw (by repeat (first | exact .head _ | refine .tail _ ?_))) (by simp [Value.oneCell']) (by omega) rfl (fun v45 ho45 => ?_)
  refine sq_nil ?_
  refine sx_xp (by repeat (first | exact Sel.refl _ | exact Sel.nil | refine Sel.cons (by repeat (first | exact Rem.here | apply Rem.there)) ?_ | refine Sel.skip ?_)) ?_
  refine xj_s 8 (by exact rfl) (by kernel_rfl) (by repeat (first | exact Sel.refl _ | exact Sel.nil | refine Sel.cons (by repeat (first | exact Rem.here | apply Rem.there)) ?_ | refine Sel.skip ?_)) (y_nilCheck (by exact rfl)) rfl ?_
  refine xj_s 9 (by exact rfl) (by kernel_rfl) (by repeat (first | exact Sel.refl _ | exact Sel.nil | refine Sel.cons (by repeat (first | exact Rem.here | apply Rem.there)) ?_ | refine Sel.skip ?_)) (by first | exact y_fab Try.underlying100 (by exact rfl) (by exact Try.sizeOf51) (by exact rfl) rfl | exact y_fa Try.underlying100 (by exact rfl) (by exact Try.sizeOf51) (by exact rfl) rfl) rfl ?_
  refine xj_one 10 (by exact rfl) (by kernel_rfl) ?_
  refine sq_store Try.sizeOf51 (by exact rfl) (by exact rfl) (by first | rfl | assumption) (by repeat (first | exact Rem.here | apply Rem.there)) (by first | exact Nat.le_of_ble_eq_true rfl | simp | omega) ?_
  refine sq_nil ?_
  refine sx_xpl (by kernel_rfl) ?_
  refine xj_done (by kernel_rfl) ?_
  refine sx_ret0 (.inr rfl) rfl Try.results77 ?_
  intro w' hw'
  refine ⟨rfl, v19, v35, v45, ?_⟩
  rw [loRow_snoc, hiRow_snoc, atRow_snoc, len_snoc]
  exact hw'.sel (by repeat (first | exact Sel.refl _ | exact Sel.nil | refine Sel.cons (by repeat (first | exact Rem.here | apply Rem.there)) ?_ | refine Sel.skip ?_))
theorem worked41i (w : World) (v : Value) (r : Rc) (team : Nat) (mz : Int) (hr : RcA 0 w v r) (hrb : rcB r = true) (hteam : team < r.teams.length) (hm : 0 ≤ mz ∧ mz ≤ 2000) : Calls Try.prog 41 #[v, .int .i64 team, .int .i64 mz] w fun e w' => e = .returned (.int .i64 (wrk r team mz.toNat)) ∧ Below w.heap.size w w' := by
  obtain ⟨m, rfl⟩ := Int.eq_ofNat_of_zero_le hm.1
  exact worked41 w v r team m hr hrb hteam (by omega)
theorem two_params {tm : Array Value} {N p q : Nat} {L0 : List (Nat × Value)} {u v : Value} (hs : tm.size = N) (hL : ∀ i x, lk L0 i = some x → tm[i]? = some x) (hp : p < N) (hq : q < N) :
    (((tm.setIfInBounds p u).setIfInBounds q v).size = N) ∧ ∀ i x, lk ((q, v) :: (p, u) :: L0) i = some x → ((tm.setIfInBounds p u).setIfInBounds q v)[i]? = some x := by
  refine ⟨by simp [hs], fun i x hi => ?_⟩
  rw [lk_cons] at hi
  by_cases e : q = i
  · subst e; simp at hi; subst hi; simp [hs, hq]
  · rw [if_neg e, lk_cons] at hi
    rw [Array.getElem?_setIfInBounds_ne e]
    by_cases e2 : p = i
    · subst e2; simp at hi; subst hi; simp [hs, hp]
    · rw [if_neg e2] at hi; rw [Array.getElem?_setIfInBounds_ne e2]; exact hL i x hi
theorem sayW_take (r : Rc) (team : Nat) {l : List Wd} {k : Nat} {d : Wd} (h : l[k]? = some d) : sayW r team (l.take (k + 1)) = if d.team = (team : Int) then sayW r team (l.take k) ++ [((wrk r team d.minute.toNat : Int), d.got)] else sayW r team (l.take k) := by
  unfold sayW
  rw [List.take_add_one, h, List.filter_append, List.map_append]
  by_cases e : d.team = (team : Int) <;> simp [e]
theorem of87 {Z : Type} (w0 w : World) (l : Nat) (lp : Loop) (hlp : lp.params.size = 2) (bl bt br : Nat) (r : Rc) (a : Option Addr) (c : Nat) (f : Nat → Option Addr) (cf : Nat → Nat) (team : Nat) (al : Option Addr) (cl : Nat) (ls : List Wd) (UZ : Z → List Res) (CZ : List (Int × Sp) → Z → Prop) (z0 : Z) (hz0 : CZ [] z0)
    (hT : TmsA 0 w0 a r.teams f cf) (hl : WdsA 0 w0 al ls) (i1 : InI r.p) (i2 : InI r.lim) (i3 : InI r.rate) (hok : rcB r = true) (hteam : team < r.teams.length) (hls : ∀ d, d ∈ ls → 0 ≤ d.minute ∧ d.minute ≤ 2000)
    (hw : Hp w0 (.blk l (.loop lp) :: .blk bl (.cells [Value.slice al ls.length cl].toArray 25 (0, 0)) :: .blk bt (.cells [Value.int .i64 team].toArray 3 (0, 0)) :: .blk br (.cells (rcVal r a c).toArray 24 (0, 0)) :: .reg 0 w0 ::  UZ z0) w)
    (hround : ∀ pre z x (d : Wd) b6, CZ pre z → pre ++ [x] <+: sayW r team ls → ∀ w1, Hp w0 (.blk b6 (.cells (wdRow d).toArray 57 (0, 0)) :: .blk l (.loop lp) :: .blk bl (.cells [Value.slice al ls.length cl].toArray 25 (0, 0)) :: .blk bt (.cells [Value.int .i64 team].toArray 3 (0, 0)) :: .blk br (.cells (rcVal r a c).toArray 24 (0, 0)) :: .reg 0 w0 ::  UZ z) w1 →
      RoundIn (FW none) 0 Try.prog l lp.fn ((lp.params.zip [Value.int .i64 x.1, Value.agg (spRow x.2).toArray].toArray).foldl (fun tmps (t, a) => tmps.setIfInBounds t a) lp.tmps) lp.assign lp.body w1 fun e w2 => ∃ z', CZ (pre ++ [x]) z' ∧ e = .returned (.bool true) ∧ Hp w0 (.blk b6 (.cells (wdRow d).toArray 57 (0, 0)) :: .blk l (.loop lp) :: .blk bl (.cells [Value.slice al ls.length cl].toArray 25 (0, 0)) :: .blk bt (.cells [Value.int .i64 team].toArray 3 (0, 0)) :: .blk br (.cells (rcVal r a c).toArray 24 (0, 0)) :: .reg 0 w0 ::  UZ z') w2) :
    Calls Try.prog 87 #[.func (.yield l) #[] #[], .pointer (some ⟨bl, 0, none⟩), .pointer (some ⟨bt, 0, none⟩), .pointer (some ⟨br, 0, none⟩)] w fun e w' => ∃ z, CZ (sayW r team ls) z ∧ (∃ v, e = .returned v) ∧ Hp w0 (.blk l (.loop lp) :: .blk bl (.cells [Value.slice al ls.length cl].toArray 25 (0, 0)) :: .blk bt (.cells [Value.int .i64 team].toArray 3 (0, 0)) :: .blk br (.cells (rcVal r a c).toArray 24 (0, 0)) :: .reg 0 w0 ::  UZ z) w' := by
  have hlen := hl.len
  have hlim := rcB_nums hok
  refine calls_of_SCr (hw := hw) (args := [.func (.yield l) #[] #[], .pointer (some ⟨bl, 0, none⟩), .pointer (some ⟨bt, 0, none⟩), .pointer (some ⟨br, 0, none⟩)]) Try.func87 rfl Try.ntmps87 rfl ?_
  simp only [argL, Nat.reduceAdd, Nat.zero_add]
  refine sc_scope ?_
  refine sc_seq ?_
  refine sc_label ?_
  refine sx_then ?_
  refine sc_seq ?_
  refine sc_region ?_
  refine sq_y (OpY.s (by first | exact y_load_blk Try.underlying25 rfl (by exact rfl) (by repeat (first | exact .head _ | refine .tail _ ?_)) (by exact rfl) | exact y_load_caj Try.underlying25 rfl (by exact rfl) (by repeat (first | exact .head _ | refine .tail _ ?_)) (by assumption) (by exact rfl) | exact y_load_ca0 Try.underlying25 rfl (by exact rfl) (by repeat (first | exact .head _ | refine .tail _ ?_)) (by assumption) (by exact rfl))) rfl ?_
  refine sq_y (OpY.s (y_len Try.underlying25 (by exact rfl))) rfl ?_
  refine sq_y (OpY.s (y_move (by exact rfl))) rfl ?_
  refine sq_nil ?_
  refine sx_then ?_
  refine sc_block ?_
  refine sc_loop (σ := Nat × Z)
    (fun s => [(0, .func (.yield l) #[] #[]), (1, .pointer (some ⟨bl, 0, none⟩)), (2, .pointer (some ⟨bt, 0, none⟩)), (3, .pointer (some ⟨br, 0, none⟩)), (7, .slice al ls.length cl), (8, .int .i64 ls.length), (9, .int .i64 s.1)])
    (fun s => .blk l (.loop lp) :: .blk bl (.cells [Value.slice al ls.length cl].toArray 25 (0, 0)) :: .blk bt (.cells [Value.int .i64 team].toArray 3 (0, 0)) :: .blk br (.cells (rcVal r a c).toArray 24 (0, 0)) :: .reg 0 w0 ::  UZ s.2)
    (fun s => s.1 ≤ ls.length ∧ CZ (sayW r team (ls.take s.1)) s.2)
    (fun s => ls.length - s.1)
    ((0, z0)) ?_ (by repeat (first | exact SubL.nil | refine SubL.cons (by first | exact rfl | exact lk_int rfl (by omega) | exact lk_eq rfl (by simp)) ?_)) (by repeat (first | exact Sel.refl _ | exact Sel.nil | refine Sel.cons (by repeat (first | exact Rem.here | apply Rem.there)) ?_ | refine Sel.skip ?_)) ?_
  · exact ⟨Nat.zero_le _, hz0⟩
  rintro ⟨k, z⟩ ⟨hk, hz⟩
  dsimp only at hk hz ⊢
  refine sc_seq ?_
  refine sc_region ?_
  refine sq_y (OpY.s (y_lss (by exact rfl) (by exact rfl))) rfl ?_
  refine sq_nil ?_
  refine sx_then ?_
  refine sc_seq ?_
  first | refine sc_if (by exact rfl) (fun hc0 => ?_) (fun hc0 => ?_) | refine sc_ifn (by exact rfl) (fun hc0 => ?_) (fun hc0 => ?_) | refine sc_cond (by exact rfl) (fun hc0 => ?_) (fun hc0 => ?_)
  ·
    have hk' : k < ls.length := by omega
    obtain ⟨d, hd⟩ : ∃ d, ls[k]? = some d := ⟨_, List.getElem?_eq_getElem hk'⟩
    have hsm := (hl.el k d hd).1
    have hca := (hl.el k d hd).2
    have hmin := hls d (List.mem_of_getElem? hd)
    refine sc_skip ?_
    refine sx_then ?_
    refine sc_seq ?_
    refine sc_block ?_
    refine sc_seq ?_
    refine sc_region ?_
    refine sq_y (OpY.s (by first | exact y_ia_blk Try.underlying25 Try.sizeOf57 (by exact rfl) (by exact rfl) (by omega) | exact y_ia_el Try.underlying25 Try.sizeOf57 (by exact rfl) (by exact rfl) (by omega) (by first | assumption | simp))) rfl ?_
    refine sq_y (OpY.s (by first | exact y_load_ca Try.underlying57 rfl Try.sizeOf57 (by exact rfl) (by repeat (first | exact .head _ | refine .tail _ ?_)) hca rfl | exact y_load_all Try.underlying57 rfl Try.sizeOf57 (by exact rfl) (by repeat (first | exact .head _ | refine .tail _ ?_)) (by exact rfl) | exact y_load_ca Try.underlying57 rfl Try.sizeOf57 (by exact rfl) (by repeat (first | exact .head _ | refine .tail _ ?_)) (by assumption) (by exact rfl))) rfl ?_
    refine sq_alloc Try.zeroValue57 rfl (fun b6 => ?_)
    refine sq_store_all Try.sizeOf57 (by exact rfl) (by exact rfl) rfl (by repeat (first | exact Rem.here | apply Rem.there)) rfl rfl ?_
    refine sq_nil ?_
    refine sx_then ?_
    refine sc_seq ?_
    refine sc_seq ?_
    refine sc_region ?_
    refine sq_y (OpY.s (by first | exact y_fab Try.underlying57 (by exact rfl) (by exact Try.sizeOf3) (by exact rfl) rfl | exact y_fa Try.underlying57 (by exact rfl) (by exact Try.sizeOf3) (by exact rfl) rfl)) rfl ?_
    refine sq_y (OpY.s (by first | exact y_load_blk Try.underlying3 rfl (by exact rfl) (by repeat (first | exact .head _ | refine .tail _ ?_)) (by exact rfl) | exact y_load_caj Try.underlying3 rfl (by exact rfl) (by repeat (first | exact .head _ | refine .tail _ ?_)) (by assumption) (by exact rfl) | exact y_load_ca0 Try.underlying3 rfl (by exact rfl) (by repeat (first | exact .head _ | refine .tail _ ?_)) (by assumption) (by exact rfl))) rfl ?_
    refine sq_y (OpY.s (by first | exact y_load_blk Try.underlying3 rfl (by exact rfl) (by repeat (first | exact .head _ | refine .tail _ ?_)) (by exact rfl) | exact y_load_caj Try.underlying3 rfl (by exact rfl) (by repeat (first | exact .head _ | refine .tail _ ?_)) (by assumption) (by exact rfl) | exact y_load_ca0 Try.underlying3 rfl (by exact rfl) (by repeat (first | exact .head _ | refine .tail _ ?_)) (by assumption) (by exact rfl))) rfl ?_
    refine sq_y (OpY.s (y_neq (by exact rfl) (by exact rfl))) rfl ?_
    refine sq_nil ?_
    refine sx_then ?_
    first | refine sc_if (by exact rfl) (fun hc1 => ?_) (fun hc1 => ?_) | refine sc_ifn (by exact rfl) (fun hc1 => ?_) (fun hc1 => ?_) | refine sc_cond (by exact rfl) (fun hc1 => ?_) (fun hc1 => ?_)
    ·
      refine sc_exit ?_
      refine sx_then_exit ?_
      refine sx_blk_hit ?_
      refine sx_then ?_
      refine sc_region ?_
      refine sq_y (OpY.s (y_add (by exact rfl) (by exact rfl) (by omega))) rfl ?_
      refine sq_y (OpY.s (y_move (by exact rfl))) rfl ?_
      refine sq_nil ?_
      refine sx_round ((k + 1, z)) ?_ ?_ (by repeat (first | exact SubL.nil | refine SubL.cons (by first | exact rfl | exact lk_int rfl (by omega) | exact lk_eq rfl (by simp)) ?_)) (by repeat (first | exact Sel.refl _ | exact Sel.nil | refine Sel.cons (by repeat (first | exact Rem.here | apply Rem.there)) ?_ | refine Sel.skip ?_))
      · refine ⟨by dsimp only; omega, ?_⟩
        show CZ (sayW r team (ls.take (k + 1))) z
        rw [sayW_take r team hd, if_neg hc1]
        exact hz
      · dsimp only; omega
    ·
      refine sc_skip ?_
      refine sx_then ?_
      refine sc_seq ?_
      have hteq : d.team = (team : Int) := by first | exact hc1 | exact Classical.not_not.1 hc1
      refine sc_drawX ([.blk b6 (.cells (wdRow d).toArray 57 (0, 0)), .blk bt (.cells [Value.int .i64 team].toArray 3 (0, 0)), .blk br (.cells (rcVal r a c).toArray 24 (0, 0)), .reg 0 w0]) (by kernel_rfl) ?_
      refine xj_s 0 (by exact rfl) (by kernel_rfl) (by repeat (first | exact Sel.refl _ | exact Sel.nil | refine Sel.cons (by repeat (first | exact Rem.here | apply Rem.there)) ?_ | refine Sel.skip ?_)) (y_move (by exact rfl)) rfl ?_
      refine xj_s 1 (by exact rfl) (by kernel_rfl) (by repeat (first | exact Sel.refl _ | exact Sel.nil | refine Sel.cons (by repeat (first | exact Rem.here | apply Rem.there)) ?_ | refine Sel.skip ?_)) (by first | exact y_load_all Try.underlying24 rfl Try.sizeOf24 (by exact rfl) (by repeat (first | exact .head _ | refine .tail _ ?_)) (by exact rfl) | exact y_load_ca Try.underlying24 rfl Try.sizeOf24 (by exact rfl) (by repeat (first | exact .head _ | refine .tail _ ?_)) (by assumption) (by exact rfl)) rfl ?_
      refine xj_s 2 (by exact rfl) (by kernel_rfl) (by repeat (first | exact Sel.refl _ | exact Sel.nil | refine Sel.cons (by repeat (first | exact Rem.here | apply Rem.there)) ?_ | refine Sel.skip ?_)) (by first | exact y_load_blk Try.underlying3 rfl (by exact rfl) (by repeat (first | exact .head _ | refine .tail _ ?_)) (by exact rfl) | exact y_load_caj Try.underlying3 rfl (by exact rfl) (by repeat (first | exact .head _ | refine .tail _ ?_)) (by assumption) (by exact rfl) | exact y_load_ca0 Try.underlying3 rfl (by exact rfl) (by repeat (first | exact .head _ | refine .tail _ ?_)) (by assumption) (by exact rfl)) rfl ?_
      refine xj_s 3 (by exact rfl) (by kernel_rfl) (by repeat (first | exact Sel.refl _ | exact Sel.nil | refine Sel.cons (by repeat (first | exact Rem.here | apply Rem.there)) ?_ | refine Sel.skip ?_)) (by first | exact y_fab Try.underlying57 (by exact rfl) (by exact Try.sizeOf3) (by exact rfl) rfl | exact y_fa Try.underlying57 (by exact rfl) (by exact Try.sizeOf3) (by exact rfl) rfl) rfl ?_
      refine xj_s 4 (by exact rfl) (by kernel_rfl) (by repeat (first | exact Sel.refl _ | exact Sel.nil | refine Sel.cons (by repeat (first | exact Rem.here | apply Rem.there)) ?_ | refine Sel.skip ?_)) (by first | exact y_load_blk Try.underlying3 rfl (by exact rfl) (by repeat (first | exact .head _ | refine .tail _ ?_)) (by exact rfl) | exact y_load_caj Try.underlying3 rfl (by exact rfl) (by repeat (first | exact .head _ | refine .tail _ ?_)) (by assumption) (by exact rfl) | exact y_load_ca0 Try.underlying3 rfl (by exact rfl) (by repeat (first | exact .head _ | refine .tail _ ?_)) (by assumption) (by exact rfl)) rfl ?_
      refine xj_s 6 (by exact rfl) (by kernel_rfl) (by repeat (first | exact Sel.refl _ | exact Sel.nil | refine Sel.cons (by repeat (first | exact Rem.here | apply Rem.there)) ?_ | refine Sel.skip ?_)) (by first | exact y_fab Try.underlying57 (by exact rfl) (by exact Try.sizeOf32) (by exact rfl) rfl | exact y_fa Try.underlying57 (by exact rfl) (by exact Try.sizeOf32) (by exact rfl) rfl) rfl ?_
      refine xj_s 7 (by exact rfl) (by kernel_rfl) (by repeat (first | exact Sel.refl _ | exact Sel.nil | refine Sel.cons (by repeat (first | exact Rem.here | apply Rem.there)) ?_ | refine Sel.skip ?_)) (by first | exact y_load_all Try.underlying32 rfl Try.sizeOf32 (by exact rfl) (by repeat (first | exact .head _ | refine .tail _ ?_)) (by exact rfl) | exact y_load_2 Try.underlying32 rfl Try.sizeOf32 (by exact rfl) (by repeat (first | exact .head _ | refine .tail _ ?_)) (by exact rfl) (by exact rfl) | exact y_load_ca Try.underlying32 rfl Try.sizeOf32 (by exact rfl) (by repeat (first | exact .head _ | refine .tail _ ?_)) (by assumption) (by exact rfl)) rfl ?_
      refine xj_one 5 (by exact rfl) (by kernel_rfl) ?_
      refine sq_y (y_call (first := []) (caps := []) (by exact rfl) Try.call41 (EvL.cons (by exact rfl) (EvL.cons (by exact rfl) (EvL.cons (by exact rfl) EvL.nil))) (fun w1 hw1 => worked41i w1 _ r team _ ((hT.at hw1 (by repeat (first | exact .head _ | refine .tail _ ?_))).rc i1 i2 i3) hok hteam hmin)) rfl ?_
      refine sq_nil ?_
      refine sx_xp (by repeat (first | exact Sel.refl _ | exact Sel.nil | refine Sel.cons (by repeat (first | exact Rem.here | apply Rem.there)) ?_ | refine Sel.skip ?_)) ?_
      refine xj_one 8 (by exact rfl) (by kernel_rfl) ?_
      refine sq_yield (Z := Z) (r := lp) (fun _ => .bool true) (fun z' => .blk b6 (.cells (wdRow d).toArray 57 (0, 0)) :: .blk l (.loop lp) :: .blk bl (.cells [Value.slice al ls.length cl].toArray 25 (0, 0)) :: .blk bt (.cells [Value.int .i64 team].toArray 3 (0, 0)) :: .blk br (.cells (rcVal r a c).toArray 24 (0, 0)) :: .reg 0 w0 ::  UZ z') (fun z' => CZ (sayW r team (ls.take k) ++ [((wrk r team d.minute.toNat : Int), d.got)]) z') (rs' := .blk b6 (.cells (wdRow d).toArray 57 (0, 0)) :: .blk l (.loop lp) :: .blk bl (.cells [Value.slice al ls.length cl].toArray 25 (0, 0)) :: .blk bt (.cells [Value.int .i64 team].toArray 3 (0, 0)) :: .blk br (.cells (rcVal r a c).toArray 24 (0, 0)) :: .reg 0 w0 ::  UZ z) (by exact rfl) (EvL.cons (by exact rfl) (EvL.cons (by exact rfl) EvL.nil)) (by repeat (first | exact .head _ | refine .tail _ ?_)) (by repeat (first | exact Sel.refl _ | exact Sel.nil | refine Sel.cons (by repeat (first | exact Rem.here | apply Rem.there)) ?_ | refine Sel.skip ?_)) (by rw [hlp]; rfl) (fun w1 hw1 => (hround _ z ((wrk r team d.minute.toNat : Int), d.got) d b6 hz ?_ w1 hw1).mono (fun e w2 ⟨z', h1, h2, h3⟩ => ⟨z', h1, h2, h3⟩)) rfl (fun z' hz' => ?_)
      · have := sayW_take r team hd
        rw [if_pos hteq] at this
        rw [← this]
        unfold sayW
        exact ((List.take_prefix _ _).filter _).map _
      refine sq_nil ?_
      refine sx_xp (by repeat (first | exact Sel.refl _ | exact Sel.nil | refine Sel.cons (by repeat (first | exact Rem.here | apply Rem.there)) ?_ | refine Sel.skip ?_)) ?_
      refine xj_s 9 (by exact rfl) (by kernel_rfl) (by repeat (first | exact Sel.refl _ | exact Sel.nil | refine Sel.cons (by repeat (first | exact Rem.here | apply Rem.there)) ?_ | refine Sel.skip ?_)) (y_not (by exact rfl)) rfl ?_
      refine xj_done (by kernel_rfl) ?_
      refine sx_then ?_
      refine sc_f (lk_bool rfl (rfl)) ?_
      refine sc_skip ?_
      refine sx_blk ?_
      refine sx_then ?_
      refine sc_region ?_
      refine sq_y (OpY.s (y_add (by exact rfl) (by exact rfl) (by omega))) rfl ?_
      refine sq_y (OpY.s (y_move (by exact rfl))) rfl ?_
      refine sq_nil ?_
      refine sx_round ((k + 1, z')) ?_ ?_ (by repeat (first | exact SubL.nil | refine SubL.cons (by first | exact rfl | exact lk_int rfl (by omega) | exact lk_eq rfl (by simp)) ?_)) (by repeat (first | exact Sel.refl _ | exact Sel.nil | refine Sel.cons (by repeat (first | exact Rem.here | apply Rem.there)) ?_ | refine Sel.skip ?_))
      · refine ⟨by dsimp only; omega, ?_⟩
        show CZ (sayW r team (ls.take (k + 1))) z'
        rw [sayW_take r team hd, if_pos hteq]
        exact hz'
      · dsimp only; omega
  ·
    have hkn : k = ls.length := by omega
    rw [hkn, List.take_length] at hz
    refine sc_exit ?_
    refine sx_then_exit ?_
    refine sx_round_exit ?_
    refine sx_blk_hit ?_
    refine sx_scope ?_
    refine sx_ret0 (.inr rfl) rfl Try.results87 ?_
    intro w' hw'
    exact ⟨z, hz, ⟨_, rfl⟩, hw'.sel (by repeat (first | exact Sel.refl _ | exact Sel.nil | refine Sel.cons (by repeat (first | exact Rem.here | apply Rem.there)) ?_ | refine Sel.skip ?_))⟩
end Go.Proofs.Ytegdfpilhlcplaa
