/- The walk of what is too great. -/
import Derived.Test.YtofjipmheckmjaaWalk18
namespace Go.Proofs.Ytofjipmheckmjaa
open Go Go.Eng Go.RowKit Go.Proofs
set_option maxRecDepth 100000
def greatV (b : Bx) (m : Int) (n1 n2 : Nat) : Bool := decide (10 < (b.kinds.length : Int)) || decide (24 < (n1 : Int)) || decide (14 < (n2 : Int)) || (bxB b && decide (m < (b.kinds.length : Int)))

theorem great12 (w : World) (b : Bx) (a : Option Addr) (c : Nat) (hB : RowsA kdRow 3 0 w a b.kinds) (m : Int) (al : Option Addr) (cl n1 : Nat) (at_ : Option Addr) (ct n2 : Nat) : Calls Try.prog 12 #[.agg (bxRow b a c).toArray, .int .i64 m, .slice al n1 cl, .slice at_ n2 ct] w fun e w' => e = .returned (.bool (greatV b m n1 n2)) ∧ Below w.heap.size w w' := by
  have hblen := hB.len
  refine calls_of_SC (args := [.agg (bxRow b a c).toArray, .int .i64 m, .slice al n1 cl, .slice at_ n2 ct]) Try.func12 rfl Try.ntmps12 rfl ?_
  simp only [argL, Nat.reduceAdd, Nat.zero_add]
  refine sc_seq ?_
  refine sc_region ?_
  refine sq_box RF rfl (fun b4 => ?_)
  refine qs (y_assign RF) ?_
  refine sq_nil ?_
  refine sx_then ?_
  refine sc_seq ?_
  refine sc_region ?_
  refine qs FA26_22 ?_
  refine qs LD22 ?_
  refine qs (y_len Try.underlying22 RF) ?_
  refine qs (y_gtr RF RF) ?_
  refine qs (y_move RF) ?_
  refine sp 13 (fun hg1_4 => ?_) (fun hg1_4 => ?_)
  ·
    refine qf ?_
    refine qf ?_
    refine qf ?_
    refine qs (y_pick_t RF RF) ?_
    refine qs (y_move RF) ?_
    refine qf ?_
    refine qf ?_
    refine qf ?_
    refine qs (y_pick_t RF RF) ?_
    refine qs (y_move RF) ?_
    refine qf ?_
    refine qf ?_
    refine qf ?_
    refine sq_gu RF RF rfl ?_
    refine sq_gu RF RF rfl ?_
    refine sq_gu RF RF rfl ?_
    refine sq_gu RF RF rfl ?_
    refine sq_gu RF RF rfl ?_
    refine qf ?_
    refine qs (y_pick_t RF RF) ?_
    refine qs (y_assign RF) ?_
    refine sq_nil ?_
    refine sx_then ?_
    refine sc_ret ?_
    refine sx_ret1 (.inl rfl) rfl Try.results12 RF ?_
    intro w' hw'
    refine ⟨?_, hw'.below MM⟩
    unfold greatV; simp [*]
  ·
    refine qg (y_move RF) ?_
    refine qg (y_len Try.underlying30 RF) ?_
    refine qg (y_gtr RF RF) ?_
    refine qs (y_pick_f RF RF) ?_
    refine qs (y_move RF) ?_
    refine sp 18 (fun hg1_9 => ?_) (fun hg1_9 => ?_)
    ·
      refine qf ?_
      refine qf ?_
      refine qf ?_
      refine qs (y_pick_t RF RF) ?_
      refine qs (y_move RF) ?_
      refine qf ?_
      refine qf ?_
      refine qf ?_
      refine sq_gu RF RF rfl ?_
      refine sq_gu RF RF rfl ?_
      refine sq_gu RF RF rfl ?_
      refine sq_gu RF RF rfl ?_
      refine sq_gu RF RF rfl ?_
      refine qf ?_
      refine qs (y_pick_t RF RF) ?_
      refine qs (y_assign RF) ?_
      refine sq_nil ?_
      refine sx_then ?_
      refine sc_ret ?_
      refine sx_ret1 (.inl rfl) rfl Try.results12 RF ?_
      intro w' hw'
      refine ⟨?_, hw'.below MM⟩
      unfold greatV; simp [*]
    ·
      refine qg (y_move RF) ?_
      refine qg (y_len Try.underlying43 RF) ?_
      refine qg (y_gtr RF RF) ?_
      refine qs (y_pick_f RF RF) ?_
      refine qs (y_move RF) ?_
      refine sp 23 (fun hg1_14 => ?_) (fun hg1_14 => ?_)
      ·
        refine qf ?_
        refine qf ?_
        refine qf ?_
        refine sq_gu RF RF rfl ?_
        refine sq_gu RF RF rfl ?_
        refine sq_gu RF RF rfl ?_
        refine sq_gu RF RF rfl ?_
        refine sq_gu RF RF rfl ?_
        refine qf ?_
        refine qs (y_pick_t RF RF) ?_
        refine qs (y_assign RF) ?_
        refine sq_nil ?_
        refine sx_then ?_
        refine sc_ret ?_
        refine sx_ret1 (.inl rfl) rfl Try.results12 RF ?_
        intro w' hw'
        refine ⟨?_, hw'.below MM⟩
        unfold greatV; simp [*]
      ·
        refine qg LD26 ?_
        refine sq_gt RF RF (y_call (first := []) (caps := []) RF Try.call32 (EvL.cons RF EvL.nil) (fun w1 hw1 => box32 w1 b a c (hB.at hw1 MM))) rfl ?_
        refine qg (y_move RF) ?_
        refine sp 26 (fun hg1_17 => ?_) (fun hg1_17 => ?_)
        ·
          refine qg FA26_22 ?_
          refine qg LD22 ?_
          refine qg (y_len Try.underlying22 RF) ?_
          refine qg (y_move RF) ?_
          refine qg (y_gtr RF RF) ?_
          refine qg (y_pick_t RF RF) ?_
          refine qs (y_pick_f RF RF) ?_
          refine qs (y_assign RF) ?_
          refine sq_nil ?_
          refine sx_then ?_
          refine sc_ret ?_
          refine sx_ret1 (.inl rfl) rfl Try.results12 RF ?_
          intro w' hw'
          refine ⟨?_, hw'.below MM⟩
          unfold greatV; simp [*]
        ·
          refine qf ?_
          refine qf ?_
          refine qf ?_
          refine qf ?_
          refine qf ?_
          refine qg (y_pick_f RF RF) ?_
          refine qs (y_pick_f RF RF) ?_
          refine qs (y_assign RF) ?_
          refine sq_nil ?_
          refine sx_then ?_
          refine sc_ret ?_
          refine sx_ret1 (.inl rfl) rfl Try.results12 RF ?_
          intro w' hw'
          refine ⟨?_, hw'.below MM⟩
          unfold greatV; simp [*]
end Go.Proofs.Ytofjipmheckmjaa
