/- The walks of the example's parts. -/
import Derived.Test.YtofjipmheckmjaaWalk17
namespace Go.Proofs.Ytofjipmheckmjaa
open Go Go.Eng Go.RowKit Go.Proofs
set_option maxRecDepth 100000
def fineT : Te := ⟨0, 0, ⟨-50, 50⟩, ⟨110450, 110740⟩, 10⟩
def cameraT : Te := ⟨1, 3, ⟨-2, 0⟩, ⟨98, 100⟩, 1⟩
def roughT : Te := ⟨0, 0, ⟨-1000, 1000⟩, ⟨109500, 111690⟩, 2⟩
def smpB : Bx := ⟨[⟨90, ⟨1000, 1001⟩⟩, ⟨10, ⟨2000, 2000⟩⟩], ⟨500, 600⟩, 1, 1⟩

theorem span31 (w : World) (l h : Int) : Calls Try.prog 31 #[.int .i64 l, .int .i64 h] w fun e w' => e = .returned (.agg #[.int .i64 l, .int .i64 h]) ∧ Below w.heap.size w w' := by
  refine calls_of_SC (args := [.int .i64 l, .int .i64 h]) Try.func31 rfl Try.ntmps31 rfl ?_
  simp only [argL, Nat.zero_add]
  refine sc_seq ?_
  refine sc_region ?_
  refine sq_alloc Try.zeroValue24 rfl (fun b4 => ?_)
  refine sq_nil ?_
  refine sx_then ?_
  refine sc_seq ?_
  refine sc_region ?_
  refine qs (y_move RF) ?_
  refine qs (y_move RF) ?_
  refine qs (y_build bt24 (EvP.cons RF (EvP.cons RF EvP.nil)) RF) ?_
  refine sq_store_all Try.sizeOf24 RF RF rfl RM rfl rfl ?_
  refine sq_nil ?_
  refine sx_then ?_
  refine sc_ret ?_
  refine sx_retc (.inl rfl) rfl Try.results31 Try.underlying24 rfl Try.sizeOf24 RF MM rfl ?_
  intro w' hw'
  exact ⟨rfl, hw'.below MM⟩
theorem fine29 (w : World) : Calls Try.prog 29 #[] w fun e w' => e = .returned (.agg (teRow fineT).toArray) ∧ Below w.heap.size w w' := by
  refine calls_of_SC (args := []) Try.func29 rfl Try.ntmps29 rfl ?_
  simp only [argL]
  refine sc_seq ?_
  refine sc_region ?_
  refine sq_alloc Try.zeroValue29 rfl (fun b0 => ?_)
  refine sq_nil ?_
  refine sx_then ?_
  refine sc_seq ?_
  refine sc_region ?_
  refine qy (yc Try.call31 E2 (fun w1 _ => span31 w1 _ _)) ?_
  refine qy (yc Try.call31 E2 (fun w1 _ => span31 w1 _ _)) ?_
  refine qs (y_build (cells := (teRow fineT).toArray) bt29 (EvP.cons RF (EvP.cons RF (EvP.cons RF (EvP.cons RF EvP.nil)))) (by kernel_rfl)) ?_
  refine sq_store_all Try.sizeOf29 RF RF rfl RM rfl rfl ?_
  refine sq_nil ?_
  refine sx_then ?_
  refine sc_ret ?_
  refine sx_retc (.inl rfl) rfl Try.results29 Try.underlying29 rfl Try.sizeOf29 RF MM rfl ?_
  intro w' hw'
  exact ⟨rfl, hw'.below MM⟩
theorem camera30 (w : World) : Calls Try.prog 30 #[] w fun e w' => e = .returned (.agg (teRow cameraT).toArray) ∧ Below w.heap.size w w' := by
  refine calls_of_SC (args := []) Try.func30 rfl Try.ntmps30 rfl ?_
  simp only [argL]
  refine sc_seq ?_
  refine sc_region ?_
  refine sq_alloc Try.zeroValue29 rfl (fun b0 => ?_)
  refine sq_nil ?_
  refine sx_then ?_
  refine sc_seq ?_
  refine sc_region ?_
  refine qy (yc Try.call31 E2 (fun w1 _ => span31 w1 _ _)) ?_
  refine qy (yc Try.call31 E2 (fun w1 _ => span31 w1 _ _)) ?_
  refine qs (y_build (cells := (teRow cameraT).toArray) bt29 (EvP.cons RF (EvP.cons RF (EvP.cons RF (EvP.cons RF (EvP.cons RF EvP.nil))))) (by kernel_rfl)) ?_
  refine sq_store_all Try.sizeOf29 RF RF rfl RM rfl rfl ?_
  refine sq_nil ?_
  refine sx_then ?_
  refine sc_ret ?_
  refine sx_retc (.inl rfl) rfl Try.results30 Try.underlying29 rfl Try.sizeOf29 RF MM rfl ?_
  intro w' hw'
  exact ⟨rfl, hw'.below MM⟩
theorem rough42 (w : World) : Calls Try.prog 42 #[] w fun e w' => e = .returned (.agg (teRow roughT).toArray) ∧ Below w.heap.size w w' := by
  refine calls_of_SC (args := []) Try.func42 rfl Try.ntmps42 rfl ?_
  simp only [argL]
  refine sc_seq ?_
  refine sc_region ?_
  refine sq_alloc Try.zeroValue29 rfl (fun b0 => ?_)
  refine sq_nil ?_
  refine sx_then ?_
  refine sc_seq ?_
  refine sc_region ?_
  refine qy (yc Try.call31 E2 (fun w1 _ => span31 w1 _ _)) ?_
  refine qy (yc Try.call31 E2 (fun w1 _ => span31 w1 _ _)) ?_
  refine qs (y_build (cells := (teRow roughT).toArray) bt29 (EvP.cons RF (EvP.cons RF (EvP.cons RF (EvP.cons RF EvP.nil)))) (by kernel_rfl)) ?_
  refine sq_store_all Try.sizeOf29 RF RF rfl RM rfl rfl ?_
  refine sq_nil ?_
  refine sx_then ?_
  refine sc_ret ?_
  refine sx_retc (.inl rfl) rfl Try.results42 Try.underlying29 rfl Try.sizeOf29 RF MM rfl ?_
  intro w' hw'
  exact ⟨rfl, hw'.below MM⟩
theorem sample28 (w : World) : Calls Try.prog 28 #[] w fun e w' => ∃ a c, e = .returned (.agg (bxRow smpB a c).toArray) ∧ Below w.heap.size w w' ∧ RowsA kdRow 3 w.heap.size w' a smpB.kinds := by
  refine calls_of_SC (args := []) Try.func28 rfl Try.ntmps28 rfl ?_
  simp only [argL]
  refine sc_seq ?_
  refine sc_region ?_
  refine sq_alloc Try.zeroValue26 rfl (fun b0 => ?_)
  refine sq_nil ?_
  refine sx_then ?_
  refine sc_seq ?_
  refine sc_region ?_
  refine qy (yc Try.call31 E2 (fun w1 _ => span31 w1 _ _)) ?_
  refine qs (y_build (cells := #[.int .i64 90, .int .i64 1000, .int .i64 1001]) bt74 (EvP.cons RF (EvP.cons RF EvP.nil)) (by kernel_rfl)) ?_
  refine qy (yc Try.call31 E2 (fun w1 _ => span31 w1 _ _)) ?_
  refine qs (y_build (cells := #[.int .i64 10, .int .i64 2000, .int .i64 2000]) bt74 (EvP.cons RF (EvP.cons RF EvP.nil)) (by kernel_rfl)) ?_
  refine sq_bs Try.underlying22 ei74 (EvI.cons RF (EvI.cons RF EvI.nil)) (by first | (simp [Value.cells]; done) | (simp [Value.cells]; rfl) | (simp [Value.cells]; and_intros <;> rfl)) rfl rfl rfl (fun b5 => ?_)
  refine qy (yc Try.call31 E2 (fun w1 _ => span31 w1 _ _)) ?_
  refine qs (y_build (cells := (bxRow smpB (some ⟨b5, 0, none⟩) 2).toArray) bt26 (EvP.cons RF (EvP.cons RF (EvP.cons RF (EvP.cons RF EvP.nil)))) (by kernel_rfl)) ?_
  refine sq_store_all Try.sizeOf26 RF RF rfl RM rfl rfl ?_
  refine sq_nil ?_
  refine sx_then ?_
  refine sc_ret ?_
  refine sx_retc (.inl rfl) rfl Try.results28 Try.underlying26 rfl Try.sizeOf26 RF MM rfl ?_
  intro w' hw'
  refine ⟨some ⟨b5, 0, none⟩, 2, rfl, hw'.below MM, ?_⟩
  have hr : RowsA kdRow 3 0 w' (some ⟨b5, 0, none⟩) smpB.kinds := lit_rowsA (g := b5) (row := kdRow) (sz := 3) (l := smpB.kinds) (fun _ => rfl) hw' (.tail _ (.head _)) (by rfl) (by decide)
  have hb : w.heap.size ≤ b5 := blk_new hw' (.there .here) MM
  exact ⟨fun i x hi => ⟨(hr.el i x hi).1, by simpa [elt, Addr.add_block] using hb, (hr.el i x hi).2.2⟩, hr.len⟩
end Go.Proofs.Ytofjipmheckmjaa
