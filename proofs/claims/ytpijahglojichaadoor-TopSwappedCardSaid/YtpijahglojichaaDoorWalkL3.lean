/- The walk of what opens the books of a tale: a function that defers a call, which would recover. -/
import Derived.Test.YtpijahglojichaaDoorWalkL2
import Derived.Test.YtpijahglojichaaDoorEng23
import Derived.Lib.ByteType
namespace Go.Proofs.YtpijahglojichaaDoor
open Go Go.Eng Go.RowKit Go.Proofs
set_option maxRecDepth 100000
/-- the deferred call: nothing has panicked -/
theorem open94 (w : World) (b : Value) : CallsD Tryd.prog 94 #[b] .returning w fun e u w' => e = .returned (.tuple #[]) ∧ u = .returning ∧ w' = w := by
  refine callsD_of_wpS Tryd.func94 rfl fun c₀ cs hu => ?_
  refine wpS_seq (wpS_region ?_)
  have hrec : recoverD (c₀ :: cs) = none := by simp [recoverD, hu]
  have hneq : (binOp .neq 20 .nilIface .nilIface).run Tryd.prog w = .ok (.bool false) w := Go.Lib.run_neq_nil_nil w Tryd.underlying20
  simp [wpOpsS, List.range, List.range.loop, Region.wanted, execOp, resolve, invoke, builtin, hrec, Exit.thenS, Oper.upon]
  refine wpS_seq (wpS_region ?_)
  simp [wpOpsS, List.range, List.range.loop, Region.wanted, execOp, Exit.thenS, Oper.upon, Act.eval, Act.put, hneq, eqGuard]
  refine wpS_cond (t := false) (by simp [Act.eval]) ?_
  refine wpS_of_wp (wp_skip ?_)
  simp [bodyPostS, results, Tryd.results94]
  rw [← hu]
/-- who can have lost the first so many pieces -/
def canL (t : Tl) (i : Nat) : List Nat := (List.range 16).map fun k => if k < i then canN t k else 0
theorem canL_len (t : Tl) (i : Nat) : (canL t i).length = 16 := by simp [canL]
theorem canL_get (t : Tl) (i : Nat) {k : Nat} (h : k < 16) : (canL t i).getD k 0 = if k < i then canN t k else 0 := by
  unfold canL; rw [List.getD_eq_getElem?_getD]; simp [h]
theorem canL_set (t : Tl) {i : Nat} (h : i < 16) : (canL t i).set i (canN t i) = canL t (i + 1) := by
  apply List.ext_getElem?
  intro k
  rw [List.getElem?_set, canL_len]
  rcases Nat.lt_or_ge k 16 with hk | hk
  · have h1 := canL_get t i hk
    have h2 := canL_get t (i + 1) hk
    rw [get_of_lt 0 (by rw [canL_len]; exact hk), get_of_lt 0 (by rw [canL_len]; exact hk), h1, h2]
    by_cases e : i = k
    · subst e; rw [if_pos rfl, if_pos h, if_pos (by omega)]
    · rw [if_neg e]
      by_cases e2 : k < i
      · rw [if_pos e2, if_pos (by omega)]
      · rw [if_neg e2, if_neg (by omega)]
  · rw [if_neg (by omega), List.getElem?_eq_none (by rw [canL_len]; exact hk), List.getElem?_eq_none (by rw [canL_len]; exact hk)]
theorem bkV_set (z : TlA) (t : Tl) {cs : List Nat} {i : Nat} (n : Nat) : (bkV z t cs).toArray.setIfInBounds (4 + i) (.int .i64 (n : Int)) = (bkV z t (cs.set i n)).toArray := by
  unfold bkV
  rw [List.setIfInBounds_toArray, show 4 + i = i + 1 + 1 + 1 + 1 by omega]
  simp [tlV, List.map_set]

theorem open68 (w : World) (z : TlA) (t : Tl) (hz : TlAt 0 w z t) (ok : OkT t) (hwin : ∀ k, k < t.pieces → (winW t.looks k).1 < (winW t.looks k).2) : Calls Tryd.prog 68 #[.agg (tlV z t).toArray] w fun e w' => e = .returned (.tuple #[.agg (bkV z t (canL t t.pieces)).toArray, .bool true]) ∧ Below w.heap.size w w' := by
  have hp16 := ok.p16
  refine calls_of_SCd (args := [.agg (tlV z t).toArray]) Tryd.func68 rfl Tryd.ntmps68 rfl ?_
  simp only [argL]
  refine sc_seq ?_
  refine sc_region ?_
  refine sq_box RF rfl (fun b1 => ?_)
  refine sq_alloc Tryd.zeroValue118 rfl (fun b2 => ?_)
  refine sq_alloc Tryd.zeroValue4 rfl (fun b3 => ?_)
  refine sq_nil ?_
  refine sx_then ?_
  refine sc_seq ?_
  refine sc_region ?_
  refine qs (y_makeFunc EvL.nil (EvL.cons RF EvL.nil)) ?_
  refine sq_defer rfl RF ?_
  refine sq_nil ?_
  refine sx_then ?_
  refine sc_seq ?_
  refine sc_region ?_
  refine qs LD61 ?_
  refine qs FA118_61 ?_
  refine sq_store_part (vs := tlV z t) (cs' := bkV z t (canL t 0)) Tryd.sizeOf61 RF RF (by rfl) RM rfl (by decide) (by rfl) ?_
  refine sq_nil ?_
  refine sx_then ?_
  refine sc_seq ?_
  refine sc_seq ?_
  refine sc_region ?_
  refine qs FA61_3 ?_
  refine qs LD3 ?_
  refine qs (y_move RF) ?_
  refine sq_nil ?_
  refine sx_then ?_
  refine sc_block ?_
  refine sc_loop (σ := Nat)
    (fun s_ => [(1, .pointer (some ⟨b1, 0, none⟩)), (2, .pointer (some ⟨b2, 0, none⟩)), (3, .pointer (some ⟨b3, 0, none⟩)), (9, .int .i64 t.pieces), (10, .int .i64 s_)])
    (fun s_ => [.blk b2 (.cells (bkV z t (canL t s_)).toArray 118 (0, 0)), .blk b1 (.cells (tlV z t).toArray 61 (0, 0)), .blk b3 (.cells #[.bool false] 4 (0, 0)), .reg 0 w])
    (fun s_ => s_ ≤ t.pieces)
    (fun s_ => t.pieces - s_)
    (0) ?_ SU SR ?_
  · exact Nat.zero_le _
  rintro i hi
  refine sc_seq ?_
  refine sc_region ?_
  refine qs (y_lss RF RF) ?_
  refine sq_nil ?_
  refine sx_then ?_
  refine sc_seq ?_
  refine scp (fun hc0 => ?_) (fun hc0 => ?_)
  ·
    have hi' : i < t.pieces := by omega
    refine sc_skip ?_
    refine sx_then ?_
    refine sc_seq ?_
    refine sc_block ?_
    refine sc_seq ?_
    refine sc_region ?_
    refine qs (y_move RF) ?_
    refine qs (y_assign RF) ?_
    refine sq_nil ?_
    refine sx_then ?_
    refine sc_region ?_
    refine qs (y_move RF) ?_
    refine qs LD61 ?_
    refine qs (y_move RF) ?_
    refine qy (yc Tryd.call95 E2 (fun w1 hw1 => suspects95 w1 z t (hz.at hw1 MM) ok i hi' (hwin i hi'))) ?_
    refine qs FA118_116 ?_
    refine qs (y_ia_arr Tryd.underlying116 Tryd.sizeOf3 RF RF (by omega)) ?_
    refine sq_store_eq (cs' := (bkV z t (canL t (i + 1))).toArray) Tryd.sizeOf3 RF RF rfl RM (by show 0 + 4 + i * 1 < (bkV z t (canL t i)).toArray.size; rw [List.size_toArray, bkV_len z t (canL_len _ _)]; omega) (by show (bkV z t (canL t i)).toArray.setIfInBounds (0 + 4 + i * 1) _ = _; rw [show 0 + 4 + i * 1 = 4 + i by omega, bkV_set, canL_set t (by omega)]) ?_
    refine sq_nil ?_
    refine sx_blk ?_
    refine sx_then ?_
    refine sc_region ?_
    refine qs (y_add RF RF (by omega)) ?_
    refine qs (y_move RF) ?_
    refine sq_nil ?_
    refine sx_round (i + 1) ?_ ?_ SU SR
    · omega
    · omega
  ·
    have hin : i = t.pieces := by omega
    subst hin
    refine sc_exit ?_
    refine sx_then_exit ?_
    refine sx_round_exit ?_
    refine sx_blk_hit ?_
    refine sx_then ?_
    refine sc_seq ?_
    refine sc_region ?_
    refine qs (by first | exact y_load_all Tryd.underlying118 rfl Tryd.sizeOf118 RF MM (bkV_len z t (canL_len _ _)) | exact LD118) ?_
    refine sq_store_all (vs := bkV z t (canL t t.pieces)) Tryd.sizeOf118 RF RF (by rfl) RM (bkV_len z t (canL_len _ _)) (by rw [List.size_toArray]; exact bkV_len z t (canL_len _ _)) ?_
    refine sq_store Tryd.sizeOf4 RF RF (by first | rfl | assumption) RM (by first | exact Nat.le_of_ble_eq_true rfl | simp | omega) ?_
    refine sq_nil ?_
    refine sx_then ?_
    refine sc_ret ?_
    refine sx_retD (.inl rfl) rfl Tryd.call94 (fun w => open94 w _) (res_cc Tryd.results68 Tryd.underlying118 rfl Tryd.sizeOf118 Tryd.underlying4 rfl RF MM (bkV_len z t (canL_len _ _)) RF MM) ?_
    intro w' hw'
    exact ⟨rfl, hw'.below MM⟩
end Go.Proofs.YtpijahglojichaaDoor
