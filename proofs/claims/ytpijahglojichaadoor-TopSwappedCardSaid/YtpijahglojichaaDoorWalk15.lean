/- The walk of Short. -/
import Derived.Test.YtpijahglojichaaDoorWalk14
namespace Go.Proofs.YtpijahglojichaaDoor
open Go Go.Eng Go.RowKit Go.Proofs
set_option maxRecDepth 100000
theorem drop_mem : ∀ x, x < 128 → ∀ k, k < 7 → ∀ j, j ∈ memL (dropN x k) → j ∈ memL x := by decide +kernel
theorem shAll (w0 : World) (z : MA) (m : Mt) (hz : MtA 0 w0 z m) (hm : MkF m) (hT : TabAt w0) (long bm e1 e2 e3 e4 e5 e6 : Nat) : ∀ f left, left < f → left < 128 → (∀ i, i ∈ memL left → i < m.length) → ShAt w0 z m long bm e1 e2 e3 e4 e5 e6 left ∧ ∀ bf bh bo first, OnAt w0 z m long bm e1 e2 e3 e4 e5 e6 bf bh bo first left
  | 0, _, h, _, _ => absurd h (by omega)
  | f + 1, left, h, hl, hlm => by
    have key : ∀ k, k ∈ memL left → ShAt w0 z m long bm e1 e2 e3 e4 e5 e6 (dropN left k) ∧ ∀ bf bh bo first, OnAt w0 z m long bm e1 e2 e3 e4 e5 e6 bf bh bo first (dropN left k) := fun k hk => by
      have h7 := memL_seven left hl k hk
      have hd := card_drop left hl k h7.1 h7.2
      exact shAll w0 z m hz hm hT long bm e1 e2 e3 e4 e5 e6 f _ (by omega) hd.1 fun i hi => hlm i (drop_mem left hl k h7.1 i hi)
    have hS : ShAt w0 z m long bm e1 e2 e3 e4 e5 e6 left := sh56 w0 z m hm hT long bm e1 e2 e3 e4 e5 e6 left hl hlm (fun h0 => (key _ ((card_le left hl).2 h0)).1) (fun h0 bf bh bo => (key _ ((card_le left hl).2 h0)).2 bf bh bo _)
    exact ⟨hS, fun bf bh bo first => on60 w0 z m hz hm hT long bm e1 e2 e3 e4 e5 e6 bf bh bo first left hl hlm hS fun k hk => (key k hk).2 bf bh bo first⟩
/-- the best exchange of short rings -/
def shortM (m : Mt) (long : Nat) : Td := shT m long (pw2 m.length - 1)
/-- Short's answer -/
def shortA (m : Mt) (long : Int) : List Int × Int × Int := if mkB m = false then ([], 0, 1) else if inB long 2 7 = false then ([], 0, 2) else ((shortM m long.toNat).gets, (shortM m long.toNat).worth, 0)
theorem shortA_ok {m : Mt} {long : Int} (h : mkB m = true) (h2 : inB long 2 7 = true) : shortA m long = ((shortM m long.toNat).gets, (shortM m long.toNat).worth, 0) := by unfold shortA; rw [if_neg (by simp [h]), if_neg (by simp [h2])]
theorem shortA_no {m : Mt} {long : Int} (h : mkB m = false) : shortA m long = ([], 0, 1) := if_pos h
theorem shortA_far {m : Mt} {long : Int} (h : mkB m = true) (h2 : inB long 2 7 = false) : shortA m long = ([], 0, 2) := by unfold shortA; rw [if_neg (by simp [h]), if_pos h2]

theorem Short28 (w : World) (z : MA) (m : Mt) (hz : MtA 0 w z m) (hT : TabAt w) (long : Int) : Calls Tryd.prog 28 #[.agg (mV z m).toArray, .int .i64 long] w fun e w' => ∃ y : Option Addr × Nat, e = .returned (.tuple #[.slice y.1 (shortA m long).1.length y.2, .int .i64 (shortA m long).2.1, .int .i64 (shortA m long).2.2]) ∧ Below w.heap.size w w' ∧ RowsA iRow 1 w.heap.size w' y.1 (shortA m long).1 := by
  refine calls_of_SC (args := [.agg (mV z m).toArray, .int .i64 long]) Tryd.func28 rfl Tryd.ntmps28 rfl ?_
  simp only [argL, Nat.zero_add]
  refine sc_seq ?_
  refine sc_region ?_
  refine sq_box RF rfl (fun b2 => ?_)
  refine sq_box RF rfl (fun b3 => ?_)
  refine qs (y_assign RF) ?_
  refine qs (y_assign RF) ?_
  refine qs (y_assign RF) ?_
  refine sq_nil ?_
  refine sx_then ?_
  refine sc_seq ?_
  refine sc_block ?_
  refine sc_seq ?_
  refine sc_region ?_
  refine qs LD24 ?_
  refine qy (yc Tryd.call41 E1 (fun w1 hw1 => market41 w1 z m (hz.at hw1 MM))) ?_
  refine qs (y_not RF) ?_
  refine qs (y_assign RF) ?_
  refine sq_nil ?_
  refine sx_then ?_
  refine scp (fun hc0 => ?_) (fun hc0 => ?_)
  ·
    refine sc_seq ?_
    refine sc_region ?_
    refine qs (y_assign RF) ?_
    refine qs (y_assign RF) ?_
    refine qs (y_assign RF) ?_
    refine sq_nil ?_
    refine sx_then ?_
    refine sc_ret ?_
    refine sx_blk_ret ?_
    refine sx_then_ret ?_
    refine sx_ret3 (.inl rfl) rfl Tryd.results28 RF RF RF ?_
    intro w' hw'
    have hb : mkB m = false := by simpa using hc0
    rw [shortA_no hb]
    exact ⟨(none, 0), rfl, hw'.below MM, RowsA.nil _ _⟩
  ·
    refine sc_seq ?_
    have hb : mkB m = true := by simpa using hc0
    refine sc_region ?_
    refine qs LD3 ?_
    refine qy (yc Tryd.call47 E3 (fun w1 hw1 => within47 long 2 7 w1)) ?_
    refine qs (y_not RF) ?_
    refine qs (y_assign RF) ?_
    refine sq_nil ?_
    refine sx_then ?_
    refine scp (fun hc1 => ?_) (fun hc1 => ?_)
    ·
      refine sc_seq ?_
      refine sc_region ?_
      refine qs (y_assign RF) ?_
      refine qs (y_assign RF) ?_
      refine qs (y_assign RF) ?_
      refine sq_nil ?_
      refine sx_then ?_
      refine sc_ret ?_
      refine sx_blk_ret ?_
      refine sx_then_ret ?_
      refine sx_ret3 (.inl rfl) rfl Tryd.results28 RF RF RF ?_
      intro w' hw'
      have hb : mkB m = true := by simpa using hc0
      rw [shortA_far hb (by simpa [inB] using hc1)]
      exact ⟨(none, 0), rfl, hw'.below MM, RowsA.nil _ _⟩
    ·
      refine sc_skip ?_
      refine sx_blk ?_
      refine sx_then ?_
      refine sc_seq ?_
      have hlb : inB long 2 7 = true := by simpa [inB] using hc1
      have hlg : 2 ≤ long ∧ long ≤ 7 := by simpa [inB] using hlb
      have hm := mkF hb
      obtain ⟨ln, rfl⟩ : ∃ ln : Nat, long = (ln : Int) := ⟨long.toNat, by omega⟩
      have hn7 := hm.n7
      have hfl := memL_full m.length hn7
      have hlen := hz.len
      have hpw := pw2_le (show m.length ≤ 20 by omega)
      have hpp := pw2_pos m.length
      have hsl : (shortM m ln).gets.length = m.length := (shT_F hm hfl.2).len
      refine sc_region ?_
      refine qs LD24 ?_
      refine qs (y_build bt75 (EvP.cons RF EvP.nil) RF) ?_
      refine sq_alloc Tryd.zeroValue75 rfl (fun b7 => ?_)
      refine sq_store_all Tryd.sizeOf75 RF RF rfl RM rfl rfl ?_
      refine sq_nil ?_
      refine sx_then ?_
      refine sc_seq ?_
      refine sc_region ?_
      refine qs FA24_22 ?_
      refine qs LD22 ?_
      refine qs (y_len Tryd.underlying22 RF) ?_
      refine sq_alloc Tryd.zeroValue3 rfl (fun b8 => ?_)
      refine sq_store Tryd.sizeOf3 RF RF (by first | rfl | assumption) RM (by first | exact Nat.le_of_ble_eq_true rfl | simp | omega) ?_
      refine sq_nil ?_
      refine sx_then ?_
      refine sc_seq ?_
      refine sc_region ?_
      refine sq_makeMapK ki rfl (fun bmm => ?_)
      refine sq_alloc Tryd.zeroValue94 rfl (fun b9 => ?_)
      refine sq_store Tryd.sizeOf94 RF RF (by first | rfl | assumption) RM (by first | exact Nat.le_of_ble_eq_true rfl | simp | omega) ?_
      refine sq_nil ?_
      refine sx_then ?_
      refine sc_seq ?_
      refine sc_region ?_
      refine sq_alloc Tryd.zeroValue95 rfl (fun b10 => ?_)
      refine sq_nil ?_
      refine sx_then ?_
      refine sc_seq ?_
      refine sc_set0 (fun wS => ?_)
      refine sc_region ?_
      refine qs (y_makeFunc EvL.nil (EvL.cons RF (EvL.cons RF (EvL.cons RF (EvL.cons RF (EvL.cons RF (EvL.cons RF EvL.nil))))))) ?_
      refine sq_store Tryd.sizeOf95 RF RF (by first | rfl | assumption) RM (by first | exact Nat.le_of_ble_eq_true rfl | simp | omega) ?_
      refine sq_nil ?_
      refine sx_then ?_
      refine sc_seq ?_
      refine sc_drawX ([.blk b8 (.cells [Value.int .i64 (m.length : Int)].toArray 3 (0, 0)), .blk b10 (.cells [.func (.func 56) #[] #[.pointer (some ⟨b9, 0, none⟩), .pointer (some ⟨b8, 0, none⟩), .pointer (some ⟨b10, 0, none⟩), .pointer (some ⟨b7, 0, none⟩), .pointer (some ⟨b2, 0, none⟩), .pointer (some ⟨b3, 0, none⟩)]].toArray 95 (0, 0))]) (by kernel_rfl) ?_
      refine xj_s 0 RF (by kernel_rfl) SR LD95 rfl ?_
      refine xj_s 1 RF (by kernel_rfl) SR LD3 rfl ?_
      refine xj_s 2 RF (by kernel_rfl) SR (y_shl RF RF (by omega) (by rw [pw2_shl]; omega)) rfl ?_
      rw [pw2_shl]
      refine xj_s 3 RF (by kernel_rfl) SR (y_sub RF RF (by omega)) rfl ?_
      rw [show ((pw2 m.length : Nat) : Int) - 1 = ((pw2 m.length - 1 : Nat) : Int) by omega]
      refine xj_all (l := [4, 5]) (by kernel_rfl) (by simp) (Each.cons ⟨_, rfl, ?_⟩ (Each.cons ⟨_, rfl, ?_⟩ Each.nil))
      ·
        refine sq_call_fr (first := []) (caps := [.pointer (some ⟨b9, 0, none⟩), .pointer (some ⟨b8, 0, none⟩), .pointer (some ⟨b10, 0, none⟩), .pointer (some ⟨b7, 0, none⟩), .pointer (some ⟨b2, 0, none⟩), .pointer (some ⟨b3, 0, none⟩)]) (vs := [.int .i64 (((pw2 m.length - 1) : Nat) : Int)]) (rs1 := .blk bmm (kvM ki ([] : MemS)) :: .set (fun _ => False) wS :: .blk b9 (.cells [Value.map (some bmm)].toArray 94 (0, 0)) :: .blk b8 (.cells [Value.int .i64 (m.length : Int)].toArray 3 (0, 0)) :: .blk b10 (.cells [.func (.func 56) #[] #[.pointer (some ⟨b9, 0, none⟩), .pointer (some ⟨b8, 0, none⟩), .pointer (some ⟨b10, 0, none⟩), .pointer (some ⟨b7, 0, none⟩), .pointer (some ⟨b2, 0, none⟩), .pointer (some ⟨b3, 0, none⟩)]].toArray 95 (0, 0)) :: .blk b7 (.cells (mV z m).toArray 75 (0, 0)) :: .blk b2 (.cells (mV z m).toArray 24 (0, 0)) :: .blk b3 (.cells [Value.int .i64 (ln : Int)].toArray 3 (0, 0)) ::  .reg 0 w :: []) (Z := LftS) (fun q => .agg (tdV q.y (shortM m ln)).toArray) (fun q => .blk bmm (kvM ki q.l) :: .set q.D q.w :: .blk b9 (.cells [Value.map (some bmm)].toArray 94 (0, 0)) :: .blk b8 (.cells [Value.int .i64 (m.length : Int)].toArray 3 (0, 0)) :: .blk b10 (.cells [.func (.func 56) #[] #[.pointer (some ⟨b9, 0, none⟩), .pointer (some ⟨b8, 0, none⟩), .pointer (some ⟨b10, 0, none⟩), .pointer (some ⟨b7, 0, none⟩), .pointer (some ⟨b2, 0, none⟩), .pointer (some ⟨b3, 0, none⟩)]].toArray 95 (0, 0)) :: .blk b7 (.cells (mV z m).toArray 75 (0, 0)) :: .blk b2 (.cells (mV z m).toArray 24 (0, 0)) :: .blk b3 (.cells [Value.int .i64 (ln : Int)].toArray 3 (0, 0)) ::  .reg 0 w :: []) (fun q => LftSOk m ln (pw2 m.length - 1) [] (fun _ => False) wS q) RF Tryd.call56 E1 (by repeat (first | exact Rems.nil | apply Rems.cons (by repeat (first | exact Rem.here | apply Rem.there)))) (fun w1 hw1 => ((shAll w z m hz hm hT ln bmm b9 b8 b10 b7 b2 b3 128 (pw2 m.length - 1) (by omega) hfl.2 (fun i hi => by rw [hfl.1] at hi; exact List.mem_range.1 hi)).1 [] (fun _ => False) wS _ w1 ⟨List.nodup_nil, fun _ _ h => by cases h⟩ hw1).mono (fun e w' h => h)) rfl (fun q hq => ?_)
        refine sq_nil ?_
        refine sx_xp SR ?_
        refine xj_one 5 RF (by kernel_rfl) ?_
        refine sq_alloc Tryd.zeroValue85 rfl (fun b11 => ?_)
        refine sq_nil ?_
        refine sx_xp SR ?_
        refine xj_one 6 RF (by kernel_rfl) ?_
        refine sq_store_all Tryd.sizeOf85 RF RF rfl RM rfl rfl ?_
        refine sq_nil ?_
        refine sx_xpl (by kernel_rfl) ?_
        refine xj_done (by kernel_rfl) ?_
        refine sx_then ?_
        refine sc_seq ?_
        refine sc_drawR (by kernel_rfl) ?_
        refine xj_s 0 RF (by kernel_rfl) SR FA85_25 rfl ?_
        refine xj_s 1 RF (by kernel_rfl) SR LD25 rfl ?_
        refine xj_s 3 RF (by kernel_rfl) SR FA85_3 rfl ?_
        refine xj_s 4 RF (by kernel_rfl) SR LD3 rfl ?_
        refine xj_one 2 RF (by kernel_rfl) ?_
        refine sq_call_new (first := []) (caps := []) (Z := Option Addr × Nat) (fun q => .slice q.1 (shortM m ln).gets.length q.2) (fun lo w' q => w.heap.size ≤ lo ∧ RowsA iRow 1 lo w' q.1 (shortM m ln).gets) RF Tryd.call53 (EvL.cons RF EvL.nil) (fun w1 hw1 => (clone53 w1 q.y.1 q.y.2 _ (hq.rows.at hw1 MM) (by have h := hsl; unfold shortM at h; omega)).mono (fun e w' ⟨q, h1, h2, h3⟩ => ⟨q, h1, h2, hw1.size, h3⟩)) rfl (fun lo2 wr2 y2 hy2 => ?_)
        refine sq_nil ?_
        refine sx_xp SR ?_
        refine xj_s 5 RF (by kernel_rfl) SR (y_assign RF) rfl ?_
        refine xj_s 6 RF (by kernel_rfl) SR (y_assign RF) rfl ?_
        refine xj_s 7 RF (by kernel_rfl) SR (y_assign RF) rfl ?_
        refine xj_done (by kernel_rfl) ?_
        refine sx_then ?_
        refine sc_ret ?_
        refine sx_ret3 (.inl rfl) rfl Tryd.results28 RF RF RF ?_
        intro w' hw'
        rw [shortA_ok hb hlb]
        exact ⟨y2, rfl, hw'.below MM, rowsA_keep hy2.2 hw' MM hy2.1⟩
      ·
        refine sq_alloc Tryd.zeroValue85 rfl (fun b11 => ?_)
        refine sq_nil ?_
        refine sx_xp SR ?_
        refine xj_one 4 RF (by kernel_rfl) ?_
        refine sq_call_fr (first := []) (caps := [.pointer (some ⟨b9, 0, none⟩), .pointer (some ⟨b8, 0, none⟩), .pointer (some ⟨b10, 0, none⟩), .pointer (some ⟨b7, 0, none⟩), .pointer (some ⟨b2, 0, none⟩), .pointer (some ⟨b3, 0, none⟩)]) (vs := [.int .i64 (((pw2 m.length - 1) : Nat) : Int)]) (rs1 := .blk bmm (kvM ki ([] : MemS)) :: .set (fun _ => False) wS :: .blk b9 (.cells [Value.map (some bmm)].toArray 94 (0, 0)) :: .blk b8 (.cells [Value.int .i64 (m.length : Int)].toArray 3 (0, 0)) :: .blk b10 (.cells [.func (.func 56) #[] #[.pointer (some ⟨b9, 0, none⟩), .pointer (some ⟨b8, 0, none⟩), .pointer (some ⟨b10, 0, none⟩), .pointer (some ⟨b7, 0, none⟩), .pointer (some ⟨b2, 0, none⟩), .pointer (some ⟨b3, 0, none⟩)]].toArray 95 (0, 0)) :: .blk b7 (.cells (mV z m).toArray 75 (0, 0)) :: .blk b2 (.cells (mV z m).toArray 24 (0, 0)) :: .blk b3 (.cells [Value.int .i64 (ln : Int)].toArray 3 (0, 0)) ::  .reg 0 w :: []) (Z := LftS) (fun q => .agg (tdV q.y (shortM m ln)).toArray) (fun q => .blk bmm (kvM ki q.l) :: .set q.D q.w :: .blk b9 (.cells [Value.map (some bmm)].toArray 94 (0, 0)) :: .blk b8 (.cells [Value.int .i64 (m.length : Int)].toArray 3 (0, 0)) :: .blk b10 (.cells [.func (.func 56) #[] #[.pointer (some ⟨b9, 0, none⟩), .pointer (some ⟨b8, 0, none⟩), .pointer (some ⟨b10, 0, none⟩), .pointer (some ⟨b7, 0, none⟩), .pointer (some ⟨b2, 0, none⟩), .pointer (some ⟨b3, 0, none⟩)]].toArray 95 (0, 0)) :: .blk b7 (.cells (mV z m).toArray 75 (0, 0)) :: .blk b2 (.cells (mV z m).toArray 24 (0, 0)) :: .blk b3 (.cells [Value.int .i64 (ln : Int)].toArray 3 (0, 0)) ::  .reg 0 w :: []) (fun q => LftSOk m ln (pw2 m.length - 1) [] (fun _ => False) wS q) RF Tryd.call56 E1 (by repeat (first | exact Rems.nil | apply Rems.cons (by repeat (first | exact Rem.here | apply Rem.there)))) (fun w1 hw1 => ((shAll w z m hz hm hT ln bmm b9 b8 b10 b7 b2 b3 128 (pw2 m.length - 1) (by omega) hfl.2 (fun i hi => by rw [hfl.1] at hi; exact List.mem_range.1 hi)).1 [] (fun _ => False) wS _ w1 ⟨List.nodup_nil, fun _ _ h => by cases h⟩ hw1).mono (fun e w' h => h)) rfl (fun q hq => ?_)
        refine sq_nil ?_
        refine sx_xp SR ?_
        refine xj_one 6 RF (by kernel_rfl) ?_
        refine sq_store_all Tryd.sizeOf85 RF RF rfl RM rfl rfl ?_
        refine sq_nil ?_
        refine sx_xpl (by kernel_rfl) ?_
        refine xj_done (by kernel_rfl) ?_
        refine sx_then ?_
        refine sc_seq ?_
        refine sc_drawR (by kernel_rfl) ?_
        refine xj_s 0 RF (by kernel_rfl) SR FA85_25 rfl ?_
        refine xj_s 1 RF (by kernel_rfl) SR LD25 rfl ?_
        refine xj_s 3 RF (by kernel_rfl) SR FA85_3 rfl ?_
        refine xj_s 4 RF (by kernel_rfl) SR LD3 rfl ?_
        refine xj_one 2 RF (by kernel_rfl) ?_
        refine sq_call_new (first := []) (caps := []) (Z := Option Addr × Nat) (fun q => .slice q.1 (shortM m ln).gets.length q.2) (fun lo w' q => w.heap.size ≤ lo ∧ RowsA iRow 1 lo w' q.1 (shortM m ln).gets) RF Tryd.call53 (EvL.cons RF EvL.nil) (fun w1 hw1 => (clone53 w1 q.y.1 q.y.2 _ (hq.rows.at hw1 MM) (by have h := hsl; unfold shortM at h; omega)).mono (fun e w' ⟨q, h1, h2, h3⟩ => ⟨q, h1, h2, hw1.size, h3⟩)) rfl (fun lo2 wr2 y2 hy2 => ?_)
        refine sq_nil ?_
        refine sx_xp SR ?_
        refine xj_s 5 RF (by kernel_rfl) SR (y_assign RF) rfl ?_
        refine xj_s 6 RF (by kernel_rfl) SR (y_assign RF) rfl ?_
        refine xj_s 7 RF (by kernel_rfl) SR (y_assign RF) rfl ?_
        refine xj_done (by kernel_rfl) ?_
        refine sx_then ?_
        refine sc_ret ?_
        refine sx_ret3 (.inl rfl) rfl Tryd.results28 RF RF RF ?_
        intro w' hw'
        rw [shortA_ok hb hlb]
        exact ⟨y2, rfl, hw'.below MM, rowsA_keep hy2.2 hw' MM hy2.1⟩
end Go.Proofs.YtpijahglojichaaDoor
