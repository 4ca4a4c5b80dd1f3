/- The walks of Off and Lasts. -/
import Derived.Test.YtcgbdecgdddnkaaWalk1
namespace Go.Proofs.Ytcgbdecgdddnkaa
open Go Go.Eng Go.RowKit Go.Proofs
set_option maxRecDepth 100000
theorem ei3' : EI Try.prog 3 (.int .i64 0) 1 8 := ei3

theorem end22 (w : World) (s : Sp) : Calls Try.prog 22 #[.agg (spRow s).toArray] w fun e w' => e = .returned (.int .i64 s.lo) ∧ Below w.heap.size w w' := by
  refine calls_of_SC (args := [.agg (spRow s).toArray]) Try.func22 rfl Try.ntmps22 rfl ?_
  simp only [argL]
  refine sc_seq ?_
  refine sc_region ?_
  refine sq_box (by exact rfl) rfl (fun b1 => ?_)
  refine sq_y (OpY.s (y_assign (by exact rfl))) rfl ?_
  refine sq_nil ?_
  refine sx_then ?_
  refine sc_seq ?_
  refine sc_region ?_
  refine sq_y (OpY.s (by first | exact y_fab Try.underlying29 (by exact rfl) (by exact Try.sizeOf3) (by exact rfl) rfl | exact y_fa Try.underlying29 (by exact rfl) (by exact Try.sizeOf3) (by exact rfl) rfl)) rfl ?_
  refine sq_y (OpY.s (by first | exact y_load_cajj Try.underlying3 rfl (by exact rfl) (by repeat (first | exact .head _ | refine .tail _ ?_)) (by assumption) (by exact rfl) | exact y_load_blk Try.underlying3 rfl (by exact rfl) (by repeat (first | exact .head _ | refine .tail _ ?_)) (by exact rfl) | exact y_load_caj Try.underlying3 rfl (by exact rfl) (by repeat (first | exact .head _ | refine .tail _ ?_)) (by assumption) (by exact rfl) | exact y_load_ca0 Try.underlying3 rfl (by exact rfl) (by repeat (first | exact .head _ | refine .tail _ ?_)) (by assumption) (by exact rfl))) rfl ?_
  refine sq_y (OpY.s (y_assign (by exact rfl))) rfl ?_
  refine sq_nil ?_
  refine sx_then ?_
  refine sc_ret ?_
  refine sx_ret1 (.inl rfl) rfl Try.results22 (by exact rfl) ?_
  intro w' hw'
  exact ⟨rfl, hw'.below (by repeat (first | exact .head _ | refine .tail _ ?_))⟩
theorem end23 (w : World) (s : Sp) : Calls Try.prog 23 #[.agg (spRow s).toArray] w fun e w' => e = .returned (.int .i64 s.hi) ∧ Below w.heap.size w w' := by
  refine calls_of_SC (args := [.agg (spRow s).toArray]) Try.func23 rfl Try.ntmps23 rfl ?_
  simp only [argL]
  refine sc_seq ?_
  refine sc_region ?_
  refine sq_box (by exact rfl) rfl (fun b1 => ?_)
  refine sq_y (OpY.s (y_assign (by exact rfl))) rfl ?_
  refine sq_nil ?_
  refine sx_then ?_
  refine sc_seq ?_
  refine sc_region ?_
  refine sq_y (OpY.s (by first | exact y_fab Try.underlying29 (by exact rfl) (by exact Try.sizeOf3) (by exact rfl) rfl | exact y_fa Try.underlying29 (by exact rfl) (by exact Try.sizeOf3) (by exact rfl) rfl)) rfl ?_
  refine sq_y (OpY.s (by first | exact y_load_cajj Try.underlying3 rfl (by exact rfl) (by repeat (first | exact .head _ | refine .tail _ ?_)) (by assumption) (by exact rfl) | exact y_load_blk Try.underlying3 rfl (by exact rfl) (by repeat (first | exact .head _ | refine .tail _ ?_)) (by exact rfl) | exact y_load_caj Try.underlying3 rfl (by exact rfl) (by repeat (first | exact .head _ | refine .tail _ ?_)) (by assumption) (by exact rfl) | exact y_load_ca0 Try.underlying3 rfl (by exact rfl) (by repeat (first | exact .head _ | refine .tail _ ?_)) (by assumption) (by exact rfl))) rfl ?_
  refine sq_y (OpY.s (y_assign (by exact rfl))) rfl ?_
  refine sq_nil ?_
  refine sx_then ?_
  refine sc_ret ?_
  refine sx_ret1 (.inl rfl) rfl Try.results23 (by exact rfl) ?_
  intro w' hw'
  exact ⟨rfl, hw'.below (by repeat (first | exact .head _ | refine .tail _ ?_))⟩
theorem ends13 (w : World) : Calls Try.prog 13 #[] w fun e w' => e = .returned (.tuple #[.agg #[.func (.func 22) #[] #[]], .agg #[.func (.func 23) #[] #[]]]) ∧ Below w.heap.size w w' := by
  refine calls_of_SC (args := []) Try.func13 rfl Try.ntmps13 rfl ?_
  simp only [argL]
  refine sc_seq ?_
  refine sc_region ?_
  refine sq_alloc Try.zeroValue46 rfl (fun b0 => ?_)
  refine sq_alloc Try.zeroValue46 rfl (fun b1 => ?_)
  refine sq_nil ?_
  refine sx_then ?_
  refine sc_seq ?_
  refine sc_region ?_
  refine sq_y (OpY.s (y_build bt46 (EvP.cons (by exact rfl) EvP.nil) (by exact rfl))) rfl ?_
  refine sq_y (OpY.s (y_build bt46 (EvP.cons (by exact rfl) EvP.nil) (by exact rfl))) rfl ?_
  refine sq_store_all Try.sizeOf46 (by exact rfl) (by exact rfl) rfl (by repeat (first | exact Rem.here | apply Rem.there)) rfl rfl ?_
  refine sq_store_all Try.sizeOf46 (by exact rfl) (by exact rfl) rfl (by repeat (first | exact Rem.here | apply Rem.there)) rfl rfl ?_
  refine sq_nil ?_
  refine sx_then ?_
  refine sc_ret ?_
  refine sx_retcc (.inl rfl) rfl Try.results13 Try.underlying46 rfl Try.sizeOf46 Try.underlying46 rfl Try.sizeOf46 (by exact rfl) (by repeat (first | exact .head _ | refine .tail _ ?_)) rfl (by exact rfl) (by repeat (first | exact .head _ | refine .tail _ ?_)) rfl ?_
  intro w' hw'
  exact ⟨rfl, hw'.below (by repeat (first | exact .head _ | refine .tail _ ?_))⟩
theorem off14 (w : World) (b : Bl) (st : Int) (g : FuncId) (pr : Sp → Int) (hcg : ∀ args w, (callFunc g args).run Try.prog w = .ok (.enter g args) w) (hg : ∀ s w1, Calls Try.prog g #[.agg (spRow s).toArray] w1 fun e w' => e = .returned (.int .i64 (pr s)) ∧ Below w1.heap.size w1 w') (hf : 0 ≤ pr b.fresh ∧ pr b.fresh ≤ 10000) (hw : 0 ≤ pr b.wears ∧ pr b.wears ≤ 10000) (hs : 0 ≤ st ∧ st ≤ 7000) : Calls Try.prog 14 #[.agg #[.func (.func g) #[] #[]], .agg (blRow b).toArray, .int .i64 st] w fun e w' => e = .returned (.int .i64 (pr b.fresh + pr b.wears * st)) ∧ Below w.heap.size w w' := by
  have hm := mul_bd hw hs
  refine calls_of_SC (args := [.agg #[.func (.func g) #[] #[]], .agg (blRow b).toArray, .int .i64 st]) Try.func14 rfl Try.ntmps14 rfl ?_
  simp only [argL, Nat.reduceAdd, Nat.zero_add]
  refine sc_seq ?_
  refine sc_region ?_
  refine sq_box (by exact rfl) rfl (fun b3 => ?_)
  refine sq_box (by exact rfl) rfl (fun b4 => ?_)
  refine sq_y (OpY.s (y_assign (by exact rfl))) rfl ?_
  refine sq_nil ?_
  refine sx_then ?_
  refine sc_seq ?_
  refine sc_draw rfl (by kernel_rfl) (by kernel_rfl) ?_
  refine qq_y (OpY.s (by first | exact y_fab Try.underlying46 (by exact rfl) (by exact Try.sizeOf44) (by exact rfl) rfl | exact y_fa Try.underlying46 (by exact rfl) (by exact Try.sizeOf44) (by exact rfl) rfl)) rfl ?_
  refine qq_y (OpY.s (by first | exact y_load_cajj Try.underlying44 rfl (by exact rfl) (by repeat (first | exact .head _ | refine .tail _ ?_)) (by assumption) (by exact rfl) | exact y_load_blk Try.underlying44 rfl (by exact rfl) (by repeat (first | exact .head _ | refine .tail _ ?_)) (by exact rfl) | exact y_load_caj Try.underlying44 rfl (by exact rfl) (by repeat (first | exact .head _ | refine .tail _ ?_)) (by assumption) (by exact rfl) | exact y_load_ca0 Try.underlying44 rfl (by exact rfl) (by repeat (first | exact .head _ | refine .tail _ ?_)) (by assumption) (by exact rfl))) rfl ?_
  refine qq_y (OpY.s (by first | exact y_fab Try.underlying42 (by exact rfl) (by exact Try.sizeOf29) (by exact rfl) rfl | exact y_fa Try.underlying42 (by exact rfl) (by exact Try.sizeOf29) (by exact rfl) rfl)) rfl ?_
  refine qq_y (OpY.s (by first | exact y_load_all Try.underlying29 rfl Try.sizeOf29 (by exact rfl) (by repeat (first | exact .head _ | refine .tail _ ?_)) (by exact rfl) | exact y_load_2 Try.underlying29 rfl Try.sizeOf29 (by exact rfl) (by repeat (first | exact .head _ | refine .tail _ ?_)) (by exact rfl) (by exact rfl) | exact y_load_ca Try.underlying29 rfl Try.sizeOf29 (by exact rfl) (by repeat (first | exact .head _ | refine .tail _ ?_)) (by assumption) (by exact rfl) | exact y_load_part Try.underlying29 rfl Try.sizeOf29 (by exact rfl) (by repeat (first | exact .head _ | refine .tail _ ?_)) rfl | exact y_load_capart Try.underlying29 rfl Try.sizeOf29 (by exact rfl) (by repeat (first | exact .head _ | refine .tail _ ?_)) (by assumption) rfl)) rfl ?_
  refine qq_y (y_call (first := []) (caps := []) (by exact rfl) hcg (EvL.cons (by exact rfl) EvL.nil) (fun w1 _ => hg b.fresh w1)) rfl ?_
  refine qq_y (OpY.s (by first | exact y_fab Try.underlying46 (by exact rfl) (by exact Try.sizeOf44) (by exact rfl) rfl | exact y_fa Try.underlying46 (by exact rfl) (by exact Try.sizeOf44) (by exact rfl) rfl)) rfl ?_
  refine qq_y (OpY.s (by first | exact y_load_cajj Try.underlying44 rfl (by exact rfl) (by repeat (first | exact .head _ | refine .tail _ ?_)) (by assumption) (by exact rfl) | exact y_load_blk Try.underlying44 rfl (by exact rfl) (by repeat (first | exact .head _ | refine .tail _ ?_)) (by exact rfl) | exact y_load_caj Try.underlying44 rfl (by exact rfl) (by repeat (first | exact .head _ | refine .tail _ ?_)) (by assumption) (by exact rfl) | exact y_load_ca0 Try.underlying44 rfl (by exact rfl) (by repeat (first | exact .head _ | refine .tail _ ?_)) (by assumption) (by exact rfl))) rfl ?_
  refine qq_y (OpY.s (by first | exact y_fab Try.underlying42 (by exact rfl) (by exact Try.sizeOf29) (by exact rfl) rfl | exact y_fa Try.underlying42 (by exact rfl) (by exact Try.sizeOf29) (by exact rfl) rfl)) rfl ?_
  refine qq_y (OpY.s (by first | exact y_load_all Try.underlying29 rfl Try.sizeOf29 (by exact rfl) (by repeat (first | exact .head _ | refine .tail _ ?_)) (by exact rfl) | exact y_load_2 Try.underlying29 rfl Try.sizeOf29 (by exact rfl) (by repeat (first | exact .head _ | refine .tail _ ?_)) (by exact rfl) (by exact rfl) | exact y_load_ca Try.underlying29 rfl Try.sizeOf29 (by exact rfl) (by repeat (first | exact .head _ | refine .tail _ ?_)) (by assumption) (by exact rfl) | exact y_load_part Try.underlying29 rfl Try.sizeOf29 (by exact rfl) (by repeat (first | exact .head _ | refine .tail _ ?_)) rfl | exact y_load_capart Try.underlying29 rfl Try.sizeOf29 (by exact rfl) (by repeat (first | exact .head _ | refine .tail _ ?_)) (by assumption) rfl)) rfl ?_
  refine qq_y (y_call (first := []) (caps := []) (by exact rfl) hcg (EvL.cons (by exact rfl) EvL.nil) (fun w1 _ => hg b.wears w1)) rfl ?_
  refine qq_y (OpY.s (y_move (by exact rfl))) rfl ?_
  refine qq_y (OpY.s (y_mul (by exact rfl) (by exact rfl) (by omega))) rfl ?_
  refine qq_y (OpY.s (y_add (by exact rfl) (by exact rfl) (by omega))) rfl ?_
  refine qq_y (OpY.s (y_assign (by exact rfl))) rfl ?_
  refine qq_nil ?_
  refine sx_then ?_
  refine sc_ret ?_
  refine sx_ret1 (.inl rfl) rfl Try.results14 (by exact rfl) ?_
  intro w' hw'
  exact ⟨rfl, hw'.below (by repeat (first | exact .head _ | refine .tail _ ?_))⟩
theorem least31 (w : World) (z x : Int) (ad : Addr) (c : Nat) (hx : CA 0 w ad [.int .i64 x]) : Calls Try.prog 31 #[.int .i64 z, .slice (some ad) 1 c] w fun e w' => e = .returned (.int .i64 (min z x)) ∧ Below w.heap.size w w' := by
  have he : elt (some ad) 0 1 = ad := by unfold elt; rw [Nat.zero_mul]; rfl
  refine calls_of_SC (args := [.int .i64 z, .slice (some ad) 1 c]) Try.func31 rfl Try.ntmps31 rfl ?_
  simp only [argL, Nat.zero_add]
  refine sc_seq ?_
  refine sc_region ?_
  refine sq_y (OpY.s (y_assign (by exact rfl))) rfl ?_
  refine sq_nil ?_
  refine sx_then ?_
  refine sc_seq ?_
  refine sc_seq ?_
  refine sc_region ?_
  refine sq_y (OpY.s (y_move (by exact rfl))) rfl ?_
  refine sq_y (OpY.s (y_len Try.underlying78 (by exact rfl))) rfl ?_
  refine sq_y (OpY.s (y_move (by exact rfl))) rfl ?_
  refine sq_nil ?_
  refine sx_then ?_
  refine sc_block ?_
  refine sc_loop (σ := Nat)
    (fun s => [(0, .int .i64 (if s = 0 then z else min z x)), (7, .slice (some ad) 1 c), (8, .int .i64 1), (9, .int .i64 s)])
    (fun s => [.reg 0 w])
    (fun s => s ≤ 1)
    (fun s => 1 - s)
    (0) ?_ (by repeat (first | exact SubL.nil | refine SubL.cons (by first | exact rfl | exact lk_int rfl (by omega) | exact lk_eq rfl (by simp)) ?_)) (by repeat (first | exact Sel.nil | refine Sel.cons (by repeat (first | exact Rem.here | apply Rem.there)) ?_)) ?_
  · exact Nat.zero_le _
  rintro k hk
  refine sc_seq ?_
  refine sc_region ?_
  refine sq_y (OpY.s (y_lss (by exact rfl) (by exact rfl))) rfl ?_
  refine sq_nil ?_
  refine sx_then ?_
  refine sc_seq ?_
  first | refine sc_if (by exact rfl) (fun hc0 => ?_) (fun hc0 => ?_) | refine sc_ifn (by exact rfl) (fun hc0 => ?_) (fun hc0 => ?_) | refine sc_cond (by exact rfl) (fun hc0 => ?_) (fun hc0 => ?_)
  ·
    have hk0 : k = 0 := by omega
    subst hk0
    have hk0 : (0 : Nat) = 0 := rfl
    have hca : CA 0 w (elt (some ad) 0 1) [.int .i64 x] := by rw [he]; exact hx
    refine sc_skip ?_
    refine sx_then ?_
    refine sc_seq ?_
    refine sc_block ?_
    refine sc_seq ?_
    refine sc_region ?_
    refine sq_y (OpY.s (by first | exact y_ia_blk Try.underlying78 Try.sizeOf3 (by exact rfl) (by exact rfl) (by omega) | exact y_ia_el Try.underlying78 Try.sizeOf3 (by exact rfl) (by exact rfl) (by omega) (by first | assumption | simp))) rfl ?_
    refine sq_y (OpY.s (by first | exact y_load_ca0 Try.underlying3 rfl (by exact rfl) (by repeat (first | exact .head _ | refine .tail _ ?_)) hca rfl | exact y_load_cajj Try.underlying3 rfl (by exact rfl) (by repeat (first | exact .head _ | refine .tail _ ?_)) (by assumption) (by exact rfl) | exact y_load_blk Try.underlying3 rfl (by exact rfl) (by repeat (first | exact .head _ | refine .tail _ ?_)) (by exact rfl) | exact y_load_caj Try.underlying3 rfl (by exact rfl) (by repeat (first | exact .head _ | refine .tail _ ?_)) (by assumption) (by exact rfl) | exact y_load_ca0 Try.underlying3 rfl (by exact rfl) (by repeat (first | exact .head _ | refine .tail _ ?_)) (by assumption) (by exact rfl))) rfl ?_
    refine sq_y (OpY.s (y_assign (by exact rfl))) rfl ?_
    refine sq_nil ?_
    refine sx_then ?_
    refine sc_region ?_
    refine sq_y (OpY.s (y_move (by exact rfl))) rfl ?_
    refine sq_y (OpY.s (y_move (by exact rfl))) rfl ?_
    refine sq_y (OpY.s (y_min (by exact rfl) (by exact rfl))) rfl ?_
    refine sq_y (OpY.s (y_assign (by exact rfl))) rfl ?_
    refine sq_nil ?_
    refine sx_blk ?_
    refine sx_then ?_
    refine sc_region ?_
    refine sq_y (OpY.s (y_add (by exact rfl) (by exact rfl) (by omega))) rfl ?_
    refine sq_y (OpY.s (y_move (by exact rfl))) rfl ?_
    refine sq_nil ?_
    refine sx_round (1) ?_ ?_ (by repeat (first | exact SubL.nil | refine SubL.cons (by first | exact rfl | exact lk_int rfl (by simp [hk0])) ?_)) (by repeat (first | exact Sel.nil | refine Sel.cons (by repeat (first | exact Rem.here | apply Rem.there)) ?_))
    · exact Nat.le_refl _
    · omega
  ·
    refine sc_exit ?_
    refine sx_then_exit ?_
    refine sx_round_exit ?_
    refine sx_blk_hit ?_
    refine sx_then ?_
    refine sc_seq ?_
    refine sc_region ?_
    refine sq_y (OpY.s (y_move (by exact rfl))) rfl ?_
    refine sq_y (OpY.s (y_assign (by exact rfl))) rfl ?_
    refine sq_nil ?_
    refine sx_then ?_
    refine sc_ret ?_
    refine sx_ret1 (.inl rfl) rfl Try.results31 (by exact rfl) ?_
    intro w' hw'
    refine ⟨?_, hw'.below (by repeat (first | exact .head _ | refine .tail _ ?_))⟩
    have hk1 : k = 1 := by omega
    subst hk1
    rfl
theorem lasts18 (w : World) (b : Bl) (bo : Int) (g : FuncId) (pr : Sp → Int) (hcg : ∀ args w, (callFunc g args).run Try.prog w = .ok (.enter g args) w) (hg : ∀ s w1, Calls Try.prog g #[.agg (spRow s).toArray] w1 fun e w' => e = .returned (.int .i64 (pr s)) ∧ Below w1.heap.size w1 w') (hf : 0 ≤ pr b.fresh ∧ pr b.fresh ≤ bo) (hw : 0 ≤ pr b.wears ∧ pr b.wears ≤ 10000) (hs : 0 ≤ bo ∧ bo ≤ 200000) : Calls Try.prog 18 #[.agg #[.func (.func g) #[] #[]], .agg (blRow b).toArray, .int .i64 bo] w fun e w' => e = .returned (.int .i64 (lastV (pr b.fresh) (pr b.wears) bo)) ∧ Below w.heap.size w w' := by
  refine calls_of_SC (args := [.agg #[.func (.func g) #[] #[]], .agg (blRow b).toArray, .int .i64 bo]) Try.func18 rfl Try.ntmps18 rfl ?_
  simp only [argL, Nat.reduceAdd, Nat.zero_add]
  refine sc_seq ?_
  refine sc_region ?_
  refine sq_box (by exact rfl) rfl (fun b3 => ?_)
  refine sq_box (by exact rfl) rfl (fun b4 => ?_)
  refine sq_y (OpY.s (y_assign (by exact rfl))) rfl ?_
  refine sq_nil ?_
  refine sx_then ?_
  refine sc_seq ?_
  refine sc_seq ?_
  refine sc_region ?_
  refine sq_y (OpY.s (by first | exact y_fab Try.underlying46 (by exact rfl) (by exact Try.sizeOf44) (by exact rfl) rfl | exact y_fa Try.underlying46 (by exact rfl) (by exact Try.sizeOf44) (by exact rfl) rfl)) rfl ?_
  refine sq_y (OpY.s (by first | exact y_load_cajj Try.underlying44 rfl (by exact rfl) (by repeat (first | exact .head _ | refine .tail _ ?_)) (by assumption) (by exact rfl) | exact y_load_blk Try.underlying44 rfl (by exact rfl) (by repeat (first | exact .head _ | refine .tail _ ?_)) (by exact rfl) | exact y_load_caj Try.underlying44 rfl (by exact rfl) (by repeat (first | exact .head _ | refine .tail _ ?_)) (by assumption) (by exact rfl) | exact y_load_ca0 Try.underlying44 rfl (by exact rfl) (by repeat (first | exact .head _ | refine .tail _ ?_)) (by assumption) (by exact rfl))) rfl ?_
  refine sq_y (OpY.s (by first | exact y_fab Try.underlying42 (by exact rfl) (by exact Try.sizeOf29) (by exact rfl) rfl | exact y_fa Try.underlying42 (by exact rfl) (by exact Try.sizeOf29) (by exact rfl) rfl)) rfl ?_
  refine sq_y (OpY.s (by first | exact y_load_all Try.underlying29 rfl Try.sizeOf29 (by exact rfl) (by repeat (first | exact .head _ | refine .tail _ ?_)) (by exact rfl) | exact y_load_2 Try.underlying29 rfl Try.sizeOf29 (by exact rfl) (by repeat (first | exact .head _ | refine .tail _ ?_)) (by exact rfl) (by exact rfl) | exact y_load_ca Try.underlying29 rfl Try.sizeOf29 (by exact rfl) (by repeat (first | exact .head _ | refine .tail _ ?_)) (by assumption) (by exact rfl) | exact y_load_part Try.underlying29 rfl Try.sizeOf29 (by exact rfl) (by repeat (first | exact .head _ | refine .tail _ ?_)) rfl | exact y_load_capart Try.underlying29 rfl Try.sizeOf29 (by exact rfl) (by repeat (first | exact .head _ | refine .tail _ ?_)) (by assumption) rfl)) rfl ?_
  refine sq_y (y_call (first := []) (caps := []) (by exact rfl) hcg (EvL.cons (by exact rfl) EvL.nil) (fun w1 _ => hg b.wears w1)) rfl ?_
  refine sq_y (OpY.s (y_eql (by exact rfl) (by exact rfl))) rfl ?_
  refine sq_nil ?_
  refine sx_then ?_
  first | refine sc_if (by exact rfl) (fun hc0 => ?_) (fun hc0 => ?_) | refine sc_ifn (by exact rfl) (fun hc0 => ?_) (fun hc0 => ?_) | refine sc_cond (by exact rfl) (fun hc0 => ?_) (fun hc0 => ?_)
  ·
    refine sc_seq ?_
    refine sc_region ?_
    refine sq_y (OpY.s (y_assign (by exact rfl))) rfl ?_
    refine sq_nil ?_
    refine sx_then ?_
    refine sc_ret ?_
    refine sx_then_ret ?_
    refine sx_ret1 (.inl rfl) rfl Try.results18 (by exact rfl) ?_
    intro w' hw'
    refine ⟨?_, hw'.below (by repeat (first | exact .head _ | refine .tail _ ?_))⟩
    unfold lastV; rw [if_pos hc0]
  ·
    refine sc_skip ?_
    refine sx_then ?_
    refine sc_seq ?_
    refine sc_drawX ([.blk b3 (.cells [Value.func (.func g) #[] #[]].toArray 46 (0, 0)), .blk b4 (.cells (blRow b).toArray 42 (0, 0)), .reg 0 w]) (by kernel_rfl) ?_
    refine xj_s 0 (by exact rfl) (by kernel_rfl) (by repeat (first | exact Sel.nil | refine Sel.cons (by repeat (first | exact Rem.here | apply Rem.there)) ?_)) (y_move (by exact rfl)) rfl ?_
    refine xj_s 1 (by exact rfl) (by kernel_rfl) (by repeat (first | exact Sel.nil | refine Sel.cons (by repeat (first | exact Rem.here | apply Rem.there)) ?_)) (by first | exact y_fab Try.underlying46 (by exact rfl) (by exact Try.sizeOf44) (by exact rfl) rfl | exact y_fa Try.underlying46 (by exact rfl) (by exact Try.sizeOf44) (by exact rfl) rfl) rfl ?_
    refine xj_s 2 (by exact rfl) (by kernel_rfl) (by repeat (first | exact Sel.nil | refine Sel.cons (by repeat (first | exact Rem.here | apply Rem.there)) ?_)) (by first | exact y_load_cajj Try.underlying44 rfl (by exact rfl) (by repeat (first | exact .head _ | refine .tail _ ?_)) (by assumption) (by exact rfl) | exact y_load_blk Try.underlying44 rfl (by exact rfl) (by repeat (first | exact .head _ | refine .tail _ ?_)) (by exact rfl) | exact y_load_caj Try.underlying44 rfl (by exact rfl) (by repeat (first | exact .head _ | refine .tail _ ?_)) (by assumption) (by exact rfl) | exact y_load_ca0 Try.underlying44 rfl (by exact rfl) (by repeat (first | exact .head _ | refine .tail _ ?_)) (by assumption) (by exact rfl)) rfl ?_
    refine xj_s 3 (by exact rfl) (by kernel_rfl) (by repeat (first | exact Sel.nil | refine Sel.cons (by repeat (first | exact Rem.here | apply Rem.there)) ?_)) (by first | exact y_fab Try.underlying42 (by exact rfl) (by exact Try.sizeOf29) (by exact rfl) rfl | exact y_fa Try.underlying42 (by exact rfl) (by exact Try.sizeOf29) (by exact rfl) rfl) rfl ?_
    refine xj_s 4 (by exact rfl) (by kernel_rfl) (by repeat (first | exact Sel.nil | refine Sel.cons (by repeat (first | exact Rem.here | apply Rem.there)) ?_)) (by first | exact y_load_all Try.underlying29 rfl Try.sizeOf29 (by exact rfl) (by repeat (first | exact .head _ | refine .tail _ ?_)) (by exact rfl) | exact y_load_2 Try.underlying29 rfl Try.sizeOf29 (by exact rfl) (by repeat (first | exact .head _ | refine .tail _ ?_)) (by exact rfl) (by exact rfl) | exact y_load_ca Try.underlying29 rfl Try.sizeOf29 (by exact rfl) (by repeat (first | exact .head _ | refine .tail _ ?_)) (by assumption) (by exact rfl) | exact y_load_part Try.underlying29 rfl Try.sizeOf29 (by exact rfl) (by repeat (first | exact .head _ | refine .tail _ ?_)) rfl | exact y_load_capart Try.underlying29 rfl Try.sizeOf29 (by exact rfl) (by repeat (first | exact .head _ | refine .tail _ ?_)) (by assumption) rfl) rfl ?_
    refine xj_s 7 (by exact rfl) (by kernel_rfl) (by repeat (first | exact Sel.nil | refine Sel.cons (by repeat (first | exact Rem.here | apply Rem.there)) ?_)) (by first | exact y_fab Try.underlying46 (by exact rfl) (by exact Try.sizeOf44) (by exact rfl) rfl | exact y_fa Try.underlying46 (by exact rfl) (by exact Try.sizeOf44) (by exact rfl) rfl) rfl ?_
    refine xj_s 8 (by exact rfl) (by kernel_rfl) (by repeat (first | exact Sel.nil | refine Sel.cons (by repeat (first | exact Rem.here | apply Rem.there)) ?_)) (by first | exact y_load_cajj Try.underlying44 rfl (by exact rfl) (by repeat (first | exact .head _ | refine .tail _ ?_)) (by assumption) (by exact rfl) | exact y_load_blk Try.underlying44 rfl (by exact rfl) (by repeat (first | exact .head _ | refine .tail _ ?_)) (by exact rfl) | exact y_load_caj Try.underlying44 rfl (by exact rfl) (by repeat (first | exact .head _ | refine .tail _ ?_)) (by assumption) (by exact rfl) | exact y_load_ca0 Try.underlying44 rfl (by exact rfl) (by repeat (first | exact .head _ | refine .tail _ ?_)) (by assumption) (by exact rfl)) rfl ?_
    refine xj_s 9 (by exact rfl) (by kernel_rfl) (by repeat (first | exact Sel.nil | refine Sel.cons (by repeat (first | exact Rem.here | apply Rem.there)) ?_)) (by first | exact y_fab Try.underlying42 (by exact rfl) (by exact Try.sizeOf29) (by exact rfl) rfl | exact y_fa Try.underlying42 (by exact rfl) (by exact Try.sizeOf29) (by exact rfl) rfl) rfl ?_
    refine xj_s 10 (by exact rfl) (by kernel_rfl) (by repeat (first | exact Sel.nil | refine Sel.cons (by repeat (first | exact Rem.here | apply Rem.there)) ?_)) (by first | exact y_load_all Try.underlying29 rfl Try.sizeOf29 (by exact rfl) (by repeat (first | exact .head _ | refine .tail _ ?_)) (by exact rfl) | exact y_load_2 Try.underlying29 rfl Try.sizeOf29 (by exact rfl) (by repeat (first | exact .head _ | refine .tail _ ?_)) (by exact rfl) (by exact rfl) | exact y_load_ca Try.underlying29 rfl Try.sizeOf29 (by exact rfl) (by repeat (first | exact .head _ | refine .tail _ ?_)) (by assumption) (by exact rfl) | exact y_load_part Try.underlying29 rfl Try.sizeOf29 (by exact rfl) (by repeat (first | exact .head _ | refine .tail _ ?_)) rfl | exact y_load_capart Try.underlying29 rfl Try.sizeOf29 (by exact rfl) (by repeat (first | exact .head _ | refine .tail _ ?_)) (by assumption) rfl) rfl ?_
    refine xj_one 5 (by exact rfl) (by kernel_rfl) ?_
    refine sq_y (y_call (first := []) (caps := []) (by exact rfl) hcg (EvL.cons (by exact rfl) EvL.nil) (fun w1 _ => hg b.fresh w1)) rfl ?_
    refine sq_nil ?_
    refine sx_xp (by repeat (first | exact Sel.nil | refine Sel.cons (by repeat (first | exact Rem.here | apply Rem.there)) ?_)) ?_
    refine xj_s 6 (by exact rfl) (by kernel_rfl) (by repeat (first | exact Sel.nil | refine Sel.cons (by repeat (first | exact Rem.here | apply Rem.there)) ?_)) (y_sub (by exact rfl) (by exact rfl) (by omega)) rfl ?_
    refine xj_one 11 (by exact rfl) (by kernel_rfl) ?_
    refine sq_y (y_call (first := []) (caps := []) (by exact rfl) hcg (EvL.cons (by exact rfl) EvL.nil) (fun w1 _ => hg b.wears w1)) rfl ?_
    refine sq_nil ?_
    refine sx_xp (by repeat (first | exact Sel.nil | refine Sel.cons (by repeat (first | exact Rem.here | apply Rem.there)) ?_)) ?_
    refine xj_s 12 (by exact rfl) (by kernel_rfl) (by repeat (first | exact Sel.nil | refine Sel.cons (by repeat (first | exact Rem.here | apply Rem.there)) ?_)) (y_quo (by exact rfl) (by exact rfl) (by omega) (by omega)) rfl ?_
    refine xj_one 13 (by exact rfl) (by kernel_rfl) ?_
    refine sq_bs Try.underlying78 ei3 (EvI.cons (by exact rfl) EvI.nil) (by first | (simp [Value.cells]; done) | (simp [Value.cells]; rfl) | (simp [Value.cells]; and_intros <;> rfl)) rfl rfl rfl (fun b26 => ?_)
    refine sq_nil ?_
    refine sx_xp (by repeat (first | exact Sel.nil | refine Sel.cons (by repeat (first | exact Rem.here | apply Rem.there)) ?_)) ?_
    refine xj_one 14 (by exact rfl) (by kernel_rfl) ?_
    refine sq_y (y_call (first := []) (caps := []) (by exact rfl) Try.call31 (EvL.cons (by exact rfl) (EvL.cons (by exact rfl) EvL.nil)) (fun w1 hw1 => least31 w1 7000 ((bo - pr b.fresh) / pr b.wears) ⟨b26, 0, none⟩ 1 (CA.blk (vs := [.int .i64 ((bo - pr b.fresh) / pr b.wears)]) hw1 (by repeat (first | exact .head _ | refine .tail _ ?_))))) rfl ?_
    refine sq_nil ?_
    refine sx_xp (by repeat (first | exact Sel.nil | refine Sel.cons (by repeat (first | exact Rem.here | apply Rem.there)) ?_)) ?_
    refine xj_s 15 (by exact rfl) (by kernel_rfl) (by repeat (first | exact Sel.nil | refine Sel.cons (by repeat (first | exact Rem.here | apply Rem.there)) ?_)) (y_assign (by exact rfl)) rfl ?_
    refine xj_done (by kernel_rfl) ?_
    refine sx_then ?_
    refine sc_ret ?_
    refine sx_ret1 (.inl rfl) rfl Try.results18 (by exact rfl) ?_
    intro w' hw'
    refine ⟨?_, hw'.below (by repeat (first | exact .head _ | refine .tail _ ?_))⟩
    unfold lastV; rw [if_neg hc0]
theorem diB_parts {d : Di} (h : diB d = true) : 1 ≤ d.blades.length ∧ d.blades.length ≤ 5 ∧ ∀ b, b ∈ d.blades → (0 ≤ b.fresh.lo ∧ b.fresh.lo ≤ b.fresh.hi ∧ b.fresh.hi ≤ 10000) ∧ (0 ≤ b.wears.lo ∧ b.wears.lo ≤ b.wears.hi ∧ b.wears.hi ≤ 10000) := by
  simp only [diB, inB, Bool.and_eq_true, decide_eq_true_eq, List.all_eq_true, blB, spB] at h
  exact ⟨by omega, by omega, h.2⟩
theorem Off6 (w : World) (d : Di) (a : Option Addr) (c : Nat) (hB : RowsA blRow 4 0 w a d.blades) (hok : diB d = true) (t : Nat) (b : Bl) (hb : d.blades[t]? = some b) (st : Int) (hs : 0 ≤ st ∧ st ≤ 7000) : Calls Try.prog 6 #[.agg (diRow d a c).toArray, .int .i64 t, .int .i64 st] w fun e w' => e = .returned (.tuple #[.agg (spRow (offV b st)).toArray, .int .i64 0]) ∧ Below w.heap.size w w' := by
  have hlen := hB.len
  have hts : t < d.blades.length := (List.getElem?_eq_some_iff.1 hb).1
  have hsm := (hB.el t b hb).1
  have hca := (hB.el t b hb).2
  have hpt := diB_parts hok
  have hbb := hpt.2.2 b (List.mem_of_getElem? hb)
  refine calls_of_SC (args := [.agg (diRow d a c).toArray, .int .i64 t, .int .i64 st]) Try.func6 rfl Try.ntmps6 rfl ?_
  simp only [argL, Nat.reduceAdd, Nat.zero_add]
  refine sc_seq ?_
  refine sc_region ?_
  refine sq_box (by exact rfl) rfl (fun b3 => ?_)
  refine sq_alloc Try.zeroValue29 rfl (fun b6 => ?_)
  refine sq_y (OpY.s (y_assign (by exact rfl))) rfl ?_
  refine sq_nil ?_
  refine sx_then ?_
  refine sc_seq ?_
  refine sc_block ?_
  refine sc_seq ?_
  refine sc_region ?_
  refine sq_y (OpY.s (by first | exact y_load_all Try.underlying24 rfl Try.sizeOf24 (by exact rfl) (by repeat (first | exact .head _ | refine .tail _ ?_)) (by exact rfl) | exact y_load_ca Try.underlying24 rfl Try.sizeOf24 (by exact rfl) (by repeat (first | exact .head _ | refine .tail _ ?_)) (by assumption) (by exact rfl) | exact y_load_part Try.underlying24 rfl Try.sizeOf24 (by exact rfl) (by repeat (first | exact .head _ | refine .tail _ ?_)) rfl | exact y_load_capart Try.underlying24 rfl Try.sizeOf24 (by exact rfl) (by repeat (first | exact .head _ | refine .tail _ ?_)) (by assumption) rfl)) rfl ?_
  refine sq_y (y_call (first := []) (caps := []) (by exact rfl) Try.call11 (EvL.cons (by exact rfl) EvL.nil) (fun w1 hw1 => isDie11 w1 d a c (hB.at hw1 (by repeat (first | exact .head _ | refine .tail _ ?_))))) rfl ?_
  refine sq_y (OpY.s (y_not (by exact rfl))) rfl ?_
  refine sq_y (OpY.s (y_assign (by exact rfl))) rfl ?_
  refine sq_nil ?_
  refine sx_then ?_
  refine sc_f (lk_bool rfl (by simp [hok])) ?_
  refine sc_seq ?_
  refine sc_region ?_
  refine sq_y (OpY.s (y_move (by exact rfl))) rfl ?_
  refine sq_y (OpY.s (by first | exact y_fab Try.underlying24 (by exact rfl) (by exact Try.sizeOf22) (by exact rfl) rfl | exact y_fa Try.underlying24 (by exact rfl) (by exact Try.sizeOf22) (by exact rfl) rfl)) rfl ?_
  refine sq_y (OpY.s (by first | exact y_load_cajj Try.underlying22 rfl (by exact rfl) (by repeat (first | exact .head _ | refine .tail _ ?_)) (by assumption) (by exact rfl) | exact y_load_blk Try.underlying22 rfl (by exact rfl) (by repeat (first | exact .head _ | refine .tail _ ?_)) (by exact rfl) | exact y_load_caj Try.underlying22 rfl (by exact rfl) (by repeat (first | exact .head _ | refine .tail _ ?_)) (by assumption) (by exact rfl) | exact y_load_ca0 Try.underlying22 rfl (by exact rfl) (by repeat (first | exact .head _ | refine .tail _ ?_)) (by assumption) (by exact rfl))) rfl ?_
  refine sq_y (OpY.s (y_len Try.underlying22 (by exact rfl))) rfl ?_
  refine sq_y (OpY.s (y_sub (by exact rfl) (by exact rfl) (by omega))) rfl ?_
  refine sq_y (y_call (first := []) (caps := []) (by exact rfl) Try.call12 (EvL.cons (by exact rfl) (EvL.cons (by exact rfl) (EvL.cons (by exact rfl) EvL.nil))) (fun w1 _ => within12 _ _ _ w1)) rfl ?_
  refine sq_y (OpY.s (y_not (by exact rfl))) rfl ?_
  refine sq_y (OpY.s (y_move (by exact rfl))) rfl ?_
  refine sq_known (tt := 23) (b' := false) (by exact rfl) (by simp; omega) ?_
  refine sq_gt (by exact rfl) (by exact rfl) (OpY.s (y_move (by exact rfl))) rfl ?_
  refine sq_gt (by exact rfl) (by exact rfl) (y_call (first := []) (caps := []) (by exact rfl) Try.call12 (EvL.cons (by exact rfl) (EvL.cons (by exact rfl) (EvL.cons (by exact rfl) EvL.nil))) (fun w1 _ => within12 _ _ _ w1)) rfl ?_
  refine sq_gt (by exact rfl) (by exact rfl) (OpY.s (y_not (by exact rfl))) rfl ?_
  refine sq_y (OpY.s (y_pick_f (by exact rfl) (by exact rfl))) rfl ?_
  refine sq_y (OpY.s (y_assign (by exact rfl))) rfl ?_
  refine sq_nil ?_
  refine sx_then ?_
  refine sc_f (lk_bool rfl (by simp; omega)) ?_
  refine sc_skip ?_
  refine sx_blk ?_
  refine sx_then ?_
  refine sc_seq ?_
  refine sc_region ?_
  refine sq_y (y_call (first := []) (caps := []) (by exact rfl) Try.call13 EvL.nil (fun w1 _ => ends13 w1)) rfl ?_
  refine sq_y (OpY.s (y_move (by exact rfl))) rfl ?_
  refine sq_y (OpY.s (y_extract (by exact rfl) (by exact rfl))) rfl ?_
  refine sq_y (OpY.s (y_extract (by exact rfl) (by exact rfl))) rfl ?_
  refine sq_alloc Try.zeroValue46 rfl (fun b8 => ?_)
  refine sq_alloc Try.zeroValue46 rfl (fun b9 => ?_)
  refine sq_store_all Try.sizeOf46 (by exact rfl) (by exact rfl) rfl (by repeat (first | exact Rem.here | apply Rem.there)) rfl rfl ?_
  refine sq_store_all Try.sizeOf46 (by exact rfl) (by exact rfl) rfl (by repeat (first | exact Rem.here | apply Rem.there)) rfl rfl ?_
  refine sq_nil ?_
  refine sx_then ?_
  refine sc_seq ?_
  refine sc_drawX ([.blk b8 (.cells [Value.func (.func 22) #[] #[]].toArray 46 (0, 0)), .blk b9 (.cells [Value.func (.func 23) #[] #[]].toArray 46 (0, 0)), .blk b3 (.cells (diRow d a c).toArray 24 (0, 0)), .reg 0 w]) (by kernel_rfl) ?_
  refine xj_s 0 (by exact rfl) (by kernel_rfl) (by repeat (first | exact Sel.nil | refine Sel.cons (by repeat (first | exact Rem.here | apply Rem.there)) ?_)) (by first | exact y_load_all Try.underlying46 rfl Try.sizeOf46 (by exact rfl) (by repeat (first | exact .head _ | refine .tail _ ?_)) (by exact rfl) | exact y_load_ca Try.underlying46 rfl Try.sizeOf46 (by exact rfl) (by repeat (first | exact .head _ | refine .tail _ ?_)) (by assumption) (by exact rfl) | exact y_load_part Try.underlying46 rfl Try.sizeOf46 (by exact rfl) (by repeat (first | exact .head _ | refine .tail _ ?_)) rfl | exact y_load_capart Try.underlying46 rfl Try.sizeOf46 (by exact rfl) (by repeat (first | exact .head _ | refine .tail _ ?_)) (by assumption) rfl) rfl ?_
  refine xj_s 1 (by exact rfl) (by kernel_rfl) (by repeat (first | exact Sel.nil | refine Sel.cons (by repeat (first | exact Rem.here | apply Rem.there)) ?_)) (by first | exact y_fab Try.underlying24 (by exact rfl) (by exact Try.sizeOf22) (by exact rfl) rfl | exact y_fa Try.underlying24 (by exact rfl) (by exact Try.sizeOf22) (by exact rfl) rfl) rfl ?_
  refine xj_s 2 (by exact rfl) (by kernel_rfl) (by repeat (first | exact Sel.nil | refine Sel.cons (by repeat (first | exact Rem.here | apply Rem.there)) ?_)) (by first | exact y_load_cajj Try.underlying22 rfl (by exact rfl) (by repeat (first | exact .head _ | refine .tail _ ?_)) (by assumption) (by exact rfl) | exact y_load_blk Try.underlying22 rfl (by exact rfl) (by repeat (first | exact .head _ | refine .tail _ ?_)) (by exact rfl) | exact y_load_caj Try.underlying22 rfl (by exact rfl) (by repeat (first | exact .head _ | refine .tail _ ?_)) (by assumption) (by exact rfl) | exact y_load_ca0 Try.underlying22 rfl (by exact rfl) (by repeat (first | exact .head _ | refine .tail _ ?_)) (by assumption) (by exact rfl)) rfl ?_
  refine xj_s 3 (by exact rfl) (by kernel_rfl) (by repeat (first | exact Sel.nil | refine Sel.cons (by repeat (first | exact Rem.here | apply Rem.there)) ?_)) (y_move (by exact rfl)) rfl ?_
  refine xj_s 4 (by exact rfl) (by kernel_rfl) (by repeat (first | exact Sel.nil | refine Sel.cons (by repeat (first | exact Rem.here | apply Rem.there)) ?_)) (by first | exact y_ia_blk Try.underlying22 Try.sizeOf42 (by exact rfl) (by exact rfl) (by omega) | exact y_ia_el Try.underlying22 Try.sizeOf42 (by exact rfl) (by exact rfl) (by omega) (by first | assumption | simp)) rfl ?_
  refine xj_s 5 (by exact rfl) (by kernel_rfl) (by repeat (first | exact Sel.nil | refine Sel.cons (by repeat (first | exact Rem.here | apply Rem.there)) ?_)) (by first | exact y_load_ca Try.underlying42 rfl Try.sizeOf42 (by exact rfl) (by repeat (first | exact .head _ | refine .tail _ ?_)) hca rfl | exact y_load_all Try.underlying42 rfl Try.sizeOf42 (by exact rfl) (by repeat (first | exact .head _ | refine .tail _ ?_)) (by exact rfl) | exact y_load_ca Try.underlying42 rfl Try.sizeOf42 (by exact rfl) (by repeat (first | exact .head _ | refine .tail _ ?_)) (by assumption) (by exact rfl) | exact y_load_part Try.underlying42 rfl Try.sizeOf42 (by exact rfl) (by repeat (first | exact .head _ | refine .tail _ ?_)) rfl | exact y_load_capart Try.underlying42 rfl Try.sizeOf42 (by exact rfl) (by repeat (first | exact .head _ | refine .tail _ ?_)) (by assumption) rfl) rfl ?_
  refine xj_s 6 (by exact rfl) (by kernel_rfl) (by repeat (first | exact Sel.nil | refine Sel.cons (by repeat (first | exact Rem.here | apply Rem.there)) ?_)) (y_move (by exact rfl)) rfl ?_
  refine xj_s 8 (by exact rfl) (by kernel_rfl) (by repeat (first | exact Sel.nil | refine Sel.cons (by repeat (first | exact Rem.here | apply Rem.there)) ?_)) (by first | exact y_load_all Try.underlying46 rfl Try.sizeOf46 (by exact rfl) (by repeat (first | exact .head _ | refine .tail _ ?_)) (by exact rfl) | exact y_load_ca Try.underlying46 rfl Try.sizeOf46 (by exact rfl) (by repeat (first | exact .head _ | refine .tail _ ?_)) (by assumption) (by exact rfl) | exact y_load_part Try.underlying46 rfl Try.sizeOf46 (by exact rfl) (by repeat (first | exact .head _ | refine .tail _ ?_)) rfl | exact y_load_capart Try.underlying46 rfl Try.sizeOf46 (by exact rfl) (by repeat (first | exact .head _ | refine .tail _ ?_)) (by assumption) rfl) rfl ?_
  refine xj_s 9 (by exact rfl) (by kernel_rfl) (by repeat (first | exact Sel.nil | refine Sel.cons (by repeat (first | exact Rem.here | apply Rem.there)) ?_)) (by first | exact y_fab Try.underlying24 (by exact rfl) (by exact Try.sizeOf22) (by exact rfl) rfl | exact y_fa Try.underlying24 (by exact rfl) (by exact Try.sizeOf22) (by exact rfl) rfl) rfl ?_
  refine xj_s 10 (by exact rfl) (by kernel_rfl) (by repeat (first | exact Sel.nil | refine Sel.cons (by repeat (first | exact Rem.here | apply Rem.there)) ?_)) (by first | exact y_load_cajj Try.underlying22 rfl (by exact rfl) (by repeat (first | exact .head _ | refine .tail _ ?_)) (by assumption) (by exact rfl) | exact y_load_blk Try.underlying22 rfl (by exact rfl) (by repeat (first | exact .head _ | refine .tail _ ?_)) (by exact rfl) | exact y_load_caj Try.underlying22 rfl (by exact rfl) (by repeat (first | exact .head _ | refine .tail _ ?_)) (by assumption) (by exact rfl) | exact y_load_ca0 Try.underlying22 rfl (by exact rfl) (by repeat (first | exact .head _ | refine .tail _ ?_)) (by assumption) (by exact rfl)) rfl ?_
  refine xj_s 11 (by exact rfl) (by kernel_rfl) (by repeat (first | exact Sel.nil | refine Sel.cons (by repeat (first | exact Rem.here | apply Rem.there)) ?_)) (y_move (by exact rfl)) rfl ?_
  refine xj_s 12 (by exact rfl) (by kernel_rfl) (by repeat (first | exact Sel.nil | refine Sel.cons (by repeat (first | exact Rem.here | apply Rem.there)) ?_)) (by first | exact y_ia_blk Try.underlying22 Try.sizeOf42 (by exact rfl) (by exact rfl) (by omega) | exact y_ia_el Try.underlying22 Try.sizeOf42 (by exact rfl) (by exact rfl) (by omega) (by first | assumption | simp)) rfl ?_
  refine xj_s 13 (by exact rfl) (by kernel_rfl) (by repeat (first | exact Sel.nil | refine Sel.cons (by repeat (first | exact Rem.here | apply Rem.there)) ?_)) (by first | exact y_load_ca Try.underlying42 rfl Try.sizeOf42 (by exact rfl) (by repeat (first | exact .head _ | refine .tail _ ?_)) hca rfl | exact y_load_all Try.underlying42 rfl Try.sizeOf42 (by exact rfl) (by repeat (first | exact .head _ | refine .tail _ ?_)) (by exact rfl) | exact y_load_ca Try.underlying42 rfl Try.sizeOf42 (by exact rfl) (by repeat (first | exact .head _ | refine .tail _ ?_)) (by assumption) (by exact rfl) | exact y_load_part Try.underlying42 rfl Try.sizeOf42 (by exact rfl) (by repeat (first | exact .head _ | refine .tail _ ?_)) rfl | exact y_load_capart Try.underlying42 rfl Try.sizeOf42 (by exact rfl) (by repeat (first | exact .head _ | refine .tail _ ?_)) (by assumption) rfl) rfl ?_
  refine xj_s 14 (by exact rfl) (by kernel_rfl) (by repeat (first | exact Sel.nil | refine Sel.cons (by repeat (first | exact Rem.here | apply Rem.there)) ?_)) (y_move (by exact rfl)) rfl ?_
  refine xj_one 7 (by exact rfl) (by kernel_rfl) ?_
  refine sq_y (y_call (first := []) (caps := []) (by exact rfl) Try.call14 (EvL.cons (by exact rfl) (EvL.cons (by exact rfl) (EvL.cons (by exact rfl) EvL.nil))) (fun w1 _ => off14 w1 b st 22 (·.lo) Try.call22 (fun s w2 => end22 w2 s) (by omega) (by omega) hs)) rfl ?_
  refine sq_nil ?_
  refine sx_xp (by repeat (first | exact Sel.nil | refine Sel.cons (by repeat (first | exact Rem.here | apply Rem.there)) ?_)) ?_
  refine xj_one 15 (by exact rfl) (by kernel_rfl) ?_
  refine sq_y (y_call (first := []) (caps := []) (by exact rfl) Try.call14 (EvL.cons (by exact rfl) (EvL.cons (by exact rfl) (EvL.cons (by exact rfl) EvL.nil))) (fun w1 _ => off14 w1 b st 23 (·.hi) Try.call23 (fun s w2 => end23 w2 s) (by omega) (by omega) hs)) rfl ?_
  refine sq_nil ?_
  refine sx_xp (by repeat (first | exact Sel.nil | refine Sel.cons (by repeat (first | exact Rem.here | apply Rem.there)) ?_)) ?_
  refine xj_s 16 (by exact rfl) (by kernel_rfl) (by repeat (first | exact Sel.nil | refine Sel.cons (by repeat (first | exact Rem.here | apply Rem.there)) ?_)) (y_build bt29 (EvP.cons (by exact rfl) (EvP.cons (by exact rfl) EvP.nil)) (by exact rfl)) rfl ?_
  refine xj_one 17 (by exact rfl) (by kernel_rfl) ?_
  refine sq_store_all Try.sizeOf29 (by exact rfl) (by exact rfl) rfl (by repeat (first | exact Rem.here | apply Rem.there)) rfl rfl ?_
  refine sq_nil ?_
  refine sx_xp (by repeat (first | exact Sel.nil | refine Sel.cons (by repeat (first | exact Rem.here | apply Rem.there)) ?_)) ?_
  refine xj_s 18 (by exact rfl) (by kernel_rfl) (by repeat (first | exact Sel.nil | refine Sel.cons (by repeat (first | exact Rem.here | apply Rem.there)) ?_)) (y_assign (by exact rfl)) rfl ?_
  refine xj_done (by kernel_rfl) ?_
  refine sx_then ?_
  refine sc_ret ?_
  refine sx_retct (.inl rfl) rfl Try.results6 Try.underlying29 rfl Try.sizeOf29 (by exact rfl) (by repeat (first | exact .head _ | refine .tail _ ?_)) rfl (by exact rfl) ?_
  intro w' hw'
  exact ⟨rfl, hw'.below (by repeat (first | exact .head _ | refine .tail _ ?_))⟩
theorem Lasts8 (w : World) (d : Di) (a : Option Addr) (c : Nat) (hB : RowsA blRow 4 0 w a d.blades) (hok : diB d = true) (t : Nat) (b : Bl) (hb : d.blades[t]? = some b) (bo : Int) (hs : 0 ≤ bo ∧ bo ≤ 200000) : Calls Try.prog 8 #[.agg (diRow d a c).toArray, .int .i64 t, .int .i64 bo] w fun e w' => e = .returned (if bo < b.fresh.hi then .tuple #[.agg (spRow sp0).toArray, .int .i64 4] else .tuple #[.agg (spRow (lastsV b bo)).toArray, .int .i64 0]) ∧ Below w.heap.size w w' := by
  have hlen := hB.len
  have hts : t < d.blades.length := (List.getElem?_eq_some_iff.1 hb).1
  have hsm := (hB.el t b hb).1
  have hca := (hB.el t b hb).2
  have hpt := diB_parts hok
  have hbb := hpt.2.2 b (List.mem_of_getElem? hb)
  refine calls_of_SC (args := [.agg (diRow d a c).toArray, .int .i64 t, .int .i64 bo]) Try.func8 rfl Try.ntmps8 rfl ?_
  simp only [argL, Nat.reduceAdd, Nat.zero_add]
  refine sc_seq ?_
  refine sc_region ?_
  refine sq_box (by exact rfl) rfl (fun b3 => ?_)
  refine sq_alloc Try.zeroValue29 rfl (fun b6 => ?_)
  refine sq_y (OpY.s (y_assign (by exact rfl))) rfl ?_
  refine sq_nil ?_
  refine sx_then ?_
  refine sc_seq ?_
  refine sc_block ?_
  refine sc_seq ?_
  refine sc_region ?_
  refine sq_y (OpY.s (by first | exact y_load_all Try.underlying24 rfl Try.sizeOf24 (by exact rfl) (by repeat (first | exact .head _ | refine .tail _ ?_)) (by exact rfl) | exact y_load_ca Try.underlying24 rfl Try.sizeOf24 (by exact rfl) (by repeat (first | exact .head _ | refine .tail _ ?_)) (by assumption) (by exact rfl) | exact y_load_part Try.underlying24 rfl Try.sizeOf24 (by exact rfl) (by repeat (first | exact .head _ | refine .tail _ ?_)) rfl | exact y_load_capart Try.underlying24 rfl Try.sizeOf24 (by exact rfl) (by repeat (first | exact .head _ | refine .tail _ ?_)) (by assumption) rfl)) rfl ?_
  refine sq_y (y_call (first := []) (caps := []) (by exact rfl) Try.call11 (EvL.cons (by exact rfl) EvL.nil) (fun w1 hw1 => isDie11 w1 d a c (hB.at hw1 (by repeat (first | exact .head _ | refine .tail _ ?_))))) rfl ?_
  refine sq_y (OpY.s (y_not (by exact rfl))) rfl ?_
  refine sq_y (OpY.s (y_assign (by exact rfl))) rfl ?_
  refine sq_nil ?_
  refine sx_then ?_
  refine sc_f (lk_bool rfl (by simp [hok])) ?_
  refine sc_seq ?_
  refine sc_region ?_
  refine sq_y (OpY.s (y_move (by exact rfl))) rfl ?_
  refine sq_y (OpY.s (by first | exact y_fab Try.underlying24 (by exact rfl) (by exact Try.sizeOf22) (by exact rfl) rfl | exact y_fa Try.underlying24 (by exact rfl) (by exact Try.sizeOf22) (by exact rfl) rfl)) rfl ?_
  refine sq_y (OpY.s (by first | exact y_load_cajj Try.underlying22 rfl (by exact rfl) (by repeat (first | exact .head _ | refine .tail _ ?_)) (by assumption) (by exact rfl) | exact y_load_blk Try.underlying22 rfl (by exact rfl) (by repeat (first | exact .head _ | refine .tail _ ?_)) (by exact rfl) | exact y_load_caj Try.underlying22 rfl (by exact rfl) (by repeat (first | exact .head _ | refine .tail _ ?_)) (by assumption) (by exact rfl) | exact y_load_ca0 Try.underlying22 rfl (by exact rfl) (by repeat (first | exact .head _ | refine .tail _ ?_)) (by assumption) (by exact rfl))) rfl ?_
  refine sq_y (OpY.s (y_len Try.underlying22 (by exact rfl))) rfl ?_
  refine sq_y (OpY.s (y_sub (by exact rfl) (by exact rfl) (by omega))) rfl ?_
  refine sq_y (y_call (first := []) (caps := []) (by exact rfl) Try.call12 (EvL.cons (by exact rfl) (EvL.cons (by exact rfl) (EvL.cons (by exact rfl) EvL.nil))) (fun w1 _ => within12 _ _ _ w1)) rfl ?_
  refine sq_y (OpY.s (y_not (by exact rfl))) rfl ?_
  refine sq_y (OpY.s (y_move (by exact rfl))) rfl ?_
  refine sq_known (tt := 23) (b' := false) (by exact rfl) (by simp; omega) ?_
  refine sq_gt (by exact rfl) (by exact rfl) (OpY.s (y_move (by exact rfl))) rfl ?_
  refine sq_gt (by exact rfl) (by exact rfl) (y_call (first := []) (caps := []) (by exact rfl) Try.call12 (EvL.cons (by exact rfl) (EvL.cons (by exact rfl) (EvL.cons (by exact rfl) EvL.nil))) (fun w1 _ => within12 _ _ _ w1)) rfl ?_
  refine sq_gt (by exact rfl) (by exact rfl) (OpY.s (y_not (by exact rfl))) rfl ?_
  refine sq_y (OpY.s (y_pick_f (by exact rfl) (by exact rfl))) rfl ?_
  refine sq_y (OpY.s (y_assign (by exact rfl))) rfl ?_
  refine sq_nil ?_
  refine sx_then ?_
  refine sc_f (lk_bool rfl (by simp; omega)) ?_
  refine sc_seq ?_
  refine sc_region ?_
  refine sq_y (OpY.s (by first | exact y_fab Try.underlying24 (by exact rfl) (by exact Try.sizeOf22) (by exact rfl) rfl | exact y_fa Try.underlying24 (by exact rfl) (by exact Try.sizeOf22) (by exact rfl) rfl)) rfl ?_
  refine sq_y (OpY.s (by first | exact y_load_cajj Try.underlying22 rfl (by exact rfl) (by repeat (first | exact .head _ | refine .tail _ ?_)) (by assumption) (by exact rfl) | exact y_load_blk Try.underlying22 rfl (by exact rfl) (by repeat (first | exact .head _ | refine .tail _ ?_)) (by exact rfl) | exact y_load_caj Try.underlying22 rfl (by exact rfl) (by repeat (first | exact .head _ | refine .tail _ ?_)) (by assumption) (by exact rfl) | exact y_load_ca0 Try.underlying22 rfl (by exact rfl) (by repeat (first | exact .head _ | refine .tail _ ?_)) (by assumption) (by exact rfl))) rfl ?_
  refine sq_y (OpY.s (y_move (by exact rfl))) rfl ?_
  refine sq_y (OpY.s (by first | exact y_ia_blk Try.underlying22 Try.sizeOf42 (by exact rfl) (by exact rfl) (by omega) | exact y_ia_el Try.underlying22 Try.sizeOf42 (by exact rfl) (by exact rfl) (by omega) (by first | assumption | simp))) rfl ?_
  refine sq_y (OpY.s (by first | exact y_fab Try.underlying42 (by exact rfl) (by exact Try.sizeOf29) (by exact rfl) rfl | exact y_fa Try.underlying42 (by exact rfl) (by exact Try.sizeOf29) (by exact rfl) rfl)) rfl ?_
  refine sq_y (OpY.s (by first | exact y_fab Try.underlying29 (by exact rfl) (by exact Try.sizeOf3) (by exact rfl) rfl | exact y_fa Try.underlying29 (by exact rfl) (by exact Try.sizeOf3) (by exact rfl) rfl)) rfl ?_
  refine sq_y (OpY.s (by first | exact y_load_cajj (o1 := 0) (o2 := 1) Try.underlying3 rfl (by exact rfl) (by repeat (first | exact .head _ | refine .tail _ ?_)) hca rfl | exact y_load_cajj Try.underlying3 rfl (by exact rfl) (by repeat (first | exact .head _ | refine .tail _ ?_)) (by assumption) (by exact rfl) | exact y_load_blk Try.underlying3 rfl (by exact rfl) (by repeat (first | exact .head _ | refine .tail _ ?_)) (by exact rfl) | exact y_load_caj Try.underlying3 rfl (by exact rfl) (by repeat (first | exact .head _ | refine .tail _ ?_)) (by assumption) (by exact rfl) | exact y_load_ca0 Try.underlying3 rfl (by exact rfl) (by repeat (first | exact .head _ | refine .tail _ ?_)) (by assumption) (by exact rfl))) rfl ?_
  refine sq_y (OpY.s (y_move (by exact rfl))) rfl ?_
  refine sq_y (OpY.s (y_gtr (by exact rfl) (by exact rfl))) rfl ?_
  refine sq_y (OpY.s (y_assign (by exact rfl))) rfl ?_
  refine sq_nil ?_
  refine sx_then ?_
  first | refine sc_if (by exact rfl) (fun hc2 => ?_) (fun hc2 => ?_) | refine sc_ifn (by exact rfl) (fun hc2 => ?_) (fun hc2 => ?_) | refine sc_cond (by exact rfl) (fun hc2 => ?_) (fun hc2 => ?_)
  ·
    refine sc_seq ?_
    refine sc_region ?_
    refine sq_y (OpY.s (y_build bt29 EvP.nil (by exact rfl))) rfl ?_
    refine sq_store_all Try.sizeOf29 (by exact rfl) (by exact rfl) rfl (by repeat (first | exact Rem.here | apply Rem.there)) rfl rfl ?_
    refine sq_y (OpY.s (y_assign (by exact rfl))) rfl ?_
    refine sq_nil ?_
    refine sx_then ?_
    refine sc_ret ?_
    refine sx_blk_ret ?_
    refine sx_then_ret ?_
    refine sx_retct (.inl rfl) rfl Try.results8 Try.underlying29 rfl Try.sizeOf29 (by exact rfl) (by repeat (first | exact .head _ | refine .tail _ ?_)) rfl (by exact rfl) ?_
    intro w' hw'
    refine ⟨?_, hw'.below (by repeat (first | exact .head _ | refine .tail _ ?_))⟩
    rw [if_pos hc2]; rfl
  ·
    refine sc_skip ?_
    refine sx_blk ?_
    refine sx_then ?_
    refine sc_seq ?_
    refine sc_region ?_
    refine sq_y (y_call (first := []) (caps := []) (by exact rfl) Try.call13 EvL.nil (fun w1 _ => ends13 w1)) rfl ?_
    refine sq_y (OpY.s (y_move (by exact rfl))) rfl ?_
    refine sq_y (OpY.s (y_extract (by exact rfl) (by exact rfl))) rfl ?_
    refine sq_y (OpY.s (y_extract (by exact rfl) (by exact rfl))) rfl ?_
    refine sq_alloc Try.zeroValue46 rfl (fun b8 => ?_)
    refine sq_alloc Try.zeroValue46 rfl (fun b9 => ?_)
    refine sq_store_all Try.sizeOf46 (by exact rfl) (by exact rfl) rfl (by repeat (first | exact Rem.here | apply Rem.there)) rfl rfl ?_
    refine sq_store_all Try.sizeOf46 (by exact rfl) (by exact rfl) rfl (by repeat (first | exact Rem.here | apply Rem.there)) rfl rfl ?_
    refine sq_nil ?_
    refine sx_then ?_
    refine sc_seq ?_
    refine sc_drawX ([.blk b8 (.cells [Value.func (.func 22) #[] #[]].toArray 46 (0, 0)), .blk b9 (.cells [Value.func (.func 23) #[] #[]].toArray 46 (0, 0)), .blk b3 (.cells (diRow d a c).toArray 24 (0, 0)), .reg 0 w]) (by kernel_rfl) ?_
    refine xj_s 0 (by exact rfl) (by kernel_rfl) (by repeat (first | exact Sel.nil | refine Sel.cons (by repeat (first | exact Rem.here | apply Rem.there)) ?_)) (by first | exact y_load_all Try.underlying46 rfl Try.sizeOf46 (by exact rfl) (by repeat (first | exact .head _ | refine .tail _ ?_)) (by exact rfl) | exact y_load_ca Try.underlying46 rfl Try.sizeOf46 (by exact rfl) (by repeat (first | exact .head _ | refine .tail _ ?_)) (by assumption) (by exact rfl) | exact y_load_part Try.underlying46 rfl Try.sizeOf46 (by exact rfl) (by repeat (first | exact .head _ | refine .tail _ ?_)) rfl | exact y_load_capart Try.underlying46 rfl Try.sizeOf46 (by exact rfl) (by repeat (first | exact .head _ | refine .tail _ ?_)) (by assumption) rfl) rfl ?_
    refine xj_s 1 (by exact rfl) (by kernel_rfl) (by repeat (first | exact Sel.nil | refine Sel.cons (by repeat (first | exact Rem.here | apply Rem.there)) ?_)) (by first | exact y_fab Try.underlying24 (by exact rfl) (by exact Try.sizeOf22) (by exact rfl) rfl | exact y_fa Try.underlying24 (by exact rfl) (by exact Try.sizeOf22) (by exact rfl) rfl) rfl ?_
    refine xj_s 2 (by exact rfl) (by kernel_rfl) (by repeat (first | exact Sel.nil | refine Sel.cons (by repeat (first | exact Rem.here | apply Rem.there)) ?_)) (by first | exact y_load_cajj Try.underlying22 rfl (by exact rfl) (by repeat (first | exact .head _ | refine .tail _ ?_)) (by assumption) (by exact rfl) | exact y_load_blk Try.underlying22 rfl (by exact rfl) (by repeat (first | exact .head _ | refine .tail _ ?_)) (by exact rfl) | exact y_load_caj Try.underlying22 rfl (by exact rfl) (by repeat (first | exact .head _ | refine .tail _ ?_)) (by assumption) (by exact rfl) | exact y_load_ca0 Try.underlying22 rfl (by exact rfl) (by repeat (first | exact .head _ | refine .tail _ ?_)) (by assumption) (by exact rfl)) rfl ?_
    refine xj_s 3 (by exact rfl) (by kernel_rfl) (by repeat (first | exact Sel.nil | refine Sel.cons (by repeat (first | exact Rem.here | apply Rem.there)) ?_)) (y_move (by exact rfl)) rfl ?_
    refine xj_s 4 (by exact rfl) (by kernel_rfl) (by repeat (first | exact Sel.nil | refine Sel.cons (by repeat (first | exact Rem.here | apply Rem.there)) ?_)) (by first | exact y_ia_blk Try.underlying22 Try.sizeOf42 (by exact rfl) (by exact rfl) (by omega) | exact y_ia_el Try.underlying22 Try.sizeOf42 (by exact rfl) (by exact rfl) (by omega) (by first | assumption | simp)) rfl ?_
    refine xj_s 5 (by exact rfl) (by kernel_rfl) (by repeat (first | exact Sel.nil | refine Sel.cons (by repeat (first | exact Rem.here | apply Rem.there)) ?_)) (by first | exact y_load_ca Try.underlying42 rfl Try.sizeOf42 (by exact rfl) (by repeat (first | exact .head _ | refine .tail _ ?_)) hca rfl | exact y_load_all Try.underlying42 rfl Try.sizeOf42 (by exact rfl) (by repeat (first | exact .head _ | refine .tail _ ?_)) (by exact rfl) | exact y_load_ca Try.underlying42 rfl Try.sizeOf42 (by exact rfl) (by repeat (first | exact .head _ | refine .tail _ ?_)) (by assumption) (by exact rfl) | exact y_load_part Try.underlying42 rfl Try.sizeOf42 (by exact rfl) (by repeat (first | exact .head _ | refine .tail _ ?_)) rfl | exact y_load_capart Try.underlying42 rfl Try.sizeOf42 (by exact rfl) (by repeat (first | exact .head _ | refine .tail _ ?_)) (by assumption) rfl) rfl ?_
    refine xj_s 6 (by exact rfl) (by kernel_rfl) (by repeat (first | exact Sel.nil | refine Sel.cons (by repeat (first | exact Rem.here | apply Rem.there)) ?_)) (y_move (by exact rfl)) rfl ?_
    refine xj_s 8 (by exact rfl) (by kernel_rfl) (by repeat (first | exact Sel.nil | refine Sel.cons (by repeat (first | exact Rem.here | apply Rem.there)) ?_)) (by first | exact y_load_all Try.underlying46 rfl Try.sizeOf46 (by exact rfl) (by repeat (first | exact .head _ | refine .tail _ ?_)) (by exact rfl) | exact y_load_ca Try.underlying46 rfl Try.sizeOf46 (by exact rfl) (by repeat (first | exact .head _ | refine .tail _ ?_)) (by assumption) (by exact rfl) | exact y_load_part Try.underlying46 rfl Try.sizeOf46 (by exact rfl) (by repeat (first | exact .head _ | refine .tail _ ?_)) rfl | exact y_load_capart Try.underlying46 rfl Try.sizeOf46 (by exact rfl) (by repeat (first | exact .head _ | refine .tail _ ?_)) (by assumption) rfl) rfl ?_
    refine xj_s 9 (by exact rfl) (by kernel_rfl) (by repeat (first | exact Sel.nil | refine Sel.cons (by repeat (first | exact Rem.here | apply Rem.there)) ?_)) (by first | exact y_fab Try.underlying24 (by exact rfl) (by exact Try.sizeOf22) (by exact rfl) rfl | exact y_fa Try.underlying24 (by exact rfl) (by exact Try.sizeOf22) (by exact rfl) rfl) rfl ?_
    refine xj_s 10 (by exact rfl) (by kernel_rfl) (by repeat (first | exact Sel.nil | refine Sel.cons (by repeat (first | exact Rem.here | apply Rem.there)) ?_)) (by first | exact y_load_cajj Try.underlying22 rfl (by exact rfl) (by repeat (first | exact .head _ | refine .tail _ ?_)) (by assumption) (by exact rfl) | exact y_load_blk Try.underlying22 rfl (by exact rfl) (by repeat (first | exact .head _ | refine .tail _ ?_)) (by exact rfl) | exact y_load_caj Try.underlying22 rfl (by exact rfl) (by repeat (first | exact .head _ | refine .tail _ ?_)) (by assumption) (by exact rfl) | exact y_load_ca0 Try.underlying22 rfl (by exact rfl) (by repeat (first | exact .head _ | refine .tail _ ?_)) (by assumption) (by exact rfl)) rfl ?_
    refine xj_s 11 (by exact rfl) (by kernel_rfl) (by repeat (first | exact Sel.nil | refine Sel.cons (by repeat (first | exact Rem.here | apply Rem.there)) ?_)) (y_move (by exact rfl)) rfl ?_
    refine xj_s 12 (by exact rfl) (by kernel_rfl) (by repeat (first | exact Sel.nil | refine Sel.cons (by repeat (first | exact Rem.here | apply Rem.there)) ?_)) (by first | exact y_ia_blk Try.underlying22 Try.sizeOf42 (by exact rfl) (by exact rfl) (by omega) | exact y_ia_el Try.underlying22 Try.sizeOf42 (by exact rfl) (by exact rfl) (by omega) (by first | assumption | simp)) rfl ?_
    refine xj_s 13 (by exact rfl) (by kernel_rfl) (by repeat (first | exact Sel.nil | refine Sel.cons (by repeat (first | exact Rem.here | apply Rem.there)) ?_)) (by first | exact y_load_ca Try.underlying42 rfl Try.sizeOf42 (by exact rfl) (by repeat (first | exact .head _ | refine .tail _ ?_)) hca rfl | exact y_load_all Try.underlying42 rfl Try.sizeOf42 (by exact rfl) (by repeat (first | exact .head _ | refine .tail _ ?_)) (by exact rfl) | exact y_load_ca Try.underlying42 rfl Try.sizeOf42 (by exact rfl) (by repeat (first | exact .head _ | refine .tail _ ?_)) (by assumption) (by exact rfl) | exact y_load_part Try.underlying42 rfl Try.sizeOf42 (by exact rfl) (by repeat (first | exact .head _ | refine .tail _ ?_)) rfl | exact y_load_capart Try.underlying42 rfl Try.sizeOf42 (by exact rfl) (by repeat (first | exact .head _ | refine .tail _ ?_)) (by assumption) rfl) rfl ?_
    refine xj_s 14 (by exact rfl) (by kernel_rfl) (by repeat (first | exact Sel.nil | refine Sel.cons (by repeat (first | exact Rem.here | apply Rem.there)) ?_)) (y_move (by exact rfl)) rfl ?_
    refine xj_one 7 (by exact rfl) (by kernel_rfl) ?_
    refine sq_y (y_call (first := []) (caps := []) (by exact rfl) Try.call18 (EvL.cons (by exact rfl) (EvL.cons (by exact rfl) (EvL.cons (by exact rfl) EvL.nil))) (fun w1 _ => lasts18 w1 b bo 23 (·.hi) Try.call23 (fun s w2 => end23 w2 s) (by omega) (by omega) hs)) rfl ?_
    refine sq_nil ?_
    refine sx_xp (by repeat (first | exact Sel.nil | refine Sel.cons (by repeat (first | exact Rem.here | apply Rem.there)) ?_)) ?_
    refine xj_one 15 (by exact rfl) (by kernel_rfl) ?_
    refine sq_y (y_call (first := []) (caps := []) (by exact rfl) Try.call18 (EvL.cons (by exact rfl) (EvL.cons (by exact rfl) (EvL.cons (by exact rfl) EvL.nil))) (fun w1 _ => lasts18 w1 b bo 22 (·.lo) Try.call22 (fun s w2 => end22 w2 s) (by omega) (by omega) hs)) rfl ?_
    refine sq_nil ?_
    refine sx_xp (by repeat (first | exact Sel.nil | refine Sel.cons (by repeat (first | exact Rem.here | apply Rem.there)) ?_)) ?_
    refine xj_s 16 (by exact rfl) (by kernel_rfl) (by repeat (first | exact Sel.nil | refine Sel.cons (by repeat (first | exact Rem.here | apply Rem.there)) ?_)) (y_build bt29 (EvP.cons (by exact rfl) (EvP.cons (by exact rfl) EvP.nil)) (by exact rfl)) rfl ?_
    refine xj_one 17 (by exact rfl) (by kernel_rfl) ?_
    refine sq_store_all Try.sizeOf29 (by exact rfl) (by exact rfl) rfl (by repeat (first | exact Rem.here | apply Rem.there)) rfl rfl ?_
    refine sq_nil ?_
    refine sx_xp (by repeat (first | exact Sel.nil | refine Sel.cons (by repeat (first | exact Rem.here | apply Rem.there)) ?_)) ?_
    refine xj_s 18 (by exact rfl) (by kernel_rfl) (by repeat (first | exact Sel.nil | refine Sel.cons (by repeat (first | exact Rem.here | apply Rem.there)) ?_)) (y_assign (by exact rfl)) rfl ?_
    refine xj_done (by kernel_rfl) ?_
    refine sx_then ?_
    refine sc_ret ?_
    refine sx_retct (.inl rfl) rfl Try.results8 Try.underlying29 rfl Try.sizeOf29 (by exact rfl) (by repeat (first | exact .head _ | refine .tail _ ?_)) rfl (by exact rfl) ?_
    intro w' hw'
    refine ⟨?_, hw'.below (by repeat (first | exact .head _ | refine .tail _ ?_))⟩
    rw [if_neg hc2]; rfl
end Go.Proofs.Ytcgbdecgdddnkaa
