/- The walks of the functions that look whether races, and words, are valid. -/
import Derived.Test.YtegdfpilhlcplaaWalk2
namespace Go.Proofs.Ytegdfpilhlcplaa
open Go Go.Eng Go.RowKit Go.Proofs

theorem ei3 : EI Try.prog 3 (.int .i64 0) 1 8 := by unfold EI; kernel_rfl
theorem ei32 : EI Try.prog 32 (.agg #[.int .i64 0, .int .i64 0]) 2 16 := by unfold EI; kernel_rfl
theorem ei36 : EI Try.prog 36 (.slice none 0 0) 1 24 := by unfold EI; kernel_rfl
theorem ei51 : EI Try.prog 51 (.slice none 0 0) 1 24 := by unfold EI; kernel_rfl
theorem ei57 : EI Try.prog 57 (.agg #[.int .i64 0, .int .i64 0, .int .i64 0, .int .i64 0]) 4 32 := by unfold EI; kernel_rfl
theorem ei66 : EI Try.prog 66 (.agg #[.int .i64 0, .slice none 0 0]) 2 32 := by unfold EI; kernel_rfl
theorem ei116 : EI Try.prog 116 (.nilIface) 1 16 := by unfold EI; kernel_rfl
theorem bt24 : BT Try.prog 24 [(0, 1), (1, 1), (2, 1), (3, 1)] (.agg #[.int .i64 0, .int .i64 0, .int .i64 0, .slice none 0 0]) := BT.of Try.underlying24 (by kernel_rfl) (by kernel_rfl)
theorem bt32 : BT Try.prog 32 [(0, 1), (1, 1)] (.agg #[.int .i64 0, .int .i64 0]) := BT.of Try.underlying32 (by kernel_rfl) (by kernel_rfl)
theorem bt57 : BT Try.prog 57 [(0, 1), (1, 1), (2, 2)] (.agg #[.int .i64 0, .int .i64 0, .int .i64 0, .int .i64 0]) := BT.of Try.underlying57 (by kernel_rfl) (by kernel_rfl)
theorem bt66 : BT Try.prog 66 [(0, 1), (1, 1)] (.agg #[.int .i64 0, .slice none 0 0]) := BT.of Try.underlying66 (by kernel_rfl) (by kernel_rfl)
theorem bt100 : BT Try.prog 100 [(0, 4), (4, 1), (5, 1), (6, 1), (7, 1)] (.agg #[.int .i64 0, .int .i64 0, .int .i64 0, .slice none 0 0, .int .i64 0, .slice none 0 0, .slice none 0 0, .slice none 0 0]) := BT.of Try.underlying100 (by kernel_rfl) (by kernel_rfl)
theorem bt106 : BT Try.prog 106 [(0, 1), (1, 1), (2, 1)] (.agg #[.int .i64 0, .int .i64 0, .int .i64 0]) := BT.of Try.underlying106 (by kernel_rfl) (by kernel_rfl)
theorem bt107 : BT Try.prog 107 [(0, 1), (1, 1), (2, 1)] (.agg #[.int .i64 0, .int .i64 0, .int .i64 0]) := BT.of Try.underlying107 (by kernel_rfl) (by kernel_rfl)
theorem eql32 (a b c d : Int) : ∀ w, (binOp .eql 32 (.agg #[.int .i64 a, .int .i64 b]) (.agg #[.int .i64 c, .int .i64 d])).run Try.prog w = .ok (.bool (decide (a = c ∧ b = d))) w := fun w => by
  have h1 := Try.underlying32
  have h2 := Try.underlying3
  have h3 : Try.prog.stoodInHeld 32 = false := by kernel_rfl
  have hf : Try.prog.fieldsOf 32 = #[⟨"Lo", 3, 0, false, "", "", 0⟩, ⟨"Hi", 3, 1, false, "", "", 8⟩] := by kernel_rfl
  have h4 : Try.prog.underlying 32 = some (.struct (Try.prog.fieldsOf 32)) := by rw [hf]; exact h1
  rw [run_eql_struct, run_equalIn_struct w 9999 32 _ _ h4 h3, hf]
  by_cases e1 : a = c <;> by_cases e2 : b = d <;> simp [Op.eqFields, part, run_isAgg_scal h2 rfl, run_equalIn_int w _ 3 .i64 .i64 _ _ h2, e1, e2]
theorem neq32 (a b c d : Int) : ∀ w, (binOp .neq 32 (.agg #[.int .i64 a, .int .i64 b]) (.agg #[.int .i64 c, .int .i64 d])).run Try.prog w = .ok (.bool (!decide (a = c ∧ b = d))) w := fun w => by
  have h := eql32 a b c d w
  rw [run_eql_struct] at h
  rw [run_neq_struct]
  cases hr : (Op.equalIn 10000 32 (.agg #[.int .i64 a, .int .i64 b]) (.agg #[.int .i64 c, .int .i64 d])).run Try.prog w with
  | ok r w' => rw [hr] at h; simp only [Result.andThen_ok, Result.ok.injEq, Value.bool.injEq] at h ⊢; exact ⟨by rw [h.1], h.2⟩
  | halt x w' => rw [hr] at h; simp [Result.andThen] at h

theorem pause63 (s : Sp) (w : World) : Calls Try.prog 63 #[.agg (spRow s).toArray] w fun e w' => e = .returned (.bool (!spB s 0 2000)) ∧ Below w.heap.size w w' := by
  refine calls_of_SC (args := [.agg (spRow s).toArray]) Try.func63 rfl Try.ntmps63 rfl ?_
  simp only [argL]
  refine sc_seq ?_
  refine sc_region ?_
  refine sq_box (by exact rfl) rfl (fun b1 => ?_)
  refine sq_y (OpY.s (y_assign (by exact rfl))) rfl ?_
  refine sq_nil ?_
  refine sx_then ?_
  refine sc_seq ?_
  refine sc_region ?_
  refine sq_y (OpY.s (by first | exact y_load_all Try.underlying32 rfl Try.sizeOf32 (by exact rfl) (by repeat (first | exact .head _ | refine .tail _ ?_)) (by exact rfl) | exact y_load_2 Try.underlying32 rfl Try.sizeOf32 (by exact rfl) (by repeat (first | exact .head _ | refine .tail _ ?_)) (by exact rfl) (by exact rfl) | exact y_load_ca Try.underlying32 rfl Try.sizeOf32 (by exact rfl) (by repeat (first | exact .head _ | refine .tail _ ?_)) (by assumption) (by exact rfl))) rfl ?_
  refine sq_y (y_call (first := []) (caps := []) (by exact rfl) Try.call64 (EvL.cons (by exact rfl) (EvL.cons (by exact rfl) (EvL.cons (by exact rfl) EvL.nil))) (fun w1 _ => isSpan64 s _ _ w1)) rfl ?_
  refine sq_y (OpY.s (y_not (by exact rfl))) rfl ?_
  refine sq_y (OpY.s (y_assign (by exact rfl))) rfl ?_
  refine sq_nil ?_
  refine sx_then ?_
  refine sc_ret ?_
  refine sx_ret1 (.inl rfl) rfl Try.results63 (by exact rfl) ?_
  intro w' hw'
  refine ⟨?_, hw'.below (by repeat (first | exact .head _ | refine .tail _ ?_))⟩
  rfl
theorem team65 (t : Tm) (fa : Option Addr) (c b : Nat) (w : World) (hs : SpsA 0 w fa t.brk) (hb : w.cell? ⟨b, 0, none⟩ = some (.func (.func 63) #[] #[])) :
    Calls Try.prog 65 #[.agg #[.int .i64 t.pen, .slice fa t.brk.length c], .pointer (some ⟨b, 0, none⟩)] w fun e w' => e = .returned (.bool (!tmB t)) ∧ Below w.heap.size w w' := by
  have hlen := hs.len
  refine calls_of_SC (args := [.agg #[.int .i64 t.pen, .slice fa t.brk.length c], .pointer (some ⟨b, 0, none⟩)]) Try.func65 rfl Try.ntmps65 rfl ?_
  simp only [argL, Nat.zero_add]
  refine sc_seq ?_
  refine sc_region ?_
  refine sq_box (by exact rfl) rfl (fun b2 => ?_)
  refine sq_y (OpY.s (y_assign (by exact rfl))) rfl ?_
  refine sq_nil ?_
  refine sx_then ?_
  refine sc_seq ?_
  refine sc_region ?_
  refine sq_y (OpY.s (by first | exact y_fab Try.underlying66 (by exact rfl) (by exact Try.sizeOf3) (by exact rfl) rfl | exact y_fa Try.underlying66 (by exact rfl) (by exact Try.sizeOf3) (by exact rfl) rfl)) rfl ?_
  refine sq_y (OpY.s (by first | exact y_load_blk Try.underlying3 rfl (by exact rfl) (by repeat (first | exact .head _ | refine .tail _ ?_)) (by exact rfl) | exact y_load_caj Try.underlying3 rfl (by exact rfl) (by repeat (first | exact .head _ | refine .tail _ ?_)) (by assumption) (by exact rfl) | exact y_load_ca0 Try.underlying3 rfl (by exact rfl) (by repeat (first | exact .head _ | refine .tail _ ?_)) (by assumption) (by exact rfl))) rfl ?_
  refine sq_y (y_call (first := []) (caps := []) (by exact rfl) Try.call40 (EvL.cons (by exact rfl) (EvL.cons (by exact rfl) (EvL.cons (by exact rfl) EvL.nil))) (fun w1 _ => within40 _ _ _ w1)) rfl ?_
  refine sq_y (OpY.s (y_not (by exact rfl))) rfl ?_
  refine sq_y (OpY.s (y_move (by exact rfl))) rfl ?_
  first | refine sq_splitd (tt := 8) (by exact rfl) (fun hg1_4 => ?_) (fun hg1_4 => ?_) | refine sq_splitn (tt := 8) (by exact rfl) (fun hg1_4 => ?_) (fun hg1_4 => ?_) | refine sq_split (tt := 8) (by exact rfl) (fun hg1_4 => ?_) (fun hg1_4 => ?_)
  ·
    refine sq_gf (by exact rfl) (by exact rfl) (by exact rfl) rfl ?_
    refine sq_gf (by exact rfl) (by exact rfl) (by exact rfl) rfl ?_
    refine sq_gf (by exact rfl) (by exact rfl) (by exact rfl) rfl ?_
    refine sq_gf (by exact rfl) (by exact rfl) (by exact rfl) rfl ?_
    refine sq_y (OpY.s (y_pick_t (by exact rfl) (by exact rfl))) rfl ?_
    refine sq_y (OpY.s (y_move (by exact rfl))) rfl ?_
    refine sq_gf (by exact rfl) (by exact rfl) (by exact rfl) rfl ?_
    refine sq_gf (by exact rfl) (by exact rfl) (by exact rfl) rfl ?_
    refine sq_gf (by exact rfl) (by exact rfl) (by exact rfl) rfl ?_
    refine sq_gf (by exact rfl) (by exact rfl) (by exact rfl) rfl ?_
    refine sq_y (OpY.s (y_pick_t (by exact rfl) (by exact rfl))) rfl ?_
    refine sq_y (OpY.s (y_assign (by exact rfl))) rfl ?_
    refine sq_nil ?_
    refine sx_then ?_
    refine sc_ret ?_
    refine sx_ret1 (.inl rfl) rfl Try.results65 (by exact rfl) ?_
    intro w' hw'
    refine ⟨?_, hw'.below (by repeat (first | exact .head _ | refine .tail _ ?_))⟩
    unfold tmB; simp [*]
  ·
    refine sq_gt (by exact rfl) (by exact rfl) (OpY.s (by first | exact y_fab Try.underlying66 (by exact rfl) (by exact Try.sizeOf36) (by exact rfl) rfl | exact y_fa Try.underlying66 (by exact rfl) (by exact Try.sizeOf36) (by exact rfl) rfl)) rfl ?_
    refine sq_gt (by exact rfl) (by exact rfl) (OpY.s (by first | exact y_load_blk Try.underlying36 rfl (by exact rfl) (by repeat (first | exact .head _ | refine .tail _ ?_)) (by exact rfl) | exact y_load_caj Try.underlying36 rfl (by exact rfl) (by repeat (first | exact .head _ | refine .tail _ ?_)) (by assumption) (by exact rfl) | exact y_load_ca0 Try.underlying36 rfl (by exact rfl) (by repeat (first | exact .head _ | refine .tail _ ?_)) (by assumption) (by exact rfl))) rfl ?_
    refine sq_gt (by exact rfl) (by exact rfl) (OpY.s (y_len Try.underlying36 (by exact rfl))) rfl ?_
    refine sq_gt (by exact rfl) (by exact rfl) (OpY.s (y_gtr (by exact rfl) (by exact rfl))) rfl ?_
    refine sq_y (OpY.s (y_pick_f (by exact rfl) (by exact rfl))) rfl ?_
    refine sq_y (OpY.s (y_move (by exact rfl))) rfl ?_
    first | refine sq_splitd (tt := 14) (by exact rfl) (fun hg1_10 => ?_) (fun hg1_10 => ?_) | refine sq_splitn (tt := 14) (by exact rfl) (fun hg1_10 => ?_) (fun hg1_10 => ?_) | refine sq_split (tt := 14) (by exact rfl) (fun hg1_10 => ?_) (fun hg1_10 => ?_)
    ·
      refine sq_gf (by exact rfl) (by exact rfl) (by exact rfl) rfl ?_
      refine sq_gf (by exact rfl) (by exact rfl) (by exact rfl) rfl ?_
      refine sq_gf (by exact rfl) (by exact rfl) (by exact rfl) rfl ?_
      refine sq_gf (by exact rfl) (by exact rfl) (by exact rfl) rfl ?_
      refine sq_y (OpY.s (y_pick_t (by exact rfl) (by exact rfl))) rfl ?_
      refine sq_y (OpY.s (y_assign (by exact rfl))) rfl ?_
      refine sq_nil ?_
      refine sx_then ?_
      refine sc_ret ?_
      refine sx_ret1 (.inl rfl) rfl Try.results65 (by exact rfl) ?_
      intro w' hw'
      refine ⟨?_, hw'.below (by repeat (first | exact .head _ | refine .tail _ ?_))⟩
      unfold tmB; simp [*]
    ·
      refine sq_gt (by exact rfl) (by exact rfl) (OpY.s (by first | exact y_fab Try.underlying66 (by exact rfl) (by exact Try.sizeOf36) (by exact rfl) rfl | exact y_fa Try.underlying66 (by exact rfl) (by exact Try.sizeOf36) (by exact rfl) rfl)) rfl ?_
      refine sq_gt (by exact rfl) (by exact rfl) (OpY.s (by first | exact y_load_blk Try.underlying36 rfl (by exact rfl) (by repeat (first | exact .head _ | refine .tail _ ?_)) (by exact rfl) | exact y_load_caj Try.underlying36 rfl (by exact rfl) (by repeat (first | exact .head _ | refine .tail _ ?_)) (by assumption) (by exact rfl) | exact y_load_ca0 Try.underlying36 rfl (by exact rfl) (by repeat (first | exact .head _ | refine .tail _ ?_)) (by assumption) (by exact rfl))) rfl ?_
      refine sq_gt (by exact rfl) (by exact rfl) (OpY.s (by first | exact y_load_reg Try.underlying89 rfl (by exact rfl) (by repeat (first | exact .head _ | refine .tail _ ?_)) (Nat.zero_le _) hb | exact y_load_blk Try.underlying89 rfl (by exact rfl) (by repeat (first | exact .head _ | refine .tail _ ?_)) (by exact rfl) | exact y_load_caj Try.underlying89 rfl (by exact rfl) (by repeat (first | exact .head _ | refine .tail _ ?_)) (by assumption) (by exact rfl) | exact y_load_ca0 Try.underlying89 rfl (by exact rfl) (by repeat (first | exact .head _ | refine .tail _ ?_)) (by assumption) (by exact rfl))) rfl ?_
      refine sq_gt (by exact rfl) (by exact rfl) (y_call (first := []) (caps := []) (by exact rfl) Try.call66 (EvL.cons (by exact rfl) (EvL.cons (by exact rfl) EvL.nil)) (fun w1 hw1 => containsSp 63 [] (fun i => !spB (t.brk.getD i sp0) 0 2000) w1 fa _ c (fun i => spRow (t.brk.getD i sp0)) hlen ((hs.at hw1 (by repeat (first | exact .head _ | refine .tail _ ?_))).row) Try.call63 (fun i _ w2 _ => pause63 _ w2))) rfl ?_
      refine sq_y (OpY.s (y_pick_f (by exact rfl) (by exact rfl))) rfl ?_
      refine sq_y (OpY.s (y_assign (by exact rfl))) rfl ?_
      refine sq_nil ?_
      refine sx_then ?_
      refine sc_ret ?_
      refine sx_ret1 (.inl rfl) rfl Try.results65 (by exact rfl) ?_
      intro w' hw'
      refine ⟨?_, hw'.below (by repeat (first | exact .head _ | refine .tail _ ?_))⟩
      unfold tmB
      rw [any_range_get t.brk sp0 (fun s => !spB s 0 2000)]
      simp [*, List.any_eq_not_all_not]
theorem isRace39 (w : World) (v : Value) (r : Rc) (hr : RcA 0 w v r) : Calls Try.prog 39 #[v] w fun e w' => e = .returned (.bool (rcB r)) ∧ Below w.heap.size w w' := by
  obtain ⟨a, c, f, cf, rfl, hT⟩ := hr.ex
  have hlen := hT.len
  refine calls_of_SC (args := [.agg (rcVal r a c).toArray]) Try.func39 rfl Try.ntmps39 rfl ?_
  simp only [argL]
  refine sc_seq ?_
  refine sc_region ?_
  refine sq_box (by exact rfl) rfl (fun b1 => ?_)
  refine sq_y (OpY.s (y_assign (by exact rfl))) rfl ?_
  refine sq_nil ?_
  refine sx_then ?_
  refine sc_seq ?_
  refine sc_region ?_
  refine sq_alloc Try.zeroValue89 rfl (fun b3 => ?_)
  refine sq_store Try.sizeOf89 (by exact rfl) (by exact rfl) (by first | rfl | assumption) (by repeat (first | exact Rem.here | apply Rem.there)) (by first | exact Nat.le_of_ble_eq_true rfl | simp | omega) ?_
  refine sq_nil ?_
  refine sx_then ?_
  refine sc_seq ?_
  refine sc_region ?_
  refine sq_y (OpY.s (y_makeFunc EvL.nil (EvL.cons (by exact rfl) EvL.nil))) rfl ?_
  refine sq_y (OpY.s (y_assign (by exact rfl))) rfl ?_
  refine sq_nil ?_
  refine sx_then ?_
  refine sc_seq ?_
  refine sc_region ?_
  refine sq_y (OpY.s (by first | exact y_fab Try.underlying24 (by exact rfl) (by exact Try.sizeOf3) (by exact rfl) rfl | exact y_fa Try.underlying24 (by exact rfl) (by exact Try.sizeOf3) (by exact rfl) rfl)) rfl ?_
  refine sq_y (OpY.s (by first | exact y_load_blk Try.underlying3 rfl (by exact rfl) (by repeat (first | exact .head _ | refine .tail _ ?_)) (by exact rfl) | exact y_load_caj Try.underlying3 rfl (by exact rfl) (by repeat (first | exact .head _ | refine .tail _ ?_)) (by assumption) (by exact rfl) | exact y_load_ca0 Try.underlying3 rfl (by exact rfl) (by repeat (first | exact .head _ | refine .tail _ ?_)) (by assumption) (by exact rfl))) rfl ?_
  refine sq_y (y_call (first := []) (caps := []) (by exact rfl) Try.call40 (EvL.cons (by exact rfl) (EvL.cons (by exact rfl) (EvL.cons (by exact rfl) EvL.nil))) (fun w1 _ => within40 _ _ _ w1)) rfl ?_
  refine sq_y (OpY.s (y_move (by exact rfl))) rfl ?_
  first | refine sq_splitd (tt := 10) (by exact rfl) (fun hg3_3 => ?_) (fun hg3_3 => ?_) | refine sq_splitn (tt := 10) (by exact rfl) (fun hg3_3 => ?_) (fun hg3_3 => ?_) | refine sq_split (tt := 10) (by exact rfl) (fun hg3_3 => ?_) (fun hg3_3 => ?_)
  ·
    refine sq_gt (by exact rfl) (by exact rfl) (OpY.s (by first | exact y_fab Try.underlying24 (by exact rfl) (by exact Try.sizeOf3) (by exact rfl) rfl | exact y_fa Try.underlying24 (by exact rfl) (by exact Try.sizeOf3) (by exact rfl) rfl)) rfl ?_
    refine sq_gt (by exact rfl) (by exact rfl) (OpY.s (by first | exact y_load_blk Try.underlying3 rfl (by exact rfl) (by repeat (first | exact .head _ | refine .tail _ ?_)) (by exact rfl) | exact y_load_caj Try.underlying3 rfl (by exact rfl) (by repeat (first | exact .head _ | refine .tail _ ?_)) (by assumption) (by exact rfl) | exact y_load_ca0 Try.underlying3 rfl (by exact rfl) (by repeat (first | exact .head _ | refine .tail _ ?_)) (by assumption) (by exact rfl))) rfl ?_
    refine sq_gt (by exact rfl) (by exact rfl) (y_call (first := []) (caps := []) (by exact rfl) Try.call40 (EvL.cons (by exact rfl) (EvL.cons (by exact rfl) (EvL.cons (by exact rfl) EvL.nil))) (fun w1 _ => within40 _ _ _ w1)) rfl ?_
    refine sq_y (OpY.s (y_pick_t (by exact rfl) (by exact rfl))) rfl ?_
    refine sq_y (OpY.s (y_move (by exact rfl))) rfl ?_
    first | refine sq_splitd (tt := 15) (by exact rfl) (fun hg3_8 => ?_) (fun hg3_8 => ?_) | refine sq_splitn (tt := 15) (by exact rfl) (fun hg3_8 => ?_) (fun hg3_8 => ?_) | refine sq_split (tt := 15) (by exact rfl) (fun hg3_8 => ?_) (fun hg3_8 => ?_)
    ·
      refine sq_gt (by exact rfl) (by exact rfl) (OpY.s (by first | exact y_fab Try.underlying24 (by exact rfl) (by exact Try.sizeOf3) (by exact rfl) rfl | exact y_fa Try.underlying24 (by exact rfl) (by exact Try.sizeOf3) (by exact rfl) rfl)) rfl ?_
      refine sq_gt (by exact rfl) (by exact rfl) (OpY.s (by first | exact y_load_blk Try.underlying3 rfl (by exact rfl) (by repeat (first | exact .head _ | refine .tail _ ?_)) (by exact rfl) | exact y_load_caj Try.underlying3 rfl (by exact rfl) (by repeat (first | exact .head _ | refine .tail _ ?_)) (by assumption) (by exact rfl) | exact y_load_ca0 Try.underlying3 rfl (by exact rfl) (by repeat (first | exact .head _ | refine .tail _ ?_)) (by assumption) (by exact rfl))) rfl ?_
      refine sq_gt (by exact rfl) (by exact rfl) (y_call (first := []) (caps := []) (by exact rfl) Try.call40 (EvL.cons (by exact rfl) (EvL.cons (by exact rfl) (EvL.cons (by exact rfl) EvL.nil))) (fun w1 _ => within40 _ _ _ w1)) rfl ?_
      refine sq_y (OpY.s (y_pick_t (by exact rfl) (by exact rfl))) rfl ?_
      refine sq_y (OpY.s (y_assign (by exact rfl))) rfl ?_
      refine sq_nil ?_
      refine sx_then ?_
      refine sc_seq ?_
      refine sc_region ?_
      refine sq_y (OpY.s (y_move (by exact rfl))) rfl ?_
      refine sq_y (OpY.s (y_move (by exact rfl))) rfl ?_
      first | refine sq_splitd (tt := 21) (by exact rfl) (fun hg4_1 => ?_) (fun hg4_1 => ?_) | refine sq_splitn (tt := 21) (by exact rfl) (fun hg4_1 => ?_) (fun hg4_1 => ?_) | refine sq_split (tt := 21) (by exact rfl) (fun hg4_1 => ?_) (fun hg4_1 => ?_)
      ·
        refine sq_gt (by exact rfl) (by exact rfl) (OpY.s (by first | exact y_fab Try.underlying24 (by exact rfl) (by exact Try.sizeOf22) (by exact rfl) rfl | exact y_fa Try.underlying24 (by exact rfl) (by exact Try.sizeOf22) (by exact rfl) rfl)) rfl ?_
        refine sq_gt (by exact rfl) (by exact rfl) (OpY.s (by first | exact y_load_blk Try.underlying22 rfl (by exact rfl) (by repeat (first | exact .head _ | refine .tail _ ?_)) (by exact rfl) | exact y_load_caj Try.underlying22 rfl (by exact rfl) (by repeat (first | exact .head _ | refine .tail _ ?_)) (by assumption) (by exact rfl) | exact y_load_ca0 Try.underlying22 rfl (by exact rfl) (by repeat (first | exact .head _ | refine .tail _ ?_)) (by assumption) (by exact rfl))) rfl ?_
        refine sq_gt (by exact rfl) (by exact rfl) (OpY.s (y_len Try.underlying22 (by exact rfl))) rfl ?_
        refine sq_gt (by exact rfl) (by exact rfl) (y_call (first := []) (caps := []) (by exact rfl) Try.call40 (EvL.cons (by exact rfl) (EvL.cons (by exact rfl) (EvL.cons (by exact rfl) EvL.nil))) (fun w1 _ => within40 _ _ _ w1)) rfl ?_
        refine sq_y (OpY.s (y_pick_t (by exact rfl) (by exact rfl))) rfl ?_
        refine sq_y (OpY.s (y_move (by exact rfl))) rfl ?_
        first | refine sq_splitd (tt := 27) (by exact rfl) (fun hg4_7 => ?_) (fun hg4_7 => ?_) | refine sq_splitn (tt := 27) (by exact rfl) (fun hg4_7 => ?_) (fun hg4_7 => ?_) | refine sq_split (tt := 27) (by exact rfl) (fun hg4_7 => ?_) (fun hg4_7 => ?_)
        ·
          refine sq_gt (by exact rfl) (by exact rfl) (OpY.s (by first | exact y_fab Try.underlying24 (by exact rfl) (by exact Try.sizeOf22) (by exact rfl) rfl | exact y_fa Try.underlying24 (by exact rfl) (by exact Try.sizeOf22) (by exact rfl) rfl)) rfl ?_
          refine sq_gt (by exact rfl) (by exact rfl) (OpY.s (by first | exact y_load_blk Try.underlying22 rfl (by exact rfl) (by repeat (first | exact .head _ | refine .tail _ ?_)) (by exact rfl) | exact y_load_caj Try.underlying22 rfl (by exact rfl) (by repeat (first | exact .head _ | refine .tail _ ?_)) (by assumption) (by exact rfl) | exact y_load_ca0 Try.underlying22 rfl (by exact rfl) (by repeat (first | exact .head _ | refine .tail _ ?_)) (by assumption) (by exact rfl))) rfl ?_
          refine sq_gt (by exact rfl) (by exact rfl) (OpY.s (y_move (by exact rfl))) rfl ?_
          refine sq_gt (by exact rfl) (by exact rfl) (y_call (first := []) (caps := []) (by exact rfl) Try.call67 (EvL.cons (by exact rfl) (EvL.cons (by exact rfl) EvL.nil)) (fun w1 hw1 => containsTm 65 [.pointer (some ⟨b3, 0, none⟩)] (fun i => !tmB (r.teams.getD i tm0)) w1 a _ c (tmRow r.teams f cf) hlen ((hT.at hw1 (by repeat (first | exact .head _ | refine .tail _ ?_))).row) Try.call65 (fun i hi w2 hb => team65 (r.teams.getD i tm0) (f i) (cf i) b3 w2 (((hT.at hw1 (by repeat (first | exact .head _ | refine .tail _ ?_))).br i _ (get_of_lt tm0 hi)).at (hp_below hb) (.head _)) ((hb.cell (p := ⟨b3, 0, none⟩) (Res.ok_lt (hw1.ok (Res.blk b3 (.cells _ 89 (0, 0))) (by repeat (first | exact .head _ | refine .tail _ ?_))) rfl)).trans (cell_blk hw1 (b := b3) (o := 0) (by repeat (first | exact .head _ | refine .tail _ ?_))))))) rfl ?_
          refine sq_gt (by exact rfl) (by exact rfl) (OpY.s (y_not (by exact rfl))) rfl ?_
          refine sq_y (OpY.s (y_pick_t (by exact rfl) (by exact rfl))) rfl ?_
          refine sq_y (OpY.s (y_assign (by exact rfl))) rfl ?_
          refine sq_nil ?_
          refine sx_then ?_
          refine sc_ret ?_
          refine sx_ret1 (.inl rfl) rfl Try.results39 (by exact rfl) ?_
          intro w' hw'
          refine ⟨?_, hw'.below (by repeat (first | exact .head _ | refine .tail _ ?_))⟩
          unfold rcB
          rw [any_range_get r.teams tm0 (fun t => !tmB t)]
          simp [*, List.any_eq_not_all_not]
        ·
          refine sq_gf (by exact rfl) (by exact rfl) (by exact rfl) rfl ?_
          refine sq_gf (by exact rfl) (by exact rfl) (by exact rfl) rfl ?_
          refine sq_gf (by exact rfl) (by exact rfl) (by exact rfl) rfl ?_
          refine sq_gf (by exact rfl) (by exact rfl) (by exact rfl) rfl ?_
          refine sq_gf (by exact rfl) (by exact rfl) (by exact rfl) rfl ?_
          refine sq_y (OpY.s (y_pick_f (by exact rfl) (by exact rfl))) rfl ?_
          refine sq_y (OpY.s (y_assign (by exact rfl))) rfl ?_
          refine sq_nil ?_
          refine sx_then ?_
          refine sc_ret ?_
          refine sx_ret1 (.inl rfl) rfl Try.results39 (by exact rfl) ?_
          intro w' hw'
          refine ⟨?_, hw'.below (by repeat (first | exact .head _ | refine .tail _ ?_))⟩
          unfold rcB; simp [*]
      ·
        refine sq_gf (by exact rfl) (by exact rfl) (by exact rfl) rfl ?_
        refine sq_gf (by exact rfl) (by exact rfl) (by exact rfl) rfl ?_
        refine sq_gf (by exact rfl) (by exact rfl) (by exact rfl) rfl ?_
        refine sq_gf (by exact rfl) (by exact rfl) (by exact rfl) rfl ?_
        refine sq_y (OpY.s (y_pick_f (by exact rfl) (by exact rfl))) rfl ?_
        refine sq_y (OpY.s (y_move (by exact rfl))) rfl ?_
        refine sq_gf (by exact rfl) (by exact rfl) (by exact rfl) rfl ?_
        refine sq_gf (by exact rfl) (by exact rfl) (by exact rfl) rfl ?_
        refine sq_gf (by exact rfl) (by exact rfl) (by exact rfl) rfl ?_
        refine sq_gf (by exact rfl) (by exact rfl) (by exact rfl) rfl ?_
        refine sq_gf (by exact rfl) (by exact rfl) (by exact rfl) rfl ?_
        refine sq_y (OpY.s (y_pick_f (by exact rfl) (by exact rfl))) rfl ?_
        refine sq_y (OpY.s (y_assign (by exact rfl))) rfl ?_
        refine sq_nil ?_
        refine sx_then ?_
        refine sc_ret ?_
        refine sx_ret1 (.inl rfl) rfl Try.results39 (by exact rfl) ?_
        intro w' hw'
        refine ⟨?_, hw'.below (by repeat (first | exact .head _ | refine .tail _ ?_))⟩
        unfold rcB; simp [*]
    ·
      refine sq_gf (by exact rfl) (by exact rfl) (by exact rfl) rfl ?_
      refine sq_gf (by exact rfl) (by exact rfl) (by exact rfl) rfl ?_
      refine sq_gf (by exact rfl) (by exact rfl) (by exact rfl) rfl ?_
      refine sq_y (OpY.s (y_pick_f (by exact rfl) (by exact rfl))) rfl ?_
      refine sq_y (OpY.s (y_assign (by exact rfl))) rfl ?_
      refine sq_nil ?_
      refine sx_then ?_
      refine sc_seq ?_
      refine sc_region ?_
      refine sq_y (OpY.s (y_move (by exact rfl))) rfl ?_
      refine sq_y (OpY.s (y_move (by exact rfl))) rfl ?_
      refine sq_gf (by exact rfl) (by exact rfl) (by exact rfl) rfl ?_
      refine sq_gf (by exact rfl) (by exact rfl) (by exact rfl) rfl ?_
      refine sq_gf (by exact rfl) (by exact rfl) (by exact rfl) rfl ?_
      refine sq_gf (by exact rfl) (by exact rfl) (by exact rfl) rfl ?_
      refine sq_y (OpY.s (y_pick_f (by exact rfl) (by exact rfl))) rfl ?_
      refine sq_y (OpY.s (y_move (by exact rfl))) rfl ?_
      refine sq_gf (by exact rfl) (by exact rfl) (by exact rfl) rfl ?_
      refine sq_gf (by exact rfl) (by exact rfl) (by exact rfl) rfl ?_
      refine sq_gf (by exact rfl) (by exact rfl) (by exact rfl) rfl ?_
      refine sq_gf (by exact rfl) (by exact rfl) (by exact rfl) rfl ?_
      refine sq_gf (by exact rfl) (by exact rfl) (by exact rfl) rfl ?_
      refine sq_y (OpY.s (y_pick_f (by exact rfl) (by exact rfl))) rfl ?_
      refine sq_y (OpY.s (y_assign (by exact rfl))) rfl ?_
      refine sq_nil ?_
      refine sx_then ?_
      refine sc_ret ?_
      refine sx_ret1 (.inl rfl) rfl Try.results39 (by exact rfl) ?_
      intro w' hw'
      refine ⟨?_, hw'.below (by repeat (first | exact .head _ | refine .tail _ ?_))⟩
      unfold rcB; simp [*]
  ·
    refine sq_gf (by exact rfl) (by exact rfl) (by exact rfl) rfl ?_
    refine sq_gf (by exact rfl) (by exact rfl) (by exact rfl) rfl ?_
    refine sq_gf (by exact rfl) (by exact rfl) (by exact rfl) rfl ?_
    refine sq_y (OpY.s (y_pick_f (by exact rfl) (by exact rfl))) rfl ?_
    refine sq_y (OpY.s (y_move (by exact rfl))) rfl ?_
    refine sq_gf (by exact rfl) (by exact rfl) (by exact rfl) rfl ?_
    refine sq_gf (by exact rfl) (by exact rfl) (by exact rfl) rfl ?_
    refine sq_gf (by exact rfl) (by exact rfl) (by exact rfl) rfl ?_
    refine sq_y (OpY.s (y_pick_f (by exact rfl) (by exact rfl))) rfl ?_
    refine sq_y (OpY.s (y_assign (by exact rfl))) rfl ?_
    refine sq_nil ?_
    refine sx_then ?_
    refine sc_seq ?_
    refine sc_region ?_
    refine sq_y (OpY.s (y_move (by exact rfl))) rfl ?_
    refine sq_y (OpY.s (y_move (by exact rfl))) rfl ?_
    refine sq_gf (by exact rfl) (by exact rfl) (by exact rfl) rfl ?_
    refine sq_gf (by exact rfl) (by exact rfl) (by exact rfl) rfl ?_
    refine sq_gf (by exact rfl) (by exact rfl) (by exact rfl) rfl ?_
    refine sq_gf (by exact rfl) (by exact rfl) (by exact rfl) rfl ?_
    refine sq_y (OpY.s (y_pick_f (by exact rfl) (by exact rfl))) rfl ?_
    refine sq_y (OpY.s (y_move (by exact rfl))) rfl ?_
    refine sq_gf (by exact rfl) (by exact rfl) (by exact rfl) rfl ?_
    refine sq_gf (by exact rfl) (by exact rfl) (by exact rfl) rfl ?_
    refine sq_gf (by exact rfl) (by exact rfl) (by exact rfl) rfl ?_
    refine sq_gf (by exact rfl) (by exact rfl) (by exact rfl) rfl ?_
    refine sq_gf (by exact rfl) (by exact rfl) (by exact rfl) rfl ?_
    refine sq_y (OpY.s (y_pick_f (by exact rfl) (by exact rfl))) rfl ?_
    refine sq_y (OpY.s (y_assign (by exact rfl))) rfl ?_
    refine sq_nil ?_
    refine sx_then ?_
    refine sc_ret ?_
    refine sx_ret1 (.inl rfl) rfl Try.results39 (by exact rfl) ?_
    intro w' hw'
    refine ⟨?_, hw'.below (by repeat (first | exact .head _ | refine .tail _ ?_))⟩
    unfold rcB; simp [*]
end Go.Proofs.Ytegdfpilhlcplaa
