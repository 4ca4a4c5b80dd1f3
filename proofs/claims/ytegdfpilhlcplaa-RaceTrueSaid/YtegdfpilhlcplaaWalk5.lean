/- The walks of check, and of Worked. -/
import Derived.Test.YtegdfpilhlcplaaWalk4
namespace Go.Proofs.Ytegdfpilhlcplaa
open Go Go.Eng Go.RowKit Go.Proofs

theorem check57 (w : World) (v : Value) (r : Rc) (al : Option Addr) (cl : Nat) (l : List Wd) (hr : RcA 0 w v r) (hl : WdsA 0 w al l) : Calls Try.prog 57 #[v, .slice al l.length cl] w fun e w' => e = .returned (.int .i64 (chk r l)) ∧ Below w.heap.size w w' := by
  obtain ⟨a, c, f, cf, rfl, hT⟩ := hr.ex
  have hlen := hT.len
  have hlenl := hl.len
  refine calls_of_SC (args := [.agg (rcVal r a c).toArray, .slice al l.length cl]) Try.func57 rfl Try.ntmps57 rfl ?_
  simp only [argL, Nat.zero_add]
  refine sc_seq ?_
  refine sc_region ?_
  refine sq_box (by exact rfl) rfl (fun b2 => ?_)
  refine sq_y (OpY.s (y_assign (by exact rfl))) rfl ?_
  refine sq_nil ?_
  refine sx_then ?_
  refine sc_seq ?_
  refine sc_region ?_
  refine sq_y (OpY.s (y_makeFunc EvL.nil (EvL.cons (by exact rfl) EvL.nil))) rfl ?_
  refine sq_y (OpY.s (y_assign (by exact rfl))) rfl ?_
  refine sq_nil ?_
  refine sx_then ?_
  refine sc_seq ?_
  refine sc_block ?_
  refine sc_seq ?_
  refine sc_region ?_
  refine sq_y (OpY.s (by first | exact y_load_all Try.underlying24 rfl Try.sizeOf24 (by exact rfl) (by repeat (first | exact .head _ | refine .tail _ ?_)) (by exact rfl) | exact y_load_ca Try.underlying24 rfl Try.sizeOf24 (by exact rfl) (by repeat (first | exact .head _ | refine .tail _ ?_)) (by assumption) (by exact rfl))) rfl ?_
  refine sq_y (y_call (first := []) (caps := []) (by exact rfl) Try.call39 (EvL.cons (by exact rfl) EvL.nil) (fun w1 hw1 => isRace39 w1 _ r (hr.at hw1 (by repeat (first | exact .head _ | refine .tail _ ?_))))) rfl ?_
  refine sq_y (OpY.s (y_not (by exact rfl))) rfl ?_
  refine sq_y (OpY.s (y_assign (by exact rfl))) rfl ?_
  refine sq_nil ?_
  refine sx_then ?_
  first | refine sc_if (by exact rfl) (fun hc0 => ?_) (fun hc0 => ?_) | refine sc_ifn (by exact rfl) (fun hc0 => ?_) (fun hc0 => ?_) | refine sc_cond (by exact rfl) (fun hc0 => ?_) (fun hc0 => ?_)
  ·
    refine sc_seq ?_
    refine sc_region ?_
    refine sq_y (OpY.s (y_assign (by exact rfl))) rfl ?_
    refine sq_nil ?_
    refine sx_then ?_
    refine sc_ret ?_
    refine sx_blk_ret ?_
    refine sx_then_ret ?_
    refine sx_ret1 (.inl rfl) rfl Try.results57 (by exact rfl) ?_
    intro w' hw'
    refine ⟨?_, hw'.below (by repeat (first | exact .head _ | refine .tail _ ?_))⟩
    have hB : rcB r = false := by simpa using hc0
    unfold chk; rw [if_pos hB]
  ·
    refine sc_seq ?_
    refine sc_region ?_
    refine sq_y (OpY.s (y_move (by exact rfl))) rfl ?_
    refine sq_y (OpY.s (y_len Try.underlying25 (by exact rfl))) rfl ?_
    refine sq_y (OpY.s (y_gtr (by exact rfl) (by exact rfl))) rfl ?_
    refine sq_y (OpY.s (y_assign (by exact rfl))) rfl ?_
    refine sq_nil ?_
    refine sx_then ?_
    first | refine sc_if (by exact rfl) (fun hc1 => ?_) (fun hc1 => ?_) | refine sc_ifn (by exact rfl) (fun hc1 => ?_) (fun hc1 => ?_) | refine sc_cond (by exact rfl) (fun hc1 => ?_) (fun hc1 => ?_)
    ·
      refine sc_seq ?_
      refine sc_region ?_
      refine sq_y (OpY.s (y_assign (by exact rfl))) rfl ?_
      refine sq_nil ?_
      refine sx_then ?_
      refine sc_ret ?_
      refine sx_blk_ret ?_
      refine sx_then_ret ?_
      refine sx_ret1 (.inl rfl) rfl Try.results57 (by exact rfl) ?_
      intro w' hw'
      refine ⟨?_, hw'.below (by repeat (first | exact .head _ | refine .tail _ ?_))⟩
      have hB : rcB r = true := by simpa using hc0
      unfold chk; rw [if_neg (by simp [hB]), if_pos hc1]
    ·
      refine sc_seq ?_
      refine sc_region ?_
      refine sq_y (OpY.s (y_move (by exact rfl))) rfl ?_
      refine sq_y (OpY.s (y_move (by exact rfl))) rfl ?_
      refine sq_y (y_call (first := []) (caps := []) (by exact rfl) Try.call76 (EvL.cons (by exact rfl) (EvL.cons (by exact rfl) EvL.nil)) (fun w1 hw1 => containsWd 74 [.pointer (some ⟨b2, 0, none⟩)] (fun i => !wdB r (l.getD i wd0)) w1 al _ cl (fun i => wdRow (l.getD i wd0)) hlenl ((hl.at hw1 (by repeat (first | exact .head _ | refine .tail _ ?_))).row) Try.call74 (fun i _ w2 hb => check74 w2 _ r a c f cf b2 ((hT.at hw1 (by repeat (first | exact .head _ | refine .tail _ ?_))).at (hp_below hb) (.head _)) hr.i1 hr.i2 hr.i3 (CA.below (CA.blk hw1 (by repeat (first | exact .head _ | refine .tail _ ?_))) hb)))) rfl ?_
      refine sq_y (OpY.s (y_assign (by exact rfl))) rfl ?_
      refine sq_nil ?_
      refine sx_then ?_
      first | refine sc_if (by exact rfl) (fun hc2 => ?_) (fun hc2 => ?_) | refine sc_ifn (by exact rfl) (fun hc2 => ?_) (fun hc2 => ?_) | refine sc_cond (by exact rfl) (fun hc2 => ?_) (fun hc2 => ?_)
      ·
        refine sc_seq ?_
        refine sc_region ?_
        refine sq_y (OpY.s (y_assign (by exact rfl))) rfl ?_
        refine sq_nil ?_
        refine sx_then ?_
        refine sc_ret ?_
        refine sx_blk_ret ?_
        refine sx_then_ret ?_
        refine sx_ret1 (.inl rfl) rfl Try.results57 (by exact rfl) ?_
        intro w' hw'
        refine ⟨?_, hw'.below (by repeat (first | exact .head _ | refine .tail _ ?_))⟩
        rw [any_range_get l wd0 (fun d => !wdB r d)] at hc2
        have hB : rcB r = true := by simpa using hc0
        unfold chk; rw [if_neg (by simp [hB]), if_neg hc1, hc2]; rfl
      ·
        refine sc_skip ?_
        refine sx_blk ?_
        refine sx_then ?_
        refine sc_seq ?_
        refine sc_region ?_
        refine sq_y (OpY.s (y_assign (by exact rfl))) rfl ?_
        refine sq_nil ?_
        refine sx_then ?_
        refine sc_ret ?_
        refine sx_ret1 (.inl rfl) rfl Try.results57 (by exact rfl) ?_
        intro w' hw'
        refine ⟨?_, hw'.below (by repeat (first | exact .head _ | refine .tail _ ?_))⟩
        rw [any_range_get l wd0 (fun d => !wdB r d)] at hc2
        have hB : rcB r = true := by simpa using hc0
        unfold chk; rw [if_neg (by simp [hB]), if_neg hc1, hc2]; rfl
theorem check60 (w : World) (v : Value) (r : Rc) (al : Option Addr) (cl : Nat) (l : List Wd) (hr : RcA 0 w v r) (hl : WdsA 0 w al l) : Calls Try.prog 60 #[v, .slice al l.length cl] w fun e w' => e = .returned (.int .i64 (chk r l)) ∧ Below w.heap.size w w' := by
  obtain ⟨a, c, f, cf, rfl, hT⟩ := hr.ex
  have hlen := hT.len
  have hlenl := hl.len
  refine calls_of_SC (args := [.agg (rcVal r a c).toArray, .slice al l.length cl]) Try.func60 rfl Try.ntmps60 rfl ?_
  simp only [argL, Nat.zero_add]
  refine sc_seq ?_
  refine sc_region ?_
  refine sq_box (by exact rfl) rfl (fun b2 => ?_)
  refine sq_y (OpY.s (y_assign (by exact rfl))) rfl ?_
  refine sq_nil ?_
  refine sx_then ?_
  refine sc_seq ?_
  refine sc_seq ?_
  refine sc_region ?_
  refine sq_y (OpY.s (by first | exact y_load_all Try.underlying24 rfl Try.sizeOf24 (by exact rfl) (by repeat (first | exact .head _ | refine .tail _ ?_)) (by exact rfl) | exact y_load_ca Try.underlying24 rfl Try.sizeOf24 (by exact rfl) (by repeat (first | exact .head _ | refine .tail _ ?_)) (by assumption) (by exact rfl))) rfl ?_
  refine sq_y (y_call (first := []) (caps := []) (by exact rfl) Try.call31 (EvL.cons (by exact rfl) EvL.nil) (fun w1 hw1 => race31 w1 _ r (hr.at hw1 (by repeat (first | exact .head _ | refine .tail _ ?_))))) rfl ?_
  refine sq_y (OpY.s (y_not (by exact rfl))) rfl ?_
  refine sq_nil ?_
  refine sx_then ?_
  first | refine sc_if (by exact rfl) (fun hc0 => ?_) (fun hc0 => ?_) | refine sc_ifn (by exact rfl) (fun hc0 => ?_) (fun hc0 => ?_) | refine sc_cond (by exact rfl) (fun hc0 => ?_) (fun hc0 => ?_)
  ·
    refine sc_seq ?_
    refine sc_region ?_
    refine sq_y (OpY.s (y_assign (by exact rfl))) rfl ?_
    refine sq_nil ?_
    refine sx_then ?_
    refine sc_ret ?_
    refine sx_then_ret ?_
    refine sx_ret1 (.inl rfl) rfl Try.results60 (by exact rfl) ?_
    intro w' hw'
    refine ⟨?_, hw'.below (by repeat (first | exact .head _ | refine .tail _ ?_))⟩
    have hB : rcB r = false := by simpa using hc0
    unfold chk; rw [if_pos hB]
  ·
    refine sc_skip ?_
    refine sx_then ?_
    refine sc_seq ?_
    refine sc_seq ?_
    refine sc_region ?_
    refine sq_y (OpY.s (y_move (by exact rfl))) rfl ?_
    refine sq_y (OpY.s (y_len Try.underlying25 (by exact rfl))) rfl ?_
    refine sq_y (OpY.s (y_gtr (by exact rfl) (by exact rfl))) rfl ?_
    refine sq_nil ?_
    refine sx_then ?_
    first | refine sc_if (by exact rfl) (fun hc1 => ?_) (fun hc1 => ?_) | refine sc_ifn (by exact rfl) (fun hc1 => ?_) (fun hc1 => ?_) | refine sc_cond (by exact rfl) (fun hc1 => ?_) (fun hc1 => ?_)
    ·
      refine sc_seq ?_
      refine sc_region ?_
      refine sq_y (OpY.s (y_assign (by exact rfl))) rfl ?_
      refine sq_nil ?_
      refine sx_then ?_
      refine sc_ret ?_
      refine sx_then_ret ?_
      refine sx_ret1 (.inl rfl) rfl Try.results60 (by exact rfl) ?_
      intro w' hw'
      refine ⟨?_, hw'.below (by repeat (first | exact .head _ | refine .tail _ ?_))⟩
      have hB : rcB r = true := by simpa using hc0
      unfold chk; rw [if_neg (by simp [hB]), if_pos hc1]
    ·
      refine sc_skip ?_
      refine sx_then ?_
      refine sc_seq ?_
      refine sc_seq ?_
      refine sc_region ?_
      refine sq_y (OpY.s (y_assign (by exact rfl))) rfl ?_
      refine sq_nil ?_
      refine sx_then ?_
      refine sc_block ?_
      refine sc_loop (σ := Nat)
        (fun s => [(1, .slice al l.length cl), (2, .pointer (some ⟨b2, 0, none⟩)), (5, .int .i64 s)])
        (fun s => [.blk b2 (.cells (rcVal r a c).toArray 24 (0, 0)), .reg 0 w])
        (fun s => s ≤ l.length ∧ ∀ j, j < s → wdB r (l.getD j wd0) = true)
        (fun s => l.length - s)
        (0) ?_ (by repeat (first | exact SubL.nil | refine SubL.cons (by first | exact rfl | exact lk_int rfl (by omega) | exact lk_eq rfl (by simp)) ?_)) (by repeat (first | exact Sel.nil | refine Sel.cons (by repeat (first | exact Rem.here | apply Rem.there)) ?_)) ?_
      · exact ⟨Nat.zero_le _, fun j hj => absurd hj (Nat.not_lt_zero j)⟩
      rintro k ⟨hk, hall⟩
      refine sc_seq ?_
      refine sc_seq ?_
      refine sc_region ?_
      refine sq_y (OpY.s (y_move (by exact rfl))) rfl ?_
      refine sq_y (OpY.s (y_move (by exact rfl))) rfl ?_
      refine sq_y (OpY.s (y_len Try.underlying25 (by exact rfl))) rfl ?_
      refine sq_y (OpY.s (y_lss (by exact rfl) (by exact rfl))) rfl ?_
      refine sq_nil ?_
      refine sx_then ?_
      first | refine sc_if (by exact rfl) (fun hc2 => ?_) (fun hc2 => ?_) | refine sc_ifn (by exact rfl) (fun hc2 => ?_) (fun hc2 => ?_) | refine sc_cond (by exact rfl) (fun hc2 => ?_) (fun hc2 => ?_)
      ·
        have hk' : k < l.length := by omega
        have hsm := (hl.row k hk').1
        have hca := (hl.row k hk').2.2
        refine sc_skip ?_
        refine sx_then ?_
        refine sc_seq ?_
        refine sc_block ?_
        refine sc_seq ?_
        refine sc_draw rfl (by kernel_rfl) (by kernel_rfl) ?_
        refine qq_y (OpY.s (by first | exact y_load_all Try.underlying24 rfl Try.sizeOf24 (by exact rfl) (by repeat (first | exact .head _ | refine .tail _ ?_)) (by exact rfl) | exact y_load_ca Try.underlying24 rfl Try.sizeOf24 (by exact rfl) (by repeat (first | exact .head _ | refine .tail _ ?_)) (by assumption) (by exact rfl))) rfl ?_
        refine qq_y (OpY.s (y_move (by exact rfl))) rfl ?_
        refine qq_y (OpY.s (y_move (by exact rfl))) rfl ?_
        refine qq_y (OpY.s (by first | exact y_ia_blk Try.underlying25 Try.sizeOf57 (by exact rfl) (by exact rfl) (by omega) | exact y_ia_el Try.underlying25 Try.sizeOf57 (by exact rfl) (by exact rfl) (by omega) (by first | assumption | simp))) rfl ?_
        refine qq_y (OpY.s (by first | exact y_load_ca Try.underlying57 rfl Try.sizeOf57 (by exact rfl) (by repeat (first | exact .head _ | refine .tail _ ?_)) hca rfl | exact y_load_all Try.underlying57 rfl Try.sizeOf57 (by exact rfl) (by repeat (first | exact .head _ | refine .tail _ ?_)) (by exact rfl) | exact y_load_ca Try.underlying57 rfl Try.sizeOf57 (by exact rfl) (by repeat (first | exact .head _ | refine .tail _ ?_)) (by assumption) (by exact rfl))) rfl ?_
        refine qq_y (y_call (first := []) (caps := []) (by exact rfl) Try.call81 (EvL.cons (by exact rfl) (EvL.cons (by exact rfl) EvL.nil)) (fun w1 hw1 => word81 w1 _ r (l.getD k wd0) (hr.at hw1 (by repeat (first | exact .head _ | refine .tail _ ?_))))) rfl ?_
        refine qq_y (OpY.s (y_not (by exact rfl))) rfl ?_
        refine qq_nil ?_
        refine sx_then ?_
        first | refine sc_if (by exact rfl) (fun hc3 => ?_) (fun hc3 => ?_) | refine sc_ifn (by exact rfl) (fun hc3 => ?_) (fun hc3 => ?_) | refine sc_cond (by exact rfl) (fun hc3 => ?_) (fun hc3 => ?_)
        ·
          refine sc_seq ?_
          refine sc_region ?_
          refine sq_y (OpY.s (y_assign (by exact rfl))) rfl ?_
          refine sq_nil ?_
          refine sx_then ?_
          refine sc_ret ?_
          refine sx_blk_ret ?_
          refine sx_then_ret ?_
          refine sx_round_ret ?_
          refine sx_blk_ret ?_
          refine sx_then_ret ?_
          refine sx_ret1 (.inl rfl) rfl Try.results60 (by exact rfl) ?_
          intro w' hw'
          refine ⟨?_, hw'.below (by repeat (first | exact .head _ | refine .tail _ ?_))⟩
          have hany : l.any (fun d => !wdB r d) = true := List.any_eq_true.2 ⟨l.getD k wd0, List.mem_of_getElem? (get_of_lt wd0 hk'), hc3⟩
          have hB : rcB r = true := by simpa using hc0
          unfold chk; rw [if_neg (by simp [hB]), if_neg hc1, hany]; rfl
        ·
          refine sc_skip ?_
          refine sx_blk ?_
          refine sx_then ?_
          refine sc_region ?_
          refine sq_y (OpY.s (y_move (by exact rfl))) rfl ?_
          refine sq_y (OpY.s (y_add (by exact rfl) (by exact rfl) (by omega))) rfl ?_
          refine sq_y (OpY.s (y_assign (by exact rfl))) rfl ?_
          refine sq_nil ?_
          refine sx_round (k + 1) ?_ ?_ (by repeat (first | exact SubL.nil | refine SubL.cons (by first | exact rfl | exact lk_int rfl (by omega) | exact lk_eq rfl (by simp)) ?_)) (by repeat (first | exact Sel.nil | refine Sel.cons (by repeat (first | exact Rem.here | apply Rem.there)) ?_))
          · refine ⟨by omega, fun j hj => ?_⟩
            rcases Nat.lt_succ_iff_lt_or_eq.1 hj with h | rfl
            · exact hall j h
            · simpa using hc3
          · omega
      ·
        refine sc_exit ?_
        refine sx_then_exit ?_
        refine sx_round_exit ?_
        refine sx_blk_hit ?_
        refine sx_then ?_
        refine sc_seq ?_
        refine sc_region ?_
        refine sq_y (OpY.s (y_assign (by exact rfl))) rfl ?_
        refine sq_nil ?_
        refine sx_then ?_
        refine sc_ret ?_
        refine sx_ret1 (.inl rfl) rfl Try.results60 (by exact rfl) ?_
        intro w' hw'
        refine ⟨?_, hw'.below (by repeat (first | exact .head _ | refine .tail _ ?_))⟩
        have hkk : k = l.length := by omega
        subst hkk
        have hany : l.any (fun d => !wdB r d) = false := by
          have := all_of_getD l wd0 (fun d => wdB r d) hall
          rw [List.any_eq_not_all_not]; simpa using this
        have hB : rcB r = true := by simpa using hc0
        unfold chk; rw [if_neg (by simp [hB]), if_neg hc1, hany]; rfl
theorem worked15 (w : World) (v : Value) (r : Rc) (tz mz : Int) (hr : RcA 0 w v r) : Calls Try.prog 15 #[v, .int .i64 tz, .int .i64 mz] w fun e w' => e = .returned (if rcB r = false then .tuple #[.int .i64 0, .int .i64 1] else if 0 ≤ tz ∧ tz ≤ (r.teams.length : Int) - 1 ∧ 0 ≤ mz ∧ mz ≤ 2000 then .tuple #[.int .i64 (wrk r tz.toNat mz.toNat), .int .i64 0] else .tuple #[.int .i64 0, .int .i64 2]) ∧ Below w.heap.size w w' := by
  obtain ⟨a, c, f, cf, rfl, hT⟩ := hr.ex
  have hlen := hT.len
  refine calls_of_SC (args := [.agg (rcVal r a c).toArray, .int .i64 tz, .int .i64 mz]) Try.func15 rfl Try.ntmps15 rfl ?_
  simp only [argL, Nat.reduceAdd, Nat.zero_add]
  refine sc_seq ?_
  refine sc_region ?_
  refine sq_box (by exact rfl) rfl (fun b3 => ?_)
  refine sq_y (OpY.s (y_assign (by exact rfl))) rfl ?_
  refine sq_y (OpY.s (y_assign (by exact rfl))) rfl ?_
  refine sq_nil ?_
  refine sx_then ?_
  refine sc_seq ?_
  refine sc_block ?_
  refine sc_seq ?_
  refine sc_region ?_
  refine sq_y (OpY.s (by first | exact y_load_all Try.underlying24 rfl Try.sizeOf24 (by exact rfl) (by repeat (first | exact .head _ | refine .tail _ ?_)) (by exact rfl) | exact y_load_ca Try.underlying24 rfl Try.sizeOf24 (by exact rfl) (by repeat (first | exact .head _ | refine .tail _ ?_)) (by assumption) (by exact rfl))) rfl ?_
  refine sq_y (y_call (first := []) (caps := []) (by exact rfl) Try.call39 (EvL.cons (by exact rfl) EvL.nil) (fun w1 hw1 => isRace39 w1 _ r (hr.at hw1 (by repeat (first | exact .head _ | refine .tail _ ?_))))) rfl ?_
  refine sq_y (OpY.s (y_not (by exact rfl))) rfl ?_
  refine sq_y (OpY.s (y_assign (by exact rfl))) rfl ?_
  refine sq_nil ?_
  refine sx_then ?_
  first | refine sc_if (by exact rfl) (fun hc0 => ?_) (fun hc0 => ?_) | refine sc_ifn (by exact rfl) (fun hc0 => ?_) (fun hc0 => ?_) | refine sc_cond (by exact rfl) (fun hc0 => ?_) (fun hc0 => ?_)
  ·
    refine sc_seq ?_
    refine sc_region ?_
    refine sq_y (OpY.s (y_assign (by exact rfl))) rfl ?_
    refine sq_y (OpY.s (y_assign (by exact rfl))) rfl ?_
    refine sq_nil ?_
    refine sx_then ?_
    refine sc_ret ?_
    refine sx_blk_ret ?_
    refine sx_then_ret ?_
    refine sx_ret2 (.inl rfl) rfl Try.results15 (by exact rfl) (by exact rfl) ?_
    intro w' hw'
    refine ⟨?_, hw'.below (by repeat (first | exact .head _ | refine .tail _ ?_))⟩
    rw [if_pos (by simpa using hc0)]
  ·
    refine sc_seq ?_
    refine sc_region ?_
    refine sq_y (OpY.s (y_move (by exact rfl))) rfl ?_
    refine sq_y (OpY.s (by first | exact y_fab Try.underlying24 (by exact rfl) (by exact Try.sizeOf22) (by exact rfl) rfl | exact y_fa Try.underlying24 (by exact rfl) (by exact Try.sizeOf22) (by exact rfl) rfl)) rfl ?_
    refine sq_y (OpY.s (by first | exact y_load_blk Try.underlying22 rfl (by exact rfl) (by repeat (first | exact .head _ | refine .tail _ ?_)) (by exact rfl) | exact y_load_caj Try.underlying22 rfl (by exact rfl) (by repeat (first | exact .head _ | refine .tail _ ?_)) (by assumption) (by exact rfl) | exact y_load_ca0 Try.underlying22 rfl (by exact rfl) (by repeat (first | exact .head _ | refine .tail _ ?_)) (by assumption) (by exact rfl))) rfl ?_
    refine sq_y (OpY.s (y_len Try.underlying22 (by exact rfl))) rfl ?_
    refine sq_y (OpY.s (y_sub (by exact rfl) (by exact rfl) (by omega))) rfl ?_
    refine sq_y (y_call (first := []) (caps := []) (by exact rfl) Try.call40 (EvL.cons (by exact rfl) (EvL.cons (by exact rfl) (EvL.cons (by exact rfl) EvL.nil))) (fun w1 _ => within40 _ _ _ w1)) rfl ?_
    refine sq_y (OpY.s (y_not (by exact rfl))) rfl ?_
    refine sq_y (OpY.s (y_move (by exact rfl))) rfl ?_
    first | refine sq_splitd (tt := 20) (by exact rfl) (fun hg3_7 => ?_) (fun hg3_7 => ?_) | refine sq_splitn (tt := 20) (by exact rfl) (fun hg3_7 => ?_) (fun hg3_7 => ?_) | refine sq_split (tt := 20) (by exact rfl) (fun hg3_7 => ?_) (fun hg3_7 => ?_)
    ·
      refine sq_gf (by exact rfl) (by exact rfl) (by exact rfl) rfl ?_
      refine sq_gf (by exact rfl) (by exact rfl) (by exact rfl) rfl ?_
      refine sq_gf (by exact rfl) (by exact rfl) (by exact rfl) rfl ?_
      refine sq_y (OpY.s (y_pick_t (by exact rfl) (by exact rfl))) rfl ?_
      refine sq_y (OpY.s (y_assign (by exact rfl))) rfl ?_
      refine sq_nil ?_
      refine sx_then ?_
      refine sc_t (by exact rfl) ?_
      refine sc_seq ?_
      refine sc_region ?_
      refine sq_y (OpY.s (y_assign (by exact rfl))) rfl ?_
      refine sq_y (OpY.s (y_assign (by exact rfl))) rfl ?_
      refine sq_nil ?_
      refine sx_then ?_
      refine sc_ret ?_
      refine sx_blk_ret ?_
      refine sx_then_ret ?_
      refine sx_ret2 (.inl rfl) rfl Try.results15 (by exact rfl) (by exact rfl) ?_
      intro w' hw'
      refine ⟨?_, hw'.below (by repeat (first | exact .head _ | refine .tail _ ?_))⟩
      have hB : rcB r = true := by simpa using hc0
      rw [if_neg (by simp [hB]), if_neg (by omega)]
    ·
      refine sq_gt (by exact rfl) (by exact rfl) (OpY.s (y_move (by exact rfl))) rfl ?_
      refine sq_gt (by exact rfl) (by exact rfl) (y_call (first := []) (caps := []) (by exact rfl) Try.call40 (EvL.cons (by exact rfl) (EvL.cons (by exact rfl) (EvL.cons (by exact rfl) EvL.nil))) (fun w1 _ => within40 _ _ _ w1)) rfl ?_
      refine sq_gt (by exact rfl) (by exact rfl) (OpY.s (y_not (by exact rfl))) rfl ?_
      refine sq_y (OpY.s (y_pick_f (by exact rfl) (by exact rfl))) rfl ?_
      refine sq_y (OpY.s (y_assign (by exact rfl))) rfl ?_
      refine sq_nil ?_
      refine sx_then ?_
      first | refine sc_if (by exact rfl) (fun hc1 => ?_) (fun hc1 => ?_) | refine sc_ifn (by exact rfl) (fun hc1 => ?_) (fun hc1 => ?_) | refine sc_cond (by exact rfl) (fun hc1 => ?_) (fun hc1 => ?_)
      ·
        refine sc_seq ?_
        refine sc_region ?_
        refine sq_y (OpY.s (y_assign (by exact rfl))) rfl ?_
        refine sq_y (OpY.s (y_assign (by exact rfl))) rfl ?_
        refine sq_nil ?_
        refine sx_then ?_
        refine sc_ret ?_
        refine sx_blk_ret ?_
        refine sx_then_ret ?_
        refine sx_ret2 (.inl rfl) rfl Try.results15 (by exact rfl) (by exact rfl) ?_
        intro w' hw'
        refine ⟨?_, hw'.below (by repeat (first | exact .head _ | refine .tail _ ?_))⟩
        have hB : rcB r = true := by simpa using hc0
        rw [if_neg (by simp [hB]), if_neg (by omega)]
      ·
        refine sc_skip ?_
        refine sx_blk ?_
        refine sx_then ?_
        refine sc_seq ?_
        have hok : rcB r = true := by simpa using hc0
        obtain ⟨team, hte⟩ := Int.eq_ofNat_of_zero_le (show 0 ≤ tz by omega)
        obtain ⟨minute, hme⟩ := Int.eq_ofNat_of_zero_le (show 0 ≤ mz by omega)
        subst hte; subst hme
        have ht : team < r.teams.length := by omega
        have hm : minute ≤ 2000 := by omega
        refine sc_region ?_
        refine sq_y (OpY.s (by first | exact y_load_all Try.underlying24 rfl Try.sizeOf24 (by exact rfl) (by repeat (first | exact .head _ | refine .tail _ ?_)) (by exact rfl) | exact y_load_ca Try.underlying24 rfl Try.sizeOf24 (by exact rfl) (by repeat (first | exact .head _ | refine .tail _ ?_)) (by assumption) (by exact rfl))) rfl ?_
        refine sq_y (OpY.s (y_move (by exact rfl))) rfl ?_
        refine sq_y (OpY.s (y_move (by exact rfl))) rfl ?_
        refine sq_y (y_call (first := []) (caps := []) (by exact rfl) Try.call41 (EvL.cons (by exact rfl) (EvL.cons (by exact rfl) (EvL.cons (by exact rfl) EvL.nil))) (fun w1 hw1 => worked41 w1 _ r team minute (hr.at hw1 (by repeat (first | exact .head _ | refine .tail _ ?_))) hok ht hm)) rfl ?_
        refine sq_y (OpY.s (y_assign (by exact rfl))) rfl ?_
        refine sq_y (OpY.s (y_assign (by exact rfl))) rfl ?_
        refine sq_nil ?_
        refine sx_then ?_
        refine sc_ret ?_
        refine sx_ret2 (.inl rfl) rfl Try.results15 (by exact rfl) (by exact rfl) ?_
        intro w' hw'
        refine ⟨?_, hw'.below (by repeat (first | exact .head _ | refine .tail _ ?_))⟩
        rw [if_neg (by simp [hok]), if_pos (by omega)]; rfl
theorem worked16 (w : World) (v : Value) (r : Rc) (tz mz : Int) (hr : RcA 0 w v r) : Calls Try.prog 16 #[v, .int .i64 tz, .int .i64 mz] w fun e w' => e = .returned (if rcB r = false then .tuple #[.int .i64 0, .int .i64 1] else if 0 ≤ tz ∧ tz ≤ (r.teams.length : Int) - 1 ∧ 0 ≤ mz ∧ mz ≤ 2000 then .tuple #[.int .i64 (wrk r tz.toNat mz.toNat), .int .i64 0] else .tuple #[.int .i64 0, .int .i64 2]) ∧ Below w.heap.size w w' := by
  obtain ⟨a, c, f, cf, rfl, hT⟩ := hr.ex
  have hlen := hT.len
  refine calls_of_SC (args := [.agg (rcVal r a c).toArray, .int .i64 tz, .int .i64 mz]) Try.func16 rfl Try.ntmps16 rfl ?_
  simp only [argL, Nat.reduceAdd, Nat.zero_add]
  refine sc_seq ?_
  refine sc_region ?_
  refine sq_box (by exact rfl) rfl (fun b3 => ?_)
  refine sq_y (OpY.s (y_assign (by exact rfl))) rfl ?_
  refine sq_y (OpY.s (y_assign (by exact rfl))) rfl ?_
  refine sq_nil ?_
  refine sx_then ?_
  refine sc_seq ?_
  refine sc_seq ?_
  refine sc_region ?_
  refine sq_y (OpY.s (by first | exact y_load_all Try.underlying24 rfl Try.sizeOf24 (by exact rfl) (by repeat (first | exact .head _ | refine .tail _ ?_)) (by exact rfl) | exact y_load_ca Try.underlying24 rfl Try.sizeOf24 (by exact rfl) (by repeat (first | exact .head _ | refine .tail _ ?_)) (by assumption) (by exact rfl))) rfl ?_
  refine sq_y (y_call (first := []) (caps := []) (by exact rfl) Try.call31 (EvL.cons (by exact rfl) EvL.nil) (fun w1 hw1 => race31 w1 _ r (hr.at hw1 (by repeat (first | exact .head _ | refine .tail _ ?_))))) rfl ?_
  refine sq_y (OpY.s (y_not (by exact rfl))) rfl ?_
  refine sq_nil ?_
  refine sx_then ?_
  first | refine sc_if (by exact rfl) (fun hc0 => ?_) (fun hc0 => ?_) | refine sc_ifn (by exact rfl) (fun hc0 => ?_) (fun hc0 => ?_) | refine sc_cond (by exact rfl) (fun hc0 => ?_) (fun hc0 => ?_)
  ·
    refine sc_seq ?_
    refine sc_region ?_
    refine sq_y (OpY.s (y_assign (by exact rfl))) rfl ?_
    refine sq_y (OpY.s (y_assign (by exact rfl))) rfl ?_
    refine sq_nil ?_
    refine sx_then ?_
    refine sc_ret ?_
    refine sx_then_ret ?_
    refine sx_ret2 (.inl rfl) rfl Try.results16 (by exact rfl) (by exact rfl) ?_
    intro w' hw'
    refine ⟨?_, hw'.below (by repeat (first | exact .head _ | refine .tail _ ?_))⟩
    rw [if_pos (by simpa using hc0)]
  ·
    refine sc_skip ?_
    refine sx_then ?_
    refine sc_seq ?_
    refine sc_seq ?_
    refine sc_region ?_
    refine sq_y (OpY.s (y_move (by exact rfl))) rfl ?_
    refine sq_y (OpY.s (by first | exact y_fab Try.underlying24 (by exact rfl) (by exact Try.sizeOf22) (by exact rfl) rfl | exact y_fa Try.underlying24 (by exact rfl) (by exact Try.sizeOf22) (by exact rfl) rfl)) rfl ?_
    refine sq_y (OpY.s (by first | exact y_load_blk Try.underlying22 rfl (by exact rfl) (by repeat (first | exact .head _ | refine .tail _ ?_)) (by exact rfl) | exact y_load_caj Try.underlying22 rfl (by exact rfl) (by repeat (first | exact .head _ | refine .tail _ ?_)) (by assumption) (by exact rfl) | exact y_load_ca0 Try.underlying22 rfl (by exact rfl) (by repeat (first | exact .head _ | refine .tail _ ?_)) (by assumption) (by exact rfl))) rfl ?_
    refine sq_y (OpY.s (y_len Try.underlying22 (by exact rfl))) rfl ?_
    refine sq_y (OpY.s (y_sub (by exact rfl) (by exact rfl) (by omega))) rfl ?_
    refine sq_y (y_call (first := []) (caps := []) (by exact rfl) Try.call42 (EvL.cons (by exact rfl) (EvL.cons (by exact rfl) (EvL.cons (by exact rfl) EvL.nil))) (fun w1 _ => within42 _ _ _ w1)) rfl ?_
    refine sq_y (OpY.s (y_not (by exact rfl))) rfl ?_
    refine sq_y (OpY.s (y_move (by exact rfl))) rfl ?_
    first | refine sq_splitd (tt := 18) (by exact rfl) (fun hg3_7 => ?_) (fun hg3_7 => ?_) | refine sq_splitn (tt := 18) (by exact rfl) (fun hg3_7 => ?_) (fun hg3_7 => ?_) | refine sq_split (tt := 18) (by exact rfl) (fun hg3_7 => ?_) (fun hg3_7 => ?_)
    ·
      refine sq_gf (by exact rfl) (by exact rfl) (by exact rfl) rfl ?_
      refine sq_gf (by exact rfl) (by exact rfl) (by exact rfl) rfl ?_
      refine sq_gf (by exact rfl) (by exact rfl) (by exact rfl) rfl ?_
      refine sq_y (OpY.s (y_pick_t (by exact rfl) (by exact rfl))) rfl ?_
      refine sq_nil ?_
      refine sx_then ?_
      refine sc_t (by exact rfl) ?_
      refine sc_seq ?_
      refine sc_region ?_
      refine sq_y (OpY.s (y_assign (by exact rfl))) rfl ?_
      refine sq_y (OpY.s (y_assign (by exact rfl))) rfl ?_
      refine sq_nil ?_
      refine sx_then ?_
      refine sc_ret ?_
      refine sx_then_ret ?_
      refine sx_ret2 (.inl rfl) rfl Try.results16 (by exact rfl) (by exact rfl) ?_
      intro w' hw'
      refine ⟨?_, hw'.below (by repeat (first | exact .head _ | refine .tail _ ?_))⟩
      have hB : rcB r = true := by simpa using hc0
      rw [if_neg (by simp [hB]), if_neg (by omega)]
    ·
      refine sq_gt (by exact rfl) (by exact rfl) (OpY.s (y_move (by exact rfl))) rfl ?_
      refine sq_gt (by exact rfl) (by exact rfl) (y_call (first := []) (caps := []) (by exact rfl) Try.call42 (EvL.cons (by exact rfl) (EvL.cons (by exact rfl) (EvL.cons (by exact rfl) EvL.nil))) (fun w1 _ => within42 _ _ _ w1)) rfl ?_
      refine sq_gt (by exact rfl) (by exact rfl) (OpY.s (y_not (by exact rfl))) rfl ?_
      refine sq_y (OpY.s (y_pick_f (by exact rfl) (by exact rfl))) rfl ?_
      refine sq_nil ?_
      refine sx_then ?_
      first | refine sc_if (by exact rfl) (fun hc1 => ?_) (fun hc1 => ?_) | refine sc_ifn (by exact rfl) (fun hc1 => ?_) (fun hc1 => ?_) | refine sc_cond (by exact rfl) (fun hc1 => ?_) (fun hc1 => ?_)
      ·
        refine sc_seq ?_
        refine sc_region ?_
        refine sq_y (OpY.s (y_assign (by exact rfl))) rfl ?_
        refine sq_y (OpY.s (y_assign (by exact rfl))) rfl ?_
        refine sq_nil ?_
        refine sx_then ?_
        refine sc_ret ?_
        refine sx_then_ret ?_
        refine sx_ret2 (.inl rfl) rfl Try.results16 (by exact rfl) (by exact rfl) ?_
        intro w' hw'
        refine ⟨?_, hw'.below (by repeat (first | exact .head _ | refine .tail _ ?_))⟩
        have hB : rcB r = true := by simpa using hc0
        rw [if_neg (by simp [hB]), if_neg (by omega)]
      ·
        refine sc_skip ?_
        refine sx_then ?_
        refine sc_seq ?_
        have hok : rcB r = true := by simpa using hc0
        obtain ⟨team, hte⟩ := Int.eq_ofNat_of_zero_le (show 0 ≤ tz by omega)
        obtain ⟨minute, hme⟩ := Int.eq_ofNat_of_zero_le (show 0 ≤ mz by omega)
        subst hte; subst hme
        have ht : team < r.teams.length := by omega
        have hm : minute ≤ 2000 := by omega
        refine sc_region ?_
        refine sq_y (OpY.s (by first | exact y_load_all Try.underlying24 rfl Try.sizeOf24 (by exact rfl) (by repeat (first | exact .head _ | refine .tail _ ?_)) (by exact rfl) | exact y_load_ca Try.underlying24 rfl Try.sizeOf24 (by exact rfl) (by repeat (first | exact .head _ | refine .tail _ ?_)) (by assumption) (by exact rfl))) rfl ?_
        refine sq_y (OpY.s (y_move (by exact rfl))) rfl ?_
        refine sq_y (OpY.s (y_move (by exact rfl))) rfl ?_
        refine sq_y (y_call (first := []) (caps := []) (by exact rfl) Try.call43 (EvL.cons (by exact rfl) (EvL.cons (by exact rfl) (EvL.cons (by exact rfl) EvL.nil))) (fun w1 hw1 => minutes43 w1 _ r team minute (hr.at hw1 (by repeat (first | exact .head _ | refine .tail _ ?_))) (by have := rcB_nums hok; omega) ht hm)) rfl ?_
        refine sq_y (OpY.s (y_assign (by exact rfl))) rfl ?_
        refine sq_y (OpY.s (y_assign (by exact rfl))) rfl ?_
        refine sq_nil ?_
        refine sx_then ?_
        refine sc_ret ?_
        refine sx_ret2 (.inl rfl) rfl Try.results16 (by exact rfl) (by exact rfl) ?_
        intro w' hw'
        refine ⟨?_, hw'.below (by repeat (first | exact .head _ | refine .tail _ ?_))⟩
        rw [if_neg (by simp [hok]), if_pos (by omega)]; rfl
end Go.Proofs.Ytegdfpilhlcplaa
