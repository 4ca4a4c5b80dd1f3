/- The walks of the functions that look at a race, and count a team's minutes. -/
import Derived.Test.YtegdfpilhlcplaaWalk1
namespace Go.Proofs.Ytegdfpilhlcplaa
open Go Go.Eng Go.RowKit Go.Proofs
set_option maxRecDepth 100000
theorem z93 : ∀ w, (zeroValue 93).run Try.prog w = .ok (.agg (offCells (fun _ => false)).toArray) w := fun w => by kernel_rfl

theorem worked41 (w : World) (v : Value) (r : Rc) (team minute : Nat) (hr : RcA 0 w v r) (hrb : rcB r = true) (hteam : team < r.teams.length) (hmin : minute ≤ 2000) : Calls Try.prog 41 #[v, .int .i64 team, .int .i64 minute] w fun e w' => e = .returned (.int .i64 (wrk r team minute)) ∧ Below w.heap.size w w' := by
  obtain ⟨a, c, f, cf, rfl, hT⟩ := hr.ex
  have hnum := rcB_nums hrb
  obtain ⟨tm, ht⟩ : ∃ tm, r.teams[team]? = some tm := ⟨_, List.getElem?_eq_getElem hteam⟩
  have hsomeT := (hT.el team tm ht).1
  have hcaT := (hT.el team tm ht).2
  have hbr := hT.br team tm ht
  have htm := rcB_team hrb (List.mem_of_getElem? ht)
  have hbrk : brkOf r team = tm.brk := by unfold brkOf; rw [getD_of ht]
  have hlenB := hbr.len
  refine calls_of_SC (args := [.agg (rcVal r a c).toArray, .int .i64 team, .int .i64 minute]) Try.func41 rfl Try.ntmps41 rfl ?_
  simp only [argL, Nat.reduceAdd, Nat.zero_add]
  refine sc_seq ?_
  refine sc_region ?_
  refine sq_box (by exact rfl) rfl (fun b3 => ?_)
  refine sq_y (OpY.s (y_assign (by exact rfl))) rfl ?_
  refine sq_nil ?_
  refine sx_then ?_
  refine sc_seq ?_
  refine sc_region ?_
  refine sq_alloc z93 rfl (fun b7 => ?_)
  refine sq_nil ?_
  refine sx_then ?_
  refine sc_seq ?_
  refine sc_seq ?_
  refine sc_region ?_
  refine sq_y (OpY.s (by first | exact y_fab Try.underlying24 (by exact rfl) (by exact Try.sizeOf22) (by exact rfl) rfl | exact y_fa Try.underlying24 (by exact rfl) (by exact Try.sizeOf22) (by exact rfl) rfl)) rfl ?_
  refine sq_y (OpY.s (by first | exact y_load_blk Try.underlying22 rfl (by exact rfl) (by repeat (first | exact .head _ | refine .tail _ ?_)) (by exact rfl) | exact y_load_caj Try.underlying22 rfl (by exact rfl) (by repeat (first | exact .head _ | refine .tail _ ?_)) (by assumption) (by exact rfl) | exact y_load_ca0 Try.underlying22 rfl (by exact rfl) (by repeat (first | exact .head _ | refine .tail _ ?_)) (by assumption) (by exact rfl))) rfl ?_
  refine sq_y (OpY.s (y_move (by exact rfl))) rfl ?_
  refine sq_y (OpY.s (by first | exact y_ia_blk Try.underlying22 Try.sizeOf66 (by exact rfl) (by exact rfl) (by omega) | exact y_ia_el Try.underlying22 Try.sizeOf66 (by exact rfl) (by exact rfl) (by omega) (by first | assumption | simp))) rfl ?_
  refine sq_y (OpY.s (by first | exact y_fab Try.underlying66 (by exact rfl) (by exact Try.sizeOf36) (by exact rfl) rfl | exact y_fa Try.underlying66 (by exact rfl) (by exact Try.sizeOf36) (by exact rfl) rfl)) rfl ?_
  refine sq_y (OpY.s (by first | exact y_load_blk Try.underlying36 rfl (by exact rfl) (by repeat (first | exact .head _ | refine .tail _ ?_)) (by exact rfl) | exact y_load_caj Try.underlying36 rfl (by exact rfl) (by repeat (first | exact .head _ | refine .tail _ ?_)) (by assumption) (by exact rfl) | exact y_load_ca0 Try.underlying36 rfl (by exact rfl) (by repeat (first | exact .head _ | refine .tail _ ?_)) (by assumption) (by exact rfl))) rfl ?_
  refine sq_y (OpY.s (y_len Try.underlying36 (by exact rfl))) rfl ?_
  refine sq_y (OpY.s (y_move (by exact rfl))) rfl ?_
  refine sq_nil ?_
  refine sx_then ?_
  refine sc_block ?_
  refine sc_loop (σ := Nat)
    (fun s => [(2, .int .i64 minute), (3, .pointer (some ⟨b3, 0, none⟩)), (6, .int .i64 0), (7, .pointer (some ⟨b7, 0, none⟩)), (18, .slice (f team) tm.brk.length (cf team)), (19, .int .i64 tm.brk.length), (20, .int .i64 s)])
    (fun s => [.blk b7 (.cells (offCells (offB (tm.brk.take s))).toArray 93 (0, 0)), .blk b3 (.cells (rcVal r a c).toArray 24 (0, 0)), .reg 0 w])
    (fun s => s ≤ tm.brk.length)
    (fun s => tm.brk.length - s)
    (0) ?_ (by repeat (first | exact SubL.nil | refine SubL.cons (by first | exact rfl | exact lk_int rfl (by omega) | exact lk_eq rfl (by simp)) ?_)) (by repeat (first | exact Sel.nil | refine Sel.cons (by repeat (first | exact Rem.here | apply Rem.there)) ?_)) ?_
  · exact Nat.zero_le _
  rintro k hk
  refine sc_seq ?_
  refine sc_region ?_
  refine sq_y (OpY.s (y_lss (by exact rfl) (by exact rfl))) rfl ?_
  refine sq_nil ?_
  refine sx_then ?_
  refine sc_seq ?_
  first | refine sc_if (by exact rfl) (fun hc0 => ?_) (fun hc0 => ?_) | refine sc_ifn (by exact rfl) (fun hc0 => ?_) (fun hc0 => ?_) | refine sc_cond (by exact rfl) (fun hc0 => ?_) (fun hc0 => ?_)
  ·
    have hk' : k < tm.brk.length := by omega
    obtain ⟨sp, hs⟩ : ∃ sp, tm.brk[k]? = some sp := ⟨_, List.getElem?_eq_getElem hk'⟩
    have hsm := (hbr.el k sp hs).1
    have hca := (hbr.el k sp hs).2
    have hsv := tmB_brk htm (List.mem_of_getElem? hs)
    refine sc_skip ?_
    refine sx_then ?_
    refine sc_seq ?_
    refine sc_block ?_
    refine sc_seq ?_
    refine sc_region ?_
    refine sq_y (OpY.s (by first | exact y_ia_blk Try.underlying36 Try.sizeOf32 (by exact rfl) (by exact rfl) (by omega) | exact y_ia_el Try.underlying36 Try.sizeOf32 (by exact rfl) (by exact rfl) (by omega) (by first | assumption | simp))) rfl ?_
    refine sq_y (OpY.s (by first | exact y_load_ca Try.underlying32 rfl Try.sizeOf32 (by exact rfl) (by repeat (first | exact .head _ | refine .tail _ ?_)) hca rfl | exact y_load_all Try.underlying32 rfl Try.sizeOf32 (by exact rfl) (by repeat (first | exact .head _ | refine .tail _ ?_)) (by exact rfl) | exact y_load_2 Try.underlying32 rfl Try.sizeOf32 (by exact rfl) (by repeat (first | exact .head _ | refine .tail _ ?_)) (by exact rfl) (by exact rfl) | exact y_load_ca Try.underlying32 rfl Try.sizeOf32 (by exact rfl) (by repeat (first | exact .head _ | refine .tail _ ?_)) (by assumption) (by exact rfl))) rfl ?_
    refine sq_alloc Try.zeroValue32 rfl (fun b9 => ?_)
    refine sq_store_all Try.sizeOf32 (by exact rfl) (by exact rfl) rfl (by repeat (first | exact Rem.here | apply Rem.there)) rfl rfl ?_
    refine sq_nil ?_
    refine sx_then ?_
    refine sc_seq ?_
    refine sc_region ?_
    refine sq_y (OpY.s (by first | exact y_fab Try.underlying32 (by exact rfl) (by exact Try.sizeOf3) (by exact rfl) rfl | exact y_fa Try.underlying32 (by exact rfl) (by exact Try.sizeOf3) (by exact rfl) rfl)) rfl ?_
    refine sq_y (OpY.s (by first | exact y_load_blk Try.underlying3 rfl (by exact rfl) (by repeat (first | exact .head _ | refine .tail _ ?_)) (by exact rfl) | exact y_load_caj Try.underlying3 rfl (by exact rfl) (by repeat (first | exact .head _ | refine .tail _ ?_)) (by assumption) (by exact rfl) | exact y_load_ca0 Try.underlying3 rfl (by exact rfl) (by repeat (first | exact .head _ | refine .tail _ ?_)) (by assumption) (by exact rfl))) rfl ?_
    refine sq_y (OpY.s (y_assign (by exact rfl))) rfl ?_
    refine sq_nil ?_
    refine sx_then ?_
    refine sc_block ?_
    have e0 : offCells (offB (tm.brk.take k)) = offCells (fun i => offB (tm.brk.take k) i || decide (sp.lo ≤ (i : Int) ∧ i < sp.lo.toNat)) := offCells_congr fun i hi => by
      have : ¬ (sp.lo ≤ (i : Int) ∧ i < sp.lo.toNat) := by omega
      rw [decide_eq_false this, Bool.or_false]
    rw [e0]
    refine sc_loop (σ := Nat)
      (fun s => [(2, .int .i64 minute), (3, .pointer (some ⟨b3, 0, none⟩)), (6, .int .i64 0), (7, .pointer (some ⟨b7, 0, none⟩)), (18, .slice (f team) tm.brk.length (cf team)), (19, .int .i64 tm.brk.length), (20, .int .i64 k), (9, .pointer (some ⟨b9, 0, none⟩)), (10, .int .i64 s)])
      (fun s => [.blk b7 (.cells (offCells (fun i => offB (tm.brk.take k) i || decide (sp.lo ≤ (i : Int) ∧ i < s))).toArray 93 (0, 0)), .blk b9 (.cells (spRow sp).toArray 32 (0, 0)), .blk b3 (.cells (rcVal r a c).toArray 24 (0, 0)), .reg 0 w])
      (fun s => sp.lo ≤ (s : Int) ∧ (s : Int) ≤ sp.hi + 1)
      (fun s => (sp.hi + 1 - s).toNat)
      (sp.lo.toNat) ?_ (by repeat (first | exact SubL.nil | refine SubL.cons (by first | exact rfl | exact lk_int rfl (by omega) | exact lk_eq rfl (by simp)) ?_)) (by repeat (first | exact Sel.nil | refine Sel.cons (by repeat (first | exact Rem.here | apply Rem.there)) ?_)) ?_
    · omega
    rintro m ⟨hm1, hm2⟩
    refine sc_seq ?_
    refine sc_seq ?_
    refine sc_region ?_
    refine sq_y (OpY.s (y_move (by exact rfl))) rfl ?_
    refine sq_y (OpY.s (by first | exact y_fab Try.underlying32 (by exact rfl) (by exact Try.sizeOf3) (by exact rfl) rfl | exact y_fa Try.underlying32 (by exact rfl) (by exact Try.sizeOf3) (by exact rfl) rfl)) rfl ?_
    refine sq_y (OpY.s (by first | exact y_load_blk Try.underlying3 rfl (by exact rfl) (by repeat (first | exact .head _ | refine .tail _ ?_)) (by exact rfl) | exact y_load_caj Try.underlying3 rfl (by exact rfl) (by repeat (first | exact .head _ | refine .tail _ ?_)) (by assumption) (by exact rfl) | exact y_load_ca0 Try.underlying3 rfl (by exact rfl) (by repeat (first | exact .head _ | refine .tail _ ?_)) (by assumption) (by exact rfl))) rfl ?_
    refine sq_y (OpY.s (y_leq (by exact rfl) (by exact rfl))) rfl ?_
    refine sq_nil ?_
    refine sx_then ?_
    first | refine sc_if (by exact rfl) (fun hc1 => ?_) (fun hc1 => ?_) | refine sc_ifn (by exact rfl) (fun hc1 => ?_) (fun hc1 => ?_) | refine sc_cond (by exact rfl) (fun hc1 => ?_) (fun hc1 => ?_)
    ·
      refine sc_skip ?_
      refine sx_then ?_
      refine sc_seq ?_
      refine sc_block ?_
      refine sc_region ?_
      refine sq_y (OpY.s (y_move (by exact rfl))) rfl ?_
      refine sq_y (OpY.s (y_ia_arr Try.underlying93 Try.sizeOf4 (by exact rfl) (by exact rfl) (by omega))) rfl ?_
      refine sq_store_eq Try.sizeOf4 (by exact rfl) (by exact rfl) rfl (by repeat (first | exact Rem.here | apply Rem.there)) (by rw [offCells_size]; omega) (offCells_set (g' := fun i => offB (tm.brk.take k) i || decide (sp.lo ≤ (i : Int) ∧ i < m + 1)) (fun i hi => ?_)) ?_
      · by_cases e : i = m
        · subst e; rw [if_pos rfl, decide_eq_true (by omega), Bool.or_true]
        · rw [if_neg e]; congr 1; exact decide_eq_decide.2 (by omega)
      refine sq_nil ?_
      refine sx_blk ?_
      refine sx_then ?_
      refine sc_region ?_
      refine sq_y (OpY.s (y_move (by exact rfl))) rfl ?_
      refine sq_y (OpY.s (y_add (by exact rfl) (by exact rfl) (by omega))) rfl ?_
      refine sq_y (OpY.s (y_assign (by exact rfl))) rfl ?_
      refine sq_nil ?_
      refine sx_round (m + 1) ?_ ?_ (by repeat (first | exact SubL.nil | refine SubL.cons (by first | exact rfl | exact lk_int rfl (by omega) | exact lk_eq rfl (by simp)) ?_)) (by repeat (first | exact Sel.nil | refine Sel.cons (by repeat (first | exact Rem.here | apply Rem.there)) ?_))
      · omega
      · omega
    ·
      have e1 : offCells (fun i => offB (tm.brk.take k) i || decide (sp.lo ≤ (i : Int) ∧ i < m)) = offCells (offB (tm.brk.take (k + 1))) := offCells_congr fun i hi => by
        rw [offB_take_succ hs]
        congr 1
        exact decide_eq_decide.2 (by omega)
      rw [e1]
      refine sc_exit ?_
      refine sx_then_exit ?_
      refine sx_round_exit ?_
      refine sx_blk_hit ?_
      refine sx_blk ?_
      refine sx_then ?_
      refine sc_region ?_
      refine sq_y (OpY.s (y_add (by exact rfl) (by exact rfl) (by omega))) rfl ?_
      refine sq_y (OpY.s (y_move (by exact rfl))) rfl ?_
      refine sq_nil ?_
      refine sx_round (k + 1) ?_ ?_ (by repeat (first | exact SubL.nil | refine SubL.cons (by first | exact rfl | exact lk_int rfl (by omega) | exact lk_eq rfl (by simp)) ?_)) (by repeat (first | exact Sel.nil | refine Sel.cons (by repeat (first | exact Rem.here | apply Rem.there)) ?_))
      · omega
      · omega
  ·
    have hkn : k = tm.brk.length := by omega
    subst hkn
    rw [List.take_length]
    refine sc_exit ?_
    refine sx_then_exit ?_
    refine sx_round_exit ?_
    refine sx_blk_hit ?_
    refine sx_then ?_
    refine sc_seq ?_
    refine sc_seq ?_
    refine sc_region ?_
    refine sq_y (OpY.s (y_move (by exact rfl))) rfl ?_
    refine sq_y (OpY.s (y_slice_arr Try.underlying93 Try.sizeOf4 (by exact rfl) (by exact rfl) (by omega))) rfl ?_
    refine sq_y (OpY.s (y_len Try.underlying94 (by exact rfl))) rfl ?_
    refine sq_y (OpY.s (y_move (by exact rfl))) rfl ?_
    refine sq_nil ?_
    refine sx_then ?_
    refine sc_block ?_
    refine sc_loop (σ := Nat)
      (fun s => [(3, .pointer (some ⟨b3, 0, none⟩)), (6, .int .i64 (cntW tm.brk s)), (36, .slice (some ⟨b7, 0, none⟩) minute 2001), (37, .int .i64 minute), (38, .int .i64 s)])
      (fun s => [.blk b7 (.cells (offCells (offB tm.brk)).toArray 93 (0, 0)), .blk b3 (.cells (rcVal r a c).toArray 24 (0, 0)), .reg 0 w])
      (fun s => s ≤ minute)
      (fun s => minute - s)
      (0) ?_ (by repeat (first | exact SubL.nil | refine SubL.cons (by first | exact rfl | exact lk_int rfl (by omega) | exact lk_eq rfl (by simp)) ?_)) (by repeat (first | exact Sel.nil | refine Sel.cons (by repeat (first | exact Rem.here | apply Rem.there)) ?_)) ?_
    · exact Nat.zero_le _
    rintro k hk
    have hcl := cntW_le tm.brk k
    refine sc_seq ?_
    refine sc_region ?_
    refine sq_y (OpY.s (y_lss (by exact rfl) (by exact rfl))) rfl ?_
    refine sq_nil ?_
    refine sx_then ?_
    refine sc_seq ?_
    first | refine sc_if (by exact rfl) (fun hc2 => ?_) (fun hc2 => ?_) | refine sc_ifn (by exact rfl) (fun hc2 => ?_) (fun hc2 => ?_) | refine sc_cond (by exact rfl) (fun hc2 => ?_) (fun hc2 => ?_)
    ·
      have hk' : k < minute := by omega
      refine sc_skip ?_
      refine sx_then ?_
      refine sc_seq ?_
      refine sc_block ?_
      refine sc_seq ?_
      refine sc_region ?_
      refine sq_y (OpY.s (by first | exact y_ia_blk Try.underlying94 Try.sizeOf4 (by exact rfl) (by exact rfl) (by omega) | exact y_ia_el Try.underlying94 Try.sizeOf4 (by exact rfl) (by exact rfl) (by omega) (by first | assumption | simp))) rfl ?_
      refine sq_y (OpY.s (by first | exact y_load_blk Try.underlying4 rfl (by exact rfl) (by repeat (first | exact .head _ | refine .tail _ ?_)) (offCells_get (by omega)) | exact y_load_blk Try.underlying4 rfl (by exact rfl) (by repeat (first | exact .head _ | refine .tail _ ?_)) (by exact rfl) | exact y_load_caj Try.underlying4 rfl (by exact rfl) (by repeat (first | exact .head _ | refine .tail _ ?_)) (by assumption) (by exact rfl) | exact y_load_ca0 Try.underlying4 rfl (by exact rfl) (by repeat (first | exact .head _ | refine .tail _ ?_)) (by assumption) (by exact rfl))) rfl ?_
      refine sq_y (OpY.s (y_assign (by exact rfl))) rfl ?_
      refine sq_nil ?_
      refine sx_then ?_
      refine sc_seq ?_
      refine sc_region ?_
      refine sq_y (OpY.s (y_move (by exact rfl))) rfl ?_
      refine sq_y (OpY.s (y_not (by exact rfl))) rfl ?_
      refine sq_nil ?_
      refine sx_then ?_
      first | refine sc_if (by exact rfl) (fun hc3 => ?_) (fun hc3 => ?_) | refine sc_ifn (by exact rfl) (fun hc3 => ?_) (fun hc3 => ?_) | refine sc_cond (by exact rfl) (fun hc3 => ?_) (fun hc3 => ?_)
      ·
        refine sc_region ?_
        refine sq_y (OpY.s (y_move (by exact rfl))) rfl ?_
        refine sq_y (OpY.s (y_add (by exact rfl) (by exact rfl) (by omega))) rfl ?_
        refine sq_y (OpY.s (y_assign (by exact rfl))) rfl ?_
        refine sq_nil ?_
        refine sx_blk ?_
        refine sx_then ?_
        refine sc_region ?_
        refine sq_y (OpY.s (y_add (by exact rfl) (by exact rfl) (by omega))) rfl ?_
        refine sq_y (OpY.s (y_move (by exact rfl))) rfl ?_
        refine sq_nil ?_
        refine sx_round (k + 1) ?_ ?_ (.cons (by exact rfl) (.cons (lk_int rfl (by rw [cntW_succ]; simp at hc3; simp [hc3])) (.cons (by exact rfl) (.cons (by exact rfl) (.cons (lk_int rfl (by omega)) .nil))))) (by repeat (first | exact Sel.nil | refine Sel.cons (by repeat (first | exact Rem.here | apply Rem.there)) ?_))
        · omega
        · omega
      ·
        refine sc_skip ?_
        refine sx_blk ?_
        refine sx_then ?_
        refine sc_region ?_
        refine sq_y (OpY.s (y_add (by exact rfl) (by exact rfl) (by omega))) rfl ?_
        refine sq_y (OpY.s (y_move (by exact rfl))) rfl ?_
        refine sq_nil ?_
        refine sx_round (k + 1) ?_ ?_ (.cons (by exact rfl) (.cons (lk_int rfl (by rw [cntW_succ]; simp at hc3; simp [hc3])) (.cons (by exact rfl) (.cons (by exact rfl) (.cons (lk_int rfl (by omega)) .nil))))) (by repeat (first | exact Sel.nil | refine Sel.cons (by repeat (first | exact Rem.here | apply Rem.there)) ?_))
        · omega
        · omega
    ·
      refine sc_exit ?_
      refine sx_then_exit ?_
      refine sx_round_exit ?_
      refine sx_blk_hit ?_
      refine sx_then ?_
      refine sc_seq ?_
      refine sc_region ?_
      refine sq_y (OpY.s (y_move (by exact rfl))) rfl ?_
      refine sq_y (OpY.s (by first | exact y_fab Try.underlying24 (by exact rfl) (by exact Try.sizeOf3) (by exact rfl) rfl | exact y_fa Try.underlying24 (by exact rfl) (by exact Try.sizeOf3) (by exact rfl) rfl)) rfl ?_
      refine sq_y (OpY.s (by first | exact y_load_blk Try.underlying3 rfl (by exact rfl) (by repeat (first | exact .head _ | refine .tail _ ?_)) (by exact rfl) | exact y_load_caj Try.underlying3 rfl (by exact rfl) (by repeat (first | exact .head _ | refine .tail _ ?_)) (by assumption) (by exact rfl) | exact y_load_ca0 Try.underlying3 rfl (by exact rfl) (by repeat (first | exact .head _ | refine .tail _ ?_)) (by assumption) (by exact rfl))) rfl ?_
      refine sq_y (OpY.s (y_min (by exact rfl) (by exact rfl))) rfl ?_
      refine sq_y (OpY.s (y_assign (by exact rfl))) rfl ?_
      refine sq_nil ?_
      refine sx_then ?_
      refine sc_ret ?_
      refine sx_ret1 (.inl rfl) rfl Try.results41 (by exact rfl) ?_
      intro w' hw'
      refine ⟨?_, hw'.below (by repeat (first | exact .head _ | refine .tail _ ?_))⟩
      have hkm : k = minute := by omega
      subst hkm
      unfold wrk; rw [hbrk]; congr 2; omega
end Go.Proofs.Ytegdfpilhlcplaa
