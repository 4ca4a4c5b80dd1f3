/- The walks of the functions that look at races and words, and of Worked. -/
import Derived.Test.YtegdfpilhlcplaaWalk3
namespace Go.Proofs.Ytegdfpilhlcplaa
open Go Go.Eng Go.RowKit Go.Proofs
theorem rcB_bad {r : Rc} {i : Nat} (hi : i < r.teams.length) (h : tmB (r.teams.getD i tm0) = false) : rcB r = false := by
  cases hb : rcB r
  · rfl
  · have := rcB_team hb (List.mem_of_getElem? (get_of_lt tm0 hi)); rw [h] at this; cases this
theorem tmB_pen {t : Tm} (h : ¬ (0 ≤ t.pen ∧ t.pen ≤ 1000)) : tmB t = false := by unfold tmB; rw [decide_eq_false h]; rfl
theorem tmB_len {t : Tm} (h : 4 < (t.brk.length : Int)) : tmB t = false := by unfold tmB; rw [decide_eq_true h]; simp
theorem tmB_bad {t : Tm} {i : Nat} (hi : i < t.brk.length) (h : spB (t.brk.getD i sp0) 0 2000 = false) : tmB t = false := by
  cases hb : tmB t
  · rfl
  · have h2 : spB (t.brk.getD i sp0) 0 2000 = true := by
      simp only [tmB, Bool.and_eq_true, List.all_eq_true] at hb
      exact hb.2 _ (List.mem_of_getElem? (get_of_lt sp0 hi))
    rw [h] at h2; cases h2
theorem all_of_getD {α : Type} (l : List α) (d : α) (p : α → Bool) (h : ∀ j, j < l.length → p (l.getD j d) = true) : l.all p = true := by
  rw [List.all_eq_true]
  intro x hx
  obtain ⟨i, hi, rfl⟩ := List.getElem_of_mem hx
  have := h i hi
  rwa [List.getD_eq_getElem?_getD, List.getElem?_eq_getElem hi] at this

theorem race31 (w : World) (v : Value) (r : Rc) (hr : RcA 0 w v r) : Calls Try.prog 31 #[v] w fun e w' => e = .returned (.bool (rcB r)) ∧ Below w.heap.size w w' := by
  obtain ⟨a, c, f, cf, rfl, hT⟩ := hr.ex
  have hlen := hT.len
  refine calls_of_SC (args := [.agg (rcVal r a c).toArray]) Try.func31 rfl Try.ntmps31 rfl ?_
  simp only [argL]
  refine sc_seq ?_
  refine sc_region ?_
  refine sq_box (by exact rfl) rfl (fun b1 => ?_)
  refine sq_y (OpY.s (y_assign (by exact rfl))) rfl ?_
  refine sq_nil ?_
  refine sx_then ?_
  refine sc_seq ?_
  refine sc_seq ?_
  refine sc_region ?_
  refine sq_y (OpY.s (by first | exact y_fab Try.underlying24 (by exact rfl) (by exact Try.sizeOf3) (by exact rfl) rfl | exact y_fa Try.underlying24 (by exact rfl) (by exact Try.sizeOf3) (by exact rfl) rfl)) rfl ?_
  refine sq_y (OpY.s (by first | exact y_load_blk Try.underlying3 rfl (by exact rfl) (by repeat (first | exact .head _ | refine .tail _ ?_)) (by exact rfl) | exact y_load_caj Try.underlying3 rfl (by exact rfl) (by repeat (first | exact .head _ | refine .tail _ ?_)) (by assumption) (by exact rfl) | exact y_load_ca0 Try.underlying3 rfl (by exact rfl) (by repeat (first | exact .head _ | refine .tail _ ?_)) (by assumption) (by exact rfl))) rfl ?_
  refine sq_y (y_call (first := []) (caps := []) (by exact rfl) Try.call42 (EvL.cons (by exact rfl) (EvL.cons (by exact rfl) (EvL.cons (by exact rfl) EvL.nil))) (fun w1 _ => within42 _ _ _ w1)) rfl ?_
  refine sq_y (OpY.s (y_not (by exact rfl))) rfl ?_
  refine sq_y (OpY.s (y_move (by exact rfl))) rfl ?_
  first | refine sq_splitd (tt := 10) (by exact rfl) (fun hg1_4 => ?_) (fun hg1_4 => ?_) | refine sq_splitn (tt := 10) (by exact rfl) (fun hg1_4 => ?_) (fun hg1_4 => ?_) | refine sq_split (tt := 10) (by exact rfl) (fun hg1_4 => ?_) (fun hg1_4 => ?_)
  ·
    refine sq_gf (by exact rfl) (by exact rfl) (by exact rfl) rfl ?_
    refine sq_gf (by exact rfl) (by exact rfl) (by exact rfl) rfl ?_
    refine sq_gf (by exact rfl) (by exact rfl) (by exact rfl) rfl ?_
    refine sq_gf (by exact rfl) (by exact rfl) (by exact rfl) rfl ?_
    refine sq_y (OpY.s (y_pick_t (by exact rfl) (by exact rfl))) rfl ?_
    refine sq_y (OpY.s (y_move (by exact rfl))) rfl ?_
    refine sq_gf (by exact rfl) (by exact rfl) (by exact rfl) rfl ?_
    refine sq_gf (by exact rfl) (by exact rfl) (by exact rfl) rfl ?_
    refine sq_gf (by exact rfl) (by exact rfl) (by exact rfl) rfl ?_
    refine sq_gf (by exact rfl) (by exact rfl) (by exact rfl) rfl ?_
    refine sq_y (OpY.s (y_pick_t (by exact rfl) (by exact rfl))) rfl ?_
    refine sq_y (OpY.s (y_move (by exact rfl))) rfl ?_
    refine sq_gf (by exact rfl) (by exact rfl) (by exact rfl) rfl ?_
    refine sq_gf (by exact rfl) (by exact rfl) (by exact rfl) rfl ?_
    refine sq_gf (by exact rfl) (by exact rfl) (by exact rfl) rfl ?_
    refine sq_gf (by exact rfl) (by exact rfl) (by exact rfl) rfl ?_
    refine sq_gf (by exact rfl) (by exact rfl) (by exact rfl) rfl ?_
    refine sq_y (OpY.s (y_pick_t (by exact rfl) (by exact rfl))) rfl ?_
    refine sq_nil ?_
    refine sx_then ?_
    refine sc_t (by exact rfl) ?_
    refine sc_seq ?_
    refine sc_region ?_
    refine sq_y (OpY.s (y_assign (by exact rfl))) rfl ?_
    refine sq_nil ?_
    refine sx_then ?_
    refine sc_ret ?_
    refine sx_then_ret ?_
    refine sx_ret1 (.inl rfl) rfl Try.results31 (by exact rfl) ?_
    intro w' hw'
    refine ⟨?_, hw'.below (by repeat (first | exact .head _ | refine .tail _ ?_))⟩
    have hb : rcB r = false := by unfold rcB; simp [*]
    rw [hb]
  ·
    refine sq_gt (by exact rfl) (by exact rfl) (OpY.s (by first | exact y_fab Try.underlying24 (by exact rfl) (by exact Try.sizeOf3) (by exact rfl) rfl | exact y_fa Try.underlying24 (by exact rfl) (by exact Try.sizeOf3) (by exact rfl) rfl)) rfl ?_
    refine sq_gt (by exact rfl) (by exact rfl) (OpY.s (by first | exact y_load_blk Try.underlying3 rfl (by exact rfl) (by repeat (first | exact .head _ | refine .tail _ ?_)) (by exact rfl) | exact y_load_caj Try.underlying3 rfl (by exact rfl) (by repeat (first | exact .head _ | refine .tail _ ?_)) (by assumption) (by exact rfl) | exact y_load_ca0 Try.underlying3 rfl (by exact rfl) (by repeat (first | exact .head _ | refine .tail _ ?_)) (by assumption) (by exact rfl))) rfl ?_
    refine sq_gt (by exact rfl) (by exact rfl) (y_call (first := []) (caps := []) (by exact rfl) Try.call42 (EvL.cons (by exact rfl) (EvL.cons (by exact rfl) (EvL.cons (by exact rfl) EvL.nil))) (fun w1 _ => within42 _ _ _ w1)) rfl ?_
    refine sq_gt (by exact rfl) (by exact rfl) (OpY.s (y_not (by exact rfl))) rfl ?_
    refine sq_y (OpY.s (y_pick_f (by exact rfl) (by exact rfl))) rfl ?_
    refine sq_y (OpY.s (y_move (by exact rfl))) rfl ?_
    first | refine sq_splitd (tt := 16) (by exact rfl) (fun hg1_10 => ?_) (fun hg1_10 => ?_) | refine sq_splitn (tt := 16) (by exact rfl) (fun hg1_10 => ?_) (fun hg1_10 => ?_) | refine sq_split (tt := 16) (by exact rfl) (fun hg1_10 => ?_) (fun hg1_10 => ?_)
    ·
      refine sq_gf (by exact rfl) (by exact rfl) (by exact rfl) rfl ?_
      refine sq_gf (by exact rfl) (by exact rfl) (by exact rfl) rfl ?_
      refine sq_gf (by exact rfl) (by exact rfl) (by exact rfl) rfl ?_
      refine sq_gf (by exact rfl) (by exact rfl) (by exact rfl) rfl ?_
      refine sq_y (OpY.s (y_pick_t (by exact rfl) (by exact rfl))) rfl ?_
      refine sq_y (OpY.s (y_move (by exact rfl))) rfl ?_
      refine sq_gf (by exact rfl) (by exact rfl) (by exact rfl) rfl ?_
      refine sq_gf (by exact rfl) (by exact rfl) (by exact rfl) rfl ?_
      refine sq_gf (by exact rfl) (by exact rfl) (by exact rfl) rfl ?_
      refine sq_gf (by exact rfl) (by exact rfl) (by exact rfl) rfl ?_
      refine sq_gf (by exact rfl) (by exact rfl) (by exact rfl) rfl ?_
      refine sq_y (OpY.s (y_pick_t (by exact rfl) (by exact rfl))) rfl ?_
      refine sq_nil ?_
      refine sx_then ?_
      refine sc_t (by exact rfl) ?_
      refine sc_seq ?_
      refine sc_region ?_
      refine sq_y (OpY.s (y_assign (by exact rfl))) rfl ?_
      refine sq_nil ?_
      refine sx_then ?_
      refine sc_ret ?_
      refine sx_then_ret ?_
      refine sx_ret1 (.inl rfl) rfl Try.results31 (by exact rfl) ?_
      intro w' hw'
      refine ⟨?_, hw'.below (by repeat (first | exact .head _ | refine .tail _ ?_))⟩
      have hb : rcB r = false := by unfold rcB; simp [*]
      rw [hb]
    ·
      refine sq_gt (by exact rfl) (by exact rfl) (OpY.s (by first | exact y_fab Try.underlying24 (by exact rfl) (by exact Try.sizeOf3) (by exact rfl) rfl | exact y_fa Try.underlying24 (by exact rfl) (by exact Try.sizeOf3) (by exact rfl) rfl)) rfl ?_
      refine sq_gt (by exact rfl) (by exact rfl) (OpY.s (by first | exact y_load_blk Try.underlying3 rfl (by exact rfl) (by repeat (first | exact .head _ | refine .tail _ ?_)) (by exact rfl) | exact y_load_caj Try.underlying3 rfl (by exact rfl) (by repeat (first | exact .head _ | refine .tail _ ?_)) (by assumption) (by exact rfl) | exact y_load_ca0 Try.underlying3 rfl (by exact rfl) (by repeat (first | exact .head _ | refine .tail _ ?_)) (by assumption) (by exact rfl))) rfl ?_
      refine sq_gt (by exact rfl) (by exact rfl) (y_call (first := []) (caps := []) (by exact rfl) Try.call42 (EvL.cons (by exact rfl) (EvL.cons (by exact rfl) (EvL.cons (by exact rfl) EvL.nil))) (fun w1 _ => within42 _ _ _ w1)) rfl ?_
      refine sq_gt (by exact rfl) (by exact rfl) (OpY.s (y_not (by exact rfl))) rfl ?_
      refine sq_y (OpY.s (y_pick_f (by exact rfl) (by exact rfl))) rfl ?_
      refine sq_y (OpY.s (y_move (by exact rfl))) rfl ?_
      first | refine sq_splitd (tt := 22) (by exact rfl) (fun hg1_16 => ?_) (fun hg1_16 => ?_) | refine sq_splitn (tt := 22) (by exact rfl) (fun hg1_16 => ?_) (fun hg1_16 => ?_) | refine sq_split (tt := 22) (by exact rfl) (fun hg1_16 => ?_) (fun hg1_16 => ?_)
      ·
        refine sq_gf (by exact rfl) (by exact rfl) (by exact rfl) rfl ?_
        refine sq_gf (by exact rfl) (by exact rfl) (by exact rfl) rfl ?_
        refine sq_gf (by exact rfl) (by exact rfl) (by exact rfl) rfl ?_
        refine sq_gf (by exact rfl) (by exact rfl) (by exact rfl) rfl ?_
        refine sq_gf (by exact rfl) (by exact rfl) (by exact rfl) rfl ?_
        refine sq_y (OpY.s (y_pick_t (by exact rfl) (by exact rfl))) rfl ?_
        refine sq_nil ?_
        refine sx_then ?_
        refine sc_t (by exact rfl) ?_
        refine sc_seq ?_
        refine sc_region ?_
        refine sq_y (OpY.s (y_assign (by exact rfl))) rfl ?_
        refine sq_nil ?_
        refine sx_then ?_
        refine sc_ret ?_
        refine sx_then_ret ?_
        refine sx_ret1 (.inl rfl) rfl Try.results31 (by exact rfl) ?_
        intro w' hw'
        refine ⟨?_, hw'.below (by repeat (first | exact .head _ | refine .tail _ ?_))⟩
        have hb : rcB r = false := by unfold rcB; simp [*]
        rw [hb]
      ·
        refine sq_gt (by exact rfl) (by exact rfl) (OpY.s (by first | exact y_fab Try.underlying24 (by exact rfl) (by exact Try.sizeOf22) (by exact rfl) rfl | exact y_fa Try.underlying24 (by exact rfl) (by exact Try.sizeOf22) (by exact rfl) rfl)) rfl ?_
        refine sq_gt (by exact rfl) (by exact rfl) (OpY.s (by first | exact y_load_blk Try.underlying22 rfl (by exact rfl) (by repeat (first | exact .head _ | refine .tail _ ?_)) (by exact rfl) | exact y_load_caj Try.underlying22 rfl (by exact rfl) (by repeat (first | exact .head _ | refine .tail _ ?_)) (by assumption) (by exact rfl) | exact y_load_ca0 Try.underlying22 rfl (by exact rfl) (by repeat (first | exact .head _ | refine .tail _ ?_)) (by assumption) (by exact rfl))) rfl ?_
        refine sq_gt (by exact rfl) (by exact rfl) (OpY.s (y_len Try.underlying22 (by exact rfl))) rfl ?_
        refine sq_gt (by exact rfl) (by exact rfl) (y_call (first := []) (caps := []) (by exact rfl) Try.call42 (EvL.cons (by exact rfl) (EvL.cons (by exact rfl) (EvL.cons (by exact rfl) EvL.nil))) (fun w1 _ => within42 _ _ _ w1)) rfl ?_
        refine sq_gt (by exact rfl) (by exact rfl) (OpY.s (y_not (by exact rfl))) rfl ?_
        refine sq_y (OpY.s (y_pick_f (by exact rfl) (by exact rfl))) rfl ?_
        refine sq_nil ?_
        refine sx_then ?_
        first | refine sc_if (by exact rfl) (fun hc0 => ?_) (fun hc0 => ?_) | refine sc_ifn (by exact rfl) (fun hc0 => ?_) (fun hc0 => ?_) | refine sc_cond (by exact rfl) (fun hc0 => ?_) (fun hc0 => ?_)
        ·
          refine sc_seq ?_
          refine sc_region ?_
          refine sq_y (OpY.s (y_assign (by exact rfl))) rfl ?_
          refine sq_nil ?_
          refine sx_then ?_
          refine sc_ret ?_
          refine sx_then_ret ?_
          refine sx_ret1 (.inl rfl) rfl Try.results31 (by exact rfl) ?_
          intro w' hw'
          refine ⟨?_, hw'.below (by repeat (first | exact .head _ | refine .tail _ ?_))⟩
          have hb : rcB r = false := by unfold rcB; simp [*]
          rw [hb]
        ·
          refine sc_skip ?_
          refine sx_then ?_
          refine sc_seq ?_
          refine sc_seq ?_
          refine sc_region ?_
          refine sq_y (OpY.s (y_assign (by exact rfl))) rfl ?_
          refine sq_nil ?_
          refine sx_then ?_
          refine sc_block ?_
          refine sc_loop (σ := Nat)
            (fun s => [(1, .pointer (some ⟨b1, 0, none⟩)), (3, .int .i64 s)])
            (fun s => [.blk b1 (.cells (rcVal r a c).toArray 24 (0, 0)), .reg 0 w])
            (fun s => s ≤ r.teams.length ∧ ∀ j, j < s → tmB (r.teams.getD j tm0) = true)
            (fun s => r.teams.length - s)
            (0) ?_ (by repeat (first | exact SubL.nil | refine SubL.cons (by first | exact rfl | exact lk_int rfl (by omega) | exact lk_eq rfl (by simp)) ?_)) (by repeat (first | exact Sel.nil | refine Sel.cons (by repeat (first | exact Rem.here | apply Rem.there)) ?_)) ?_
          · exact ⟨Nat.zero_le _, fun j hj => absurd hj (Nat.not_lt_zero j)⟩
          rintro i ⟨hi, hall⟩
          refine sc_seq ?_
          refine sc_seq ?_
          refine sc_region ?_
          refine sq_y (OpY.s (y_move (by exact rfl))) rfl ?_
          refine sq_y (OpY.s (by first | exact y_fab Try.underlying24 (by exact rfl) (by exact Try.sizeOf22) (by exact rfl) rfl | exact y_fa Try.underlying24 (by exact rfl) (by exact Try.sizeOf22) (by exact rfl) rfl)) rfl ?_
          refine sq_y (OpY.s (by first | exact y_load_blk Try.underlying22 rfl (by exact rfl) (by repeat (first | exact .head _ | refine .tail _ ?_)) (by exact rfl) | exact y_load_caj Try.underlying22 rfl (by exact rfl) (by repeat (first | exact .head _ | refine .tail _ ?_)) (by assumption) (by exact rfl) | exact y_load_ca0 Try.underlying22 rfl (by exact rfl) (by repeat (first | exact .head _ | refine .tail _ ?_)) (by assumption) (by exact rfl))) rfl ?_
          refine sq_y (OpY.s (y_len Try.underlying22 (by exact rfl))) rfl ?_
          refine sq_y (OpY.s (y_lss (by exact rfl) (by exact rfl))) rfl ?_
          refine sq_nil ?_
          refine sx_then ?_
          first | refine sc_if (by exact rfl) (fun hc1 => ?_) (fun hc1 => ?_) | refine sc_ifn (by exact rfl) (fun hc1 => ?_) (fun hc1 => ?_) | refine sc_cond (by exact rfl) (fun hc1 => ?_) (fun hc1 => ?_)
          ·
            have hi' : i < r.teams.length := by omega
            have hsm := (hT.row i hi').1
            have hca := (hT.row i hi').2.2
            have hbr := hT.br i _ (get_of_lt tm0 hi')
            have hlb := hbr.len
            refine sc_skip ?_
            refine sx_then ?_
            refine sc_seq ?_
            refine sc_block ?_
            refine sc_seq ?_
            refine sc_region ?_
            refine sq_y (OpY.s (by first | exact y_fab Try.underlying24 (by exact rfl) (by exact Try.sizeOf22) (by exact rfl) rfl | exact y_fa Try.underlying24 (by exact rfl) (by exact Try.sizeOf22) (by exact rfl) rfl)) rfl ?_
            refine sq_y (OpY.s (by first | exact y_load_blk Try.underlying22 rfl (by exact rfl) (by repeat (first | exact .head _ | refine .tail _ ?_)) (by exact rfl) | exact y_load_caj Try.underlying22 rfl (by exact rfl) (by repeat (first | exact .head _ | refine .tail _ ?_)) (by assumption) (by exact rfl) | exact y_load_ca0 Try.underlying22 rfl (by exact rfl) (by repeat (first | exact .head _ | refine .tail _ ?_)) (by assumption) (by exact rfl))) rfl ?_
            refine sq_y (OpY.s (y_move (by exact rfl))) rfl ?_
            refine sq_y (OpY.s (by first | exact y_ia_blk Try.underlying22 Try.sizeOf66 (by exact rfl) (by exact rfl) (by omega) | exact y_ia_el Try.underlying22 Try.sizeOf66 (by exact rfl) (by exact rfl) (by omega) (by first | assumption | simp))) rfl ?_
            refine sq_y (OpY.s (by first | exact y_load_ca Try.underlying66 rfl Try.sizeOf66 (by exact rfl) (by repeat (first | exact .head _ | refine .tail _ ?_)) hca rfl | exact y_load_all Try.underlying66 rfl Try.sizeOf66 (by exact rfl) (by repeat (first | exact .head _ | refine .tail _ ?_)) (by exact rfl) | exact y_load_2 Try.underlying66 rfl Try.sizeOf66 (by exact rfl) (by repeat (first | exact .head _ | refine .tail _ ?_)) (by exact rfl) (by exact rfl) | exact y_load_ca Try.underlying66 rfl Try.sizeOf66 (by exact rfl) (by repeat (first | exact .head _ | refine .tail _ ?_)) (by assumption) (by exact rfl))) rfl ?_
            refine sq_alloc Try.zeroValue66 rfl (fun b4 => ?_)
            refine sq_store_all Try.sizeOf66 (by exact rfl) (by exact rfl) rfl (by repeat (first | exact Rem.here | apply Rem.there)) rfl rfl ?_
            refine sq_nil ?_
            refine sx_then ?_
            refine sc_seq ?_
            refine sc_seq ?_
            refine sc_region ?_
            refine sq_y (OpY.s (by first | exact y_fab Try.underlying66 (by exact rfl) (by exact Try.sizeOf3) (by exact rfl) rfl | exact y_fa Try.underlying66 (by exact rfl) (by exact Try.sizeOf3) (by exact rfl) rfl)) rfl ?_
            refine sq_y (OpY.s (by first | exact y_load_blk Try.underlying3 rfl (by exact rfl) (by repeat (first | exact .head _ | refine .tail _ ?_)) (by exact rfl) | exact y_load_caj Try.underlying3 rfl (by exact rfl) (by repeat (first | exact .head _ | refine .tail _ ?_)) (by assumption) (by exact rfl) | exact y_load_ca0 Try.underlying3 rfl (by exact rfl) (by repeat (first | exact .head _ | refine .tail _ ?_)) (by assumption) (by exact rfl))) rfl ?_
            refine sq_y (y_call (first := []) (caps := []) (by exact rfl) Try.call42 (EvL.cons (by exact rfl) (EvL.cons (by exact rfl) (EvL.cons (by exact rfl) EvL.nil))) (fun w1 _ => within42 _ _ _ w1)) rfl ?_
            refine sq_y (OpY.s (y_not (by exact rfl))) rfl ?_
            refine sq_y (OpY.s (y_move (by exact rfl))) rfl ?_
            first | refine sq_splitd (tt := 45) (by exact rfl) (fun hg7_4 => ?_) (fun hg7_4 => ?_) | refine sq_splitn (tt := 45) (by exact rfl) (fun hg7_4 => ?_) (fun hg7_4 => ?_) | refine sq_split (tt := 45) (by exact rfl) (fun hg7_4 => ?_) (fun hg7_4 => ?_)
            ·
              refine sq_gf (by exact rfl) (by exact rfl) (by exact rfl) rfl ?_
              refine sq_gf (by exact rfl) (by exact rfl) (by exact rfl) rfl ?_
              refine sq_gf (by exact rfl) (by exact rfl) (by exact rfl) rfl ?_
              refine sq_gf (by exact rfl) (by exact rfl) (by exact rfl) rfl ?_
              refine sq_y (OpY.s (y_pick_t (by exact rfl) (by exact rfl))) rfl ?_
              refine sq_nil ?_
              refine sx_then ?_
              refine sc_t (by exact rfl) ?_
              refine sc_seq ?_
              refine sc_region ?_
              refine sq_y (OpY.s (y_assign (by exact rfl))) rfl ?_
              refine sq_nil ?_
              refine sx_then ?_
              refine sc_ret ?_
              refine sx_then_ret ?_
              refine sx_blk_ret ?_
              refine sx_then_ret ?_
              refine sx_round_ret ?_
              refine sx_blk_ret ?_
              refine sx_then_ret ?_
              refine sx_ret1 (.inl rfl) rfl Try.results31 (by exact rfl) ?_
              intro w' hw'
              refine ⟨?_, hw'.below (by repeat (first | exact .head _ | refine .tail _ ?_))⟩
              rw [rcB_bad hi' (tmB_pen hg7_4)]
            ·
              refine sq_gt (by exact rfl) (by exact rfl) (OpY.s (by first | exact y_fab Try.underlying66 (by exact rfl) (by exact Try.sizeOf36) (by exact rfl) rfl | exact y_fa Try.underlying66 (by exact rfl) (by exact Try.sizeOf36) (by exact rfl) rfl)) rfl ?_
              refine sq_gt (by exact rfl) (by exact rfl) (OpY.s (by first | exact y_load_blk Try.underlying36 rfl (by exact rfl) (by repeat (first | exact .head _ | refine .tail _ ?_)) (by exact rfl) | exact y_load_caj Try.underlying36 rfl (by exact rfl) (by repeat (first | exact .head _ | refine .tail _ ?_)) (by assumption) (by exact rfl) | exact y_load_ca0 Try.underlying36 rfl (by exact rfl) (by repeat (first | exact .head _ | refine .tail _ ?_)) (by assumption) (by exact rfl))) rfl ?_
              refine sq_gt (by exact rfl) (by exact rfl) (OpY.s (y_len Try.underlying36 (by exact rfl))) rfl ?_
              refine sq_gt (by exact rfl) (by exact rfl) (OpY.s (y_gtr (by exact rfl) (by exact rfl))) rfl ?_
              refine sq_y (OpY.s (y_pick_f (by exact rfl) (by exact rfl))) rfl ?_
              refine sq_nil ?_
              refine sx_then ?_
              first | refine sc_if (by exact rfl) (fun hc2 => ?_) (fun hc2 => ?_) | refine sc_ifn (by exact rfl) (fun hc2 => ?_) (fun hc2 => ?_) | refine sc_cond (by exact rfl) (fun hc2 => ?_) (fun hc2 => ?_)
              ·
                refine sc_seq ?_
                refine sc_region ?_
                refine sq_y (OpY.s (y_assign (by exact rfl))) rfl ?_
                refine sq_nil ?_
                refine sx_then ?_
                refine sc_ret ?_
                refine sx_then_ret ?_
                refine sx_blk_ret ?_
                refine sx_then_ret ?_
                refine sx_round_ret ?_
                refine sx_blk_ret ?_
                refine sx_then_ret ?_
                refine sx_ret1 (.inl rfl) rfl Try.results31 (by exact rfl) ?_
                intro w' hw'
                refine ⟨?_, hw'.below (by repeat (first | exact .head _ | refine .tail _ ?_))⟩
                rw [rcB_bad hi' (tmB_len hc2)]
              ·
                refine sc_skip ?_
                refine sx_then ?_
                refine sc_seq ?_
                refine sc_region ?_
                refine sq_y (OpY.s (y_assign (by exact rfl))) rfl ?_
                refine sq_nil ?_
                refine sx_then ?_
                refine sc_block ?_
                refine sc_loop (σ := Nat)
                  (fun s => [(1, .pointer (some ⟨b1, 0, none⟩)), (3, .int .i64 i), (4, .pointer (some ⟨b4, 0, none⟩)), (5, .int .i64 s)])
                  (fun s => [.blk b4 (.cells (tmRow r.teams f cf i).toArray 66 (0, 0)), .blk b1 (.cells (rcVal r a c).toArray 24 (0, 0)), .reg 0 w])
                  (fun s => s ≤ (r.teams.getD i tm0).brk.length ∧ ∀ j, j < s → spB ((r.teams.getD i tm0).brk.getD j sp0) 0 2000 = true)
                  (fun s => (r.teams.getD i tm0).brk.length - s)
                  (0) ?_ (by repeat (first | exact SubL.nil | refine SubL.cons (by first | exact rfl | exact lk_int rfl (by omega) | exact lk_eq rfl (by simp)) ?_)) (by repeat (first | exact Sel.nil | refine Sel.cons (by repeat (first | exact Rem.here | apply Rem.there)) ?_)) ?_
                · exact ⟨Nat.zero_le _, fun j hj => absurd hj (Nat.not_lt_zero j)⟩
                rintro k ⟨hk, hok⟩
                refine sc_seq ?_
                refine sc_seq ?_
                refine sc_region ?_
                refine sq_y (OpY.s (y_move (by exact rfl))) rfl ?_
                refine sq_y (OpY.s (by first | exact y_fab Try.underlying66 (by exact rfl) (by exact Try.sizeOf36) (by exact rfl) rfl | exact y_fa Try.underlying66 (by exact rfl) (by exact Try.sizeOf36) (by exact rfl) rfl)) rfl ?_
                refine sq_y (OpY.s (by first | exact y_load_blk Try.underlying36 rfl (by exact rfl) (by repeat (first | exact .head _ | refine .tail _ ?_)) (by exact rfl) | exact y_load_caj Try.underlying36 rfl (by exact rfl) (by repeat (first | exact .head _ | refine .tail _ ?_)) (by assumption) (by exact rfl) | exact y_load_ca0 Try.underlying36 rfl (by exact rfl) (by repeat (first | exact .head _ | refine .tail _ ?_)) (by assumption) (by exact rfl))) rfl ?_
                refine sq_y (OpY.s (y_len Try.underlying36 (by exact rfl))) rfl ?_
                refine sq_y (OpY.s (y_lss (by exact rfl) (by exact rfl))) rfl ?_
                refine sq_nil ?_
                refine sx_then ?_
                first | refine sc_if (by exact rfl) (fun hc3 => ?_) (fun hc3 => ?_) | refine sc_ifn (by exact rfl) (fun hc3 => ?_) (fun hc3 => ?_) | refine sc_cond (by exact rfl) (fun hc3 => ?_) (fun hc3 => ?_)
                ·
                  have hk' : k < (r.teams.getD i tm0).brk.length := by omega
                  have hsk := (hbr.row k hk').1
                  have hck := (hbr.row k hk').2.2
                  refine sc_skip ?_
                  refine sx_then ?_
                  refine sc_seq ?_
                  refine sc_block ?_
                  refine sc_seq ?_
                  refine sc_region ?_
                  refine sq_y (OpY.s (by first | exact y_fab Try.underlying66 (by exact rfl) (by exact Try.sizeOf36) (by exact rfl) rfl | exact y_fa Try.underlying66 (by exact rfl) (by exact Try.sizeOf36) (by exact rfl) rfl)) rfl ?_
                  refine sq_y (OpY.s (by first | exact y_load_blk Try.underlying36 rfl (by exact rfl) (by repeat (first | exact .head _ | refine .tail _ ?_)) (by exact rfl) | exact y_load_caj Try.underlying36 rfl (by exact rfl) (by repeat (first | exact .head _ | refine .tail _ ?_)) (by assumption) (by exact rfl) | exact y_load_ca0 Try.underlying36 rfl (by exact rfl) (by repeat (first | exact .head _ | refine .tail _ ?_)) (by assumption) (by exact rfl))) rfl ?_
                  refine sq_y (OpY.s (y_move (by exact rfl))) rfl ?_
                  refine sq_y (OpY.s (by first | exact y_ia_blk Try.underlying36 Try.sizeOf32 (by exact rfl) (by exact rfl) (by omega) | exact y_ia_el Try.underlying36 Try.sizeOf32 (by exact rfl) (by exact rfl) (by omega) (by first | assumption | simp))) rfl ?_
                  refine sq_y (OpY.s (by first | exact y_load_ca Try.underlying32 rfl Try.sizeOf32 (by exact rfl) (by repeat (first | exact .head _ | refine .tail _ ?_)) hck rfl | exact y_load_all Try.underlying32 rfl Try.sizeOf32 (by exact rfl) (by repeat (first | exact .head _ | refine .tail _ ?_)) (by exact rfl) | exact y_load_2 Try.underlying32 rfl Try.sizeOf32 (by exact rfl) (by repeat (first | exact .head _ | refine .tail _ ?_)) (by exact rfl) (by exact rfl) | exact y_load_ca Try.underlying32 rfl Try.sizeOf32 (by exact rfl) (by repeat (first | exact .head _ | refine .tail _ ?_)) (by assumption) (by exact rfl))) rfl ?_
                  refine sq_y (y_call (first := []) (caps := []) (by exact rfl) Try.call62 (EvL.cons (by exact rfl) (EvL.cons (by exact rfl) (EvL.cons (by exact rfl) EvL.nil))) (fun w1 _ => isSpan62 ((r.teams.getD i tm0).brk.getD k sp0) _ _ w1)) rfl ?_
                  refine sq_y (OpY.s (y_not (by exact rfl))) rfl ?_
                  refine sq_nil ?_
                  refine sx_then ?_
                  first | refine sc_if (by exact rfl) (fun hc4 => ?_) (fun hc4 => ?_) | refine sc_ifn (by exact rfl) (fun hc4 => ?_) (fun hc4 => ?_) | refine sc_cond (by exact rfl) (fun hc4 => ?_) (fun hc4 => ?_)
                  ·
                    refine sc_seq ?_
                    refine sc_region ?_
                    refine sq_y (OpY.s (y_assign (by exact rfl))) rfl ?_
                    refine sq_nil ?_
                    refine sx_then ?_
                    refine sc_ret ?_
                    refine sx_blk_ret ?_
                    refine sx_then_ret ?_
                    refine sx_round_ret ?_
                    refine sx_blk_ret ?_
                    refine sx_blk_ret ?_
                    refine sx_then_ret ?_
                    refine sx_round_ret ?_
                    refine sx_blk_ret ?_
                    refine sx_then_ret ?_
                    refine sx_ret1 (.inl rfl) rfl Try.results31 (by exact rfl) ?_
                    intro w' hw'
                    refine ⟨?_, hw'.below (by repeat (first | exact .head _ | refine .tail _ ?_))⟩
                    rw [rcB_bad hi' (tmB_bad hk' (decide_eq_false hc4))]
                  ·
                    refine sc_skip ?_
                    refine sx_blk ?_
                    refine sx_then ?_
                    refine sc_region ?_
                    refine sq_y (OpY.s (y_move (by exact rfl))) rfl ?_
                    refine sq_y (OpY.s (y_add (by exact rfl) (by exact rfl) (by omega))) rfl ?_
                    refine sq_y (OpY.s (y_assign (by exact rfl))) rfl ?_
                    refine sq_nil ?_
                    refine sx_round (k + 1) ?_ ?_ (by repeat (first | exact SubL.nil | refine SubL.cons (by first | exact rfl | exact lk_int rfl (by omega) | exact lk_eq rfl (by simp)) ?_)) (by repeat (first | exact Sel.nil | refine Sel.cons (by repeat (first | exact Rem.here | apply Rem.there)) ?_))
                    · refine ⟨by omega, fun j hj => ?_⟩
                      rcases Nat.lt_succ_iff_lt_or_eq.1 hj with h | rfl
                      · exact hok j h
                      · exact decide_eq_true hc4
                    · omega
                ·
                  refine sc_exit ?_
                  refine sx_then_exit ?_
                  refine sx_round_exit ?_
                  refine sx_blk_hit ?_
                  refine sx_blk ?_
                  refine sx_then ?_
                  refine sc_region ?_
                  refine sq_y (OpY.s (y_move (by exact rfl))) rfl ?_
                  refine sq_y (OpY.s (y_add (by exact rfl) (by exact rfl) (by omega))) rfl ?_
                  refine sq_y (OpY.s (y_assign (by exact rfl))) rfl ?_
                  refine sq_nil ?_
                  refine sx_round (i + 1) ?_ ?_ (by repeat (first | exact SubL.nil | refine SubL.cons (by first | exact rfl | exact lk_int rfl (by omega) | exact lk_eq rfl (by simp)) ?_)) (by repeat (first | exact Sel.nil | refine Sel.cons (by repeat (first | exact Rem.here | apply Rem.there)) ?_))
                  · refine ⟨by omega, fun j hj => ?_⟩
                    rcases Nat.lt_succ_iff_lt_or_eq.1 hj with h | rfl
                    · exact hall j h
                    · have hkk : k = (r.teams.getD j tm0).brk.length := by omega
                      subst hkk
                      unfold tmB
                      simp only [Bool.and_eq_true, decide_eq_true_eq, Bool.not_eq_true', decide_eq_false_iff_not]
                      exact ⟨⟨hg7_4, hc2⟩, all_of_getD _ sp0 _ hok⟩
                  · omega
          ·
            refine sc_exit ?_
            refine sx_then_exit ?_
            refine sx_round_exit ?_
            refine sx_blk_hit ?_
            refine sx_then ?_
            refine sc_seq ?_
            refine sc_region ?_
            refine sq_y (OpY.s (y_assign (by exact rfl))) rfl ?_
            refine sq_nil ?_
            refine sx_then ?_
            refine sc_ret ?_
            refine sx_ret1 (.inl rfl) rfl Try.results31 (by exact rfl) ?_
            intro w' hw'
            refine ⟨?_, hw'.below (by repeat (first | exact .head _ | refine .tail _ ?_))⟩
            have hii : i = r.teams.length := by omega
            subst hii
            have hb : rcB r = true := by
              unfold rcB
              simp only [Bool.and_eq_true, decide_eq_true_eq]
              exact ⟨⟨⟨⟨hg1_4, hg1_10⟩, hg1_16⟩, hc0⟩, all_of_getD _ tm0 _ hall⟩
            rw [hb]
theorem minutes43 (w : World) (v : Value) (r : Rc) (team minute : Nat) (hr : RcA 0 w v r) (hlim : 0 ≤ r.lim) (hteam : team < r.teams.length) (hmin : minute ≤ 2000) : Calls Try.prog 43 #[v, .int .i64 team, .int .i64 minute] w fun e w' => e = .returned (.int .i64 (wrk r team minute)) ∧ Below w.heap.size w w' := by
  obtain ⟨a, c, f, cf, rfl, hT⟩ := hr.ex
  have i2 := hr.i2
  obtain ⟨tm, ht⟩ : ∃ tm, r.teams[team]? = some tm := ⟨_, List.getElem?_eq_getElem hteam⟩
  have hsomeT := (hT.el team tm ht).1
  have hcaT := (hT.el team tm ht).2
  have hbr := hT.br team tm ht
  have hbrk : brkOf r team = tm.brk := by unfold brkOf; rw [getD_of ht]
  have hlenB := hbr.len
  refine calls_of_SC (args := [.agg (rcVal r a c).toArray, .int .i64 team, .int .i64 minute]) Try.func43 rfl Try.ntmps43 rfl ?_
  simp only [argL, Nat.reduceAdd, Nat.zero_add]
  refine sc_seq ?_
  refine sc_region ?_
  refine sq_box (by exact rfl) rfl (fun b3 => ?_)
  refine sq_y (OpY.s (y_assign (by exact rfl))) rfl ?_
  refine sq_nil ?_
  refine sx_then ?_
  refine sc_seq ?_
  refine sc_region ?_
  refine sq_y (OpY.s (y_assign (by exact rfl))) rfl ?_
  refine sq_nil ?_
  refine sx_then ?_
  refine sc_seq ?_
  refine sc_seq ?_
  refine sc_region ?_
  refine sq_y (OpY.s (y_assign (by exact rfl))) rfl ?_
  refine sq_nil ?_
  refine sx_then ?_
  refine sc_block ?_
  refine sc_loop (σ := Nat)
    (fun s => [(1, .int .i64 team), (2, .int .i64 minute), (3, .pointer (some ⟨b3, 0, none⟩)), (7, .int .i64 (cntW tm.brk s)), (8, .int .i64 s)])
    (fun s => [.blk b3 (.cells (rcVal r a c).toArray 24 (0, 0)), .reg 0 w])
    (fun s => s ≤ minute)
    (fun s => minute - s)
    (0) ?_ (by repeat (first | exact SubL.nil | refine SubL.cons (by first | exact rfl | exact lk_int rfl (by omega) | exact lk_eq rfl (by simp)) ?_)) (by repeat (first | exact Sel.nil | refine Sel.cons (by repeat (first | exact Rem.here | apply Rem.there)) ?_)) ?_
  · exact Nat.zero_le _
  rintro m hm
  have hcl := cntW_le tm.brk m
  refine sc_seq ?_
  refine sc_seq ?_
  refine sc_region ?_
  refine sq_y (OpY.s (y_move (by exact rfl))) rfl ?_
  refine sq_y (OpY.s (y_move (by exact rfl))) rfl ?_
  refine sq_y (OpY.s (y_lss (by exact rfl) (by exact rfl))) rfl ?_
  refine sq_nil ?_
  refine sx_then ?_
  first | refine sc_if (by exact rfl) (fun hc0 => ?_) (fun hc0 => ?_) | refine sc_ifn (by exact rfl) (fun hc0 => ?_) (fun hc0 => ?_) | refine sc_cond (by exact rfl) (fun hc0 => ?_) (fun hc0 => ?_)
  ·
    have hm' : m < minute := by omega
    refine sc_skip ?_
    refine sx_then ?_
    refine sc_seq ?_
    refine sc_block ?_
    refine sc_seq ?_
    refine sc_region ?_
    refine sq_y (OpY.s (y_assign (by exact rfl))) rfl ?_
    refine sq_nil ?_
    refine sx_then ?_
    refine sc_seq ?_
    refine sc_seq ?_
    refine sc_region ?_
    refine sq_y (OpY.s (y_assign (by exact rfl))) rfl ?_
    refine sq_nil ?_
    refine sx_then ?_
    refine sc_block ?_
    refine sc_loop (σ := Nat)
      (fun s => [(1, .int .i64 team), (2, .int .i64 minute), (3, .pointer (some ⟨b3, 0, none⟩)), (7, .int .i64 (cntW tm.brk m)), (8, .int .i64 m), (9, .bool (!offB (tm.brk.take s) m)), (10, .int .i64 s)])
      (fun s => [.blk b3 (.cells (rcVal r a c).toArray 24 (0, 0)), .reg 0 w])
      (fun s => s ≤ tm.brk.length)
      (fun s => tm.brk.length - s)
      (0) ?_ (by repeat (first | exact SubL.nil | refine SubL.cons (by first | exact rfl | exact lk_int rfl (by omega) | exact lk_eq rfl (by simp)) ?_)) (by repeat (first | exact Sel.nil | refine Sel.cons (by repeat (first | exact Rem.here | apply Rem.there)) ?_)) ?_
    · exact Nat.zero_le _
    rintro k hk
    refine sc_seq ?_
    refine sc_seq ?_
    refine sc_region ?_
    refine sq_y (OpY.s (y_move (by exact rfl))) rfl ?_
    refine sq_y (OpY.s (by first | exact y_fab Try.underlying24 (by exact rfl) (by exact Try.sizeOf22) (by exact rfl) rfl | exact y_fa Try.underlying24 (by exact rfl) (by exact Try.sizeOf22) (by exact rfl) rfl)) rfl ?_
    refine sq_y (OpY.s (by first | exact y_load_blk Try.underlying22 rfl (by exact rfl) (by repeat (first | exact .head _ | refine .tail _ ?_)) (by exact rfl) | exact y_load_caj Try.underlying22 rfl (by exact rfl) (by repeat (first | exact .head _ | refine .tail _ ?_)) (by assumption) (by exact rfl) | exact y_load_ca0 Try.underlying22 rfl (by exact rfl) (by repeat (first | exact .head _ | refine .tail _ ?_)) (by assumption) (by exact rfl))) rfl ?_
    refine sq_y (OpY.s (y_move (by exact rfl))) rfl ?_
    refine sq_y (OpY.s (by first | exact y_ia_blk Try.underlying22 Try.sizeOf66 (by exact rfl) (by exact rfl) (by omega) | exact y_ia_el Try.underlying22 Try.sizeOf66 (by exact rfl) (by exact rfl) (by omega) (by first | assumption | simp))) rfl ?_
    refine sq_y (OpY.s (by first | exact y_fab Try.underlying66 (by exact rfl) (by exact Try.sizeOf36) (by exact rfl) rfl | exact y_fa Try.underlying66 (by exact rfl) (by exact Try.sizeOf36) (by exact rfl) rfl)) rfl ?_
    refine sq_y (OpY.s (by first | exact y_load_blk Try.underlying36 rfl (by exact rfl) (by repeat (first | exact .head _ | refine .tail _ ?_)) (by exact rfl) | exact y_load_caj Try.underlying36 rfl (by exact rfl) (by repeat (first | exact .head _ | refine .tail _ ?_)) (by assumption) (by exact rfl) | exact y_load_ca0 Try.underlying36 rfl (by exact rfl) (by repeat (first | exact .head _ | refine .tail _ ?_)) (by assumption) (by exact rfl))) rfl ?_
    refine sq_y (OpY.s (y_len Try.underlying36 (by exact rfl))) rfl ?_
    refine sq_y (OpY.s (y_lss (by exact rfl) (by exact rfl))) rfl ?_
    refine sq_nil ?_
    refine sx_then ?_
    first | refine sc_if (by exact rfl) (fun hc1 => ?_) (fun hc1 => ?_) | refine sc_ifn (by exact rfl) (fun hc1 => ?_) (fun hc1 => ?_) | refine sc_cond (by exact rfl) (fun hc1 => ?_) (fun hc1 => ?_)
    ·
      have hk' : k < tm.brk.length := by omega
      obtain ⟨sp, hs⟩ : ∃ sp, tm.brk[k]? = some sp := ⟨_, List.getElem?_eq_getElem hk'⟩
      have hsm := (hbr.el k sp hs).1
      have hca := (hbr.el k sp hs).2
      refine sc_skip ?_
      refine sx_then ?_
      refine sc_seq ?_
      refine sc_block ?_
      refine sc_merge 9 (.bool (!offB (tm.brk.take (k + 1)) m)) ?_ ?_
      ·
        refine sc_draw rfl (by kernel_rfl) (by kernel_rfl) ?_
        refine qq_y (OpY.s (y_move (by exact rfl))) rfl ?_
        refine qq_y (OpY.s (y_move (by exact rfl))) rfl ?_
        first | refine qq_splitd (tt := 28) (by exact rfl) (fun hg9_1 => ?_) (fun hg9_1 => ?_) | refine qq_splitn (tt := 28) (by exact rfl) (fun hg9_1 => ?_) (fun hg9_1 => ?_) | refine qq_split (tt := 28) (by exact rfl) (fun hg9_1 => ?_) (fun hg9_1 => ?_)
        ·
          refine qq_gt (by exact rfl) (by exact rfl) (OpY.s (y_move (by exact rfl))) rfl ?_
          refine qq_gt (by exact rfl) (by exact rfl) (OpY.s (by first | exact y_fab Try.underlying24 (by exact rfl) (by exact Try.sizeOf22) (by exact rfl) rfl | exact y_fa Try.underlying24 (by exact rfl) (by exact Try.sizeOf22) (by exact rfl) rfl)) rfl ?_
          refine qq_gt (by exact rfl) (by exact rfl) (OpY.s (by first | exact y_load_blk Try.underlying22 rfl (by exact rfl) (by repeat (first | exact .head _ | refine .tail _ ?_)) (by exact rfl) | exact y_load_caj Try.underlying22 rfl (by exact rfl) (by repeat (first | exact .head _ | refine .tail _ ?_)) (by assumption) (by exact rfl) | exact y_load_ca0 Try.underlying22 rfl (by exact rfl) (by repeat (first | exact .head _ | refine .tail _ ?_)) (by assumption) (by exact rfl))) rfl ?_
          refine qq_gt (by exact rfl) (by exact rfl) (OpY.s (y_move (by exact rfl))) rfl ?_
          refine qq_gt (by exact rfl) (by exact rfl) (OpY.s (by first | exact y_ia_blk Try.underlying22 Try.sizeOf66 (by exact rfl) (by exact rfl) (by omega) | exact y_ia_el Try.underlying22 Try.sizeOf66 (by exact rfl) (by exact rfl) (by omega) (by first | assumption | simp))) rfl ?_
          refine qq_gt (by exact rfl) (by exact rfl) (OpY.s (by first | exact y_fab Try.underlying66 (by exact rfl) (by exact Try.sizeOf36) (by exact rfl) rfl | exact y_fa Try.underlying66 (by exact rfl) (by exact Try.sizeOf36) (by exact rfl) rfl)) rfl ?_
          refine qq_gt (by exact rfl) (by exact rfl) (OpY.s (by first | exact y_load_blk Try.underlying36 rfl (by exact rfl) (by repeat (first | exact .head _ | refine .tail _ ?_)) (by exact rfl) | exact y_load_caj Try.underlying36 rfl (by exact rfl) (by repeat (first | exact .head _ | refine .tail _ ?_)) (by assumption) (by exact rfl) | exact y_load_ca0 Try.underlying36 rfl (by exact rfl) (by repeat (first | exact .head _ | refine .tail _ ?_)) (by assumption) (by exact rfl))) rfl ?_
          refine qq_gt (by exact rfl) (by exact rfl) (OpY.s (y_move (by exact rfl))) rfl ?_
          refine qq_gt (by exact rfl) (by exact rfl) (OpY.s (by first | exact y_ia_blk Try.underlying36 Try.sizeOf32 (by exact rfl) (by exact rfl) (by omega) | exact y_ia_el Try.underlying36 Try.sizeOf32 (by exact rfl) (by exact rfl) (by omega) (by first | assumption | simp))) rfl ?_
          refine qq_gt (by exact rfl) (by exact rfl) (OpY.s (by first | exact y_fab Try.underlying32 (by exact rfl) (by exact Try.sizeOf3) (by exact rfl) rfl | exact y_fa Try.underlying32 (by exact rfl) (by exact Try.sizeOf3) (by exact rfl) rfl)) rfl ?_
          refine qq_gt (by exact rfl) (by exact rfl) (OpY.s (by first | exact y_load_blk Try.underlying3 rfl (by exact rfl) (by repeat (first | exact .head _ | refine .tail _ ?_)) (by exact rfl) | exact y_load_caj Try.underlying3 rfl (by exact rfl) (by repeat (first | exact .head _ | refine .tail _ ?_)) (by assumption) (by exact rfl) | exact y_load_ca0 Try.underlying3 rfl (by exact rfl) (by repeat (first | exact .head _ | refine .tail _ ?_)) (by assumption) (by exact rfl))) rfl ?_
          refine qq_gt (by exact rfl) (by exact rfl) (OpY.s (by first | exact y_fab Try.underlying24 (by exact rfl) (by exact Try.sizeOf22) (by exact rfl) rfl | exact y_fa Try.underlying24 (by exact rfl) (by exact Try.sizeOf22) (by exact rfl) rfl)) rfl ?_
          refine qq_gt (by exact rfl) (by exact rfl) (OpY.s (by first | exact y_load_blk Try.underlying22 rfl (by exact rfl) (by repeat (first | exact .head _ | refine .tail _ ?_)) (by exact rfl) | exact y_load_caj Try.underlying22 rfl (by exact rfl) (by repeat (first | exact .head _ | refine .tail _ ?_)) (by assumption) (by exact rfl) | exact y_load_ca0 Try.underlying22 rfl (by exact rfl) (by repeat (first | exact .head _ | refine .tail _ ?_)) (by assumption) (by exact rfl))) rfl ?_
          refine qq_gt (by exact rfl) (by exact rfl) (OpY.s (y_move (by exact rfl))) rfl ?_
          refine qq_gt (by exact rfl) (by exact rfl) (OpY.s (by first | exact y_ia_blk Try.underlying22 Try.sizeOf66 (by exact rfl) (by exact rfl) (by omega) | exact y_ia_el Try.underlying22 Try.sizeOf66 (by exact rfl) (by exact rfl) (by omega) (by first | assumption | simp))) rfl ?_
          refine qq_gt (by exact rfl) (by exact rfl) (OpY.s (by first | exact y_fab Try.underlying66 (by exact rfl) (by exact Try.sizeOf36) (by exact rfl) rfl | exact y_fa Try.underlying66 (by exact rfl) (by exact Try.sizeOf36) (by exact rfl) rfl)) rfl ?_
          refine qq_gt (by exact rfl) (by exact rfl) (OpY.s (by first | exact y_load_blk Try.underlying36 rfl (by exact rfl) (by repeat (first | exact .head _ | refine .tail _ ?_)) (by exact rfl) | exact y_load_caj Try.underlying36 rfl (by exact rfl) (by repeat (first | exact .head _ | refine .tail _ ?_)) (by assumption) (by exact rfl) | exact y_load_ca0 Try.underlying36 rfl (by exact rfl) (by repeat (first | exact .head _ | refine .tail _ ?_)) (by assumption) (by exact rfl))) rfl ?_
          refine qq_gt (by exact rfl) (by exact rfl) (OpY.s (y_move (by exact rfl))) rfl ?_
          refine qq_gt (by exact rfl) (by exact rfl) (OpY.s (by first | exact y_ia_blk Try.underlying36 Try.sizeOf32 (by exact rfl) (by exact rfl) (by omega) | exact y_ia_el Try.underlying36 Try.sizeOf32 (by exact rfl) (by exact rfl) (by omega) (by first | assumption | simp))) rfl ?_
          refine qq_gt (by exact rfl) (by exact rfl) (OpY.s (by first | exact y_fab Try.underlying32 (by exact rfl) (by exact Try.sizeOf3) (by exact rfl) rfl | exact y_fa Try.underlying32 (by exact rfl) (by exact Try.sizeOf3) (by exact rfl) rfl)) rfl ?_
          refine qq_gt (by exact rfl) (by exact rfl) (OpY.s (by first | exact y_load_blk Try.underlying3 rfl (by exact rfl) (by repeat (first | exact .head _ | refine .tail _ ?_)) (by exact rfl) | exact y_load_caj Try.underlying3 rfl (by exact rfl) (by repeat (first | exact .head _ | refine .tail _ ?_)) (by assumption) (by exact rfl) | exact y_load_ca0 Try.underlying3 rfl (by exact rfl) (by repeat (first | exact .head _ | refine .tail _ ?_)) (by assumption) (by exact rfl))) rfl ?_
          refine qq_gt (by exact rfl) (by exact rfl) (y_call (first := []) (caps := []) (by exact rfl) Try.call42 (EvL.cons (by exact rfl) (EvL.cons (by exact rfl) (EvL.cons (by exact rfl) EvL.nil))) (fun w1 _ => within42 _ _ _ w1)) rfl ?_
          refine qq_gt (by exact rfl) (by exact rfl) (OpY.s (y_not (by exact rfl))) rfl ?_
          refine qq_y (OpY.s (y_pick_t (by exact rfl) (by exact rfl))) rfl ?_
          refine qq_y (OpY.s (y_assign (by exact rfl))) rfl ?_
          refine qq_nil ?_
          refine sx_merge ?_ ?_
          · exact lk_bool rfl (by rw [offB_take_succ hs]; simp at hg9_1; simp [hg9_1])
          · exact (by repeat (first | exact SubX.refl _ _ | refine SubX.skipT ?_ | refine SubX.skip rfl ?_))
        ·
          refine qq_gf (by exact rfl) (by exact rfl) (by exact rfl) rfl ?_
          refine qq_gf (by exact rfl) (by exact rfl) (by exact rfl) rfl ?_
          refine qq_gf (by exact rfl) (by exact rfl) (by exact rfl) rfl ?_
          refine qq_gf (by exact rfl) (by exact rfl) (by exact rfl) rfl ?_
          refine qq_gf (by exact rfl) (by exact rfl) (by exact rfl) rfl ?_
          refine qq_gf (by exact rfl) (by exact rfl) (by exact rfl) rfl ?_
          refine qq_gf (by exact rfl) (by exact rfl) (by exact rfl) rfl ?_
          refine qq_gf (by exact rfl) (by exact rfl) (by exact rfl) rfl ?_
          refine qq_gf (by exact rfl) (by exact rfl) (by exact rfl) rfl ?_
          refine qq_gf (by exact rfl) (by exact rfl) (by exact rfl) rfl ?_
          refine qq_gf (by exact rfl) (by exact rfl) (by exact rfl) rfl ?_
          refine qq_gf (by exact rfl) (by exact rfl) (by exact rfl) rfl ?_
          refine qq_gf (by exact rfl) (by exact rfl) (by exact rfl) rfl ?_
          refine qq_gf (by exact rfl) (by exact rfl) (by exact rfl) rfl ?_
          refine qq_gf (by exact rfl) (by exact rfl) (by exact rfl) rfl ?_
          refine qq_gf (by exact rfl) (by exact rfl) (by exact rfl) rfl ?_
          refine qq_gf (by exact rfl) (by exact rfl) (by exact rfl) rfl ?_
          refine qq_gf (by exact rfl) (by exact rfl) (by exact rfl) rfl ?_
          refine qq_gf (by exact rfl) (by exact rfl) (by exact rfl) rfl ?_
          refine qq_gf (by exact rfl) (by exact rfl) (by exact rfl) rfl ?_
          refine qq_gf (by exact rfl) (by exact rfl) (by exact rfl) rfl ?_
          refine qq_gf (by exact rfl) (by exact rfl) (by exact rfl) rfl ?_
          refine qq_gf (by exact rfl) (by exact rfl) (by exact rfl) rfl ?_
          refine qq_y (OpY.s (y_pick_f (by exact rfl) (by exact rfl))) rfl ?_
          refine qq_y (OpY.s (y_assign (by exact rfl))) rfl ?_
          refine qq_nil ?_
          refine sx_merge ?_ ?_
          · exact lk_bool rfl (by rw [offB_take_succ hs]; simp at hg9_1; simp [hg9_1])
          · exact (by repeat (first | exact SubX.refl _ _ | refine SubX.skipT ?_ | refine SubX.skip rfl ?_))
      refine sx_blk ?_
      refine sx_then ?_
      refine sc_region ?_
      refine sq_y (OpY.s (y_move (by exact rfl))) rfl ?_
      refine sq_y (OpY.s (y_add (by exact rfl) (by exact rfl) (by omega))) rfl ?_
      refine sq_y (OpY.s (y_assign (by exact rfl))) rfl ?_
      refine sq_nil ?_
      refine sx_round (k + 1) ?_ ?_ (by repeat (first | exact SubL.nil | refine SubL.cons (by first | exact rfl | exact lk_int rfl (by omega) | exact lk_eq rfl (by simp)) ?_)) (by repeat (first | exact Sel.nil | refine Sel.cons (by repeat (first | exact Rem.here | apply Rem.there)) ?_))
      · omega
      · omega
    ·
      have hkn : k = tm.brk.length := by omega
      subst hkn
      rw [List.take_length]
      refine sc_exit ?_
      refine sx_then_exit ?_
      refine sx_round_exit ?_
      refine sx_blk_hit ?_
      refine sx_then ?_
      refine sc_seq ?_
      refine sc_region ?_
      refine sq_y (OpY.s (y_move (by exact rfl))) rfl ?_
      refine sq_nil ?_
      refine sx_then ?_
      first | refine sc_if (by exact rfl) (fun hc2 => ?_) (fun hc2 => ?_) | refine sc_ifn (by exact rfl) (fun hc2 => ?_) (fun hc2 => ?_) | refine sc_cond (by exact rfl) (fun hc2 => ?_) (fun hc2 => ?_)
      ·
        refine sc_region ?_
        refine sq_y (OpY.s (y_move (by exact rfl))) rfl ?_
        refine sq_y (OpY.s (y_add (by exact rfl) (by exact rfl) (by omega))) rfl ?_
        refine sq_y (OpY.s (y_assign (by exact rfl))) rfl ?_
        refine sq_nil ?_
        refine sx_blk ?_
        refine sx_then ?_
        refine sc_region ?_
        refine sq_y (OpY.s (y_move (by exact rfl))) rfl ?_
        refine sq_y (OpY.s (y_add (by exact rfl) (by exact rfl) (by omega))) rfl ?_
        refine sq_y (OpY.s (y_assign (by exact rfl))) rfl ?_
        refine sq_nil ?_
        refine sx_round (m + 1) ?_ ?_ (.cons (by exact rfl) (.cons (by exact rfl) (.cons (by exact rfl) (.cons (lk_int rfl (by rw [cntW_succ]; simp at hc2; simp [hc2])) (.cons (lk_int rfl (by omega)) .nil))))) (by repeat (first | exact Sel.nil | refine Sel.cons (by repeat (first | exact Rem.here | apply Rem.there)) ?_))
        · omega
        · omega
      ·
        refine sc_skip ?_
        refine sx_blk ?_
        refine sx_then ?_
        refine sc_region ?_
        refine sq_y (OpY.s (y_move (by exact rfl))) rfl ?_
        refine sq_y (OpY.s (y_add (by exact rfl) (by exact rfl) (by omega))) rfl ?_
        refine sq_y (OpY.s (y_assign (by exact rfl))) rfl ?_
        refine sq_nil ?_
        refine sx_round (m + 1) ?_ ?_ (.cons (by exact rfl) (.cons (by exact rfl) (.cons (by exact rfl) (.cons (lk_int rfl (by rw [cntW_succ]; simp at hc2; simp [hc2])) (.cons (lk_int rfl (by omega)) .nil))))) (by repeat (first | exact Sel.nil | refine Sel.cons (by repeat (first | exact Rem.here | apply Rem.there)) ?_))
        · omega
        · omega
  ·
    refine sc_exit ?_
    refine sx_then_exit ?_
    refine sx_round_exit ?_
    refine sx_blk_hit ?_
    refine sx_then ?_
    refine sc_seq ?_
    refine sc_region ?_
    refine sq_y (OpY.s (y_move (by exact rfl))) rfl ?_
    refine sq_y (OpY.s (by first | exact y_fab Try.underlying24 (by exact rfl) (by exact Try.sizeOf3) (by exact rfl) rfl | exact y_fa Try.underlying24 (by exact rfl) (by exact Try.sizeOf3) (by exact rfl) rfl)) rfl ?_
    refine sq_y (OpY.s (by first | exact y_load_blk Try.underlying3 rfl (by exact rfl) (by repeat (first | exact .head _ | refine .tail _ ?_)) (by exact rfl) | exact y_load_caj Try.underlying3 rfl (by exact rfl) (by repeat (first | exact .head _ | refine .tail _ ?_)) (by assumption) (by exact rfl) | exact y_load_ca0 Try.underlying3 rfl (by exact rfl) (by repeat (first | exact .head _ | refine .tail _ ?_)) (by assumption) (by exact rfl))) rfl ?_
    refine sq_y (OpY.s (y_min (by exact rfl) (by exact rfl))) rfl ?_
    refine sq_y (OpY.s (y_assign (by exact rfl))) rfl ?_
    refine sq_nil ?_
    refine sx_then ?_
    refine sc_ret ?_
    refine sx_ret1 (.inl rfl) rfl Try.results43 (by exact rfl) ?_
    intro w' hw'
    refine ⟨?_, hw'.below (by repeat (first | exact .head _ | refine .tail _ ?_))⟩
    have hkm : m = minute := by omega
    subst hkm
    unfold wrk; rw [hbrk]; congr 2; omega
theorem word75 (w : World) (v : Value) (r : Rc) (d : Wd) (hr : RcA 0 w v r) : Calls Try.prog 75 #[v, .agg (wdRow d).toArray] w fun e w' => e = .returned (.bool (wdB r d)) ∧ Below w.heap.size w w' := by
  obtain ⟨a, c, f, cf, rfl, hT⟩ := hr.ex
  have hlen := hT.len
  refine calls_of_SC (args := [.agg (rcVal r a c).toArray, .agg (wdRow d).toArray]) Try.func75 rfl Try.ntmps75 rfl ?_
  simp only [argL, Nat.zero_add]
  refine sc_seq ?_
  refine sc_region ?_
  refine sq_box (by exact rfl) rfl (fun b2 => ?_)
  refine sq_box (by exact rfl) rfl (fun b3 => ?_)
  refine sq_y (OpY.s (y_assign (by exact rfl))) rfl ?_
  refine sq_nil ?_
  refine sx_then ?_
  refine sc_seq ?_
  refine sc_region ?_
  refine sq_y (OpY.s (by first | exact y_fab Try.underlying57 (by exact rfl) (by exact Try.sizeOf3) (by exact rfl) rfl | exact y_fa Try.underlying57 (by exact rfl) (by exact Try.sizeOf3) (by exact rfl) rfl)) rfl ?_
  refine sq_y (OpY.s (by first | exact y_load_blk Try.underlying3 rfl (by exact rfl) (by repeat (first | exact .head _ | refine .tail _ ?_)) (by exact rfl) | exact y_load_caj Try.underlying3 rfl (by exact rfl) (by repeat (first | exact .head _ | refine .tail _ ?_)) (by assumption) (by exact rfl) | exact y_load_ca0 Try.underlying3 rfl (by exact rfl) (by repeat (first | exact .head _ | refine .tail _ ?_)) (by assumption) (by exact rfl))) rfl ?_
  refine sq_y (OpY.s (by first | exact y_fab Try.underlying24 (by exact rfl) (by exact Try.sizeOf22) (by exact rfl) rfl | exact y_fa Try.underlying24 (by exact rfl) (by exact Try.sizeOf22) (by exact rfl) rfl)) rfl ?_
  refine sq_y (OpY.s (by first | exact y_load_blk Try.underlying22 rfl (by exact rfl) (by repeat (first | exact .head _ | refine .tail _ ?_)) (by exact rfl) | exact y_load_caj Try.underlying22 rfl (by exact rfl) (by repeat (first | exact .head _ | refine .tail _ ?_)) (by assumption) (by exact rfl) | exact y_load_ca0 Try.underlying22 rfl (by exact rfl) (by repeat (first | exact .head _ | refine .tail _ ?_)) (by assumption) (by exact rfl))) rfl ?_
  refine sq_y (OpY.s (y_len Try.underlying22 (by exact rfl))) rfl ?_
  refine sq_y (OpY.s (y_sub (by exact rfl) (by exact rfl) (by omega))) rfl ?_
  refine sq_y (y_call (first := []) (caps := []) (by exact rfl) Try.call40 (EvL.cons (by exact rfl) (EvL.cons (by exact rfl) (EvL.cons (by exact rfl) EvL.nil))) (fun w1 _ => within40 _ _ _ w1)) rfl ?_
  refine sq_y (OpY.s (y_move (by exact rfl))) rfl ?_
  first | refine sq_splitd (tt := 12) (by exact rfl) (fun hg1_7 => ?_) (fun hg1_7 => ?_) | refine sq_splitn (tt := 12) (by exact rfl) (fun hg1_7 => ?_) (fun hg1_7 => ?_) | refine sq_split (tt := 12) (by exact rfl) (fun hg1_7 => ?_) (fun hg1_7 => ?_)
  ·
    refine sq_gt (by exact rfl) (by exact rfl) (OpY.s (by first | exact y_fab Try.underlying57 (by exact rfl) (by exact Try.sizeOf3) (by exact rfl) rfl | exact y_fa Try.underlying57 (by exact rfl) (by exact Try.sizeOf3) (by exact rfl) rfl)) rfl ?_
    refine sq_gt (by exact rfl) (by exact rfl) (OpY.s (by first | exact y_load_blk Try.underlying3 rfl (by exact rfl) (by repeat (first | exact .head _ | refine .tail _ ?_)) (by exact rfl) | exact y_load_caj Try.underlying3 rfl (by exact rfl) (by repeat (first | exact .head _ | refine .tail _ ?_)) (by assumption) (by exact rfl) | exact y_load_ca0 Try.underlying3 rfl (by exact rfl) (by repeat (first | exact .head _ | refine .tail _ ?_)) (by assumption) (by exact rfl))) rfl ?_
    refine sq_gt (by exact rfl) (by exact rfl) (y_call (first := []) (caps := []) (by exact rfl) Try.call40 (EvL.cons (by exact rfl) (EvL.cons (by exact rfl) (EvL.cons (by exact rfl) EvL.nil))) (fun w1 _ => within40 _ _ _ w1)) rfl ?_
    refine sq_y (OpY.s (y_pick_t (by exact rfl) (by exact rfl))) rfl ?_
    refine sq_y (OpY.s (y_move (by exact rfl))) rfl ?_
    first | refine sq_splitd (tt := 17) (by exact rfl) (fun hg1_12 => ?_) (fun hg1_12 => ?_) | refine sq_splitn (tt := 17) (by exact rfl) (fun hg1_12 => ?_) (fun hg1_12 => ?_) | refine sq_split (tt := 17) (by exact rfl) (fun hg1_12 => ?_) (fun hg1_12 => ?_)
    ·
      refine sq_gt (by exact rfl) (by exact rfl) (OpY.s (by first | exact y_fab Try.underlying57 (by exact rfl) (by exact Try.sizeOf32) (by exact rfl) rfl | exact y_fa Try.underlying57 (by exact rfl) (by exact Try.sizeOf32) (by exact rfl) rfl)) rfl ?_
      refine sq_gt (by exact rfl) (by exact rfl) (OpY.s (by first | exact y_load_all Try.underlying32 rfl Try.sizeOf32 (by exact rfl) (by repeat (first | exact .head _ | refine .tail _ ?_)) (by exact rfl) | exact y_load_2 Try.underlying32 rfl Try.sizeOf32 (by exact rfl) (by repeat (first | exact .head _ | refine .tail _ ?_)) (by exact rfl) (by exact rfl) | exact y_load_ca Try.underlying32 rfl Try.sizeOf32 (by exact rfl) (by repeat (first | exact .head _ | refine .tail _ ?_)) (by assumption) (by exact rfl))) rfl ?_
      refine sq_gt (by exact rfl) (by exact rfl) (OpY.s (by first | exact y_fab Try.underlying24 (by exact rfl) (by exact Try.sizeOf3) (by exact rfl) rfl | exact y_fa Try.underlying24 (by exact rfl) (by exact Try.sizeOf3) (by exact rfl) rfl)) rfl ?_
      refine sq_gt (by exact rfl) (by exact rfl) (OpY.s (by first | exact y_load_blk Try.underlying3 rfl (by exact rfl) (by repeat (first | exact .head _ | refine .tail _ ?_)) (by exact rfl) | exact y_load_caj Try.underlying3 rfl (by exact rfl) (by repeat (first | exact .head _ | refine .tail _ ?_)) (by assumption) (by exact rfl) | exact y_load_ca0 Try.underlying3 rfl (by exact rfl) (by repeat (first | exact .head _ | refine .tail _ ?_)) (by assumption) (by exact rfl))) rfl ?_
      refine sq_gt (by exact rfl) (by exact rfl) (y_call (first := []) (caps := []) (by exact rfl) Try.call64 (EvL.cons (by exact rfl) (EvL.cons (by exact rfl) (EvL.cons (by exact rfl) EvL.nil))) (fun w1 _ => isSpan64 d.got _ _ w1)) rfl ?_
      refine sq_y (OpY.s (y_pick_t (by exact rfl) (by exact rfl))) rfl ?_
      refine sq_y (OpY.s (y_assign (by exact rfl))) rfl ?_
      refine sq_nil ?_
      refine sx_then ?_
      refine sc_ret ?_
      refine sx_ret1 (.inl rfl) rfl Try.results75 (by exact rfl) ?_
      intro w' hw'
      refine ⟨?_, hw'.below (by repeat (first | exact .head _ | refine .tail _ ?_))⟩
      unfold wdB; simp [*]
    ·
      refine sq_gf (by exact rfl) (by exact rfl) (by exact rfl) rfl ?_
      refine sq_gf (by exact rfl) (by exact rfl) (by exact rfl) rfl ?_
      refine sq_gf (by exact rfl) (by exact rfl) (by exact rfl) rfl ?_
      refine sq_gf (by exact rfl) (by exact rfl) (by exact rfl) rfl ?_
      refine sq_gf (by exact rfl) (by exact rfl) (by exact rfl) rfl ?_
      refine sq_y (OpY.s (y_pick_f (by exact rfl) (by exact rfl))) rfl ?_
      refine sq_y (OpY.s (y_assign (by exact rfl))) rfl ?_
      refine sq_nil ?_
      refine sx_then ?_
      refine sc_ret ?_
      refine sx_ret1 (.inl rfl) rfl Try.results75 (by exact rfl) ?_
      intro w' hw'
      refine ⟨?_, hw'.below (by repeat (first | exact .head _ | refine .tail _ ?_))⟩
      unfold wdB; simp [*]
  ·
    refine sq_gf (by exact rfl) (by exact rfl) (by exact rfl) rfl ?_
    refine sq_gf (by exact rfl) (by exact rfl) (by exact rfl) rfl ?_
    refine sq_gf (by exact rfl) (by exact rfl) (by exact rfl) rfl ?_
    refine sq_y (OpY.s (y_pick_f (by exact rfl) (by exact rfl))) rfl ?_
    refine sq_y (OpY.s (y_move (by exact rfl))) rfl ?_
    refine sq_gf (by exact rfl) (by exact rfl) (by exact rfl) rfl ?_
    refine sq_gf (by exact rfl) (by exact rfl) (by exact rfl) rfl ?_
    refine sq_gf (by exact rfl) (by exact rfl) (by exact rfl) rfl ?_
    refine sq_gf (by exact rfl) (by exact rfl) (by exact rfl) rfl ?_
    refine sq_gf (by exact rfl) (by exact rfl) (by exact rfl) rfl ?_
    refine sq_y (OpY.s (y_pick_f (by exact rfl) (by exact rfl))) rfl ?_
    refine sq_y (OpY.s (y_assign (by exact rfl))) rfl ?_
    refine sq_nil ?_
    refine sx_then ?_
    refine sc_ret ?_
    refine sx_ret1 (.inl rfl) rfl Try.results75 (by exact rfl) ?_
    intro w' hw'
    refine ⟨?_, hw'.below (by repeat (first | exact .head _ | refine .tail _ ?_))⟩
    unfold wdB; simp [*]
theorem word81 (w : World) (v : Value) (r : Rc) (d : Wd) (hr : RcA 0 w v r) : Calls Try.prog 81 #[v, .agg (wdRow d).toArray] w fun e w' => e = .returned (.bool (wdB r d)) ∧ Below w.heap.size w w' := by
  obtain ⟨a, c, f, cf, rfl, hT⟩ := hr.ex
  have hlen := hT.len
  refine calls_of_SC (args := [.agg (rcVal r a c).toArray, .agg (wdRow d).toArray]) Try.func81 rfl Try.ntmps81 rfl ?_
  simp only [argL, Nat.zero_add]
  refine sc_seq ?_
  refine sc_region ?_
  refine sq_box (by exact rfl) rfl (fun b2 => ?_)
  refine sq_box (by exact rfl) rfl (fun b3 => ?_)
  refine sq_y (OpY.s (y_assign (by exact rfl))) rfl ?_
  refine sq_nil ?_
  refine sx_then ?_
  refine sc_seq ?_
  refine sc_region ?_
  refine sq_y (OpY.s (by first | exact y_fab Try.underlying57 (by exact rfl) (by exact Try.sizeOf3) (by exact rfl) rfl | exact y_fa Try.underlying57 (by exact rfl) (by exact Try.sizeOf3) (by exact rfl) rfl)) rfl ?_
  refine sq_y (OpY.s (by first | exact y_load_blk Try.underlying3 rfl (by exact rfl) (by repeat (first | exact .head _ | refine .tail _ ?_)) (by exact rfl) | exact y_load_caj Try.underlying3 rfl (by exact rfl) (by repeat (first | exact .head _ | refine .tail _ ?_)) (by assumption) (by exact rfl) | exact y_load_ca0 Try.underlying3 rfl (by exact rfl) (by repeat (first | exact .head _ | refine .tail _ ?_)) (by assumption) (by exact rfl))) rfl ?_
  refine sq_y (OpY.s (by first | exact y_fab Try.underlying24 (by exact rfl) (by exact Try.sizeOf22) (by exact rfl) rfl | exact y_fa Try.underlying24 (by exact rfl) (by exact Try.sizeOf22) (by exact rfl) rfl)) rfl ?_
  refine sq_y (OpY.s (by first | exact y_load_blk Try.underlying22 rfl (by exact rfl) (by repeat (first | exact .head _ | refine .tail _ ?_)) (by exact rfl) | exact y_load_caj Try.underlying22 rfl (by exact rfl) (by repeat (first | exact .head _ | refine .tail _ ?_)) (by assumption) (by exact rfl) | exact y_load_ca0 Try.underlying22 rfl (by exact rfl) (by repeat (first | exact .head _ | refine .tail _ ?_)) (by assumption) (by exact rfl))) rfl ?_
  refine sq_y (OpY.s (y_len Try.underlying22 (by exact rfl))) rfl ?_
  refine sq_y (OpY.s (y_sub (by exact rfl) (by exact rfl) (by omega))) rfl ?_
  refine sq_y (y_call (first := []) (caps := []) (by exact rfl) Try.call42 (EvL.cons (by exact rfl) (EvL.cons (by exact rfl) (EvL.cons (by exact rfl) EvL.nil))) (fun w1 _ => within42 _ _ _ w1)) rfl ?_
  refine sq_y (OpY.s (y_move (by exact rfl))) rfl ?_
  first | refine sq_splitd (tt := 12) (by exact rfl) (fun hg1_7 => ?_) (fun hg1_7 => ?_) | refine sq_splitn (tt := 12) (by exact rfl) (fun hg1_7 => ?_) (fun hg1_7 => ?_) | refine sq_split (tt := 12) (by exact rfl) (fun hg1_7 => ?_) (fun hg1_7 => ?_)
  ·
    refine sq_gt (by exact rfl) (by exact rfl) (OpY.s (by first | exact y_fab Try.underlying57 (by exact rfl) (by exact Try.sizeOf3) (by exact rfl) rfl | exact y_fa Try.underlying57 (by exact rfl) (by exact Try.sizeOf3) (by exact rfl) rfl)) rfl ?_
    refine sq_gt (by exact rfl) (by exact rfl) (OpY.s (by first | exact y_load_blk Try.underlying3 rfl (by exact rfl) (by repeat (first | exact .head _ | refine .tail _ ?_)) (by exact rfl) | exact y_load_caj Try.underlying3 rfl (by exact rfl) (by repeat (first | exact .head _ | refine .tail _ ?_)) (by assumption) (by exact rfl) | exact y_load_ca0 Try.underlying3 rfl (by exact rfl) (by repeat (first | exact .head _ | refine .tail _ ?_)) (by assumption) (by exact rfl))) rfl ?_
    refine sq_gt (by exact rfl) (by exact rfl) (y_call (first := []) (caps := []) (by exact rfl) Try.call42 (EvL.cons (by exact rfl) (EvL.cons (by exact rfl) (EvL.cons (by exact rfl) EvL.nil))) (fun w1 _ => within42 _ _ _ w1)) rfl ?_
    refine sq_y (OpY.s (y_pick_t (by exact rfl) (by exact rfl))) rfl ?_
    refine sq_y (OpY.s (y_move (by exact rfl))) rfl ?_
    first | refine sq_splitd (tt := 17) (by exact rfl) (fun hg1_12 => ?_) (fun hg1_12 => ?_) | refine sq_splitn (tt := 17) (by exact rfl) (fun hg1_12 => ?_) (fun hg1_12 => ?_) | refine sq_split (tt := 17) (by exact rfl) (fun hg1_12 => ?_) (fun hg1_12 => ?_)
    ·
      refine sq_gt (by exact rfl) (by exact rfl) (OpY.s (by first | exact y_fab Try.underlying57 (by exact rfl) (by exact Try.sizeOf32) (by exact rfl) rfl | exact y_fa Try.underlying57 (by exact rfl) (by exact Try.sizeOf32) (by exact rfl) rfl)) rfl ?_
      refine sq_gt (by exact rfl) (by exact rfl) (OpY.s (by first | exact y_load_all Try.underlying32 rfl Try.sizeOf32 (by exact rfl) (by repeat (first | exact .head _ | refine .tail _ ?_)) (by exact rfl) | exact y_load_2 Try.underlying32 rfl Try.sizeOf32 (by exact rfl) (by repeat (first | exact .head _ | refine .tail _ ?_)) (by exact rfl) (by exact rfl) | exact y_load_ca Try.underlying32 rfl Try.sizeOf32 (by exact rfl) (by repeat (first | exact .head _ | refine .tail _ ?_)) (by assumption) (by exact rfl))) rfl ?_
      refine sq_gt (by exact rfl) (by exact rfl) (OpY.s (by first | exact y_fab Try.underlying24 (by exact rfl) (by exact Try.sizeOf3) (by exact rfl) rfl | exact y_fa Try.underlying24 (by exact rfl) (by exact Try.sizeOf3) (by exact rfl) rfl)) rfl ?_
      refine sq_gt (by exact rfl) (by exact rfl) (OpY.s (by first | exact y_load_blk Try.underlying3 rfl (by exact rfl) (by repeat (first | exact .head _ | refine .tail _ ?_)) (by exact rfl) | exact y_load_caj Try.underlying3 rfl (by exact rfl) (by repeat (first | exact .head _ | refine .tail _ ?_)) (by assumption) (by exact rfl) | exact y_load_ca0 Try.underlying3 rfl (by exact rfl) (by repeat (first | exact .head _ | refine .tail _ ?_)) (by assumption) (by exact rfl))) rfl ?_
      refine sq_gt (by exact rfl) (by exact rfl) (y_call (first := []) (caps := []) (by exact rfl) Try.call62 (EvL.cons (by exact rfl) (EvL.cons (by exact rfl) (EvL.cons (by exact rfl) EvL.nil))) (fun w1 _ => isSpan62 d.got _ _ w1)) rfl ?_
      refine sq_y (OpY.s (y_pick_t (by exact rfl) (by exact rfl))) rfl ?_
      refine sq_y (OpY.s (y_assign (by exact rfl))) rfl ?_
      refine sq_nil ?_
      refine sx_then ?_
      refine sc_ret ?_
      refine sx_ret1 (.inl rfl) rfl Try.results81 (by exact rfl) ?_
      intro w' hw'
      refine ⟨?_, hw'.below (by repeat (first | exact .head _ | refine .tail _ ?_))⟩
      unfold wdB; simp [*]
    ·
      refine sq_gf (by exact rfl) (by exact rfl) (by exact rfl) rfl ?_
      refine sq_gf (by exact rfl) (by exact rfl) (by exact rfl) rfl ?_
      refine sq_gf (by exact rfl) (by exact rfl) (by exact rfl) rfl ?_
      refine sq_gf (by exact rfl) (by exact rfl) (by exact rfl) rfl ?_
      refine sq_gf (by exact rfl) (by exact rfl) (by exact rfl) rfl ?_
      refine sq_y (OpY.s (y_pick_f (by exact rfl) (by exact rfl))) rfl ?_
      refine sq_y (OpY.s (y_assign (by exact rfl))) rfl ?_
      refine sq_nil ?_
      refine sx_then ?_
      refine sc_ret ?_
      refine sx_ret1 (.inl rfl) rfl Try.results81 (by exact rfl) ?_
      intro w' hw'
      refine ⟨?_, hw'.below (by repeat (first | exact .head _ | refine .tail _ ?_))⟩
      unfold wdB; simp [*]
  ·
    refine sq_gf (by exact rfl) (by exact rfl) (by exact rfl) rfl ?_
    refine sq_gf (by exact rfl) (by exact rfl) (by exact rfl) rfl ?_
    refine sq_gf (by exact rfl) (by exact rfl) (by exact rfl) rfl ?_
    refine sq_y (OpY.s (y_pick_f (by exact rfl) (by exact rfl))) rfl ?_
    refine sq_y (OpY.s (y_move (by exact rfl))) rfl ?_
    refine sq_gf (by exact rfl) (by exact rfl) (by exact rfl) rfl ?_
    refine sq_gf (by exact rfl) (by exact rfl) (by exact rfl) rfl ?_
    refine sq_gf (by exact rfl) (by exact rfl) (by exact rfl) rfl ?_
    refine sq_gf (by exact rfl) (by exact rfl) (by exact rfl) rfl ?_
    refine sq_gf (by exact rfl) (by exact rfl) (by exact rfl) rfl ?_
    refine sq_y (OpY.s (y_pick_f (by exact rfl) (by exact rfl))) rfl ?_
    refine sq_y (OpY.s (y_assign (by exact rfl))) rfl ?_
    refine sq_nil ?_
    refine sx_then ?_
    refine sc_ret ?_
    refine sx_ret1 (.inl rfl) rfl Try.results81 (by exact rfl) ?_
    intro w' hw'
    refine ⟨?_, hw'.below (by repeat (first | exact .head _ | refine .tail _ ?_))⟩
    unfold wdB; simp [*]
theorem check74 (w : World) (d : Wd) (r : Rc) (a : Option Addr) (c : Nat) (f : Nat → Option Addr) (cf : Nat → Nat) (b : Nat) (hT : TmsA 0 w a r.teams f cf) (i1 : InI r.p) (i2 : InI r.lim) (i3 : InI r.rate) (hb : CA 0 w ⟨b, 0, none⟩ (rcVal r a c)) :
    Calls Try.prog 74 #[.agg (wdRow d).toArray, .pointer (some ⟨b, 0, none⟩)] w fun e w' => e = .returned (.bool (!wdB r d)) ∧ Below w.heap.size w w' := by
  refine calls_of_SC (args := [.agg (wdRow d).toArray, .pointer (some ⟨b, 0, none⟩)]) Try.func74 rfl Try.ntmps74 rfl ?_
  simp only [argL, Nat.zero_add]
  refine sc_seq ?_
  refine sc_region ?_
  refine sq_box (by exact rfl) rfl (fun b2 => ?_)
  refine sq_y (OpY.s (y_assign (by exact rfl))) rfl ?_
  refine sq_nil ?_
  refine sx_then ?_
  refine sc_seq ?_
  refine sc_region ?_
  refine sq_y (OpY.s (by first | exact y_load_ca Try.underlying24 rfl Try.sizeOf24 (by exact rfl) (by repeat (first | exact .head _ | refine .tail _ ?_)) hb rfl | exact y_load_all Try.underlying24 rfl Try.sizeOf24 (by exact rfl) (by repeat (first | exact .head _ | refine .tail _ ?_)) (by exact rfl) | exact y_load_ca Try.underlying24 rfl Try.sizeOf24 (by exact rfl) (by repeat (first | exact .head _ | refine .tail _ ?_)) (by assumption) (by exact rfl))) rfl ?_
  refine sq_y (OpY.s (by first | exact y_load_all Try.underlying57 rfl Try.sizeOf57 (by exact rfl) (by repeat (first | exact .head _ | refine .tail _ ?_)) (by exact rfl) | exact y_load_ca Try.underlying57 rfl Try.sizeOf57 (by exact rfl) (by repeat (first | exact .head _ | refine .tail _ ?_)) (by assumption) (by exact rfl))) rfl ?_
  refine sq_y (y_call (first := []) (caps := []) (by exact rfl) Try.call75 (EvL.cons (by exact rfl) (EvL.cons (by exact rfl) EvL.nil)) (fun w1 hw1 => word75 w1 _ r d ((hT.rc i1 i2 i3).at hw1 (by repeat (first | exact .head _ | refine .tail _ ?_))))) rfl ?_
  refine sq_y (OpY.s (y_not (by exact rfl))) rfl ?_
  refine sq_y (OpY.s (y_assign (by exact rfl))) rfl ?_
  refine sq_nil ?_
  refine sx_then ?_
  refine sc_ret ?_
  refine sx_ret1 (.inl rfl) rfl Try.results74 (by exact rfl) ?_
  intro w' hw'
  refine ⟨?_, hw'.below (by repeat (first | exact .head _ | refine .tail _ ?_))⟩
  rfl
end Go.Proofs.Ytegdfpilhlcplaa
