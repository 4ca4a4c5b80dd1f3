/- The walks of ranks, Ranks, Clash. -/
import Derived.Test.YtegdfpilhlcplaaWalk11
namespace Go.Proofs.Ytegdfpilhlcplaa
open Go Go.Eng Go.RowKit Go.Proofs
set_option maxRecDepth 100000

theorem ranks54 (w : World) (v : Value) (sc : List Sp) (hn : sc.length ≤ 1000) (hv : ∃ a c, v = .slice a sc.length c ∧ SpsA 0 w a sc) : Calls Try.prog 54 #[v] w fun e w' => ∃ z, e = .returned z ∧ Below w.heap.size w w' ∧ w'.ownsRow w.heap.size 32 2 z (rankL sc).length (flatS (rankL sc)) := by
  obtain ⟨a, c, rfl, hS⟩ := hv
  refine calls_of_SC (args := [.slice a sc.length c]) Try.func54 rfl Try.ntmps54 rfl ?_
  simp only [argL]
  refine sc_seq ?_
  refine sc_region ?_
  refine sq_y (OpY.s (y_assign (by exact rfl))) rfl ?_
  refine sq_nil ?_
  refine sx_then ?_
  refine sc_seq ?_
  refine sc_seq ?_
  refine sc_region ?_
  refine sq_y (OpY.s (y_move (by exact rfl))) rfl ?_
  refine sq_y (OpY.s (y_len Try.underlying83 (by exact rfl))) rfl ?_
  refine sq_y (OpY.s (y_move (by exact rfl))) rfl ?_
  refine sq_nil ?_
  refine sx_then ?_
  refine sc_block ?_
  refine sc_nil_own 32 2 ?_
  refine sc_loop (σ := Nat × Value)
    (fun s => [(0, .slice a sc.length c), (2, s.2), (8, .slice a sc.length c), (9, .int .i64 sc.length), (10, .int .i64 s.1)])
    (fun s => [.own s.2 32 2 s.1 (flatS ((List.range s.1).map (rkS sc))), .reg 0 w])
    (fun s => s.1 ≤ sc.length)
    (fun s => sc.length - s.1)
    ((0, .slice none 0 0)) ?_ (by repeat (first | exact SubL.nil | refine SubL.cons (by first | exact rfl | exact lk_int rfl (by omega) | exact lk_eq rfl (by simp)) ?_)) (by repeat (first | exact Sel.nil | refine Sel.cons (by repeat (first | exact Rem.here | apply Rem.there)) ?_)) ?_
  · exact Nat.zero_le _
  rintro ⟨i, v⟩ hi
  dsimp only at hi ⊢
  refine sc_seq ?_
  refine sc_region ?_
  refine sq_y (OpY.s (y_lss (by exact rfl) (by exact rfl))) rfl ?_
  refine sq_nil ?_
  refine sx_then ?_
  refine sc_seq ?_
  first | refine sc_if (by exact rfl) (fun hc0 => ?_) (fun hc0 => ?_) | refine sc_ifn (by exact rfl) (fun hc0 => ?_) (fun hc0 => ?_) | refine sc_cond (by exact rfl) (fun hc0 => ?_) (fun hc0 => ?_)
  ·
    have hi' : i < sc.length := by omega
    obtain ⟨si, hsi⟩ : ∃ si, sc[i]? = some si := ⟨_, List.getElem?_eq_getElem hi'⟩
    have hsmi := (hS.el i si hsi).1
    have hcai := (hS.el i si hsi).2
    have hdi : sc.getD i sp0 = si := getD_of hsi
    refine sc_skip ?_
    refine sx_then ?_
    refine sc_seq ?_
    refine sc_block ?_
    refine sc_seq ?_
    refine sc_region ?_
    refine sq_y (OpY.s (y_move (by exact rfl))) rfl ?_
    refine sq_y (OpY.s (by first | exact y_ia_blk Try.underlying83 Try.sizeOf32 (by exact rfl) (by exact rfl) (by omega) | exact y_ia_el Try.underlying83 Try.sizeOf32 (by exact rfl) (by exact rfl) (by omega) (by first | assumption | simp))) rfl ?_
    refine sq_y (OpY.s (by first | exact y_load_ca Try.underlying32 rfl Try.sizeOf32 (by exact rfl) (by repeat (first | exact .head _ | refine .tail _ ?_)) hcai rfl | exact y_load_all Try.underlying32 rfl Try.sizeOf32 (by exact rfl) (by repeat (first | exact .head _ | refine .tail _ ?_)) (by exact rfl) | exact y_load_2 Try.underlying32 rfl Try.sizeOf32 (by exact rfl) (by repeat (first | exact .head _ | refine .tail _ ?_)) (by exact rfl) (by exact rfl) | exact y_load_ca Try.underlying32 rfl Try.sizeOf32 (by exact rfl) (by repeat (first | exact .head _ | refine .tail _ ?_)) (by assumption) (by exact rfl))) rfl ?_
    refine sq_alloc Try.zeroValue32 rfl (fun b4 => ?_)
    refine sq_y (OpY.s (y_assign (by exact rfl))) rfl ?_
    refine sq_store_all Try.sizeOf32 (by exact rfl) (by exact rfl) rfl (by repeat (first | exact Rem.here | apply Rem.there)) rfl rfl ?_
    refine sq_nil ?_
    refine sx_then ?_
    refine sc_seq ?_
    refine sc_region ?_
    refine sq_y (OpY.s (y_build bt32 (EvP.cons (by exact rfl) (EvP.cons (by exact rfl) EvP.nil)) (by exact rfl))) rfl ?_
    refine sq_alloc Try.zeroValue32 rfl (fun b5 => ?_)
    refine sq_store_all Try.sizeOf32 (by exact rfl) (by exact rfl) rfl (by repeat (first | exact Rem.here | apply Rem.there)) rfl rfl ?_
    refine sq_nil ?_
    refine sx_then ?_
    refine sc_seq ?_
    refine sc_seq ?_
    refine sc_region ?_
    refine sq_y (OpY.s (y_move (by exact rfl))) rfl ?_
    refine sq_y (OpY.s (y_len Try.underlying83 (by exact rfl))) rfl ?_
    refine sq_y (OpY.s (y_move (by exact rfl))) rfl ?_
    refine sq_nil ?_
    refine sx_then ?_
    refine sc_block ?_
    refine sc_loop (σ := Nat)
      (fun s => [(0, .slice a sc.length c), (2, v), (3, .int .i64 i), (4, .pointer (some ⟨b4, 0, none⟩)), (5, .pointer (some ⟨b5, 0, none⟩)), (8, .slice a sc.length c), (9, .int .i64 sc.length), (10, .int .i64 i), (16, .slice a sc.length c), (17, .int .i64 sc.length), (18, .int .i64 s)])
      (fun s => [.blk b5 (.cells [Value.int .i64 (rkA sc i s), .int .i64 (rkB sc i s)].toArray 32 (0, 0)), .blk b4 (.cells (spRow si).toArray 32 (0, 0)), .own v 32 2 i (flatS ((List.range i).map (rkS sc))), .reg 0 w])
      (fun s => s ≤ sc.length)
      (fun s => sc.length - s)
      (0) ?_ (by repeat (first | exact SubL.nil | refine SubL.cons (by first | exact rfl | exact lk_int rfl (by omega) | exact lk_eq rfl (by simp)) ?_)) (by repeat (first | exact Sel.nil | refine Sel.cons (by repeat (first | exact Rem.here | apply Rem.there)) ?_)) ?_
    · exact Nat.zero_le _
    rintro k hk
    have hbA := rkA_bd sc i k
    have hbB := rkB_bd sc i k
    refine sc_seq ?_
    refine sc_region ?_
    refine sq_y (OpY.s (y_lss (by exact rfl) (by exact rfl))) rfl ?_
    refine sq_nil ?_
    refine sx_then ?_
    refine sc_seq ?_
    first | refine sc_if (by exact rfl) (fun hc1 => ?_) (fun hc1 => ?_) | refine sc_ifn (by exact rfl) (fun hc1 => ?_) (fun hc1 => ?_) | refine sc_cond (by exact rfl) (fun hc1 => ?_) (fun hc1 => ?_)
    ·
      have hk' : k < sc.length := by omega
      obtain ⟨sk, hsk⟩ : ∃ sk, sc[k]? = some sk := ⟨_, List.getElem?_eq_getElem hk'⟩
      have hsmk := (hS.el k sk hsk).1
      have hcak := (hS.el k sk hsk).2
      have hdk : sc.getD k sp0 = sk := getD_of hsk
      refine sc_skip ?_
      refine sx_then ?_
      refine sc_seq ?_
      refine sc_block ?_
      refine sc_seq ?_
      refine sc_region ?_
      refine sq_y (OpY.s (y_move (by exact rfl))) rfl ?_
      refine sq_y (OpY.s (by first | exact y_ia_blk Try.underlying83 Try.sizeOf32 (by exact rfl) (by exact rfl) (by omega) | exact y_ia_el Try.underlying83 Try.sizeOf32 (by exact rfl) (by exact rfl) (by omega) (by first | assumption | simp))) rfl ?_
      refine sq_y (OpY.s (by first | exact y_load_ca Try.underlying32 rfl Try.sizeOf32 (by exact rfl) (by repeat (first | exact .head _ | refine .tail _ ?_)) hcak rfl | exact y_load_all Try.underlying32 rfl Try.sizeOf32 (by exact rfl) (by repeat (first | exact .head _ | refine .tail _ ?_)) (by exact rfl) | exact y_load_2 Try.underlying32 rfl Try.sizeOf32 (by exact rfl) (by repeat (first | exact .head _ | refine .tail _ ?_)) (by exact rfl) (by exact rfl) | exact y_load_ca Try.underlying32 rfl Try.sizeOf32 (by exact rfl) (by repeat (first | exact .head _ | refine .tail _ ?_)) (by assumption) (by exact rfl))) rfl ?_
      refine sq_alloc Try.zeroValue32 rfl (fun b7 => ?_)
      refine sq_y (OpY.s (y_assign (by exact rfl))) rfl ?_
      refine sq_store_all Try.sizeOf32 (by exact rfl) (by exact rfl) rfl (by repeat (first | exact Rem.here | apply Rem.there)) rfl rfl ?_
      refine sq_nil ?_
      refine sx_then ?_
      refine sc_seq ?_
      refine sc_seq ?_
      refine sc_merge 32 (.bool (decide (k ≠ i ∧ sk.lo > si.hi))) ?_ ?_
      ·
        refine sc_region ?_
        refine sq_y (OpY.s (y_move (by exact rfl))) rfl ?_
        refine sq_y (OpY.s (y_move (by exact rfl))) rfl ?_
        refine sq_y (OpY.s (y_neq (by exact rfl) (by exact rfl))) rfl ?_
        refine sq_y (OpY.s (y_move (by exact rfl))) rfl ?_
        first | refine sq_splitd (tt := 26) (by exact rfl) (fun hg8_3 => ?_) (fun hg8_3 => ?_) | refine sq_splitn (tt := 26) (by exact rfl) (fun hg8_3 => ?_) (fun hg8_3 => ?_) | refine sq_split (tt := 26) (by exact rfl) (fun hg8_3 => ?_) (fun hg8_3 => ?_)
        ·
          refine sq_gt (by exact rfl) (by exact rfl) (OpY.s (by first | exact y_fab Try.underlying32 (by exact rfl) (by exact Try.sizeOf3) (by exact rfl) rfl | exact y_fa Try.underlying32 (by exact rfl) (by exact Try.sizeOf3) (by exact rfl) rfl)) rfl ?_
          refine sq_gt (by exact rfl) (by exact rfl) (OpY.s (by first | exact y_load_blk Try.underlying3 rfl (by exact rfl) (by repeat (first | exact .head _ | refine .tail _ ?_)) (by exact rfl) | exact y_load_caj Try.underlying3 rfl (by exact rfl) (by repeat (first | exact .head _ | refine .tail _ ?_)) (by assumption) (by exact rfl) | exact y_load_ca0 Try.underlying3 rfl (by exact rfl) (by repeat (first | exact .head _ | refine .tail _ ?_)) (by assumption) (by exact rfl))) rfl ?_
          refine sq_gt (by exact rfl) (by exact rfl) (OpY.s (by first | exact y_fab Try.underlying32 (by exact rfl) (by exact Try.sizeOf3) (by exact rfl) rfl | exact y_fa Try.underlying32 (by exact rfl) (by exact Try.sizeOf3) (by exact rfl) rfl)) rfl ?_
          refine sq_gt (by exact rfl) (by exact rfl) (OpY.s (by first | exact y_load_blk Try.underlying3 rfl (by exact rfl) (by repeat (first | exact .head _ | refine .tail _ ?_)) (by exact rfl) | exact y_load_caj Try.underlying3 rfl (by exact rfl) (by repeat (first | exact .head _ | refine .tail _ ?_)) (by assumption) (by exact rfl) | exact y_load_ca0 Try.underlying3 rfl (by exact rfl) (by repeat (first | exact .head _ | refine .tail _ ?_)) (by assumption) (by exact rfl))) rfl ?_
          refine sq_gt (by exact rfl) (by exact rfl) (OpY.s (y_gtr (by exact rfl) (by exact rfl))) rfl ?_
          refine sq_y (OpY.s (y_pick_t (by exact rfl) (by exact rfl))) rfl ?_
          refine sq_nil ?_
          refine sx_merge ?_ ?_
          · exact lk_bool rfl (by simp [*]; try omega)
          · exact (by repeat (first | exact SubX.refl _ _ | refine SubX.skipT ?_ | refine SubX.skip rfl ?_))
        ·
          refine sq_gf (by exact rfl) (by exact rfl) (by exact rfl) rfl ?_
          refine sq_gf (by exact rfl) (by exact rfl) (by exact rfl) rfl ?_
          refine sq_gf (by exact rfl) (by exact rfl) (by exact rfl) rfl ?_
          refine sq_gf (by exact rfl) (by exact rfl) (by exact rfl) rfl ?_
          refine sq_gf (by exact rfl) (by exact rfl) (by exact rfl) rfl ?_
          refine sq_y (OpY.s (y_pick_f (by exact rfl) (by exact rfl))) rfl ?_
          refine sq_nil ?_
          refine sx_merge ?_ ?_
          · exact lk_bool rfl (by simp [*]; try omega)
          · exact (by repeat (first | exact SubX.refl _ _ | refine SubX.skipT ?_ | refine SubX.skip rfl ?_))
      refine sx_then ?_
      first | refine sc_if (by exact rfl) (fun hc2 => ?_) (fun hc2 => ?_) | refine sc_ifn (by exact rfl) (fun hc2 => ?_) (fun hc2 => ?_) | refine sc_cond (by exact rfl) (fun hc2 => ?_) (fun hc2 => ?_)
      ·
        have hA : rkA sc i k + 1 = rkA sc i (k + 1) := by rw [rkA_succ, hdk, hdi, if_pos hc2]
        refine sc_region ?_
        refine sq_y (OpY.s (by first | exact y_fab Try.underlying32 (by exact rfl) (by exact Try.sizeOf3) (by exact rfl) rfl | exact y_fa Try.underlying32 (by exact rfl) (by exact Try.sizeOf3) (by exact rfl) rfl)) rfl ?_
        refine sq_y (OpY.s (by first | exact y_load_blk Try.underlying3 rfl (by exact rfl) (by repeat (first | exact .head _ | refine .tail _ ?_)) (by exact rfl) | exact y_load_caj Try.underlying3 rfl (by exact rfl) (by repeat (first | exact .head _ | refine .tail _ ?_)) (by assumption) (by exact rfl) | exact y_load_ca0 Try.underlying3 rfl (by exact rfl) (by repeat (first | exact .head _ | refine .tail _ ?_)) (by assumption) (by exact rfl))) rfl ?_
        refine sq_y (OpY.s (y_add (by exact rfl) (by exact rfl) (by omega))) rfl ?_
        refine sq_y (OpY.s (by first | exact y_fab Try.underlying32 (by exact rfl) (by exact Try.sizeOf3) (by exact rfl) rfl | exact y_fa Try.underlying32 (by exact rfl) (by exact Try.sizeOf3) (by exact rfl) rfl)) rfl ?_
        refine sq_store Try.sizeOf3 (by exact rfl) (by exact rfl) (by first | rfl | assumption) (by repeat (first | exact Rem.here | apply Rem.there)) (by first | exact Nat.le_of_ble_eq_true rfl | simp | omega) ?_
        rw [hA]
        refine sq_nil ?_
        refine sx_then ?_
        refine sc_seq ?_
        refine sc_merge 46 (.bool (decide (k ≠ i ∧ sk.hi > si.lo))) ?_ ?_
        ·
          refine sc_region ?_
          refine sq_y (OpY.s (y_move (by exact rfl))) rfl ?_
          refine sq_y (OpY.s (y_move (by exact rfl))) rfl ?_
          refine sq_y (OpY.s (y_neq (by exact rfl) (by exact rfl))) rfl ?_
          refine sq_y (OpY.s (y_move (by exact rfl))) rfl ?_
          first | refine sq_splitd (tt := 40) (by exact rfl) (fun hg10_3 => ?_) (fun hg10_3 => ?_) | refine sq_splitn (tt := 40) (by exact rfl) (fun hg10_3 => ?_) (fun hg10_3 => ?_) | refine sq_split (tt := 40) (by exact rfl) (fun hg10_3 => ?_) (fun hg10_3 => ?_)
          ·
            refine sq_gt (by exact rfl) (by exact rfl) (OpY.s (by first | exact y_fab Try.underlying32 (by exact rfl) (by exact Try.sizeOf3) (by exact rfl) rfl | exact y_fa Try.underlying32 (by exact rfl) (by exact Try.sizeOf3) (by exact rfl) rfl)) rfl ?_
            refine sq_gt (by exact rfl) (by exact rfl) (OpY.s (by first | exact y_load_blk Try.underlying3 rfl (by exact rfl) (by repeat (first | exact .head _ | refine .tail _ ?_)) (by exact rfl) | exact y_load_caj Try.underlying3 rfl (by exact rfl) (by repeat (first | exact .head _ | refine .tail _ ?_)) (by assumption) (by exact rfl) | exact y_load_ca0 Try.underlying3 rfl (by exact rfl) (by repeat (first | exact .head _ | refine .tail _ ?_)) (by assumption) (by exact rfl))) rfl ?_
            refine sq_gt (by exact rfl) (by exact rfl) (OpY.s (by first | exact y_fab Try.underlying32 (by exact rfl) (by exact Try.sizeOf3) (by exact rfl) rfl | exact y_fa Try.underlying32 (by exact rfl) (by exact Try.sizeOf3) (by exact rfl) rfl)) rfl ?_
            refine sq_gt (by exact rfl) (by exact rfl) (OpY.s (by first | exact y_load_blk Try.underlying3 rfl (by exact rfl) (by repeat (first | exact .head _ | refine .tail _ ?_)) (by exact rfl) | exact y_load_caj Try.underlying3 rfl (by exact rfl) (by repeat (first | exact .head _ | refine .tail _ ?_)) (by assumption) (by exact rfl) | exact y_load_ca0 Try.underlying3 rfl (by exact rfl) (by repeat (first | exact .head _ | refine .tail _ ?_)) (by assumption) (by exact rfl))) rfl ?_
            refine sq_gt (by exact rfl) (by exact rfl) (OpY.s (y_gtr (by exact rfl) (by exact rfl))) rfl ?_
            refine sq_y (OpY.s (y_pick_t (by exact rfl) (by exact rfl))) rfl ?_
            refine sq_nil ?_
            refine sx_merge ?_ ?_
            · exact lk_bool rfl (by simp [*]; try omega)
            · exact (by repeat (first | exact SubX.refl _ _ | refine SubX.skipT ?_ | refine SubX.skip rfl ?_))
          ·
            refine sq_gf (by exact rfl) (by exact rfl) (by exact rfl) rfl ?_
            refine sq_gf (by exact rfl) (by exact rfl) (by exact rfl) rfl ?_
            refine sq_gf (by exact rfl) (by exact rfl) (by exact rfl) rfl ?_
            refine sq_gf (by exact rfl) (by exact rfl) (by exact rfl) rfl ?_
            refine sq_gf (by exact rfl) (by exact rfl) (by exact rfl) rfl ?_
            refine sq_y (OpY.s (y_pick_f (by exact rfl) (by exact rfl))) rfl ?_
            refine sq_nil ?_
            refine sx_merge ?_ ?_
            · exact lk_bool rfl (by simp [*]; try omega)
            · exact (by repeat (first | exact SubX.refl _ _ | refine SubX.skipT ?_ | refine SubX.skip rfl ?_))
        refine sx_then ?_
        first | refine sc_if (by exact rfl) (fun hc3 => ?_) (fun hc3 => ?_) | refine sc_ifn (by exact rfl) (fun hc3 => ?_) (fun hc3 => ?_) | refine sc_cond (by exact rfl) (fun hc3 => ?_) (fun hc3 => ?_)
        ·
          have hB : rkB sc i k + 1 = rkB sc i (k + 1) := by rw [rkB_succ, hdk, hdi, if_pos hc3]
          refine sc_region ?_
          refine sq_y (OpY.s (by first | exact y_fab Try.underlying32 (by exact rfl) (by exact Try.sizeOf3) (by exact rfl) rfl | exact y_fa Try.underlying32 (by exact rfl) (by exact Try.sizeOf3) (by exact rfl) rfl)) rfl ?_
          refine sq_y (OpY.s (by first | exact y_load_blk Try.underlying3 rfl (by exact rfl) (by repeat (first | exact .head _ | refine .tail _ ?_)) (by exact rfl) | exact y_load_caj Try.underlying3 rfl (by exact rfl) (by repeat (first | exact .head _ | refine .tail _ ?_)) (by assumption) (by exact rfl) | exact y_load_ca0 Try.underlying3 rfl (by exact rfl) (by repeat (first | exact .head _ | refine .tail _ ?_)) (by assumption) (by exact rfl))) rfl ?_
          refine sq_y (OpY.s (y_add (by exact rfl) (by exact rfl) (by omega))) rfl ?_
          refine sq_y (OpY.s (by first | exact y_fab Try.underlying32 (by exact rfl) (by exact Try.sizeOf3) (by exact rfl) rfl | exact y_fa Try.underlying32 (by exact rfl) (by exact Try.sizeOf3) (by exact rfl) rfl)) rfl ?_
          refine sq_store Try.sizeOf3 (by exact rfl) (by exact rfl) (by first | rfl | assumption) (by repeat (first | exact Rem.here | apply Rem.there)) (by first | exact Nat.le_of_ble_eq_true rfl | simp | omega) ?_
          rw [hB]
          refine sq_nil ?_
          refine sx_blk ?_
          refine sx_then ?_
          refine sc_region ?_
          refine sq_y (OpY.s (y_add (by exact rfl) (by exact rfl) (by omega))) rfl ?_
          refine sq_y (OpY.s (y_move (by exact rfl))) rfl ?_
          refine sq_nil ?_
          refine sx_round (k + 1) ?_ ?_ (by repeat (first | exact SubL.nil | refine SubL.cons (by first | exact rfl | exact lk_int rfl (by omega) | exact lk_eq rfl (by simp)) ?_)) (by repeat (first | exact Sel.nil | refine Sel.cons (by repeat (first | exact Rem.here | apply Rem.there)) ?_))
          · show k + 1 ≤ sc.length; omega
          · show sc.length - (k + 1) < sc.length - k; omega
        ·
          have hB : rkB sc i k = rkB sc i (k + 1) := by rw [rkB_succ, hdk, hdi, if_neg hc3]; omega
          rw [hB]
          refine sc_skip ?_
          refine sx_blk ?_
          refine sx_then ?_
          refine sc_region ?_
          refine sq_y (OpY.s (y_add (by exact rfl) (by exact rfl) (by omega))) rfl ?_
          refine sq_y (OpY.s (y_move (by exact rfl))) rfl ?_
          refine sq_nil ?_
          refine sx_round (k + 1) ?_ ?_ (by repeat (first | exact SubL.nil | refine SubL.cons (by first | exact rfl | exact lk_int rfl (by omega) | exact lk_eq rfl (by simp)) ?_)) (by repeat (first | exact Sel.nil | refine Sel.cons (by repeat (first | exact Rem.here | apply Rem.there)) ?_))
          · show k + 1 ≤ sc.length; omega
          · show sc.length - (k + 1) < sc.length - k; omega
      ·
        have hA : rkA sc i k = rkA sc i (k + 1) := by rw [rkA_succ, hdk, hdi, if_neg hc2]; omega
        rw [hA]
        refine sc_skip ?_
        refine sx_then ?_
        refine sc_seq ?_
        refine sc_merge 46 (.bool (decide (k ≠ i ∧ sk.hi > si.lo))) ?_ ?_
        ·
          refine sc_region ?_
          refine sq_y (OpY.s (y_move (by exact rfl))) rfl ?_
          refine sq_y (OpY.s (y_move (by exact rfl))) rfl ?_
          refine sq_y (OpY.s (y_neq (by exact rfl) (by exact rfl))) rfl ?_
          refine sq_y (OpY.s (y_move (by exact rfl))) rfl ?_
          first | refine sq_splitd (tt := 40) (by exact rfl) (fun hg10_3 => ?_) (fun hg10_3 => ?_) | refine sq_splitn (tt := 40) (by exact rfl) (fun hg10_3 => ?_) (fun hg10_3 => ?_) | refine sq_split (tt := 40) (by exact rfl) (fun hg10_3 => ?_) (fun hg10_3 => ?_)
          ·
            refine sq_gt (by exact rfl) (by exact rfl) (OpY.s (by first | exact y_fab Try.underlying32 (by exact rfl) (by exact Try.sizeOf3) (by exact rfl) rfl | exact y_fa Try.underlying32 (by exact rfl) (by exact Try.sizeOf3) (by exact rfl) rfl)) rfl ?_
            refine sq_gt (by exact rfl) (by exact rfl) (OpY.s (by first | exact y_load_blk Try.underlying3 rfl (by exact rfl) (by repeat (first | exact .head _ | refine .tail _ ?_)) (by exact rfl) | exact y_load_caj Try.underlying3 rfl (by exact rfl) (by repeat (first | exact .head _ | refine .tail _ ?_)) (by assumption) (by exact rfl) | exact y_load_ca0 Try.underlying3 rfl (by exact rfl) (by repeat (first | exact .head _ | refine .tail _ ?_)) (by assumption) (by exact rfl))) rfl ?_
            refine sq_gt (by exact rfl) (by exact rfl) (OpY.s (by first | exact y_fab Try.underlying32 (by exact rfl) (by exact Try.sizeOf3) (by exact rfl) rfl | exact y_fa Try.underlying32 (by exact rfl) (by exact Try.sizeOf3) (by exact rfl) rfl)) rfl ?_
            refine sq_gt (by exact rfl) (by exact rfl) (OpY.s (by first | exact y_load_blk Try.underlying3 rfl (by exact rfl) (by repeat (first | exact .head _ | refine .tail _ ?_)) (by exact rfl) | exact y_load_caj Try.underlying3 rfl (by exact rfl) (by repeat (first | exact .head _ | refine .tail _ ?_)) (by assumption) (by exact rfl) | exact y_load_ca0 Try.underlying3 rfl (by exact rfl) (by repeat (first | exact .head _ | refine .tail _ ?_)) (by assumption) (by exact rfl))) rfl ?_
            refine sq_gt (by exact rfl) (by exact rfl) (OpY.s (y_gtr (by exact rfl) (by exact rfl))) rfl ?_
            refine sq_y (OpY.s (y_pick_t (by exact rfl) (by exact rfl))) rfl ?_
            refine sq_nil ?_
            refine sx_merge ?_ ?_
            · exact lk_bool rfl (by simp [*]; try omega)
            · exact (by repeat (first | exact SubX.refl _ _ | refine SubX.skipT ?_ | refine SubX.skip rfl ?_))
          ·
            refine sq_gf (by exact rfl) (by exact rfl) (by exact rfl) rfl ?_
            refine sq_gf (by exact rfl) (by exact rfl) (by exact rfl) rfl ?_
            refine sq_gf (by exact rfl) (by exact rfl) (by exact rfl) rfl ?_
            refine sq_gf (by exact rfl) (by exact rfl) (by exact rfl) rfl ?_
            refine sq_gf (by exact rfl) (by exact rfl) (by exact rfl) rfl ?_
            refine sq_y (OpY.s (y_pick_f (by exact rfl) (by exact rfl))) rfl ?_
            refine sq_nil ?_
            refine sx_merge ?_ ?_
            · exact lk_bool rfl (by simp [*]; try omega)
            · exact (by repeat (first | exact SubX.refl _ _ | refine SubX.skipT ?_ | refine SubX.skip rfl ?_))
        refine sx_then ?_
        first | refine sc_if (by exact rfl) (fun hc3 => ?_) (fun hc3 => ?_) | refine sc_ifn (by exact rfl) (fun hc3 => ?_) (fun hc3 => ?_) | refine sc_cond (by exact rfl) (fun hc3 => ?_) (fun hc3 => ?_)
        ·
          have hB : rkB sc i k + 1 = rkB sc i (k + 1) := by rw [rkB_succ, hdk, hdi, if_pos hc3]
          refine sc_region ?_
          refine sq_y (OpY.s (by first | exact y_fab Try.underlying32 (by exact rfl) (by exact Try.sizeOf3) (by exact rfl) rfl | exact y_fa Try.underlying32 (by exact rfl) (by exact Try.sizeOf3) (by exact rfl) rfl)) rfl ?_
          refine sq_y (OpY.s (by first | exact y_load_blk Try.underlying3 rfl (by exact rfl) (by repeat (first | exact .head _ | refine .tail _ ?_)) (by exact rfl) | exact y_load_caj Try.underlying3 rfl (by exact rfl) (by repeat (first | exact .head _ | refine .tail _ ?_)) (by assumption) (by exact rfl) | exact y_load_ca0 Try.underlying3 rfl (by exact rfl) (by repeat (first | exact .head _ | refine .tail _ ?_)) (by assumption) (by exact rfl))) rfl ?_
          refine sq_y (OpY.s (y_add (by exact rfl) (by exact rfl) (by omega))) rfl ?_
          refine sq_y (OpY.s (by first | exact y_fab Try.underlying32 (by exact rfl) (by exact Try.sizeOf3) (by exact rfl) rfl | exact y_fa Try.underlying32 (by exact rfl) (by exact Try.sizeOf3) (by exact rfl) rfl)) rfl ?_
          refine sq_store Try.sizeOf3 (by exact rfl) (by exact rfl) (by first | rfl | assumption) (by repeat (first | exact Rem.here | apply Rem.there)) (by first | exact Nat.le_of_ble_eq_true rfl | simp | omega) ?_
          rw [hB]
          refine sq_nil ?_
          refine sx_blk ?_
          refine sx_then ?_
          refine sc_region ?_
          refine sq_y (OpY.s (y_add (by exact rfl) (by exact rfl) (by omega))) rfl ?_
          refine sq_y (OpY.s (y_move (by exact rfl))) rfl ?_
          refine sq_nil ?_
          refine sx_round (k + 1) ?_ ?_ (by repeat (first | exact SubL.nil | refine SubL.cons (by first | exact rfl | exact lk_int rfl (by omega) | exact lk_eq rfl (by simp)) ?_)) (by repeat (first | exact Sel.nil | refine Sel.cons (by repeat (first | exact Rem.here | apply Rem.there)) ?_))
          · show k + 1 ≤ sc.length; omega
          · show sc.length - (k + 1) < sc.length - k; omega
        ·
          have hB : rkB sc i k = rkB sc i (k + 1) := by rw [rkB_succ, hdk, hdi, if_neg hc3]; omega
          rw [hB]
          refine sc_skip ?_
          refine sx_blk ?_
          refine sx_then ?_
          refine sc_region ?_
          refine sq_y (OpY.s (y_add (by exact rfl) (by exact rfl) (by omega))) rfl ?_
          refine sq_y (OpY.s (y_move (by exact rfl))) rfl ?_
          refine sq_nil ?_
          refine sx_round (k + 1) ?_ ?_ (by repeat (first | exact SubL.nil | refine SubL.cons (by first | exact rfl | exact lk_int rfl (by omega) | exact lk_eq rfl (by simp)) ?_)) (by repeat (first | exact Sel.nil | refine Sel.cons (by repeat (first | exact Rem.here | apply Rem.there)) ?_))
          · show k + 1 ≤ sc.length; omega
          · show sc.length - (k + 1) < sc.length - k; omega
    ·
      have hkn : k = sc.length := by omega
      rw [hkn]
      have hfl : flatS ((List.range i).map (rkS sc)) ++ [.int .i64 (rkA sc i sc.length), .int .i64 (rkB sc i sc.length)] = flatS ((List.range (i + 1)).map (rkS sc)) := by
        rw [List.range_succ, List.map_append]; simp [flatS, rkS, spRow]
      refine sc_exit ?_
      refine sx_then_exit ?_
      refine sx_round_exit ?_
      refine sx_blk_hit ?_
      refine sx_then ?_
      refine sc_region ?_
      refine sq_y (OpY.s (y_move (by exact rfl))) rfl ?_
      refine sq_y (OpY.s (by first | exact y_load_all Try.underlying32 rfl Try.sizeOf32 (by exact rfl) (by repeat (first | exact .head _ | refine .tail _ ?_)) (by exact rfl) | exact y_load_2 Try.underlying32 rfl Try.sizeOf32 (by exact rfl) (by repeat (first | exact .head _ | refine .tail _ ?_)) (by exact rfl) (by exact rfl) | exact y_load_ca Try.underlying32 rfl Try.sizeOf32 (by exact rfl) (by repeat (first | exact .head _ | refine .tail _ ?_)) (by assumption) (by exact rfl))) rfl ?_
      refine sq_bs Try.underlying36 ei32 (EvI.cons (by exact rfl) EvI.nil) (by simp [Value.cells]) rfl rfl rfl (fun b54 => ?_)
      refine sq_append (news := [.int .i64 (rkA sc i sc.length), .int .i64 (rkB sc i sc.length)]) Try.underlying36 ei32 rfl (by decide) (by exact rfl) (by repeat (first | exact Rem.here | apply Rem.there)) (by exact rfl) rfl (fun _ hw => news_blk hw (by repeat (first | exact .head _ | refine .tail _ ?_))) (by simp [Value.oneCell']) (by omega) rfl (fun v55 ho55 => ?_)
      rw [hfl]
      refine sq_y (OpY.s (y_assign (by exact rfl))) rfl ?_
      refine sq_nil ?_
      refine sx_blk ?_
      refine sx_then ?_
      refine sc_region ?_
      refine sq_y (OpY.s (y_add (by exact rfl) (by exact rfl) (by omega))) rfl ?_
      refine sq_y (OpY.s (y_move (by exact rfl))) rfl ?_
      refine sq_nil ?_
      refine sx_round ((i + 1, v55)) ?_ ?_ (by repeat (first | exact SubL.nil | refine SubL.cons (by first | exact rfl | exact lk_int rfl (by omega) | exact lk_eq rfl (by simp)) ?_)) (by repeat (first | exact Sel.nil | refine Sel.cons (by repeat (first | exact Rem.here | apply Rem.there)) ?_))
      · show i + 1 ≤ sc.length; omega
      · show sc.length - (i + 1) < sc.length - i; omega
  ·
    have hin : i = sc.length := by omega
    rw [hin]
    refine sc_exit ?_
    refine sx_then_exit ?_
    refine sx_round_exit ?_
    refine sx_blk_hit ?_
    refine sx_then ?_
    refine sc_seq ?_
    refine sc_region ?_
    refine sq_y (OpY.s (y_move (by exact rfl))) rfl ?_
    refine sq_y (OpY.s (y_assign (by exact rfl))) rfl ?_
    refine sq_nil ?_
    refine sx_then ?_
    refine sc_ret ?_
    refine sx_ret1 (.inl rfl) rfl Try.results54 (by exact rfl) ?_
    intro w' hw'
    refine ⟨_, rfl, hw'.below (by repeat (first | exact .head _ | refine .tail _ ?_)), ?_⟩
    have ho := own_new hw' (.here) (by repeat (first | exact .head _ | refine .tail _ ?_))
    have hl : (rankL sc).length = sc.length := by simp [rankL]
    rw [hl]; exact ho
theorem own_reg {w0 w : World} {rs : List Res} {lo : Nat} {wr : World} {e : TypeId} {sz n : Nat} {v : Value} {xs : List Value} (h : wr.ownsRow lo e sz v n xs) (hw : Hp w0 rs w) (hm : Res.reg lo wr ∈ rs) : w.ownsRow lo e sz v n xs := by
  refine ⟨h.1, ?_⟩
  rcases h.2 with h2 | ⟨g, cap, cur, hv, h3, h4, h5⟩
  · exact .inl h2
  · exact .inr ⟨g, cap, cur, hv, h3, heap_reg hw hm h3 h4, h5⟩
theorem own_low {w : World} {lo lo' : Nat} {e : TypeId} {sz n : Nat} {v : Value} {xs : List Value} (h : w.ownsRow lo e sz v n xs) (hl : lo' ≤ lo) : w.ownsRow lo' e sz v n xs := by
  refine ⟨h.1, ?_⟩
  rcases h.2 with h2 | ⟨g, cap, cur, hv, h3, h4, h5⟩
  · exact .inl h2
  · exact .inr ⟨g, cap, cur, hv, Nat.le_trans hl h3, h4, h5⟩
def scoreL (r : Rc) (ls : List Wd) (m : Nat → Nat) : List Sp := (List.range r.teams.length).map fun t => ptsP r ls t (m t)
def ranksL (r : Rc) (ls : List Wd) (mz : Int) : List Sp := if openE r ls (minB mz) = 0 then rankL (scoreL r ls fun t => wrk r t mz.toNat) else []
theorem ranks21 (w : World) (r : Rc) (a : Option Addr) (c : Nat) (f : Nat → Option Addr) (cf : Nat → Nat) (al : Option Addr) (cl : Nat) (ls : List Wd) (mz : Int) (hT : TmsA 0 w a r.teams f cf) (hl : WdsA 0 w al ls) (i1 : InI r.p) (i2 : InI r.lim) (i3 : InI r.rate) : Calls Try.prog 21 #[.agg (rcVal r a c).toArray, .slice al ls.length cl, .int .i64 mz] w fun e w' => ∃ z, e = .returned (.tuple #[z, .int .i64 (openE r ls (minB mz))]) ∧ Below w.heap.size w w' ∧ w'.ownsRow w.heap.size 32 2 z (ranksL r ls mz).length (flatS (ranksL r ls mz)) := by
  have hlen := hT.len
  refine calls_of_SC (args := [.agg (rcVal r a c).toArray, .slice al ls.length cl, .int .i64 mz]) Try.func21 rfl Try.ntmps21 rfl ?_
  simp only [argL, Nat.reduceAdd, Nat.zero_add]
  refine sc_seq ?_
  refine sc_region ?_
  refine sq_box (by exact rfl) rfl (fun b3 => ?_)
  refine sq_box (by exact rfl) rfl (fun b5 => ?_)
  refine sq_y (OpY.s (y_assign (by exact rfl))) rfl ?_
  refine sq_y (OpY.s (y_assign (by exact rfl))) rfl ?_
  refine sq_nil ?_
  refine sx_then ?_
  refine sc_seq ?_
  refine sc_region ?_
  refine sq_y (OpY.s (by first | exact y_load_all Try.underlying24 rfl Try.sizeOf24 (by exact rfl) (by repeat (first | exact .head _ | refine .tail _ ?_)) (by exact rfl) | exact y_load_ca Try.underlying24 rfl Try.sizeOf24 (by exact rfl) (by repeat (first | exact .head _ | refine .tail _ ?_)) (by assumption) (by exact rfl))) rfl ?_
  refine sq_y (OpY.s (y_move (by exact rfl))) rfl ?_
  refine sq_y (OpY.s (y_makeFunc EvL.nil (EvL.cons (by exact rfl) EvL.nil))) rfl ?_
  refine sq_call_new (first := []) (caps := []) (Z := Value) (fun z => .tuple #[z, .int .i64 (openE r ls (minB mz))]) (fun lo w' z => w.heap.size ≤ lo ∧ (openE r ls (minB mz) = 0 → Opened lo w' r a c ls z)) (by exact rfl) Try.call52 (EvL.cons (by exact rfl) (EvL.cons (by exact rfl) (EvL.cons (by exact rfl) EvL.nil))) (fun w1 hw1 => (open52 w1 r a c f cf al cl ls 53 [.pointer (some ⟨b5, 0, none⟩)] (minB mz) (hT.at hw1 (by repeat (first | exact .head _ | refine .tail _ ?_))) (hl.at hw1 (by repeat (first | exact .head _ | refine .tail _ ?_))) i1 i2 i3 Try.call53 (fun w2 hb => valid53 w2 ⟨b5, 0, none⟩ mz (CA.below (CA.blk (vs := [.int .i64 mz]) hw1 (by repeat (first | exact .head _ | refine .tail _ ?_))) hb))).mono (fun e w' ⟨z, he, hb, hz⟩ => ⟨z, he, hb, hw1.size, hz⟩)) rfl (fun lo52 w52 m52 h52 => ?_)
  refine sq_y (OpY.s (y_move (by exact rfl))) rfl ?_
  refine sq_y (OpY.s (y_extract (by exact rfl) (by exact rfl))) rfl ?_
  refine sq_y (OpY.s (y_extract (by exact rfl) (by exact rfl))) rfl ?_
  refine sq_y (OpY.s (y_assign (by exact rfl))) rfl ?_
  refine sq_y (OpY.s (y_assign (by exact rfl))) rfl ?_
  refine sq_nil ?_
  refine sx_then ?_
  refine sc_seq ?_
  refine sc_seq ?_
  refine sc_region ?_
  refine sq_y (OpY.s (y_move (by exact rfl))) rfl ?_
  refine sq_y (OpY.s (y_neq (by exact rfl) (by exact rfl))) rfl ?_
  refine sq_nil ?_
  refine sx_then ?_
  first | refine sc_if (by exact rfl) (fun hc0 => ?_) (fun hc0 => ?_) | refine sc_ifn (by exact rfl) (fun hc0 => ?_) (fun hc0 => ?_) | refine sc_cond (by exact rfl) (fun hc0 => ?_) (fun hc0 => ?_)
  ·
    refine sc_seq ?_
    refine sc_region ?_
    refine sq_y (OpY.s (y_move (by exact rfl))) rfl ?_
    refine sq_y (OpY.s (y_assign (by exact rfl))) rfl ?_
    refine sq_y (OpY.s (y_assign (by exact rfl))) rfl ?_
    refine sq_nil ?_
    refine sx_then ?_
    refine sc_ret ?_
    refine sx_then_ret ?_
    refine sx_ret2 (.inl rfl) rfl Try.results21 (by exact rfl) (by exact rfl) ?_
    intro w' hw'
    refine ⟨_, rfl, hw'.below (by repeat (first | exact .head _ | refine .tail _ ?_)), ?_⟩
    unfold ranksL; rw [if_neg hc0]; exact World.ownsRow_nil w' _ 32 2
  ·
    refine sc_skip ?_
    refine sx_then ?_
    refine sc_seq ?_
    have hE : openE r ls (minB mz) = 0 := hc0
    obtain ⟨hz1, hz2, hz3⟩ := openE_zero hE
    obtain ⟨hok, hll, hwd⟩ := chk_zero hz1
    have hlim := rcB_nums hok
    obtain ⟨hlo52, hop⟩ := h52
    obtain ⟨bm, ps, rfl, hbm, hmap, hpl, hps⟩ := hop hE
    obtain ⟨m, rfl⟩ := Int.eq_ofNat_of_zero_le (show 0 ≤ mz by simp [minB] at hz2; omega)
    have hm2 : m ≤ 2000 := by simp [minB] at hz2; omega
    refine sc_region ?_
    refine sq_y (OpY.s (y_assign (by exact rfl))) rfl ?_
    refine sq_nil ?_
    refine sx_then ?_
    refine sc_seq ?_
    refine sc_seq ?_
    refine sc_region ?_
    refine sq_y (OpY.s (by first | exact y_fab Try.underlying24 (by exact rfl) (by exact Try.sizeOf22) (by exact rfl) rfl | exact y_fa Try.underlying24 (by exact rfl) (by exact Try.sizeOf22) (by exact rfl) rfl)) rfl ?_
    refine sq_y (OpY.s (by first | exact y_load_blk Try.underlying22 rfl (by exact rfl) (by repeat (first | exact .head _ | refine .tail _ ?_)) (by exact rfl) | exact y_load_caj Try.underlying22 rfl (by exact rfl) (by repeat (first | exact .head _ | refine .tail _ ?_)) (by assumption) (by exact rfl) | exact y_load_ca0 Try.underlying22 rfl (by exact rfl) (by repeat (first | exact .head _ | refine .tail _ ?_)) (by assumption) (by exact rfl))) rfl ?_
    refine sq_y (OpY.s (y_len Try.underlying22 (by exact rfl))) rfl ?_
    refine sq_y (OpY.s (y_move (by exact rfl))) rfl ?_
    refine sq_nil ?_
    refine sx_then ?_
    refine sc_block ?_
    refine sc_nil_own 32 2 ?_
    refine sc_loop (σ := Nat × Value)
      (fun s => [(1, .slice al ls.length cl), (3, .pointer (some ⟨b3, 0, none⟩)), (5, .pointer (some ⟨b5, 0, none⟩)), (8, .map (some bm)), (10, s.2), (24, .int .i64 r.teams.length), (25, .int .i64 s.1)])
      (fun s => [.own s.2 32 2 s.1 (flatS ((List.range s.1).map fun t => ptsP r ls t (wrk r t m))), .reg lo52 w52, .blk b5 (.cells [Value.int .i64 m].toArray 3 (0, 0)), .blk b3 (.cells (rcVal r a c).toArray 24 (0, 0)), .reg 0 w])
      (fun s => s.1 ≤ r.teams.length)
      (fun s => r.teams.length - s.1)
      ((0, .slice none 0 0)) ?_ (by repeat (first | exact SubL.nil | refine SubL.cons (by first | exact rfl | exact lk_int rfl (by omega) | exact lk_eq rfl (by simp)) ?_)) (by repeat (first | exact Sel.nil | refine Sel.cons (by repeat (first | exact Rem.here | apply Rem.there)) ?_)) ?_
    · exact Nat.zero_le _
    rintro ⟨k, v⟩ hk
    dsimp only at hk ⊢
    refine sc_seq ?_
    refine sc_region ?_
    refine sq_y (OpY.s (y_lss (by exact rfl) (by exact rfl))) rfl ?_
    refine sq_nil ?_
    refine sx_then ?_
    refine sc_seq ?_
    first | refine sc_if (by exact rfl) (fun hc1 => ?_) (fun hc1 => ?_) | refine sc_ifn (by exact rfl) (fun hc1 => ?_) (fun hc1 => ?_) | refine sc_cond (by exact rfl) (fun hc1 => ?_) (fun hc1 => ?_)
    ·
      have hk' : k < r.teams.length := by omega
      obtain ⟨p, hp, hco⟩ := hps k hk'
      have hfl : flatS ((List.range k).map fun t => ptsP r ls t (wrk r t m)) ++ [.int .i64 (ptsLo r k (allW r k ls) (wrk r k m)), .int .i64 (ptsHi r k (allW r k ls) (wrk r k m))] = flatS ((List.range (k + 1)).map fun t => ptsP r ls t (wrk r t m)) := by
        rw [List.range_succ, List.map_append]; simp [flatS, ptsP, spRow]
      refine sc_skip ?_
      refine sx_then ?_
      refine sc_seq ?_
      refine sc_block ?_
      refine sc_seq ?_
      refine sc_region ?_
      refine sq_y (OpY.s (y_move (by exact rfl))) rfl ?_
      refine sq_y (OpY.s (y_assign (by exact rfl))) rfl ?_
      refine sq_nil ?_
      refine sx_then ?_
      refine sc_drawX ([.reg lo52 w52, .blk b5 (.cells [Value.int .i64 m].toArray 3 (0, 0)), .blk b3 (.cells (rcVal r a c).toArray 24 (0, 0)), .reg 0 w]) (by kernel_rfl) ?_
      refine xj_s 0 (by exact rfl) (by kernel_rfl) (by repeat (first | exact Sel.nil | refine Sel.cons (by repeat (first | exact Rem.here | apply Rem.there)) ?_)) (y_move (by exact rfl)) rfl ?_
      refine xj_s 1 (by exact rfl) (by kernel_rfl) (by repeat (first | exact Sel.nil | refine Sel.cons (by repeat (first | exact Rem.here | apply Rem.there)) ?_)) (y_move (by exact rfl)) rfl ?_
      refine xj_s 2 (by exact rfl) (by kernel_rfl) (by repeat (first | exact Sel.nil | refine Sel.cons (by repeat (first | exact Rem.here | apply Rem.there)) ?_)) (y_move (by exact rfl)) rfl ?_
      refine xj_s 3 (by exact rfl) (by kernel_rfl) (by repeat (first | exact Sel.nil | refine Sel.cons (by repeat (first | exact Rem.here | apply Rem.there)) ?_)) (y_lookup Try.underlying80 Try.underlying3 (by exact rfl) (fun _ hw => heap_reg hw (by repeat (first | exact .head _ | refine .tail _ ?_)) hbm hmap) (by exact rfl) hp) rfl ?_
      refine xj_s 4 (by exact rfl) (by kernel_rfl) (by repeat (first | exact Sel.nil | refine Sel.cons (by repeat (first | exact Rem.here | apply Rem.there)) ?_)) (by first | exact y_load_all Try.underlying24 rfl Try.sizeOf24 (by exact rfl) (by repeat (first | exact .head _ | refine .tail _ ?_)) (by exact rfl) | exact y_load_ca Try.underlying24 rfl Try.sizeOf24 (by exact rfl) (by repeat (first | exact .head _ | refine .tail _ ?_)) (by assumption) (by exact rfl)) rfl ?_
      refine xj_s 5 (by exact rfl) (by kernel_rfl) (by repeat (first | exact Sel.nil | refine Sel.cons (by repeat (first | exact Rem.here | apply Rem.there)) ?_)) (y_move (by exact rfl)) rfl ?_
      refine xj_s 6 (by exact rfl) (by kernel_rfl) (by repeat (first | exact Sel.nil | refine Sel.cons (by repeat (first | exact Rem.here | apply Rem.there)) ?_)) (by first | exact y_load_blk Try.underlying3 rfl (by exact rfl) (by repeat (first | exact .head _ | refine .tail _ ?_)) (by exact rfl) | exact y_load_caj Try.underlying3 rfl (by exact rfl) (by repeat (first | exact .head _ | refine .tail _ ?_)) (by assumption) (by exact rfl) | exact y_load_ca0 Try.underlying3 rfl (by exact rfl) (by repeat (first | exact .head _ | refine .tail _ ?_)) (by assumption) (by exact rfl)) rfl ?_
      refine xj_one 7 (by exact rfl) (by kernel_rfl) ?_
      refine sq_y (y_call (first := []) (caps := []) (by exact rfl) Try.call41 (EvL.cons (by exact rfl) (EvL.cons (by exact rfl) (EvL.cons (by exact rfl) EvL.nil))) (fun w1 hw1 => worked41 w1 _ r k m ((hT.at hw1 (by repeat (first | exact .head _ | refine .tail _ ?_))).rc i1 i2 i3) hok hk' hm2)) rfl ?_
      refine sq_nil ?_
      refine sx_xp (by repeat (first | exact Sel.nil | refine Sel.cons (by repeat (first | exact Rem.here | apply Rem.there)) ?_)) ?_
      refine xj_one 8 (by exact rfl) (by kernel_rfl) ?_
      refine sq_y (y_call (first := []) (caps := []) (by exact rfl) Try.call50 (EvL.cons (by exact rfl) (EvL.cons (by exact rfl) EvL.nil)) (fun w1 hw1 => span50 w1 p r k (allW r k ls) _ (by have := wrk_le r k m (by omega); omega) hk' (((hco.keep hw1 (by repeat (first | exact .head _ | refine .tail _ ?_))).low (Nat.zero_le _)).co (hT.at hw1 (by repeat (first | exact .head _ | refine .tail _ ?_))) (allW_ok hok hwd) (allW_len hll)) hok)) rfl ?_
      refine sq_nil ?_
      refine sx_xp (by repeat (first | exact Sel.nil | refine Sel.cons (by repeat (first | exact Rem.here | apply Rem.there)) ?_)) ?_
      refine xj_one 9 (by exact rfl) (by kernel_rfl) ?_
      refine sq_bs Try.underlying83 ei32 (EvI.cons (by exact rfl) EvI.nil) (by simp [Value.cells]) rfl rfl rfl (fun b37 => ?_)
      refine sq_nil ?_
      refine sx_xp (by repeat (first | exact Sel.nil | refine Sel.cons (by repeat (first | exact Rem.here | apply Rem.there)) ?_)) ?_
      refine xj_one 10 (by exact rfl) (by kernel_rfl) ?_
      refine sq_append (news := [.int .i64 (ptsLo r k (allW r k ls) (wrk r k m)), .int .i64 (ptsHi r k (allW r k ls) (wrk r k m))]) Try.underlying83 ei32 rfl (by decide) (by exact rfl) (by repeat (first | exact Rem.here | apply Rem.there)) (by exact rfl) rfl (fun _ hw => news_blk hw (by repeat (first | exact .head _ | refine .tail _ ?_))) (by simp [Value.oneCell']) (by omega) rfl (fun v38 ho38 => ?_)
      refine sq_nil ?_
      refine sx_xp (by repeat (first | exact Sel.nil | refine Sel.cons (by repeat (first | exact Rem.here | apply Rem.there)) ?_)) ?_
      rw [hfl]
      refine xj_s 11 (by exact rfl) (by kernel_rfl) (by repeat (first | exact Sel.nil | refine Sel.cons (by repeat (first | exact Rem.here | apply Rem.there)) ?_)) (y_assign (by exact rfl)) rfl ?_
      refine xj_done (by kernel_rfl) ?_
      refine sx_blk ?_
      refine sx_then ?_
      refine sc_region ?_
      refine sq_y (OpY.s (y_add (by exact rfl) (by exact rfl) (by omega))) rfl ?_
      refine sq_y (OpY.s (y_move (by exact rfl))) rfl ?_
      refine sq_nil ?_
      refine sx_round ((k + 1, v38)) ?_ ?_ (by repeat (first | exact SubL.nil | refine SubL.cons (by first | exact rfl | exact lk_int rfl (by omega) | exact lk_eq rfl (by simp)) ?_)) (by repeat (first | exact Sel.nil | refine Sel.cons (by repeat (first | exact Rem.here | apply Rem.there)) ?_))
      · show k + 1 ≤ r.teams.length; omega
      · show r.teams.length - (k + 1) < r.teams.length - k; omega
    ·
      have hkn : k = r.teams.length := by omega
      rw [hkn]
      refine sc_exit ?_
      refine sx_then_exit ?_
      refine sx_round_exit ?_
      refine sx_blk_hit ?_
      refine sx_then ?_
      refine sc_seq ?_
      refine sc_region ?_
      refine sq_y (OpY.s (y_move (by exact rfl))) rfl ?_
      refine sq_call_new (first := []) (caps := []) (Z := Value) (fun z => z) (fun lo w' z => w.heap.size ≤ lo ∧ w'.ownsRow lo 32 2 z (rankL (scoreL r ls fun t => wrk r t m)).length (flatS (rankL (scoreL r ls fun t => wrk r t m)))) (by exact rfl) Try.call54 (EvL.cons (by exact rfl) EvL.nil) (fun w1 hw1 => (ranks54 w1 v (scoreL r ls fun t => wrk r t m) (by simp [scoreL]; omega) (own_sps (e := 32) (by have ho : w1.ownsRow 0 32 2 v r.teams.length _ := hw1.ok (.own v 32 2 r.teams.length _) (by repeat (first | exact .head _ | refine .tail _ ?_)); simpa [scoreL] using ho) (by simp [scoreL]; omega))).mono (fun e w' ⟨z, he, hb, hz⟩ => ⟨z, he, hb, hw1.size, hz⟩)) rfl (fun lo54 w54 z54 h54 => ?_)
      refine sq_y (OpY.s (y_assign (by exact rfl))) rfl ?_
      refine sq_y (OpY.s (y_assign (by exact rfl))) rfl ?_
      refine sq_nil ?_
      refine sx_then ?_
      refine sc_ret ?_
      refine sx_ret2 (.inl rfl) rfl Try.results21 (by exact rfl) (by exact rfl) ?_
      intro w' hw'
      refine ⟨_, by rw [hE], hw'.below (by repeat (first | exact .head _ | refine .tail _ ?_)), ?_⟩
      unfold ranksL; rw [if_pos hE]
      exact own_low (own_reg h54.2 hw' (by repeat (first | exact .head _ | refine .tail _ ?_))) h54.1
theorem WdsA.take {lo : Nat} {wr : World} {a : Option Addr} {l : List Wd} (h : WdsA lo wr a l) (k : Nat) : WdsA lo wr a (l.take k) := by
  refine ⟨fun i d hi => ?_, by rw [List.length_take]; have := h.len; omega⟩
  by_cases hk : i < k
  · rw [List.getElem?_take_of_lt hk] at hi; exact h.el i d hi
  · rw [List.getElem?_take_eq_none (by omega)] at hi; cases hi
theorem newCourse58n (w : World) (r : Rc) (a : Option Addr) (c : Nat) (f : Nat → Option Addr) (cf : Nat → Nat) (team : Nat) (al : Option Addr) (cl : Nat) (ls : List Wd) (n : Nat) (hn : ls.length = n)
    (hT : TmsA 0 w a r.teams f cf) (hl : WdsA 0 w al ls) (i1 : InI r.p) (i2 : InI r.lim) (i3 : InI r.rate) (hok : rcB r = true) (hteam : team < r.teams.length) (hls : ∀ d, d ∈ ls → 0 ≤ d.minute ∧ d.minute ≤ 2000) (hlen : ls.length ≤ 40) (tz : Int) (htz : tz = team) :
    Calls Try.prog 58 #[.agg (rcVal r a c).toArray, .slice al n cl, .int .i64 tz] w fun e w' => ∃ p, e = .returned (.pointer (some p)) ∧ Below w.heap.size w w' ∧ CoN w.heap.size w' p r a c team (allW r team ls) := by
  subst hn; subst htz; exact newCourse58 w r a c f cf team al cl ls hT hl i1 i2 i3 hok hteam hls hlen
def clashP (r : Rc) (ls : List Wd) (k : Nat) : Bool := !trT r (ls.take (k + 1)) (ls.getD k wd0).team.toNat
def clashI (r : Rc) (ls : List Wd) : Option Nat := (List.range ls.length).find? (clashP r ls)
def clashN (r : Rc) (ls : List Wd) : Int × Int := if chk r ls ≠ 0 then (0, chk r ls) else match clashI r ls with
  | some i => ((i : Int), 0)
  | none => (0, 4)
theorem find_range {n k : Nat} {q : Nat → Bool} (hk : k < n) (h : q k = true) (hno : ∀ j, j < k → q j = false) : (List.range n).find? q = some k := by
  rw [List.find?_range_eq_some]; exact ⟨h, List.mem_range.2 hk, fun j hj => by simp [hno j hj]⟩
theorem find_range_none {n : Nat} {q : Nat → Bool} (hno : ∀ j, j < n → q j = false) : (List.range n).find? q = none := by
  rw [List.find?_range_eq_none]; intro j hj; simp [hno j hj]
theorem clash25 (w : World) (r : Rc) (a : Option Addr) (c : Nat) (f : Nat → Option Addr) (cf : Nat → Nat) (al : Option Addr) (cl : Nat) (ls : List Wd) (hcl : ls.length ≤ cl) (hT : TmsA 0 w a r.teams f cf) (hl : WdsA 0 w al ls) (i1 : InI r.p) (i2 : InI r.lim) (i3 : InI r.rate) : Calls Try.prog 25 #[.agg (rcVal r a c).toArray, .slice al ls.length cl] w fun e w' => e = .returned (.tuple #[.int .i64 (clashN r ls).1, .int .i64 (clashN r ls).2]) ∧ Below w.heap.size w w' := by
  have hlen := hl.len
  refine calls_of_SC (args := [.agg (rcVal r a c).toArray, .slice al ls.length cl]) Try.func25 rfl Try.ntmps25 rfl ?_
  simp only [argL, Nat.zero_add]
  refine sc_seq ?_
  refine sc_region ?_
  refine sq_box (by exact rfl) rfl (fun b2 => ?_)
  refine sq_y (OpY.s (y_assign (by exact rfl))) rfl ?_
  refine sq_y (OpY.s (y_assign (by exact rfl))) rfl ?_
  refine sq_nil ?_
  refine sx_then ?_
  refine sc_seq ?_
  refine sc_seq ?_
  refine sc_region ?_
  refine sq_y (OpY.s (by first | exact y_load_all Try.underlying24 rfl Try.sizeOf24 (by exact rfl) (by repeat (first | exact .head _ | refine .tail _ ?_)) (by exact rfl) | exact y_load_ca Try.underlying24 rfl Try.sizeOf24 (by exact rfl) (by repeat (first | exact .head _ | refine .tail _ ?_)) (by assumption) (by exact rfl))) rfl ?_
  refine sq_y (OpY.s (y_move (by exact rfl))) rfl ?_
  refine sq_y (y_call (first := []) (caps := []) (by exact rfl) Try.call57 (EvL.cons (by exact rfl) (EvL.cons (by exact rfl) EvL.nil)) (fun w1 hw1 => check57 w1 _ r al cl ls ((hT.at hw1 (by repeat (first | exact .head _ | refine .tail _ ?_))).rc i1 i2 i3) (hl.at hw1 (by repeat (first | exact .head _ | refine .tail _ ?_))))) rfl ?_
  refine sq_y (OpY.s (y_assign (by exact rfl))) rfl ?_
  refine sq_nil ?_
  refine sx_then ?_
  refine sc_seq ?_
  refine sc_region ?_
  refine sq_y (OpY.s (y_move (by exact rfl))) rfl ?_
  refine sq_y (OpY.s (y_neq (by exact rfl) (by exact rfl))) rfl ?_
  refine sq_nil ?_
  refine sx_then ?_
  first | refine sc_if (by exact rfl) (fun hc0 => ?_) (fun hc0 => ?_) | refine sc_ifn (by exact rfl) (fun hc0 => ?_) (fun hc0 => ?_) | refine sc_cond (by exact rfl) (fun hc0 => ?_) (fun hc0 => ?_)
  ·
    refine sc_seq ?_
    refine sc_region ?_
    refine sq_y (OpY.s (y_move (by exact rfl))) rfl ?_
    refine sq_y (OpY.s (y_assign (by exact rfl))) rfl ?_
    refine sq_y (OpY.s (y_assign (by exact rfl))) rfl ?_
    refine sq_nil ?_
    refine sx_then ?_
    refine sc_ret ?_
    refine sx_then_ret ?_
    refine sx_ret2 (.inl rfl) rfl Try.results25 (by exact rfl) (by exact rfl) ?_
    intro w' hw'
    refine ⟨?_, hw'.below (by repeat (first | exact .head _ | refine .tail _ ?_))⟩
    unfold clashN; rw [if_pos hc0]
  ·
    refine sc_skip ?_
    refine sx_then ?_
    refine sc_seq ?_
    refine sc_seq ?_
    have hz : chk r ls = 0 := hc0
    obtain ⟨hok, hll, hwd⟩ := chk_zero hz
    refine sc_region ?_
    refine sq_y (OpY.s (y_move (by exact rfl))) rfl ?_
    refine sq_y (OpY.s (y_len Try.underlying25 (by exact rfl))) rfl ?_
    refine sq_y (OpY.s (y_move (by exact rfl))) rfl ?_
    refine sq_nil ?_
    refine sx_then ?_
    refine sc_block ?_
    refine sc_loop (σ := Nat)
      (fun s => [(1, .slice al ls.length cl), (2, .pointer (some ⟨b2, 0, none⟩)), (15, .slice al ls.length cl), (16, .int .i64 ls.length), (17, .int .i64 s)])
      (fun s => [.blk b2 (.cells (rcVal r a c).toArray 24 (0, 0)), .reg 0 w])
      (fun s => s ≤ ls.length ∧ ∀ j, j < s → clashP r ls j = false)
      (fun s => ls.length - s)
      (0) ?_ (by repeat (first | exact SubL.nil | refine SubL.cons (by first | exact rfl | exact lk_int rfl (by omega) | exact lk_eq rfl (by simp)) ?_)) (by repeat (first | exact Sel.nil | refine Sel.cons (by repeat (first | exact Rem.here | apply Rem.there)) ?_)) ?_
    · exact ⟨Nat.zero_le _, fun j hj => absurd hj (Nat.not_lt_zero j)⟩
    rintro k ⟨hk, hno⟩
    refine sc_seq ?_
    refine sc_region ?_
    refine sq_y (OpY.s (y_lss (by exact rfl) (by exact rfl))) rfl ?_
    refine sq_nil ?_
    refine sx_then ?_
    refine sc_seq ?_
    first | refine sc_if (by exact rfl) (fun hc1 => ?_) (fun hc1 => ?_) | refine sc_ifn (by exact rfl) (fun hc1 => ?_) (fun hc1 => ?_) | refine sc_cond (by exact rfl) (fun hc1 => ?_) (fun hc1 => ?_)
    ·
      have hk' : k < ls.length := by omega
      obtain ⟨d, hd⟩ : ∃ d, ls[k]? = some d := ⟨_, List.getElem?_eq_getElem hk'⟩
      have hdk : ls.getD k wd0 = d := getD_of hd
      have hsm := (hl.el k d hd).1
      have hca := (hl.el k d hd).2
      have hdt := (wdB_parts (hwd d (List.mem_of_getElem? hd))).1
      have hlt : (ls.take (k + 1)).length = k + 1 := by rw [List.length_take]; omega
      refine sc_skip ?_
      refine sx_then ?_
      refine sc_seq ?_
      refine sc_block ?_
      refine sc_seq ?_
      refine sc_region ?_
      refine sq_y (OpY.s (y_move (by exact rfl))) rfl ?_
      refine sq_y (OpY.s (by first | exact y_ia_blk Try.underlying25 Try.sizeOf57 (by exact rfl) (by exact rfl) (by omega) | exact y_ia_el Try.underlying25 Try.sizeOf57 (by exact rfl) (by exact rfl) (by omega) (by first | assumption | simp))) rfl ?_
      refine sq_y (OpY.s (by first | exact y_load_ca Try.underlying57 rfl Try.sizeOf57 (by exact rfl) (by repeat (first | exact .head _ | refine .tail _ ?_)) hca rfl | exact y_load_all Try.underlying57 rfl Try.sizeOf57 (by exact rfl) (by repeat (first | exact .head _ | refine .tail _ ?_)) (by exact rfl) | exact y_load_ca Try.underlying57 rfl Try.sizeOf57 (by exact rfl) (by repeat (first | exact .head _ | refine .tail _ ?_)) (by assumption) (by exact rfl))) rfl ?_
      refine sq_alloc Try.zeroValue57 rfl (fun b8 => ?_)
      refine sq_y (OpY.s (y_assign (by exact rfl))) rfl ?_
      refine sq_store_all Try.sizeOf57 (by exact rfl) (by exact rfl) rfl (by repeat (first | exact Rem.here | apply Rem.there)) rfl rfl ?_
      refine sq_nil ?_
      refine sx_then ?_
      refine sc_seq ?_
      refine sc_drawX ([.blk b8 (.cells (wdRow d).toArray 57 (0, 0)), .blk b2 (.cells (rcVal r a c).toArray 24 (0, 0)), .reg 0 w]) (by kernel_rfl) ?_
      refine xj_s 0 (by exact rfl) (by kernel_rfl) (by repeat (first | exact Sel.nil | refine Sel.cons (by repeat (first | exact Rem.here | apply Rem.there)) ?_)) (by first | exact y_load_all Try.underlying24 rfl Try.sizeOf24 (by exact rfl) (by repeat (first | exact .head _ | refine .tail _ ?_)) (by exact rfl) | exact y_load_ca Try.underlying24 rfl Try.sizeOf24 (by exact rfl) (by repeat (first | exact .head _ | refine .tail _ ?_)) (by assumption) (by exact rfl)) rfl ?_
      refine xj_s 1 (by exact rfl) (by kernel_rfl) (by repeat (first | exact Sel.nil | refine Sel.cons (by repeat (first | exact Rem.here | apply Rem.there)) ?_)) (y_move (by exact rfl)) rfl ?_
      refine xj_s 2 (by exact rfl) (by kernel_rfl) (by repeat (first | exact Sel.nil | refine Sel.cons (by repeat (first | exact Rem.here | apply Rem.there)) ?_)) (y_move (by exact rfl)) rfl ?_
      refine xj_s 3 (by exact rfl) (by kernel_rfl) (by repeat (first | exact Sel.nil | refine Sel.cons (by repeat (first | exact Rem.here | apply Rem.there)) ?_)) (y_add (by exact rfl) (by exact rfl) (by omega)) rfl ?_
      refine xj_s 4 (by exact rfl) (by kernel_rfl) (by repeat (first | exact Sel.nil | refine Sel.cons (by repeat (first | exact Rem.here | apply Rem.there)) ?_)) (y_slice_h (h := k + 1) Try.underlying25 Try.sizeOf57 (by exact rfl) (ev_int (by exact rfl) (by omega)) (by omega)) rfl ?_
      refine xj_s 5 (by exact rfl) (by kernel_rfl) (by repeat (first | exact Sel.nil | refine Sel.cons (by repeat (first | exact Rem.here | apply Rem.there)) ?_)) (by first | exact y_fab Try.underlying57 (by exact rfl) (by exact Try.sizeOf3) (by exact rfl) rfl | exact y_fa Try.underlying57 (by exact rfl) (by exact Try.sizeOf3) (by exact rfl) rfl) rfl ?_
      refine xj_s 6 (by exact rfl) (by kernel_rfl) (by repeat (first | exact Sel.nil | refine Sel.cons (by repeat (first | exact Rem.here | apply Rem.there)) ?_)) (by first | exact y_load_blk Try.underlying3 rfl (by exact rfl) (by repeat (first | exact .head _ | refine .tail _ ?_)) (by exact rfl) | exact y_load_caj Try.underlying3 rfl (by exact rfl) (by repeat (first | exact .head _ | refine .tail _ ?_)) (by assumption) (by exact rfl) | exact y_load_ca0 Try.underlying3 rfl (by exact rfl) (by repeat (first | exact .head _ | refine .tail _ ?_)) (by assumption) (by exact rfl)) rfl ?_
      refine xj_one 7 (by exact rfl) (by kernel_rfl) ?_
      refine sq_call_new (first := []) (caps := []) (Z := Addr) (fun z => .pointer (some z)) (fun lo w' z => w.heap.size ≤ lo ∧ CoN lo w' z r a c d.team.toNat (allW r d.team.toNat (ls.take (k + 1)))) (by exact rfl) Try.call58 (EvL.cons (by exact rfl) (EvL.cons (by exact rfl) (EvL.cons (by exact rfl) EvL.nil))) (fun w1 hw1 => (newCourse58n w1 r a c f cf d.team.toNat al cl (ls.take (k + 1)) (k + 1) hlt (hT.at hw1 (by repeat (first | exact .head _ | refine .tail _ ?_))) ((hl.take (k + 1)).at hw1 (by repeat (first | exact .head _ | refine .tail _ ?_))) i1 i2 i3 hok (by omega) (fun d hd => (wdB_parts (hwd d (List.mem_of_mem_take hd))).2.1) (by omega) _ (by omega)).mono (fun e w' ⟨p, he, hb, hc⟩ => ⟨p, he, hb, hw1.size, hc⟩)) rfl (fun lo1 w58 p hp => ?_)
      refine sq_nil ?_
      refine sx_xp (by repeat (first | exact Sel.nil | refine Sel.cons (by repeat (first | exact Rem.here | apply Rem.there)) ?_)) ?_
      refine xj_one 8 (by exact rfl) (by kernel_rfl) ?_
      refine sq_y (y_call (first := []) (caps := []) (by exact rfl) Try.call59 (EvL.cons (by exact rfl) EvL.nil) (fun w1 hw1 => isTrue59 w1 p r d.team.toNat (allW r d.team.toNat (ls.take (k + 1))) (((hp.2.keep hw1 (by repeat (first | exact .head _ | refine .tail _ ?_))).low (Nat.zero_le _)).co (hT.at hw1 (by repeat (first | exact .head _ | refine .tail _ ?_))) (allW_ok hok (fun d hd => hwd d (List.mem_of_mem_take hd))) (allW_len (by omega))) hok)) rfl ?_
      refine sq_nil ?_
      refine sx_xp (by repeat (first | exact Sel.nil | refine Sel.cons (by repeat (first | exact Rem.here | apply Rem.there)) ?_)) ?_
      refine xj_s 9 (by exact rfl) (by kernel_rfl) (by repeat (first | exact Sel.nil | refine Sel.cons (by repeat (first | exact Rem.here | apply Rem.there)) ?_)) (y_not (by exact rfl)) rfl ?_
      refine xj_done (by kernel_rfl) ?_
      refine sx_then ?_
      first | refine sc_if (by exact rfl) (fun hc2 => ?_) (fun hc2 => ?_) | refine sc_ifn (by exact rfl) (fun hc2 => ?_) (fun hc2 => ?_) | refine sc_cond (by exact rfl) (fun hc2 => ?_) (fun hc2 => ?_)
      ·
        refine sc_seq ?_
        refine sc_region ?_
        refine sq_y (OpY.s (y_move (by exact rfl))) rfl ?_
        refine sq_y (OpY.s (y_assign (by exact rfl))) rfl ?_
        refine sq_y (OpY.s (y_assign (by exact rfl))) rfl ?_
        refine sq_nil ?_
        refine sx_then ?_
        refine sc_ret ?_
        refine sx_blk_ret ?_
        refine sx_then_ret ?_
        refine sx_round_ret ?_
        refine sx_blk_ret ?_
        refine sx_then_ret ?_
        refine sx_ret2 (.inl rfl) rfl Try.results25 (by exact rfl) (by exact rfl) ?_
        intro w' hw'
        refine ⟨?_, hw'.below (by repeat (first | exact .head _ | refine .tail _ ?_))⟩
        have hq : clashP r ls k = true := by unfold clashP trT; rw [hdk]; simpa using hc2
        unfold clashN clashI; rw [if_neg (fun h => h hz), find_range hk' hq hno]
      ·
        refine sc_skip ?_
        refine sx_blk ?_
        refine sx_then ?_
        refine sc_region ?_
        refine sq_y (OpY.s (y_add (by exact rfl) (by exact rfl) (by omega))) rfl ?_
        refine sq_y (OpY.s (y_move (by exact rfl))) rfl ?_
        refine sq_nil ?_
        refine sx_round (k + 1) ?_ ?_ (by repeat (first | exact SubL.nil | refine SubL.cons (by first | exact rfl | exact lk_int rfl (by omega) | exact lk_eq rfl (by simp)) ?_)) (by repeat (first | exact Sel.nil | refine Sel.cons (by repeat (first | exact Rem.here | apply Rem.there)) ?_))
        · refine ⟨by omega, fun j hj => ?_⟩
          rcases Nat.lt_succ_iff_lt_or_eq.1 hj with h | rfl
          · exact hno j h
          · unfold clashP trT; rw [hdk]; simpa using hc2
        · omega
    ·
      refine sc_exit ?_
      refine sx_then_exit ?_
      refine sx_round_exit ?_
      refine sx_blk_hit ?_
      refine sx_then ?_
      refine sc_seq ?_
      refine sc_region ?_
      refine sq_y (OpY.s (y_assign (by exact rfl))) rfl ?_
      refine sq_y (OpY.s (y_assign (by exact rfl))) rfl ?_
      refine sq_nil ?_
      refine sx_then ?_
      refine sc_ret ?_
      refine sx_ret2 (.inl rfl) rfl Try.results25 (by exact rfl) (by exact rfl) ?_
      intro w' hw'
      refine ⟨?_, hw'.below (by repeat (first | exact .head _ | refine .tail _ ?_))⟩
      have hkn : k = ls.length := by omega
      subst hkn
      unfold clashN clashI; rw [if_neg (fun h => h hz), find_range_none hno]
end Go.Proofs.Ytegdfpilhlcplaa
