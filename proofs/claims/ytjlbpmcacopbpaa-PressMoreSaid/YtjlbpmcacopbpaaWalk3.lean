/- The walks of Fringe. -/
import Derived.Test.YtjlbpmcacopbpaaWalk2
namespace Go.Proofs.Ytjlbpmcacopbpaa
open Go Go.Eng Go.RowKit Go.Proofs
set_option maxRecDepth 100000
theorem maxIn_succ {f : Nat → Nat → Int} {i k : Nat} {a : Int} (h : i ≠ k) : max (maxIn f i k a) (f i k) = maxIn f i (k + 1) a := by
  conv => { rhs; unfold maxIn }
  rw [if_neg h]
theorem maxIn_skip {f : Nat → Nat → Int} {i k : Nat} {a : Int} (h : i = k) : maxIn f i k a = maxIn f i (k + 1) a := by
  conv => { rhs; unfold maxIn }
  rw [if_pos h]
theorem shB_bd {l : List Sf} (h : shB l = true) (pr : Sf → Sp) (hp : pr = (·.x) ∨ pr = (·.y)) : ∀ i, i < l.length → -1000 ≤ ((l.map pr).getD i sp0).lo ∧ ((l.map pr).getD i sp0).lo ≤ ((l.map pr).getD i sp0).hi ∧ ((l.map pr).getD i sp0).hi ≤ 1000 := fun i hi => by
  have h1 := (shB_parts h).2 _ (List.mem_of_getElem? (get_of_lt sf0 hi))
  rw [map_getD pr l sf0 hi]
  rcases hp with rfl | rfl
  · exact h1.1
  · exact h1.2

theorem apart49 (w : World) (a : Option Addr) (c : Nat) (l : List Sp) (hl : RowsA spRow 2 0 w a l) (h1 : 0 < l.length) (h8 : l.length ≤ 8) (hb : ∀ i, i < l.length → -1000 ≤ (l.getD i sp0).lo ∧ (l.getD i sp0).lo ≤ (l.getD i sp0).hi ∧ (l.getD i sp0).hi ≤ 1000) : Calls Try.prog 49 #[.slice a l.length c] w fun e w' => e = .returned (.agg (spRow (apartV l)).toArray) ∧ Below w.heap.size w w' := by
  refine calls_of_SC (args := [.slice a l.length c]) Try.func49 rfl Try.ntmps49 rfl ?_
  simp only [argL]
  refine sc_seq ?_
  refine sc_region ?_
  refine sq_alloc Try.zeroValue24 rfl (fun b2 => ?_)
  refine sq_nil ?_
  refine sx_then ?_
  refine sc_seq ?_
  refine sc_region ?_
  refine sq_alloc Try.zeroValue24 rfl (fun b3 => ?_)
  refine sq_nil ?_
  refine sx_then ?_
  refine sc_seq ?_
  refine sc_seq ?_
  refine sc_region ?_
  refine qs (y_assign RF) ?_
  refine sq_nil ?_
  refine sx_then ?_
  refine sc_block ?_
  refine sc_loop (σ := Nat)
    (fun s => [(0, .slice a l.length c), (2, .pointer (some ⟨b2, 0, none⟩)), (3, .pointer (some ⟨b3, 0, none⟩)), (4, .int .i64 s)])
    (fun s => [.blk b3 (.cells (spRow ⟨maxOut (nearF l) l.length s, maxOut (farF l) l.length s⟩).toArray 24 (0, 0)), .blk b2 (.cells [Value.int .i64 0, .int .i64 0].toArray 24 (0, 0)), .reg 0 w])
    (fun s => s ≤ l.length)
    (fun s => l.length - s)
    (0) ?_ SU SR ?_
  · exact Nat.zero_le _
  rintro i hi
  refine sc_seq ?_
  refine sc_seq ?_
  refine sc_region ?_
  refine qs (y_move RF) ?_
  refine qs (y_move RF) ?_
  refine qs (y_len Try.underlying36 RF) ?_
  refine qs (y_lss RF RF) ?_
  refine sq_nil ?_
  refine sx_then ?_
  refine scp (fun hc0 => ?_) (fun hc0 => ?_)
  ·
    have hi' : i < l.length := by omega
    have hsi := (hl.get sp0 hi').1
    have hcai := (hl.get sp0 hi').2
    refine sc_skip ?_
    refine sx_then ?_
    refine sc_seq ?_
    refine sc_block ?_
    refine sc_seq ?_
    refine sc_region ?_
    refine qs (y_assign RF) ?_
    refine sq_nil ?_
    refine sx_then ?_
    refine sc_block ?_
    refine sc_loop (σ := Nat)
      (fun s => [(0, .slice a l.length c), (2, .pointer (some ⟨b2, 0, none⟩)), (3, .pointer (some ⟨b3, 0, none⟩)), (4, .int .i64 i), (5, .int .i64 s)])
      (fun s => [.blk b3 (.cells (spRow ⟨maxIn (nearF l) i s (maxOut (nearF l) l.length i), maxIn (farF l) i s (maxOut (farF l) l.length i)⟩).toArray 24 (0, 0)), .blk b2 (.cells [Value.int .i64 0, .int .i64 0].toArray 24 (0, 0)), .reg 0 w])
      (fun s => s ≤ l.length)
      (fun s => l.length - s)
      (0) ?_ SU SR ?_
    · exact Nat.zero_le _
    rintro k hk
    refine sc_seq ?_
    refine sc_seq ?_
    refine sc_region ?_
    refine qs (y_move RF) ?_
    refine qs (y_move RF) ?_
    refine qs (y_len Try.underlying36 RF) ?_
    refine qs (y_lss RF RF) ?_
    refine sq_nil ?_
    refine sx_then ?_
    refine scp (fun hc1 => ?_) (fun hc1 => ?_)
    ·
      have hk' : k < l.length := by omega
      have hsk := (hl.get sp0 hk').1
      have hcak := (hl.get sp0 hk').2
      refine sc_skip ?_
      refine sx_then ?_
      refine sc_seq ?_
      refine sc_block ?_
      refine sc_seq ?_
      refine sc_region ?_
      refine qs (y_move RF) ?_
      refine qs (y_move RF) ?_
      refine qs (y_neq RF RF) ?_
      refine sq_nil ?_
      refine sx_then ?_
      refine scp (fun hc2 => ?_) (fun hc2 => ?_)
      ·
        have hik : i ≠ k := by omega
        refine sc_drawR (by kernel_rfl) ?_
        refine xj_s 0 RF (by kernel_rfl) SR FA24_3 rfl ?_
        refine xj_s 1 RF (by kernel_rfl) SR LD3 rfl ?_
        refine xj_s 2 RF (by kernel_rfl) SR (y_move RF) rfl ?_
        refine xj_s 3 RF (by kernel_rfl) SR (y_move RF) rfl ?_
        refine xj_s 4 RF (by kernel_rfl) SR IA36 rfl ?_
        refine xj_s 5 RF (by kernel_rfl) SR FA24_3 rfl ?_
        refine xj_s 6 RF (by kernel_rfl) SR (by first | exact y_load_caj (j := 0) Try.underlying3 rfl RF MM hcai rfl | exact LD3) rfl ?_
        refine xj_s 7 RF (by kernel_rfl) SR (y_move RF) rfl ?_
        refine xj_s 8 RF (by kernel_rfl) SR (y_move RF) rfl ?_
        refine xj_s 9 RF (by kernel_rfl) SR IA36 rfl ?_
        refine xj_s 10 RF (by kernel_rfl) SR FA24_3 rfl ?_
        refine xj_s 11 RF (by kernel_rfl) SR (by first | exact y_load_caj (j := 1) Try.underlying3 rfl RF MM hcak rfl | exact LD3) rfl ?_
        refine xj_s 12 RF (by kernel_rfl) SR (y_sub RF RF (by have e1 := hb i hi'; have e2 := hb k hk'; omega)) rfl ?_
        refine xj_s 13 RF (by kernel_rfl) SR (y_max RF RF) rfl ?_
        refine xj_s 14 RF (by kernel_rfl) SR FA24_3 rfl ?_
        refine xj_s 15 RF (by kernel_rfl) SR LD3 rfl ?_
        refine xj_s 16 RF (by kernel_rfl) SR (y_move RF) rfl ?_
        refine xj_s 17 RF (by kernel_rfl) SR (y_move RF) rfl ?_
        refine xj_s 18 RF (by kernel_rfl) SR IA36 rfl ?_
        refine xj_s 19 RF (by kernel_rfl) SR FA24_3 rfl ?_
        refine xj_s 20 RF (by kernel_rfl) SR (by first | exact y_load_caj (j := 1) Try.underlying3 rfl RF MM hcai rfl | exact LD3) rfl ?_
        refine xj_s 21 RF (by kernel_rfl) SR (y_move RF) rfl ?_
        refine xj_s 22 RF (by kernel_rfl) SR (y_move RF) rfl ?_
        refine xj_s 23 RF (by kernel_rfl) SR IA36 rfl ?_
        refine xj_s 24 RF (by kernel_rfl) SR FA24_3 rfl ?_
        refine xj_s 25 RF (by kernel_rfl) SR (by first | exact y_load_caj (j := 0) Try.underlying3 rfl RF MM hcak rfl | exact LD3) rfl ?_
        refine xj_s 26 RF (by kernel_rfl) SR (y_sub RF RF (by have e1 := hb i hi'; have e2 := hb k hk'; omega)) rfl ?_
        refine xj_s 27 RF (by kernel_rfl) SR (y_max RF RF) rfl ?_
        refine xj_s 28 RF (by kernel_rfl) SR (y_build (cells := (spRow ⟨max (maxIn (nearF l) i k (maxOut (nearF l) l.length i)) (nearF l i k), max (maxIn (farF l) i k (maxOut (farF l) l.length i)) (farF l i k)⟩).toArray) bt24 (EvP.cons RF (EvP.cons RF EvP.nil)) (by kernel_rfl)) rfl ?_
        rw [maxIn_succ hik, maxIn_succ hik]
        refine xj_one 29 RF (by kernel_rfl) ?_
        refine sq_store_all Try.sizeOf24 RF RF rfl RM rfl rfl ?_
        refine sq_nil ?_
        refine sx_xpl (by kernel_rfl) ?_
        refine xj_done (by kernel_rfl) ?_
        refine sx_blk ?_
        refine sx_then ?_
        refine sc_region ?_
        refine qs (y_move RF) ?_
        refine qs (y_add RF RF (by omega)) ?_
        refine qs (y_assign RF) ?_
        refine sq_nil ?_
        refine sx_round (k + 1) ?_ ?_ SU SR
        · omega
        · omega
      ·
        have hik : i = k := by omega
        rw [maxIn_skip (f := nearF l) hik, maxIn_skip (f := farF l) hik]
        refine sc_skip ?_
        refine sx_blk ?_
        refine sx_then ?_
        refine sc_region ?_
        refine qs (y_move RF) ?_
        refine qs (y_add RF RF (by omega)) ?_
        refine qs (y_assign RF) ?_
        refine sq_nil ?_
        refine sx_round (k + 1) ?_ ?_ SU SR
        · omega
        · omega
    ·
      have hkn : k = l.length := by omega
      subst hkn
      rw [show maxIn (nearF l) i l.length (maxOut (nearF l) l.length i) = maxOut (nearF l) l.length (i + 1) from rfl, show maxIn (farF l) i l.length (maxOut (farF l) l.length i) = maxOut (farF l) l.length (i + 1) from rfl]
      refine sc_exit ?_
      refine sx_then_exit ?_
      refine sx_round_exit ?_
      refine sx_blk_hit ?_
      refine sx_blk ?_
      refine sx_then ?_
      refine sc_region ?_
      refine qs (y_move RF) ?_
      refine qs (y_add RF RF (by omega)) ?_
      refine qs (y_assign RF) ?_
      refine sq_nil ?_
      refine sx_round (i + 1) ?_ ?_ SU SR
      · omega
      · omega
  ·
    have hin : i = l.length := by omega
    subst hin
    refine sc_exit ?_
    refine sx_then_exit ?_
    refine sx_round_exit ?_
    refine sx_blk_hit ?_
    refine sx_then ?_
    refine sc_seq ?_
    refine sc_region ?_
    refine qs LD24 ?_
    refine sq_store_all Try.sizeOf24 RF RF rfl RM rfl rfl ?_
    refine sq_nil ?_
    refine sx_then ?_
    refine sc_ret ?_
    refine sx_retc (.inl rfl) rfl Try.results49 Try.underlying24 rfl Try.sizeOf24 RF MM rfl ?_
    intro w' hw'
    refine ⟨?_, hw'.below MM⟩
    rw [← apart_eq h1 fun i hi => (hb i hi).2.1]
theorem apart49v (w : World) (v : Value) (l : List Sp) (hv : w.ownsRow 0 24 2 v l.length (l.flatMap spRow)) (h1 : 0 < l.length) (h8 : l.length ≤ 8) (hb : ∀ i, i < l.length → -1000 ≤ (l.getD i sp0).lo ∧ (l.getD i sp0).lo ≤ (l.getD i sp0).hi ∧ (l.getD i sp0).hi ≤ 1000) : Calls Try.prog 49 #[v] w fun e w' => e = .returned (.agg (spRow (apartV l)).toArray) ∧ Below w.heap.size w w' := by
  obtain ⟨a, c, rfl, _, hr⟩ := own_rowsA (row := spRow) (fun _ => rfl) hv rfl (by omega)
  exact apart49 w a c l hr h1 h8 hb
theorem fringe14 (w : World) (a : Option Addr) (c : Nat) (l : List Sf) (hl : RowsA sfRow 4 0 w a l) : Calls Try.prog 14 #[.slice a l.length c] w fun e w' => e = .returned (.tuple #[.agg (spRow (fringeV l).1).toArray, .agg (spRow (fringeV l).2.1).toArray, .int .i64 (fringeV l).2.2]) ∧ Below w.heap.size w w' := by
  refine calls_of_SC (args := [.slice a l.length c]) Try.func14 rfl Try.ntmps14 rfl ?_
  simp only [argL]
  refine sc_seq ?_
  refine sc_region ?_
  refine sq_alloc Try.zeroValue24 rfl (fun b2 => ?_)
  refine sq_alloc Try.zeroValue24 rfl (fun b3 => ?_)
  refine qs (y_assign RF) ?_
  refine sq_nil ?_
  refine sx_then ?_
  refine sc_seq ?_
  refine sc_seq ?_
  refine sc_region ?_
  refine qs (y_move RF) ?_
  refine qy (yc Try.call45 E1 (fun w1 hw1 => areShifts45 w1 a c l (hl.at hw1 MM))) ?_
  refine qs (y_not RF) ?_
  refine sq_nil ?_
  refine sx_then ?_
  refine scp (fun hc0 => ?_) (fun hc0 => ?_)
  ·
    refine sc_seq ?_
    refine sc_drawR (by kernel_rfl) ?_
    refine xj_s 0 RF (by kernel_rfl) SR LD24 rfl ?_
    refine xj_s 1 RF (by kernel_rfl) SR LD24 rfl ?_
    refine xj_one 2 RF (by kernel_rfl) ?_
    refine sq_store_all Try.sizeOf24 RF RF rfl RM rfl rfl ?_
    refine sq_nil ?_
    refine sx_xp SR ?_
    refine xj_one 3 RF (by kernel_rfl) ?_
    refine sq_store_all Try.sizeOf24 RF RF rfl RM rfl rfl ?_
    refine sq_nil ?_
    refine sx_xp SR ?_
    refine xj_s 4 RF (by kernel_rfl) SR (y_assign RF) rfl ?_
    refine xj_done (by kernel_rfl) ?_
    refine sx_then ?_
    refine sc_ret ?_
    refine sx_then_ret ?_
    refine sx_retcct (.inl rfl) rfl Try.results14 Try.underlying24 rfl Try.sizeOf24 Try.underlying24 rfl Try.sizeOf24 RF MM rfl RF MM rfl RF ?_
    intro w' hw'
    refine ⟨?_, hw'.below MM⟩
    have hf : shB l = false := by simpa using hc0
    unfold fringeV; rw [if_neg (by simp [hf])]; rfl
  ·
    refine sc_skip ?_
    refine sx_then ?_
    refine sc_seq ?_
    have hok : shB l = true := by simpa using hc0
    have hp := (shB_parts hok).1
    refine sc_region ?_
    refine qs (y_move RF) ?_
    refine qy (yc Try.call46 E2 (fun w1 hw1 => apart46 w1 a c l (hl.at hw1 MM) (by omega) (by omega) 47 (fun s => s.x) Try.call47 (fun s w2 => of47 w2 s) (shB_bd hok _ (.inl rfl)))) ?_
    refine qs (y_move RF) ?_
    refine qy (yc Try.call46 E2 (fun w1 hw1 => apart46 w1 a c l (hl.at hw1 MM) (by omega) (by omega) 48 (fun s => s.y) Try.call48 (fun s w2 => of48 w2 s) (shB_bd hok _ (.inr rfl)))) ?_
    refine sq_store_all Try.sizeOf24 RF RF rfl RM rfl rfl ?_
    refine sq_store_all Try.sizeOf24 RF RF rfl RM rfl rfl ?_
    refine qs (y_assign RF) ?_
    refine sq_nil ?_
    refine sx_then ?_
    refine sc_ret ?_
    refine sx_retcct (.inl rfl) rfl Try.results14 Try.underlying24 rfl Try.sizeOf24 Try.underlying24 rfl Try.sizeOf24 RF MM rfl RF MM rfl RF ?_
    intro w' hw'
    refine ⟨?_, hw'.below MM⟩
    unfold fringeV; rw [if_pos hok]
theorem fringe15 (w : World) (a : Option Addr) (c : Nat) (l : List Sf) (hl : RowsA sfRow 4 0 w a l) : Calls Try.prog 15 #[.slice a l.length c] w fun e w' => e = .returned (.tuple #[.agg (spRow (fringeV l).1).toArray, .agg (spRow (fringeV l).2.1).toArray, .int .i64 (fringeV l).2.2]) ∧ Below w.heap.size w w' := by
  refine calls_of_SC (args := [.slice a l.length c]) Try.func15 rfl Try.ntmps15 rfl ?_
  simp only [argL]
  refine sc_seq ?_
  refine sc_region ?_
  refine sq_alloc Try.zeroValue24 rfl (fun b2 => ?_)
  refine sq_alloc Try.zeroValue24 rfl (fun b3 => ?_)
  refine qs (y_assign RF) ?_
  refine sq_nil ?_
  refine sx_then ?_
  refine sc_seq ?_
  refine sc_seq ?_
  refine sc_region ?_
  refine qs (y_move RF) ?_
  refine qy (yc Try.call31 E1 (fun w1 hw1 => shifts31 w1 a c l (hl.at hw1 MM))) ?_
  refine qs (y_not RF) ?_
  refine sq_nil ?_
  refine sx_then ?_
  refine scp (fun hc0 => ?_) (fun hc0 => ?_)
  ·
    refine sc_seq ?_
    refine sc_region ?_
    refine qs (y_build bt24 EvP.nil RF) ?_
    refine qs (y_build bt24 EvP.nil RF) ?_
    refine sq_store_all Try.sizeOf24 RF RF rfl RM rfl rfl ?_
    refine sq_store_all Try.sizeOf24 RF RF rfl RM rfl rfl ?_
    refine qs (y_assign RF) ?_
    refine sq_nil ?_
    refine sx_then ?_
    refine sc_ret ?_
    refine sx_then_ret ?_
    refine sx_retcct (.inl rfl) rfl Try.results15 Try.underlying24 rfl Try.sizeOf24 Try.underlying24 rfl Try.sizeOf24 RF MM rfl RF MM rfl RF ?_
    intro w' hw'
    refine ⟨?_, hw'.below MM⟩
    have hf : shB l = false := by simpa using hc0
    unfold fringeV; rw [if_neg (by simp [hf])]; rfl
  ·
    refine sc_skip ?_
    refine sx_then ?_
    refine sc_seq ?_
    have hok : shB l = true := by simpa using hc0
    have hp := (shB_parts hok).1
    refine sc_region ?_
    refine qs (y_assign RF) ?_
    refine qs (y_assign RF) ?_
    refine sq_nil ?_
    refine sx_then ?_
    refine sc_seq ?_
    refine sc_seq ?_
    refine sc_nil_own 24 2 ?_
    refine sc_nil_own 24 2 ?_
    refine sc_region ?_
    refine qs (y_assign RF) ?_
    refine sq_nil ?_
    refine sx_then ?_
    refine sc_block ?_
    refine sc_loop (σ := Nat × Value × Value)
      (fun s => [(0, .slice a l.length c), (2, .pointer (some ⟨b2, 0, none⟩)), (3, .pointer (some ⟨b3, 0, none⟩)), (5, s.2.1), (6, s.2.2), (7, .int .i64 s.1)])
      (fun s => [.own s.2.1 24 2 s.1 (((l.map (fun (s : Sf) => s.x)).take s.1).flatMap spRow), .own s.2.2 24 2 s.1 (((l.map (fun (s : Sf) => s.y)).take s.1).flatMap spRow), .blk b3 (.cells [Value.int .i64 0, .int .i64 0].toArray 24 (0, 0)), .blk b2 (.cells [Value.int .i64 0, .int .i64 0].toArray 24 (0, 0)), .reg 0 w])
      (fun s => s.1 ≤ l.length ∧ s.2.1.oneCell' = true ∧ s.2.2.oneCell' = true)
      (fun s => l.length - s.1)
      ((0, .slice none 0 0, .slice none 0 0)) ?_ SU SR ?_
    · exact ⟨Nat.zero_le _, rfl, rfl⟩
    rintro ⟨k, v5, v6⟩ ⟨hk, hv5, hv6⟩
    dsimp only at hk hv5 hv6 ⊢
    refine sc_seq ?_
    refine sc_seq ?_
    refine sc_region ?_
    refine qs (y_move RF) ?_
    refine qs (y_move RF) ?_
    refine qs (y_len Try.underlying22 RF) ?_
    refine qs (y_lss RF RF) ?_
    refine sq_nil ?_
    refine sx_then ?_
    refine scp (fun hc1 => ?_) (fun hc1 => ?_)
    ·
      have hk' : k < l.length := by omega
      have hsm := (hl.get sf0 hk').1
      have hca := (hl.get sf0 hk').2
      refine sc_skip ?_
      refine sx_then ?_
      refine sc_seq ?_
      refine sc_block ?_
      refine sc_seq ?_
      refine sc_region ?_
      refine qs (y_move RF) ?_
      refine qs (y_move RF) ?_
      refine qs (y_move RF) ?_
      refine qs IA22 ?_
      refine qs FA51_24 ?_
      refine qs (by first | exact y_load_capart (o := 0) (vs := sfRow (l.getD k sf0)) Try.underlying24 rfl Try.sizeOf24 RF MM hca rfl | exact LD24) ?_
      refine sq_bs Try.underlying36 ei24 (EvI.cons RF EvI.nil) (by first | (simp [Value.cells]; done) | (simp [Value.cells]; rfl) | (simp [Value.cells]; and_intros <;> rfl)) rfl rfl rfl (fun b25 => ?_)
      refine sq_append (news := spRow (l.getD k sf0).x) Try.underlying36 ei24 rfl (by decide) RF RM RF rfl (fun _ hw => news_blk hw MM) (by simp [spRow, Value.oneCell']) (by omega) rfl (fun v26 ho26 => ?_)
      rw [show ((l.map (fun (s : Sf) => s.x)).take k).flatMap spRow ++ spRow (l.getD k sf0).x = ((l.map (fun (s : Sf) => s.x)).take (k + 1)).flatMap spRow from by rw [List.take_add_one, List.getElem?_map, get_of_lt sf0 hk']; simp]
      refine qs (y_assign RF) ?_
      refine sq_nil ?_
      refine sx_then ?_
      refine sc_region ?_
      refine qs (y_move RF) ?_
      refine qs (y_move RF) ?_
      refine qs (y_move RF) ?_
      refine qs IA22 ?_
      refine qs FA51_24 ?_
      refine qs (by first | exact y_load_capart (o := 2) (vs := sfRow (l.getD k sf0)) Try.underlying24 rfl Try.sizeOf24 RF MM hca rfl | exact LD24) ?_
      refine sq_bs Try.underlying36 ei24 (EvI.cons RF EvI.nil) (by first | (simp [Value.cells]; done) | (simp [Value.cells]; rfl) | (simp [Value.cells]; and_intros <;> rfl)) rfl rfl rfl (fun b33 => ?_)
      refine sq_append (news := spRow (l.getD k sf0).y) Try.underlying36 ei24 rfl (by decide) RF RM RF rfl (fun _ hw => news_blk hw MM) (by simp [spRow, Value.oneCell']) (by omega) rfl (fun v34 ho34 => ?_)
      rw [show ((l.map (fun (s : Sf) => s.y)).take k).flatMap spRow ++ spRow (l.getD k sf0).y = ((l.map (fun (s : Sf) => s.y)).take (k + 1)).flatMap spRow from by rw [List.take_add_one, List.getElem?_map, get_of_lt sf0 hk']; simp]
      refine qs (y_assign RF) ?_
      refine sq_nil ?_
      refine sx_blk ?_
      refine sx_then ?_
      refine sc_region ?_
      refine qs (y_move RF) ?_
      refine qs (y_add RF RF (by omega)) ?_
      refine qs (y_assign RF) ?_
      refine sq_nil ?_
      refine sx_round ((k + 1, v26, v34)) ?_ ?_ SU SR
      · exact ⟨by dsimp only; omega, ho26, ho34⟩
      · dsimp only; omega
    ·
      have hkn : k = l.length := by omega
      subst hkn
      rw [show ((l.map (fun (s : Sf) => s.x)).take l.length) = (l.map (fun (s : Sf) => s.x)) from List.take_of_length_le (by simp), show ((l.map (fun (s : Sf) => s.y)).take l.length) = (l.map (fun (s : Sf) => s.y)) from List.take_of_length_le (by simp)]
      refine sc_exit ?_
      refine sx_then_exit ?_
      refine sx_round_exit ?_
      refine sx_blk_hit ?_
      refine sx_then ?_
      refine sc_seq ?_
      refine sc_region ?_
      refine qs (y_move RF) ?_
      refine qy (yc Try.call49 E1 (fun w1 hw1 => apart49v w1 v5 (l.map (fun (s : Sf) => s.x)) (by rw [List.length_map]; exact hw1.ok (Res.own v5 24 2 l.length ((l.map (fun (s : Sf) => s.x)).flatMap spRow)) MM) (by rw [List.length_map]; omega) (by rw [List.length_map]; omega) (fun i hi => shB_bd hok _ (.inl rfl) i (by rw [List.length_map] at hi; exact hi)))) ?_
      refine qs (y_move RF) ?_
      refine qy (yc Try.call49 E1 (fun w1 hw1 => apart49v w1 v6 (l.map (fun (s : Sf) => s.y)) (by rw [List.length_map]; exact hw1.ok (Res.own v6 24 2 l.length ((l.map (fun (s : Sf) => s.y)).flatMap spRow)) MM) (by rw [List.length_map]; omega) (by rw [List.length_map]; omega) (fun i hi => shB_bd hok _ (.inr rfl) i (by rw [List.length_map] at hi; exact hi)))) ?_
      refine sq_store_all Try.sizeOf24 RF RF rfl RM rfl rfl ?_
      refine sq_store_all Try.sizeOf24 RF RF rfl RM rfl rfl ?_
      refine qs (y_assign RF) ?_
      refine sq_nil ?_
      refine sx_then ?_
      refine sc_ret ?_
      refine sx_retcct (.inl rfl) rfl Try.results15 Try.underlying24 rfl Try.sizeOf24 Try.underlying24 rfl Try.sizeOf24 RF MM rfl RF MM rfl RF ?_
      intro w' hw'
      refine ⟨?_, hw'.below MM⟩
      unfold fringeV; rw [if_pos hok]
end Go.Proofs.Ytjlbpmcacopbpaa
