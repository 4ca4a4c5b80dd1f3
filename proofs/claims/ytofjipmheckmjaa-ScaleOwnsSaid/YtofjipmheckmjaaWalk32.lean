/- The walk of the law ScaleOwns. -/
import Derived.Test.YtofjipmheckmjaaWalk23
namespace Go.Proofs.Ytofjipmheckmjaa
open Go Go.Eng Go.RowKit Go.Proofs
set_option maxRecDepth 100000
theorem rdRow_len (x : Rd) : (rdRow x).length = 8 := rfl
theorem rds_cells {w : World} {ad : Addr} {l : List Rd} (h : RowsA rdRow 8 0 w (some ad) l) : ∀ j u, (l.flatMap rdRow)[j]? = some u → w.cell? (ad.add j) = some u := h.cells rdRow_len (by decide)
theorem rds_one (l : List Rd) : ∀ u, u ∈ l.flatMap rdRow → u.oneCell' = true := flat_one (fun x u hu => by simp [rdRow] at hu; rcases hu with rfl | rfl | rfl | rfl | rfl | rfl | rfl | rfl <;> rfl) l
theorem kdRow_len (x : Kd) : (kdRow x).length = 3 := rfl
theorem kds_cells {w : World} {ad : Addr} {l : List Kd} (h : RowsA kdRow 3 0 w (some ad) l) : ∀ j u, (l.flatMap kdRow)[j]? = some u → w.cell? (ad.add j) = some u := h.cells kdRow_len (by decide)
theorem kds_one (l : List Kd) : ∀ u, u ∈ l.flatMap kdRow → u.oneCell' = true := flat_one (fun x u hu => by simp [kdRow] at hu; rcases hu with rfl | rfl | rfl <;> rfl) l
theorem teRow_len (x : Te) : (teRow x).length = 7 := rfl
theorem tes_cells {w : World} {ad : Addr} {l : List Te} (h : RowsA teRow 7 0 w (some ad) l) : ∀ j u, (l.flatMap teRow)[j]? = some u → w.cell? (ad.add j) = some u := h.cells teRow_len (by decide)
theorem tes_one (l : List Te) : ∀ u, u ∈ l.flatMap teRow → u.oneCell' = true := flat_one (fun x u hu => by simp [teRow] at hu; rcases hu with rfl | rfl | rfl | rfl | rfl | rfl | rfl <;> rfl) l
theorem spRow_len (x : Sp) : (spRow x).length = 2 := rfl
theorem sps_one (l : List Sp) : ∀ u, u ∈ l.flatMap spRow → u.oneCell' = true := flat_one (fun x u hu => by simp [spRow] at hu; rcases hu with rfl | rfl <;> rfl) l
theorem iRow_len (x : Int) : (iRow x).length = 1 := rfl
theorem is_one (l : List Int) : ∀ u, u ∈ l.flatMap iRow → u.oneCell' = true := flat_one (fun x u hu => by simp [iRow] at hu; subst hu; rfl) l
theorem is_set (n : Int) : ∀ (l : List Int) (j : Nat), (l.flatMap iRow).set (j * 1 + 0) (.int .i64 n) = (l.set j n).flatMap iRow
  | [], _ => rfl
  | k :: l, 0 => rfl
  | k :: l, j + 1 => by
    rw [List.set_cons_succ, List.flatMap_cons, List.flatMap_cons, ← is_set n l j]
    rfl
theorem left18o (w : World) (b : Bx) (a : Option Addr) (c : Nat) (hB : RowsA kdRow 3 0 w a b.kinds) (al : Option Addr) (cl : Nat) (ls : List Rd) (hl : RowsA rdRow 8 0 w al ls) : Calls Try.prog 18 #[.agg (bxRow b a c).toArray, .slice al ls.length cl] w fun e w' => ∃ z : Option Addr × Nat, e = .returned (.tuple #[.slice z.1 (leftR b ls).length z.2, .int .i64 (openE b ls [])]) ∧ Below w.heap.size w w' ∧ (z.1 = none → (leftR b ls).length = 0) ∧ w'.ownsRow w.heap.size 24 2 (.slice z.1 (leftR b ls).length z.2) (leftR b ls).length ((leftR b ls).flatMap spRow) :=
  (left18 w b a c hB al cl ls hl).mono fun e w' ⟨v, he, hb, ho⟩ => by
    obtain ⟨a2, c2, rfl, _, hr⟩ := own_rowsA (row := spRow) (fun _ => rfl) ho rfl (by have := leftR_len b ls; have := hB.len; omega)
    exact ⟨(a2, c2), he, hb, fun h0 => hr.noa h0, ho⟩
theorem reads14v (w : World) (b : Bx) (a : Option Addr) (c : Nat) (hB : RowsA kdRow 3 0 w a b.kinds) (v : Value) (K : List Int) (hv : w.ownsRow 0 3 1 v K.length (K.flatMap iRow)) (hk : K.length ≤ 9223372036854775807) (t : Te) : Calls Try.prog 14 #[.agg (bxRow b a c).toArray, v, .agg (teRow t).toArray] w fun e w' => e = .returned (readAns b K t) ∧ Below w.heap.size w w' := by
  obtain ⟨a2, c2, rfl, _, hr⟩ := own_rowsA (row := iRow) (fun _ => rfl) hv rfl hk
  exact reads14 w b a c hB a2 c2 K hr t
theorem spans20v (w : World) (a : Option Addr) (c : Nat) (l : List Sp) (h1 : RowsA spRow 2 0 w a l) (v : Value) (hv : w.ownsRow 0 24 2 v l.length (l.flatMap spRow)) : Calls Try.prog 20 #[.slice a l.length c, v] w fun e w' => e = .returned (.bool true) ∧ Below w.heap.size w w' := by
  obtain ⟨a2, c2, rfl, _, hr⟩ := own_rowsA (row := spRow) (fun _ => rfl) hv rfl h1.len
  exact (spans20 w a a2 c c2 l l h1 hr).mono fun _ _ ⟨he, hb⟩ => ⟨by rw [he]; simp, hb⟩
theorem ints27v (w : World) (a : Option Addr) (c : Nat) (l : List Int) (h1 : RowsA iRow 1 0 w a l) (v : Value) (hv : w.ownsRow 0 3 1 v l.length (l.flatMap iRow)) : Calls Try.prog 27 #[.slice a l.length c, v] w fun e w' => e = .returned (.bool true) ∧ Below w.heap.size w w' := by
  obtain ⟨a2, c2, rfl, _, hr⟩ := own_rowsA (row := iRow) (fun _ => rfl) hv rfl h1.len
  exact (ints27 w a a2 c c2 l l h1 hr).mono fun _ _ ⟨he, hb⟩ => ⟨by rw [he]; simp, hb⟩
theorem incL_len (b : Bx) (ts : List Te) : bxB b = true → ∀ h, slipP b ts = some h → h.length ≤ 4 := fun hok h hh => by
  have h1 := List.mem_of_find?_eq_some hh
  have h2 := (allL_ok hok h (List.mem_filter.1 h1).1).len
  have := (bxB_parts hok).1
  omega
theorem slip_len (b : Bx) (ts : List Te) : (slipR b ts).1.length ≤ 4 := by
  unfold slipR
  split
  · exact Nat.zero_le _
  · rename_i hc
    split
    · rename_i h hh
      exact incL_len b ts (chk_zero (by simpa using hc)).1 h hh
    · exact Nat.zero_le _

theorem neq74s (d : Kd) : ∀ w, (binOp .neq 74 (.agg (kdRow d).toArray) (.agg (kdRow d).toArray)).run Try.prog w = .ok (.bool false) w := fun w => by
  have h3 := Try.underlying3
  have u74 := Try.underlying74
  have s74 : Try.prog.stoodInHeld 74 = false := by kernel_rfl
  have f74 : Try.prog.fieldsOf 74 = #[⟨"Many", 3, 0, false, "", "", 0⟩, ⟨"Weight", 24, 1, false, "", "", 8⟩] := by kernel_rfl
  have g74 : Try.prog.underlying 74 = some (.struct (Try.prog.fieldsOf 74)) := by rw [f74]; exact u74
  have u24 := Try.underlying24
  have s24 : Try.prog.stoodInHeld 24 = false := by kernel_rfl
  have f24 : Try.prog.fieldsOf 24 = #[⟨"Lo", 3, 0, false, "", "", 0⟩, ⟨"Hi", 3, 1, false, "", "", 8⟩] := by kernel_rfl
  have g24 : Try.prog.underlying 24 = some (.struct (Try.prog.fieldsOf 24)) := by rw [f24]; exact u24
  rw [run_neq_struct, run_equalIn_struct w 9999 74 _ _ g74 s74, f74]
  simp [kdRow, Op.eqFields, part, run_isAgg_scal h3 rfl, run_equalIn_int w _ 3 .i64 .i64 _ _ h3, run_isAgg_agg u24 rfl, Try.sizeOf24, f24, run_equalIn_struct w 9998 24 _ _ g24 s24]
theorem neq29s (d : Te) : ∀ w, (binOp .neq 29 (.agg (teRow d).toArray) (.agg (teRow d).toArray)).run Try.prog w = .ok (.bool false) w := fun w => by
  have h3 := Try.underlying3
  have u29 := Try.underlying29
  have s29 : Try.prog.stoodInHeld 29 = false := by kernel_rfl
  have f29 : Try.prog.fieldsOf 29 = #[⟨"How", 3, 0, false, "", "", 0⟩, ⟨"Kinds", 3, 1, false, "", "", 8⟩, ⟨"Err", 24, 2, false, "", "", 16⟩, ⟨"Pass", 24, 4, false, "", "", 32⟩, ⟨"Cost", 3, 6, false, "", "", 48⟩] := by kernel_rfl
  have g29 : Try.prog.underlying 29 = some (.struct (Try.prog.fieldsOf 29)) := by rw [f29]; exact u29
  have u24 := Try.underlying24
  have s24 : Try.prog.stoodInHeld 24 = false := by kernel_rfl
  have f24 : Try.prog.fieldsOf 24 = #[⟨"Lo", 3, 0, false, "", "", 0⟩, ⟨"Hi", 3, 1, false, "", "", 8⟩] := by kernel_rfl
  have g24 : Try.prog.underlying 24 = some (.struct (Try.prog.fieldsOf 24)) := by rw [f24]; exact u24
  rw [run_neq_struct, run_equalIn_struct w 9999 29 _ _ g29 s29, f29]
  simp [teRow, Op.eqFields, part, run_isAgg_scal h3 rfl, run_equalIn_int w _ 3 .i64 .i64 _ _ h3, run_isAgg_agg u24 rfl, Try.sizeOf24, f24, run_equalIn_struct w 9998 24 _ _ g24 s24]
theorem neq54s (d : Rd) : ∀ w, (binOp .neq 54 (.agg (rdRow d).toArray) (.agg (rdRow d).toArray)).run Try.prog w = .ok (.bool false) w := fun w => by
  have h3 := Try.underlying3
  have u54 := Try.underlying54
  have s54 : Try.prog.stoodInHeld 54 = false := by kernel_rfl
  have f54 : Try.prog.fieldsOf 54 = #[⟨"Test", 29, 0, false, "", "", 0⟩, ⟨"Got", 3, 7, false, "", "", 56⟩] := by kernel_rfl
  have g54 : Try.prog.underlying 54 = some (.struct (Try.prog.fieldsOf 54)) := by rw [f54]; exact u54
  have u24 := Try.underlying24
  have s24 : Try.prog.stoodInHeld 24 = false := by kernel_rfl
  have f24 : Try.prog.fieldsOf 24 = #[⟨"Lo", 3, 0, false, "", "", 0⟩, ⟨"Hi", 3, 1, false, "", "", 8⟩] := by kernel_rfl
  have g24 : Try.prog.underlying 24 = some (.struct (Try.prog.fieldsOf 24)) := by rw [f24]; exact u24
  have u29 := Try.underlying29
  have s29 : Try.prog.stoodInHeld 29 = false := by kernel_rfl
  have f29 : Try.prog.fieldsOf 29 = #[⟨"How", 3, 0, false, "", "", 0⟩, ⟨"Kinds", 3, 1, false, "", "", 8⟩, ⟨"Err", 24, 2, false, "", "", 16⟩, ⟨"Pass", 24, 4, false, "", "", 32⟩, ⟨"Cost", 3, 6, false, "", "", 48⟩] := by kernel_rfl
  have g29 : Try.prog.underlying 29 = some (.struct (Try.prog.fieldsOf 29)) := by rw [f29]; exact u29
  rw [run_neq_struct, run_equalIn_struct w 9999 54 _ _ g54 s54, f54]
  simp [rdRow, Op.eqFields, part, run_isAgg_scal h3 rfl, run_equalIn_int w _ 3 .i64 .i64 _ _ h3, run_isAgg_agg u24 rfl, Try.sizeOf24, f24, run_isAgg_agg u29 rfl, Try.sizeOf29, f29, run_equalIn_struct w 9997 24 _ _ g24 s24, run_equalIn_struct w 9998 29 _ _ g29 s29]
theorem owns11 (w : World) (b : Bx) (a : Option Addr) (c : Nat) (hB : RowsA kdRow 3 0 w a b.kinds) (al : Option Addr) (cl : Nat) (ls : List Rd) (hl : RowsA rdRow 8 0 w al ls) (at_ : Option Addr) (ct : Nat) (ts : List Te) (ht : RowsA teRow 7 0 w at_ ts) : Calls Try.prog 11 #[.agg (bxRow b a c).toArray, .slice al ls.length cl, .slice at_ ts.length ct] w fun e w' => e = .returned (.bool true) ∧ Below w.heap.size w w' := by
  have htlen := ht.len
  have hlen := hl.len
  have hblen := hB.len
  refine calls_of_SC (args := [.agg (bxRow b a c).toArray, .slice al ls.length cl, .slice at_ ts.length ct]) Try.func11 rfl Try.ntmps11 rfl ?_
  simp only [argL, Nat.reduceAdd, Nat.zero_add]
  refine sc_seq ?_
  refine sc_region ?_
  refine sq_box RF rfl (fun b3 => ?_)
  refine qs (y_assign RF) ?_
  refine sq_nil ?_
  refine sx_then ?_
  refine sc_seq ?_
  refine sc_seq ?_
  refine sc_region ?_
  refine qs LD26 ?_
  refine qs (y_move RF) ?_
  refine qs (y_move RF) ?_
  refine qy (yc Try.call12 E4 (fun w1 hw1 => great12 w1 b a c (hB.at hw1 MM) 3 al cl ls.length at_ ct ts.length)) ?_
  refine sq_nil ?_
  refine sx_then ?_
  refine scp (fun hc0 => ?_) (fun hc0 => ?_)
  ·
    refine sc_seq ?_
    refine sc_region ?_
    refine qy (yc Try.call13 E0 (fun w1 _ => alive13 w1)) ?_
    refine qs (y_assign RF) ?_
    refine sq_nil ?_
    refine sx_then ?_
    refine sc_ret ?_
    refine sx_then_ret ?_
    refine sx_ret1 (.inl rfl) rfl Try.results11 RF ?_
    intro w' hw'
    exact ⟨rfl, hw'.below MM⟩
  ·
    refine sc_skip ?_
    refine sx_then ?_
    refine sc_seq ?_
    have hg : b.kinds.length ≤ 10 ∧ ls.length ≤ 24 ∧ ts.length ≤ 14 := by unfold greatV at hc0; simp at hc0; omega
    have hll := leftR_len b ls
    have hsl := slip_len b ts
    refine sc_region ?_
    refine sq_bs Try.underlying22 ei74 (EvI.nil) (by simp) rfl rfl rfl (fun b30 => ?_)
    refine sq_blk_own0 (sz := 3) (c := 0) RM rfl (Nat.zero_le _) ?_
    refine qs FA26_22 ?_
    refine qs LD22 ?_
    refine sq_append_rows (news := b.kinds.flatMap kdRow) Try.underlying22 ei74 Try.sizeOf74 rfl (by decide) RF RM RF hB.noa (flat_len kdRow_len b.kinds) (fun ad had w1 hw1 => kds_cells (by rw [← had]; exact hB.at hw1 MM)) (kds_one b.kinds) (by omega) rfl (fun v33 ho33 => ?_)
    rw [Nat.zero_add b.kinds.length, List.nil_append]
    refine sq_bs Try.underlying30 ei54 (EvI.nil) (by simp) rfl rfl rfl (fun b33 => ?_)
    refine sq_blk_own0 (sz := 8) (c := 0) RM rfl (Nat.zero_le _) ?_
    refine qs (y_move RF) ?_
    refine sq_append_rows (news := ls.flatMap rdRow) Try.underlying30 ei54 Try.sizeOf54 rfl (by decide) RF RM RF hl.noa (flat_len rdRow_len ls) (fun ad had w1 hw1 => rds_cells (by rw [← had]; exact hl.at hw1 MM)) (rds_one ls) (by omega) rfl (fun v36 ho36 => ?_)
    rw [Nat.zero_add ls.length, List.nil_append]
    refine sq_bs Try.underlying43 ei29 (EvI.nil) (by simp) rfl rfl rfl (fun b36 => ?_)
    refine sq_blk_own0 (sz := 7) (c := 0) RM rfl (Nat.zero_le _) ?_
    refine qs (y_move RF) ?_
    refine sq_append_rows (news := ts.flatMap teRow) Try.underlying43 ei29 Try.sizeOf29 rfl (by decide) RF RM RF ht.noa (flat_len teRow_len ts) (fun ad had w1 hw1 => tes_cells (by rw [← had]; exact ht.at hw1 MM)) (tes_one ts) (by omega) rfl (fun v39 ho39 => ?_)
    rw [Nat.zero_add ts.length, List.nil_append]
    refine qs (y_assign RF) ?_
    refine qs (y_assign RF) ?_
    refine qs (y_assign RF) ?_
    refine sq_nil ?_
    refine sx_then ?_
    refine sc_seq ?_
    refine sc_region ?_
    refine qs LD26 ?_
    refine qs (y_move RF) ?_
    refine sq_call_own (first := []) (caps := []) (e := 24) (sz := 2) (n := (leftR b ls).length) (Z := Option Addr × Nat) (fun z => .tuple #[.slice z.1 (leftR b ls).length z.2, .int .i64 (openE b ls [])]) (fun z => .slice z.1 (leftR b ls).length z.2) (fun _ => (leftR b ls).flatMap spRow) (fun z => z.1 = none → (leftR b ls).length = 0) RF Try.call18 E2 (fun w1 hw1 => left18o w1 b a c (hB.at hw1 MM) al cl ls (hl.at hw1 MM)) rfl (fun zx hzx => ?_)
    refine qs (y_move RF) ?_
    refine qs (y_extract RF RF) ?_
    refine qs (y_extract RF RF) ?_
    refine qs (y_assign RF) ?_
    refine qs (y_assign RF) ?_
    refine sq_nil ?_
    refine sx_then ?_
    refine sc_seq ?_
    refine sc_region ?_
    refine qs LD26 ?_
    refine qs (y_move RF) ?_
    refine sq_call_own (first := []) (caps := []) (e := 3) (sz := 1) (n := (slipR b ts).1.length) (Z := Option Addr × Nat) (fun z => .tuple #[.slice z.1 (slipR b ts).1.length z.2, .int .i64 (slipR b ts).2]) (fun z => .slice z.1 (slipR b ts).1.length z.2) (fun _ => (slipR b ts).1.flatMap iRow) (fun z => z.1 = none → (slipR b ts).1.length = 0) RF Try.call21 E2 (fun w1 hw1 => (slips21o w1 b a c (hB.at hw1 MM) at_ ct ts (ht.at hw1 MM)).mono (fun e w' ⟨z, he, hb, hr, ho⟩ => ⟨z, he, hb, fun h0 => hr.noa h0, ho⟩)) rfl (fun zy hzy => ?_)
    refine qs (y_move RF) ?_
    refine qs (y_extract RF RF) ?_
    refine qs (y_extract RF RF) ?_
    refine qs (y_assign RF) ?_
    refine qs (y_assign RF) ?_
    refine sq_nil ?_
    refine sx_then ?_
    refine sc_seq ?_
    refine sc_region ?_
    refine sq_bs Try.underlying38 ei24 (EvI.nil) (by simp) rfl rfl rfl (fun b51 => ?_)
    refine sq_blk_own0 (sz := 2) (c := 0) RM rfl (Nat.zero_le _) ?_
    refine qs (y_move RF) ?_
    refine sq_append_rows (news := (leftR b ls).flatMap spRow) Try.underlying38 ei24 Try.sizeOf24 rfl (by decide) RF RM RF hzx (flat_len spRow_len (leftR b ls)) (fun ad had w1 hw1 => own_news (c := zx.2) (n := (leftR b ls).length) (ad := ad) (e := 24) (sz := 2) (m := (leftR b ls).length) hw1 (by rw [← had]; exact MM)) (sps_one (leftR b ls)) (by omega) rfl (fun v54 ho54 => ?_)
    rw [Nat.zero_add (leftR b ls).length, List.nil_append]
    refine sq_bs Try.underlying27 ei3 (EvI.nil) (by simp) rfl rfl rfl (fun b54 => ?_)
    refine sq_blk_own0 (sz := 1) (c := 0) RM rfl (Nat.zero_le _) ?_
    refine qs (y_move RF) ?_
    refine sq_append_rows (news := (slipR b ts).1.flatMap iRow) Try.underlying27 ei3 Try.sizeOf3 rfl (by decide) RF RM RF hzy (flat_len iRow_len (slipR b ts).1) (fun ad had w1 hw1 => own_news (c := zy.2) (n := (slipR b ts).1.length) (ad := ad) (e := 3) (sz := 1) (m := (slipR b ts).1.length) hw1 (by rw [← had]; exact MM)) (is_one (slipR b ts).1) (by omega) rfl (fun v57 ho57 => ?_)
    rw [Nat.zero_add (slipR b ts).1.length, List.nil_append]
    refine qs (y_assign RF) ?_
    refine qs (y_assign RF) ?_
    refine sq_nil ?_
    refine sx_then ?_
    refine sc_seq ?_
    refine sc_seq ?_
    refine sc_region ?_
    refine qs (y_move RF) ?_
    refine qs (y_len Try.underlying38 RF) ?_
    refine qs (y_move RF) ?_
    refine sq_nil ?_
    refine sx_then ?_
    refine sc_block ?_
    refine sc_loop (σ := Nat × List Value)
      (fun s => [(1, .slice al ls.length cl), (2, .slice at_ ts.length ct), (3, .pointer (some ⟨b3, 0, none⟩)), (7, v33), (8, v36), (9, v39), (10, .slice zx.1 (leftR b ls).length zx.2), (12, .slice zy.1 (slipR b ts).1.length zy.2), (11, .int .i64 (openE b ls [])), (13, .int .i64 (slipR b ts).2), (14, v54), (15, v57), (58, .slice zx.1 (leftR b ls).length zx.2), (59, .int .i64 (leftR b ls).length), (60, .int .i64 s.1)])
      (fun s => [.own (.slice zx.1 (leftR b ls).length zx.2) 24 2 (leftR b ls).length s.2, .own (.slice zy.1 (slipR b ts).1.length zy.2) 3 1 (slipR b ts).1.length ((slipR b ts).1.flatMap iRow), .own v33 74 3 b.kinds.length (b.kinds.flatMap kdRow), .own v36 54 8 ls.length (ls.flatMap rdRow), .own v39 29 7 ts.length (ts.flatMap teRow), .own v54 24 2 (leftR b ls).length ((leftR b ls).flatMap spRow), .own v57 3 1 (slipR b ts).1.length ((slipR b ts).1.flatMap iRow), .blk b3 (.cells (bxRow b a c).toArray 26 (0, 0)), .reg 0 w])
      (fun s => s.1 ≤ (leftR b ls).length)
      (fun s => (leftR b ls).length - s.1)
      ((0, (leftR b ls).flatMap spRow)) ?_ SU SR ?_
    · exact Nat.zero_le _
    rintro ⟨k, ys⟩ hk
    dsimp only at hk ⊢
    refine sc_seq ?_
    refine sc_region ?_
    refine qs (y_lss RF RF) ?_
    refine sq_nil ?_
    refine sx_then ?_
    refine sc_seq ?_
    refine scp (fun hc1 => ?_) (fun hc1 => ?_)
    ·
      have hk' : k < (leftR b ls).length := by omega
      refine sc_skip ?_
      refine sx_then ?_
      refine sc_seq ?_
      refine sc_block ?_
      refine sc_seq ?_
      refine sc_region ?_
      refine qs (y_move RF) ?_
      refine qs (y_assign RF) ?_
      refine sq_nil ?_
      refine sx_then ?_
      refine sc_region ?_
      refine qs (y_move RF) ?_
      refine qs (y_move RF) ?_
      refine qs (y_ia_own Try.underlying38 Try.sizeOf24 RF MM RF hk') ?_
      refine qs FA24_3 ?_
      refine sq_store_own (v := .slice zx.1 (leftR b ls).length zx.2) (i := k) (j := 0) (sz := 2) Try.sizeOf3 RF RF rfl RM hk' (by decide) ?_
      refine sq_nil ?_
      refine sx_blk ?_
      refine sx_then ?_
      refine sc_region ?_
      refine qs (y_add RF RF (by omega)) ?_
      refine qs (y_move RF) ?_
      refine sq_nil ?_
      refine sx_round ((k + 1, ys.set (k * 2 + 0) (.int .i64 (-99)))) ?_ ?_ SU SR
      · dsimp only; omega
      · dsimp only; omega
    ·
      refine sc_exit ?_
      refine sx_then_exit ?_
      refine sx_round_exit ?_
      refine sx_blk_hit ?_
      refine sx_then ?_
      refine sc_seq ?_
      refine sc_seq ?_
      refine sc_region ?_
      refine qs (y_move RF) ?_
      refine qs (y_len Try.underlying27 RF) ?_
      refine qs (y_move RF) ?_
      refine sq_nil ?_
      refine sx_then ?_
      refine sc_block ?_
      refine sc_loop (σ := Nat × List Int)
        (fun s => [(1, .slice al ls.length cl), (2, .slice at_ ts.length ct), (3, .pointer (some ⟨b3, 0, none⟩)), (7, v33), (8, v36), (9, v39), (10, .slice zx.1 (leftR b ls).length zx.2), (12, .slice zy.1 (slipR b ts).1.length zy.2), (11, .int .i64 (openE b ls [])), (13, .int .i64 (slipR b ts).2), (14, v54), (15, v57), (68, .slice zy.1 (slipR b ts).1.length zy.2), (69, .int .i64 (slipR b ts).1.length), (70, .int .i64 s.1)])
        (fun s => [.own (.slice zy.1 (slipR b ts).1.length zy.2) 3 1 (slipR b ts).1.length (s.2.flatMap iRow), .own v33 74 3 b.kinds.length (b.kinds.flatMap kdRow), .own v36 54 8 ls.length (ls.flatMap rdRow), .own v39 29 7 ts.length (ts.flatMap teRow), .own v54 24 2 (leftR b ls).length ((leftR b ls).flatMap spRow), .own v57 3 1 (slipR b ts).1.length ((slipR b ts).1.flatMap iRow), .blk b3 (.cells (bxRow b a c).toArray 26 (0, 0)), .reg 0 w])
        (fun s => s.1 ≤ (slipR b ts).1.length ∧ s.2.length = (slipR b ts).1.length)
        (fun s => (slipR b ts).1.length - s.1)
        ((0, (slipR b ts).1)) ?_ SU SR ?_
      · exact ⟨Nat.zero_le _, rfl⟩
      rintro ⟨k, K⟩ ⟨hk, hK⟩
      dsimp only at hk hK ⊢
      refine sc_seq ?_
      refine sc_region ?_
      refine qs (y_lss RF RF) ?_
      refine sq_nil ?_
      refine sx_then ?_
      refine sc_seq ?_
      refine scp (fun hc2 => ?_) (fun hc2 => ?_)
      ·
        have hk' : k < (slipR b ts).1.length := by omega
        refine sc_skip ?_
        refine sx_then ?_
        refine sc_seq ?_
        refine sc_block ?_
        refine sc_seq ?_
        refine sc_region ?_
        refine qs (y_move RF) ?_
        refine qs (y_assign RF) ?_
        refine sq_nil ?_
        refine sx_then ?_
        refine sc_region ?_
        refine qs (y_move RF) ?_
        refine qs (y_move RF) ?_
        refine qs (y_ia_own Try.underlying27 Try.sizeOf3 RF MM RF hk') ?_
        refine sq_store_own (v := .slice zy.1 (slipR b ts).1.length zy.2) (i := k) (j := 0) (sz := 1) Try.sizeOf3 RF RF rfl RM hk' (by decide) ?_
        rw [is_set]
        refine sq_nil ?_
        refine sx_blk ?_
        refine sx_then ?_
        refine sc_region ?_
        refine qs (y_add RF RF (by omega)) ?_
        refine qs (y_move RF) ?_
        refine sq_nil ?_
        refine sx_round ((k + 1, K.set k (-99))) ?_ ?_ SU SR
        · exact ⟨by dsimp only; omega, by rw [List.length_set]; exact hK⟩
        · dsimp only; omega
      ·
        refine sc_exit ?_
        refine sx_then_exit ?_
        refine sx_round_exit ?_
        refine sx_blk_hit ?_
        refine sx_then ?_
        refine sc_seq ?_
        refine sc_region ?_
        refine qs LD26 ?_
        refine qs (y_move RF) ?_
        refine qy (yc Try.call16 E2 (fun w1 hw1 => judge16 w1 b a c (hB.at hw1 MM) al cl ls (hl.at hw1 MM))) ?_
        refine sq_nil ?_
        refine sx_then ?_
        refine sc_seq ?_
        refine sc_region ?_
        refine qs LD26 ?_
        refine qs (y_move RF) ?_
        refine qy (yc Try.call23 E2 (fun w1 hw1 => enough23 w1 b a c (hB.at hw1 MM) at_ ct ts (ht.at hw1 MM))) ?_
        refine sq_nil ?_
        refine sx_then ?_
        refine sc_seq ?_
        refine sc_region ?_
        refine qs LD26 ?_
        refine qs (y_move RF) ?_
        refine qs (y_move RF) ?_
        refine qy (yc Try.call25 E3 (fun w1 hw1 => next25 w1 b a c (hB.at hw1 MM) al cl ls (hl.at hw1 MM) at_ ct ts (ht.at hw1 MM))) ?_
        refine sq_nil ?_
        refine sx_then ?_
        refine sc_seq ?_
        refine sc_region ?_
        refine qs LD26 ?_
        refine qs (y_move RF) ?_
        refine qs (y_build (cells := (teRow te0).toArray) bt29 EvP.nil (by kernel_rfl)) ?_
        refine qy (yc Try.call14 E3 (fun w1 hw1 => reads14v w1 b a c (hB.at hw1 MM) (.slice zy.1 (slipR b ts).1.length zy.2) K (by rw [hK]; exact hw1.ok (Res.own (.slice zy.1 (slipR b ts).1.length zy.2) 3 1 (slipR b ts).1.length (K.flatMap iRow)) MM) (by omega) te0)) ?_
        refine sq_nil ?_
        refine sx_then ?_
        refine sc_seq ?_
        refine sc_region ?_
        refine qs LD26 ?_
        refine qs (y_move RF) ?_
        refine sq_call_new (first := []) (caps := []) (Z := Option Addr × Nat) (fun z => .tuple #[.slice z.1 (leftR b ls).length z.2, .int .i64 (openE b ls [])]) (fun lo w' z => RowsA spRow 2 lo w' z.1 (leftR b ls)) RF Try.call18 (EvL.cons RF (EvL.cons RF EvL.nil)) (fun w1 hw1 => left18s w1 b a c (hB.at hw1 MM) al cl ls (hl.at hw1 MM)) rfl (fun lo1 wr1 zl hzl => ?_)
        refine qs (y_move RF) ?_
        refine qs (y_extract RF RF) ?_
        refine qs (y_extract RF RF) ?_
        refine qs (y_assign RF) ?_
        refine qs (y_assign RF) ?_
        refine sq_nil ?_
        refine sx_then ?_
        refine sc_seq ?_
        refine sc_region ?_
        refine qs LD26 ?_
        refine qs (y_move RF) ?_
        refine sq_call_new (first := []) (caps := []) (Z := Option Addr × Nat) (fun z => .tuple #[.slice z.1 (slipR b ts).1.length z.2, .int .i64 (slipR b ts).2]) (fun lo w' z => RowsA iRow 1 lo w' z.1 (slipR b ts).1) RF Try.call21 (EvL.cons RF (EvL.cons RF EvL.nil)) (fun w1 hw1 => slips21 w1 b a c (hB.at hw1 MM) at_ ct ts (ht.at hw1 MM)) rfl (fun lo2 wr2 zs hzs => ?_)
        refine qs (y_move RF) ?_
        refine qs (y_extract RF RF) ?_
        refine qs (y_extract RF RF) ?_
        refine qs (y_assign RF) ?_
        refine qs (y_assign RF) ?_
        refine sq_nil ?_
        refine sx_then ?_
        refine sc_seq ?_
        refine sc_seq ?_
        refine sc_region ?_
        refine qs (y_move RF) ?_
        refine qs (y_len_own Try.underlying22 RF MM) ?_
        refine qs (y_move RF) ?_
        refine sq_nil ?_
        refine sx_then ?_
        refine sc_block ?_
        refine sc_loop (σ := Nat)
          (fun s => [(1, .slice al ls.length cl), (2, .slice at_ ts.length ct), (3, .pointer (some ⟨b3, 0, none⟩)), (7, v33), (8, v36), (9, v39), (11, .int .i64 (openE b ls [])), (13, .int .i64 (slipR b ts).2), (14, v54), (15, v57), (18, .slice zl.1 (leftR b ls).length zl.2), (19, .int .i64 (openE b ls [])), (20, .slice zs.1 (slipR b ts).1.length zs.2), (21, .int .i64 (slipR b ts).2), (103, v33), (104, .int .i64 b.kinds.length), (105, .int .i64 s)])
          (fun s => [.own v33 74 3 b.kinds.length (b.kinds.flatMap kdRow), .own v36 54 8 ls.length (ls.flatMap rdRow), .own v39 29 7 ts.length (ts.flatMap teRow), .own v54 24 2 (leftR b ls).length ((leftR b ls).flatMap spRow), .own v57 3 1 (slipR b ts).1.length ((slipR b ts).1.flatMap iRow), .reg lo2 wr2, .reg lo1 wr1, .blk b3 (.cells (bxRow b a c).toArray 26 (0, 0)), .reg 0 w])
          (fun s => s ≤ b.kinds.length)
          (fun s => b.kinds.length - s)
          (0) ?_ SU SR ?_
        · exact Nat.zero_le _
        rintro k hk
        refine sc_seq ?_
        refine sc_region ?_
        refine qs (y_lss RF RF) ?_
        refine sq_nil ?_
        refine sx_then ?_
        refine sc_seq ?_
        refine scp (fun hc3 => ?_) (fun hc3 => ?_)
        ·
          have hk' : k < b.kinds.length := by omega
          have hsm := (hB.get kd0 hk').1
          have hca := (hB.get kd0 hk').2
          have hgt := get_of_lt kd0 hk'
          refine sc_skip ?_
          refine sx_then ?_
          refine sc_seq ?_
          refine sc_block ?_
          refine sc_seq ?_
          refine sc_region ?_
          refine qs (y_move RF) ?_
          refine qs (y_assign RF) ?_
          refine sq_nil ?_
          refine sx_then ?_
          refine sc_seq ?_
          refine sc_draw rfl (by kernel_rfl) (by kernel_rfl) ?_
          refine qq_y (OpY.s (y_move RF)) rfl ?_
          refine qq_y (OpY.s (y_move RF)) rfl ?_
          refine qq_y (OpY.s (y_ia_own Try.underlying22 Try.sizeOf74 RF MM RF hk')) rfl ?_
          refine qq_y (OpY.s (by first | exact y_load_own (row := kdRow (b.kinds.getD k kd0)) Try.underlying74 rfl Try.sizeOf74 RF MM hk' (fun j u hj => flat_get kdRow_len _ _ _ hgt j u hj) rfl | exact LD74)) rfl ?_
          refine qq_y (OpY.s FA26_22) rfl ?_
          refine qq_y (OpY.s LD22) rfl ?_
          refine qq_y (OpY.s (y_move RF)) rfl ?_
          refine qq_y (OpY.s IA22) rfl ?_
          refine qq_y (OpY.s (by first | exact y_load_ca Try.underlying74 rfl Try.sizeOf74 RF MM hca rfl | exact LD74)) rfl ?_
          refine qq_y (OpY.s (y_neqs (by kernel_rfl) RF RF (neq74s (b.kinds.getD k kd0)))) rfl ?_
          refine qq_nil ?_
          refine sx_then ?_
          refine sc_f (lk_bool rfl (rfl)) ?_
          refine sc_skip ?_
          refine sx_blk ?_
          refine sx_then ?_
          refine sc_region ?_
          refine qs (y_add RF RF (by omega)) ?_
          refine qs (y_move RF) ?_
          refine sq_nil ?_
          refine sx_round (k + 1) ?_ ?_ SU SR
          · omega
          · omega
        ·
          refine sc_exit ?_
          refine sx_then_exit ?_
          refine sx_round_exit ?_
          refine sx_blk_hit ?_
          refine sx_then ?_
          refine sc_seq ?_
          refine sc_seq ?_
          refine sc_region ?_
          refine qs (y_move RF) ?_
          refine qs (y_len_own Try.underlying30 RF MM) ?_
          refine qs (y_move RF) ?_
          refine sq_nil ?_
          refine sx_then ?_
          refine sc_block ?_
          refine sc_loop (σ := Nat)
            (fun s => [(1, .slice al ls.length cl), (2, .slice at_ ts.length ct), (3, .pointer (some ⟨b3, 0, none⟩)), (7, v33), (8, v36), (9, v39), (11, .int .i64 (openE b ls [])), (13, .int .i64 (slipR b ts).2), (14, v54), (15, v57), (18, .slice zl.1 (leftR b ls).length zl.2), (19, .int .i64 (openE b ls [])), (20, .slice zs.1 (slipR b ts).1.length zs.2), (21, .int .i64 (slipR b ts).2), (119, v36), (120, .int .i64 ls.length), (121, .int .i64 s)])
            (fun s => [.own v33 74 3 b.kinds.length (b.kinds.flatMap kdRow), .own v36 54 8 ls.length (ls.flatMap rdRow), .own v39 29 7 ts.length (ts.flatMap teRow), .own v54 24 2 (leftR b ls).length ((leftR b ls).flatMap spRow), .own v57 3 1 (slipR b ts).1.length ((slipR b ts).1.flatMap iRow), .reg lo2 wr2, .reg lo1 wr1, .blk b3 (.cells (bxRow b a c).toArray 26 (0, 0)), .reg 0 w])
            (fun s => s ≤ ls.length)
            (fun s => ls.length - s)
            (0) ?_ SU SR ?_
          · exact Nat.zero_le _
          rintro k hk
          refine sc_seq ?_
          refine sc_region ?_
          refine qs (y_lss RF RF) ?_
          refine sq_nil ?_
          refine sx_then ?_
          refine sc_seq ?_
          refine scp (fun hc5 => ?_) (fun hc5 => ?_)
          ·
            have hk' : k < ls.length := by omega
            have hsm := (hl.get rd0 hk').1
            have hca := (hl.get rd0 hk').2
            have hgt := get_of_lt rd0 hk'
            refine sc_skip ?_
            refine sx_then ?_
            refine sc_seq ?_
            refine sc_block ?_
            refine sc_seq ?_
            refine sc_region ?_
            refine qs (y_move RF) ?_
            refine qs (y_assign RF) ?_
            refine sq_nil ?_
            refine sx_then ?_
            refine sc_seq ?_
            refine sc_draw rfl (by kernel_rfl) (by kernel_rfl) ?_
            refine qq_y (OpY.s (y_move RF)) rfl ?_
            refine qq_y (OpY.s (y_move RF)) rfl ?_
            refine qq_y (OpY.s (y_ia_own Try.underlying30 Try.sizeOf54 RF MM RF hk')) rfl ?_
            refine qq_y (OpY.s (by first | exact y_load_own (row := rdRow (ls.getD k rd0)) Try.underlying54 rfl Try.sizeOf54 RF MM hk' (fun j u hj => flat_get rdRow_len _ _ _ hgt j u hj) rfl | exact LD54)) rfl ?_
            refine qq_y (OpY.s (y_move RF)) rfl ?_
            refine qq_y (OpY.s (y_move RF)) rfl ?_
            refine qq_y (OpY.s IA30) rfl ?_
            refine qq_y (OpY.s (by first | exact y_load_ca Try.underlying54 rfl Try.sizeOf54 RF MM hca rfl | exact LD54)) rfl ?_
            refine qq_y (OpY.s (y_neqs (by kernel_rfl) RF RF (neq54s (ls.getD k rd0)))) rfl ?_
            refine qq_nil ?_
            refine sx_then ?_
            refine sc_f (lk_bool rfl (rfl)) ?_
            refine sc_skip ?_
            refine sx_blk ?_
            refine sx_then ?_
            refine sc_region ?_
            refine qs (y_add RF RF (by omega)) ?_
            refine qs (y_move RF) ?_
            refine sq_nil ?_
            refine sx_round (k + 1) ?_ ?_ SU SR
            · omega
            · omega
          ·
            refine sc_exit ?_
            refine sx_then_exit ?_
            refine sx_round_exit ?_
            refine sx_blk_hit ?_
            refine sx_then ?_
            refine sc_seq ?_
            refine sc_seq ?_
            refine sc_region ?_
            refine qs (y_move RF) ?_
            refine qs (y_len_own Try.underlying43 RF MM) ?_
            refine qs (y_move RF) ?_
            refine sq_nil ?_
            refine sx_then ?_
            refine sc_block ?_
            refine sc_loop (σ := Nat)
              (fun s => [(1, .slice al ls.length cl), (2, .slice at_ ts.length ct), (3, .pointer (some ⟨b3, 0, none⟩)), (7, v33), (8, v36), (9, v39), (11, .int .i64 (openE b ls [])), (13, .int .i64 (slipR b ts).2), (14, v54), (15, v57), (18, .slice zl.1 (leftR b ls).length zl.2), (19, .int .i64 (openE b ls [])), (20, .slice zs.1 (slipR b ts).1.length zs.2), (21, .int .i64 (slipR b ts).2), (134, v39), (135, .int .i64 ts.length), (136, .int .i64 s)])
              (fun s => [.own v33 74 3 b.kinds.length (b.kinds.flatMap kdRow), .own v36 54 8 ls.length (ls.flatMap rdRow), .own v39 29 7 ts.length (ts.flatMap teRow), .own v54 24 2 (leftR b ls).length ((leftR b ls).flatMap spRow), .own v57 3 1 (slipR b ts).1.length ((slipR b ts).1.flatMap iRow), .reg lo2 wr2, .reg lo1 wr1, .blk b3 (.cells (bxRow b a c).toArray 26 (0, 0)), .reg 0 w])
              (fun s => s ≤ ts.length)
              (fun s => ts.length - s)
              (0) ?_ SU SR ?_
            · exact Nat.zero_le _
            rintro k hk
            refine sc_seq ?_
            refine sc_region ?_
            refine qs (y_lss RF RF) ?_
            refine sq_nil ?_
            refine sx_then ?_
            refine sc_seq ?_
            refine scp (fun hc7 => ?_) (fun hc7 => ?_)
            ·
              have hk' : k < ts.length := by omega
              have hsm := (ht.get te0 hk').1
              have hca := (ht.get te0 hk').2
              have hgt := get_of_lt te0 hk'
              refine sc_skip ?_
              refine sx_then ?_
              refine sc_seq ?_
              refine sc_block ?_
              refine sc_seq ?_
              refine sc_region ?_
              refine qs (y_move RF) ?_
              refine qs (y_assign RF) ?_
              refine sq_nil ?_
              refine sx_then ?_
              refine sc_seq ?_
              refine sc_draw rfl (by kernel_rfl) (by kernel_rfl) ?_
              refine qq_y (OpY.s (y_move RF)) rfl ?_
              refine qq_y (OpY.s (y_move RF)) rfl ?_
              refine qq_y (OpY.s (y_ia_own Try.underlying43 Try.sizeOf29 RF MM RF hk')) rfl ?_
              refine qq_y (OpY.s (by first | exact y_load_own (row := teRow (ts.getD k te0)) Try.underlying29 rfl Try.sizeOf29 RF MM hk' (fun j u hj => flat_get teRow_len _ _ _ hgt j u hj) rfl | exact LD29)) rfl ?_
              refine qq_y (OpY.s (y_move RF)) rfl ?_
              refine qq_y (OpY.s (y_move RF)) rfl ?_
              refine qq_y (OpY.s IA43) rfl ?_
              refine qq_y (OpY.s (by first | exact y_load_ca Try.underlying29 rfl Try.sizeOf29 RF MM hca rfl | exact LD29)) rfl ?_
              refine qq_y (OpY.s (y_neqs (by kernel_rfl) RF RF (neq29s (ts.getD k te0)))) rfl ?_
              refine qq_nil ?_
              refine sx_then ?_
              refine sc_f (lk_bool rfl (rfl)) ?_
              refine sc_skip ?_
              refine sx_blk ?_
              refine sx_then ?_
              refine sc_region ?_
              refine qs (y_add RF RF (by omega)) ?_
              refine qs (y_move RF) ?_
              refine sq_nil ?_
              refine sx_round (k + 1) ?_ ?_ SU SR
              · omega
              · omega
            ·
              refine sc_exit ?_
              refine sx_then_exit ?_
              refine sx_round_exit ?_
              refine sx_blk_hit ?_
              refine sx_then ?_
              refine sc_seq ?_
              refine sc_region ?_
              refine qs (y_move RF) ?_
              refine qs (y_move RF) ?_
              refine qy (yc Try.call20 E2 (fun w1 hw1 => spans20v w1 zl.1 zl.2 (leftR b ls) (hzl.at hw1 MM) v54 (hw1.ok (Res.own v54 24 2 (leftR b ls).length ((leftR b ls).flatMap spRow)) MM))) ?_
              refine qs (y_move RF) ?_
              refine sq_known (tt := 152) (b' := true) RF (by first | rfl | simp) ?_
              refine qg (y_move RF) ?_
              refine qg (y_move RF) ?_
              refine sq_gt RF RF (y_call (first := []) (caps := []) RF Try.call27 (EvL.cons RF (EvL.cons RF EvL.nil)) (fun w1 hw1 => ints27v w1 zs.1 zs.2 (slipR b ts).1 (hzs.at hw1 MM) v57 (hw1.ok (Res.own v57 3 1 (slipR b ts).1.length ((slipR b ts).1.flatMap iRow)) MM))) rfl ?_
              refine qs (y_pick_t RF RF) ?_
              refine qs (y_move RF) ?_
              refine sq_known (tt := 157) (b' := true) RF (by first | rfl | simp) ?_
              refine qg (y_move RF) ?_
              refine qg (y_move RF) ?_
              refine qg (y_eql RF RF) ?_
              refine qs (y_pick_t RF RF) ?_
              refine qs (y_move RF) ?_
              refine sq_known (tt := 162) (b' := true) RF (by first | rfl | simp) ?_
              refine qg (y_move RF) ?_
              refine qg (y_move RF) ?_
              refine qg (y_eql RF RF) ?_
              refine qs (y_pick_t RF RF) ?_
              refine qs (y_move RF) ?_
              refine sq_known (tt := 167) (b' := true) RF (by first | rfl | simp) ?_
              refine sq_gt RF RF (y_call (first := []) (caps := []) RF Try.call13 EvL.nil (fun w1 _ => alive13 w1)) rfl ?_
              refine qs (y_pick_t RF RF) ?_
              refine qs (y_assign RF) ?_
              refine sq_nil ?_
              refine sx_then ?_
              refine sc_ret ?_
              refine sx_ret1 (.inl rfl) rfl Try.results11 RF ?_
              intro w' hw'
              exact ⟨rfl, hw'.below MM⟩
end Go.Proofs.Ytofjipmheckmjaa
