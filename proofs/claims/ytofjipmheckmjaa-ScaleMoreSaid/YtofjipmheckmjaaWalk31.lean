/- The walk of the law ScaleMore. -/
import Derived.Test.YtofjipmheckmjaaLaw5
import Derived.Test.YtofjipmheckmjaaWalk23
import Derived.Test.YtofjipmheckmjaaEng15
namespace Go.Proofs.Ytofjipmheckmjaa
open Go Go.Eng Go.RowKit Go.Proofs
set_option maxRecDepth 100000
theorem rdRow_len (x : Rd) : (rdRow x).length = 8 := rfl
theorem rds_cells {w : World} {ad : Addr} {l : List Rd} (h : RowsA rdRow 8 0 w (some ad) l) : ∀ j u, (l.flatMap rdRow)[j]? = some u → w.cell? (ad.add j) = some u := h.cells rdRow_len (by decide)
theorem rds_one (l : List Rd) : ∀ u, u ∈ l.flatMap rdRow → u.oneCell' = true := flat_one (fun x u hu => by simp [rdRow] at hu; rcases hu with rfl | rfl | rfl | rfl | rfl | rfl | rfl | rfl <;> rfl) l
theorem kdRow_len (x : Kd) : (kdRow x).length = 3 := rfl
theorem kds_cells {w : World} {ad : Addr} {l : List Kd} (h : RowsA kdRow 3 0 w (some ad) l) : ∀ j u, (l.flatMap kdRow)[j]? = some u → w.cell? (ad.add j) = some u := h.cells kdRow_len (by decide)
theorem kds_one (l : List Kd) : ∀ u, u ∈ l.flatMap kdRow → u.oneCell' = true := flat_one (fun x u hu => by simp [kdRow] at hu; rcases hu with rfl | rfl | rfl <;> rfl) l
theorem flat_set (h : Int) : ∀ (l : List Kd) (j : Nat), j < l.length → (l.flatMap kdRow).set (j * 3 + 2) (.int .i64 h) = (l.set j (thinK (l.getD j kd0) h)).flatMap kdRow
  | [], j, hj => absurd hj (Nat.not_lt_zero j)
  | k :: l, 0, _ => rfl
  | k :: l, j + 1, hj => by
    rw [List.set_cons_succ, List.flatMap_cons, List.flatMap_cons]
    show (kdRow k ++ List.flatMap kdRow l).set _ _ = kdRow k ++ List.flatMap kdRow (l.set j (thinK (l.getD j kd0) h))
    rw [← flat_set h l j (by simpa using hj), show (j + 1) * 3 + 2 = (j * 3 + 2) + 1 + 1 + 1 by omega]
    rfl
theorem thin_cells {cur : Array Value} {l : List Kd} {j : Nat} {h : Int} (ht : cur.toList.take (l.length * 3) = l.flatMap kdRow) (hj : j < l.length) : (cur.setIfInBounds (0 + j * 3 + 1 + 1) (.int .i64 h)).toList.take (l.length * 3) = (l.set j (thinK (l.getD j kd0) h)).flatMap kdRow := by
  rw [← flat_set h l j hj, ← ht, Array.toList_setIfInBounds, show 0 + j * 3 + 1 + 1 = j * 3 + 2 by omega, List.take_set]
theorem cur_get {cur : Array Value} {l : List Kd} {j k : Nat} {v : Value} (ht : cur.toList.take (l.length * 3) = l.flatMap kdRow) (hj : j < l.length) (hk : (kdRow (l.getD j kd0))[k]? = some v) : cur[0 + j * 3 + k]? = some v := by
  have h1 := flat_get kdRow_len l j _ (get_of_lt kd0 hj) k v hk
  have h2 := take_getV ht h1
  rw [Nat.zero_add, ← Array.getElem?_toList]; exact h2
theorem judge16y (w : World) (b : Bx) (a : Option Addr) (c : Nat) (hB : RowsA kdRow 3 0 w a b.kinds) (v : Value) (R : List Rd) (hv : w.ownsRow 0 54 8 v R.length (R.flatMap rdRow)) (hb : R.length ≤ 100000) {n e : Int} (hn : jn b R = n) (he : openE b R [] = e) : Calls Try.prog 16 #[.agg (bxRow b a c).toArray, v] w fun e' w' => e' = .returned (.tuple #[.int .i64 n, .int .i64 e]) ∧ Below w.heap.size w w' := by
  subst hn; subst he
  obtain ⟨a2, c2, rfl, _, hr⟩ := own_rowsA (row := rdRow) (fun _ => rfl) hv rfl (by omega)
  exact judge16x w b a c hB a2 c2 R hr (judgeAns_jn b R)
theorem left18y (w : World) (b : Bx) (a : Option Addr) (c : Nat) (hB : RowsA kdRow 3 0 w a b.kinds) (v : Value) (R : List Rd) (hv : w.ownsRow 0 54 8 v R.length (R.flatMap rdRow)) (hb : R.length ≤ 100000) {l : List Sp} {e : Int} (hl : leftR b R = l) (he : openE b R [] = e) : Calls Try.prog 18 #[.agg (bxRow b a c).toArray, v] w fun e' w' => ∃ z : Option Addr × Nat, e' = .returned (.tuple #[.slice z.1 l.length z.2, .int .i64 e]) ∧ Below w.heap.size w w' ∧ RowsA spRow 2 w.heap.size w' z.1 l := by
  subst hl; subst he
  obtain ⟨a2, c2, rfl, _, hr⟩ := own_rowsA (row := rdRow) (fun _ => rfl) hv rfl (by omega)
  exact left18s w b a c hB a2 c2 R hr
theorem slips21n (w : World) (b : Bx) (a : Option Addr) (c : Nat) (hB : RowsA kdRow 3 0 w a b.kinds) (at_ : Option Addr) (ct : Nat) (ts : List Te) (ht : RowsA teRow 7 0 w at_ ts) {vs : List Value} (hvs : vs = bxRow b a c) : Calls Try.prog 21 #[.agg vs.toArray, .slice at_ ts.length ct] w fun e w' => ∃ z : Option Addr × Nat, e = .returned (.tuple #[.slice z.1 (slipR b ts).1.length z.2, .int .i64 (slipR b ts).2]) ∧ Below w.heap.size w w' ∧ True := by
  subst hvs
  exact (slips21 w b a c hB at_ ct ts ht).mono fun e w' ⟨z, he, hb, _⟩ => ⟨z, he, hb, trivial⟩

theorem more10n (w : World) (b : Bx) (a : Option Addr) (c : Nat) (hB : RowsA kdRow 3 0 w a b.kinds) (al : Option Addr) (cl : Nat) (ls : List Rd) (hl : RowsA rdRow 8 0 w al ls) (r : Rd) (at_ : Option Addr) (ct : Nat) (ts : List Te) (ht : RowsA teRow 7 0 w at_ ts) (x : Nat) (hx : x ≤ 255) : Calls Try.prog 10 #[.agg (bxRow b a c).toArray, .slice al ls.length cl, .agg (rdRow r).toArray, .slice at_ ts.length ct, .int .u8 x] w fun e w' => e = .returned (.bool true) ∧ Below w.heap.size w w' := by
  have htlen := ht.len
  refine calls_of_SC (args := [.agg (bxRow b a c).toArray, .slice al ls.length cl, .agg (rdRow r).toArray, .slice at_ ts.length ct, .int .u8 x]) Try.func10 rfl Try.ntmps10 rfl ?_
  simp only [argL, Nat.reduceAdd, Nat.zero_add]
  refine sc_seq ?_
  refine sc_region ?_
  refine sq_box RF rfl (fun b5 => ?_)
  refine sq_box RF rfl (fun b7 => ?_)
  refine qs (y_assign RF) ?_
  refine sq_nil ?_
  refine sx_then ?_
  refine sc_seq ?_
  refine sc_seq ?_
  refine sc_region ?_
  refine qs LD26 ?_
  refine qs (y_move RF) ?_
  refine qs (y_move RF) ?_
  refine qy (yc Try.call12 E4 (fun w1 hw1 => great12 w1 b a c (hB.at hw1 MM) 3 al cl ls.length at_ ct ts.length)) ?_
  refine qs (y_move RF) ?_
  refine spb 39 (fun hg1_4 => ?_) (fun hg1_4 => ?_)
  ·
    refine qf ?_
    refine qf ?_
    refine qf ?_
    refine qs (y_pick_t RF RF) ?_
    refine qs (y_move RF) ?_
    refine qf ?_
    refine qf ?_
    refine qf ?_
    refine qs (y_pick_t RF RF) ?_
    refine sq_nil ?_
    refine sx_then ?_
    refine sc_t RF ?_
    refine sc_seq ?_
    refine sc_region ?_
    refine qy (yc Try.call13 E0 (fun w1 _ => alive13 w1)) ?_
    refine qs (y_assign RF) ?_
    refine sq_nil ?_
    refine sx_then ?_
    refine sc_ret ?_
    refine sx_then_ret ?_
    refine sx_ret1 (.inl rfl) rfl Try.results10 RF ?_
    intro w' hw'
    exact ⟨rfl, hw'.below MM⟩
  ·
    refine qg (y_move RF) ?_
    refine qg (y_len Try.underlying30 RF) ?_
    refine qg (y_gtr RF RF) ?_
    refine qs (y_pick_f RF RF) ?_
    refine qs (y_move RF) ?_
    refine sp 44 (fun hg1_9 => ?_) (fun hg1_9 => ?_)
    ·
      refine qf ?_
      refine qf ?_
      refine qf ?_
      refine qs (y_pick_t RF RF) ?_
      refine sq_nil ?_
      refine sx_then ?_
      refine sc_t RF ?_
      refine sc_seq ?_
      refine sc_region ?_
      refine qy (yc Try.call13 E0 (fun w1 _ => alive13 w1)) ?_
      refine qs (y_assign RF) ?_
      refine sq_nil ?_
      refine sx_then ?_
      refine sc_ret ?_
      refine sx_then_ret ?_
      refine sx_ret1 (.inl rfl) rfl Try.results10 RF ?_
      intro w' hw'
      exact ⟨rfl, hw'.below MM⟩
    ·
      refine qg LD26 ?_
      refine sq_gt RF RF (y_call (first := []) (caps := []) RF Try.call32 (EvL.cons RF EvL.nil) (fun w1 hw1 => box32 w1 b a c (hB.at hw1 MM))) rfl ?_
      refine qg (y_not RF) ?_
      refine qs (y_pick_f RF RF) ?_
      refine sq_nil ?_
      refine sx_then ?_
      refine scp (fun hc0 => ?_) (fun hc0 => ?_)
      ·
        refine sc_seq ?_
        refine sc_region ?_
        refine qy (yc Try.call13 E0 (fun w1 _ => alive13 w1)) ?_
        refine qs (y_assign RF) ?_
        refine sq_nil ?_
        refine sx_then ?_
        refine sc_ret ?_
        refine sx_then_ret ?_
        refine sx_ret1 (.inl rfl) rfl Try.results10 RF ?_
        intro w' hw'
        exact ⟨rfl, hw'.below MM⟩
      ·
        refine sc_skip ?_
        refine sx_then ?_
        refine sc_seq ?_
        have hok : bxB b = true := by simpa using hc0
        have hbp := bxB_parts hok
        have hn14 : ls.length ≤ 14 := by omega
        have hblen := hB.len
        refine sc_region ?_
        refine qs LD26 ?_
        refine qs (y_move RF) ?_
        refine qy (yc Try.call16 E2 (fun w1 hw1 => judge16x w1 b a c (hB.at hw1 MM) al cl ls (hl.at hw1 MM) (judgeAns_jn b ls))) ?_
        refine qs (y_move RF) ?_
        refine qs (y_extract RF RF) ?_
        refine qs (y_extract RF RF) ?_
        refine qs (y_assign RF) ?_
        refine qs (y_assign RF) ?_
        refine sq_nil ?_
        refine sx_then ?_
        refine sc_seq ?_
        refine sc_region ?_
        refine qs LD26 ?_
        refine qs (y_move RF) ?_
        refine sq_call_new (first := []) (caps := []) (Z := Option Addr × Nat) (fun z => .tuple #[.slice z.1 (leftR b ls).length z.2, .int .i64 (openE b ls [])]) (fun lo w' z => RowsA spRow 2 lo w' z.1 (leftR b ls)) RF Try.call18 (EvL.cons RF (EvL.cons RF EvL.nil)) (fun w1 hw1 => left18s w1 b a c (hB.at hw1 MM) al cl ls (hl.at hw1 MM)) rfl (fun lo1 wr1 zs hs1 => ?_)
        refine qs (y_move RF) ?_
        refine qs (y_extract RF RF) ?_
        refine qs (y_extract RF RF) ?_
        refine qs (y_assign RF) ?_
        refine qs (y_assign RF) ?_
        refine sq_nil ?_
        refine sx_then ?_
        refine sc_seq ?_
        refine sc_seq ?_
        refine sc_region ?_
        refine qs (y_move RF) ?_
        refine qs (y_move RF) ?_
        refine qs (y_neq RF RF) ?_
        refine sq_nil ?_
        refine sx_then ?_
        refine sc_f (lk_bool rfl (by simp)) ?_
        refine sc_skip ?_
        refine sx_then ?_
        refine sc_seq ?_
        refine sc_midE (Z := Unit) (fun _ => [(1, .slice al ls.length cl), (3, .slice at_ ts.length ct), (4, .int .u8 x), (5, .pointer (some ⟨b5, 0, none⟩)), (7, .pointer (some ⟨b7, 0, none⟩)), (11, .int .i64 (jn b ls)), (12, .int .i64 (openE b ls [])), (13, .slice zs.1 (leftR b ls).length zs.2), (14, .int .i64 (openE b ls [])), (15, .int .i64 (jn b (ls ++ [r]))), (16, .int .i64 (openE b (ls ++ [r]) []))]) (fun _ => [.blk b7 (.cells (rdRow r).toArray 54 (0, 0)), .blk b5 (.cells (bxRow b a c).toArray 26 (0, 0)), .reg lo1 wr1, .reg 0 w]) ?_ ?_
        ·
          refine sc_drawX ([.blk b7 (.cells (rdRow r).toArray 54 (0, 0)), .blk b5 (.cells (bxRow b a c).toArray 26 (0, 0)), .reg 0 w]) (by kernel_rfl) ?_
          refine xj_s 0 RF (by kernel_rfl) SR LD26 rfl ?_
          refine xj_s 2 RF (by kernel_rfl) SR (y_move RF) rfl ?_
          refine xj_s 4 RF (by kernel_rfl) SR LD54 rfl ?_
          refine xj_all (l := [1, 5]) (by kernel_rfl) (by simp) (Each.cons ⟨_, rfl, ?_⟩ (Each.cons ⟨_, rfl, ?_⟩ Each.nil))
          ·
            refine sq_bs Try.underlying30 ei54 (EvI.nil) (by simp) rfl rfl rfl (fun b67 => ?_)
            refine sq_blk_own0 (sz := 8) (c := 0) RM rfl (Nat.zero_le _) ?_
            refine sq_nil ?_
            refine sx_xp SR ?_
            refine xj_all (l := [3, 5]) (by kernel_rfl) (by simp) (Each.cons ⟨_, rfl, ?_⟩ (Each.cons ⟨_, rfl, ?_⟩ Each.nil))
            ·
              refine sq_append_rows (news := ls.flatMap rdRow) Try.underlying30 ei54 Try.sizeOf54 rfl (by decide) RF RM RF hl.noa (flat_len rdRow_len ls) (fun ad had w1 hw1 => rds_cells (by rw [← had]; exact hl.at hw1 MM)) (rds_one ls) (by omega) rfl (fun v69 ho69 => ?_)
              rw [Nat.zero_add ls.length, List.nil_append]
              refine sq_nil ?_
              refine sx_xp SR ?_
              refine xj_one 5 RF (by kernel_rfl) ?_
              refine sq_bs Try.underlying30 ei54 (EvI.cons RF EvI.nil) (by first | (simp [Value.cells]; done) | (simp [Value.cells]; rfl) | (simp [Value.cells]; and_intros <;> rfl)) rfl rfl rfl (fun b71 => ?_)
              refine sq_nil ?_
              refine sx_xp SR ?_
              refine xj_one 6 RF (by kernel_rfl) ?_
              refine sq_append (news := rdRow r) Try.underlying30 ei54 rfl (by decide) RF RM RF rfl (fun _ hw => news_blk hw MM) (by simp [rdRow, Value.oneCell']) (by omega) rfl (fun v72 ho72 => ?_)
              rw [show ls.flatMap rdRow ++ rdRow r = (ls ++ [r]).flatMap rdRow from by simp, show ls.length + 1 = (ls ++ [r]).length from by simp]
              refine sq_nil ?_
              refine sx_xp SR ?_
              refine xj_one 7 RF (by kernel_rfl) ?_
              refine qy (yc Try.call16 E2 (fun w1 hw1 => judge16y w1 b a c (hB.at hw1 MM) v72 (ls ++ [r]) (hw1.ok (Res.own v72 54 8 (ls ++ [r]).length ((ls ++ [r]).flatMap rdRow)) MM) (by rw [List.length_append, List.length_singleton]; omega) rfl rfl)) ?_
              refine sq_nil ?_
              refine sx_xp SR ?_
              refine xj_s 8 RF (by kernel_rfl) SR (y_move RF) rfl ?_
              refine xj_s 9 RF (by kernel_rfl) SR (y_extract RF RF) rfl ?_
              refine xj_s 10 RF (by kernel_rfl) SR (y_extract RF RF) rfl ?_
              refine xj_s 11 RF (by kernel_rfl) SR (y_assign RF) rfl ?_
              refine xj_s 12 RF (by kernel_rfl) SR (y_assign RF) rfl ?_
              refine xj_done (by kernel_rfl) ?_
              exact sx_midE (()) SU SR
            ·
              refine sq_bs Try.underlying30 ei54 (EvI.cons RF EvI.nil) (by first | (simp [Value.cells]; done) | (simp [Value.cells]; rfl) | (simp [Value.cells]; and_intros <;> rfl)) rfl rfl rfl (fun b71 => ?_)
              refine sq_nil ?_
              refine sx_xp SR ?_
              refine xj_one 3 RF (by kernel_rfl) ?_
              refine sq_append_rows (news := ls.flatMap rdRow) Try.underlying30 ei54 Try.sizeOf54 rfl (by decide) RF RM RF hl.noa (flat_len rdRow_len ls) (fun ad had w1 hw1 => rds_cells (by rw [← had]; exact hl.at hw1 MM)) (rds_one ls) (by omega) rfl (fun v69 ho69 => ?_)
              rw [Nat.zero_add ls.length, List.nil_append]
              refine sq_nil ?_
              refine sx_xp SR ?_
              refine xj_one 6 RF (by kernel_rfl) ?_
              refine sq_append (news := rdRow r) Try.underlying30 ei54 rfl (by decide) RF RM RF rfl (fun _ hw => news_blk hw MM) (by simp [rdRow, Value.oneCell']) (by omega) rfl (fun v72 ho72 => ?_)
              rw [show ls.flatMap rdRow ++ rdRow r = (ls ++ [r]).flatMap rdRow from by simp, show ls.length + 1 = (ls ++ [r]).length from by simp]
              refine sq_nil ?_
              refine sx_xp SR ?_
              refine xj_one 7 RF (by kernel_rfl) ?_
              refine qy (yc Try.call16 E2 (fun w1 hw1 => judge16y w1 b a c (hB.at hw1 MM) v72 (ls ++ [r]) (hw1.ok (Res.own v72 54 8 (ls ++ [r]).length ((ls ++ [r]).flatMap rdRow)) MM) (by rw [List.length_append, List.length_singleton]; omega) rfl rfl)) ?_
              refine sq_nil ?_
              refine sx_xp SR ?_
              refine xj_s 8 RF (by kernel_rfl) SR (y_move RF) rfl ?_
              refine xj_s 9 RF (by kernel_rfl) SR (y_extract RF RF) rfl ?_
              refine xj_s 10 RF (by kernel_rfl) SR (y_extract RF RF) rfl ?_
              refine xj_s 11 RF (by kernel_rfl) SR (y_assign RF) rfl ?_
              refine xj_s 12 RF (by kernel_rfl) SR (y_assign RF) rfl ?_
              refine xj_done (by kernel_rfl) ?_
              exact sx_midE (()) SU SR
          ·
            refine sq_bs Try.underlying30 ei54 (EvI.cons RF EvI.nil) (by first | (simp [Value.cells]; done) | (simp [Value.cells]; rfl) | (simp [Value.cells]; and_intros <;> rfl)) rfl rfl rfl (fun b71 => ?_)
            refine sq_nil ?_
            refine sx_xp SR ?_
            refine xj_one 1 RF (by kernel_rfl) ?_
            refine sq_bs Try.underlying30 ei54 (EvI.nil) (by simp) rfl rfl rfl (fun b67 => ?_)
            refine sq_blk_own0 (sz := 8) (c := 0) RM rfl (Nat.zero_le _) ?_
            refine sq_nil ?_
            refine sx_xp SR ?_
            refine xj_one 3 RF (by kernel_rfl) ?_
            refine sq_append_rows (news := ls.flatMap rdRow) Try.underlying30 ei54 Try.sizeOf54 rfl (by decide) RF RM RF hl.noa (flat_len rdRow_len ls) (fun ad had w1 hw1 => rds_cells (by rw [← had]; exact hl.at hw1 MM)) (rds_one ls) (by omega) rfl (fun v69 ho69 => ?_)
            rw [Nat.zero_add ls.length, List.nil_append]
            refine sq_nil ?_
            refine sx_xp SR ?_
            refine xj_one 6 RF (by kernel_rfl) ?_
            refine sq_append (news := rdRow r) Try.underlying30 ei54 rfl (by decide) RF RM RF rfl (fun _ hw => news_blk hw MM) (by simp [rdRow, Value.oneCell']) (by omega) rfl (fun v72 ho72 => ?_)
            rw [show ls.flatMap rdRow ++ rdRow r = (ls ++ [r]).flatMap rdRow from by simp, show ls.length + 1 = (ls ++ [r]).length from by simp]
            refine sq_nil ?_
            refine sx_xp SR ?_
            refine xj_one 7 RF (by kernel_rfl) ?_
            refine qy (yc Try.call16 E2 (fun w1 hw1 => judge16y w1 b a c (hB.at hw1 MM) v72 (ls ++ [r]) (hw1.ok (Res.own v72 54 8 (ls ++ [r]).length ((ls ++ [r]).flatMap rdRow)) MM) (by rw [List.length_append, List.length_singleton]; omega) rfl rfl)) ?_
            refine sq_nil ?_
            refine sx_xp SR ?_
            refine xj_s 8 RF (by kernel_rfl) SR (y_move RF) rfl ?_
            refine xj_s 9 RF (by kernel_rfl) SR (y_extract RF RF) rfl ?_
            refine xj_s 10 RF (by kernel_rfl) SR (y_extract RF RF) rfl ?_
            refine xj_s 11 RF (by kernel_rfl) SR (y_assign RF) rfl ?_
            refine xj_s 12 RF (by kernel_rfl) SR (y_assign RF) rfl ?_
            refine xj_done (by kernel_rfl) ?_
            exact sx_midE (()) SU SR
        rintro ⟨⟩
        try dsimp only
        refine sx_then ?_
        refine sc_seq ?_
        refine sc_midE (Z := {z : Nat × World × Option Addr × Nat // RowsA spRow 2 z.1 z.2.1 z.2.2.1 (leftR b (ls ++ [r]))}) (fun z => [(1, .slice al ls.length cl), (3, .slice at_ ts.length ct), (4, .int .u8 x), (5, .pointer (some ⟨b5, 0, none⟩)), (7, .pointer (some ⟨b7, 0, none⟩)), (11, .int .i64 (jn b ls)), (12, .int .i64 (openE b ls [])), (13, .slice zs.1 (leftR b ls).length zs.2), (14, .int .i64 (openE b ls [])), (15, .int .i64 (jn b (ls ++ [r]))), (16, .int .i64 (openE b (ls ++ [r]) [])), (17, .slice z.1.2.2.1 (leftR b (ls ++ [r])).length z.1.2.2.2), (18, .int .i64 (openE b (ls ++ [r]) []))]) (fun z => [.blk b7 (.cells (rdRow r).toArray 54 (0, 0)), .blk b5 (.cells (bxRow b a c).toArray 26 (0, 0)), .reg z.1.1 z.1.2.1, .reg lo1 wr1, .reg 0 w]) ?_ ?_
        ·
          refine sc_drawX ([.blk b7 (.cells (rdRow r).toArray 54 (0, 0)), .blk b5 (.cells (bxRow b a c).toArray 26 (0, 0)), .reg 0 w]) (by kernel_rfl) ?_
          refine xj_s 0 RF (by kernel_rfl) SR LD26 rfl ?_
          refine xj_s 2 RF (by kernel_rfl) SR (y_move RF) rfl ?_
          refine xj_s 4 RF (by kernel_rfl) SR LD54 rfl ?_
          refine xj_all (l := [1, 5]) (by kernel_rfl) (by simp) (Each.cons ⟨_, rfl, ?_⟩ (Each.cons ⟨_, rfl, ?_⟩ Each.nil))
          ·
            refine sq_bs Try.underlying30 ei54 (EvI.nil) (by simp) rfl rfl rfl (fun b78 => ?_)
            refine sq_blk_own0 (sz := 8) (c := 0) RM rfl (Nat.zero_le _) ?_
            refine sq_nil ?_
            refine sx_xp SR ?_
            refine xj_all (l := [3, 5]) (by kernel_rfl) (by simp) (Each.cons ⟨_, rfl, ?_⟩ (Each.cons ⟨_, rfl, ?_⟩ Each.nil))
            ·
              refine sq_append_rows (news := ls.flatMap rdRow) Try.underlying30 ei54 Try.sizeOf54 rfl (by decide) RF RM RF hl.noa (flat_len rdRow_len ls) (fun ad had w1 hw1 => rds_cells (by rw [← had]; exact hl.at hw1 MM)) (rds_one ls) (by omega) rfl (fun v80 ho80 => ?_)
              rw [Nat.zero_add ls.length, List.nil_append]
              refine sq_nil ?_
              refine sx_xp SR ?_
              refine xj_one 5 RF (by kernel_rfl) ?_
              refine sq_bs Try.underlying30 ei54 (EvI.cons RF EvI.nil) (by first | (simp [Value.cells]; done) | (simp [Value.cells]; rfl) | (simp [Value.cells]; and_intros <;> rfl)) rfl rfl rfl (fun b82 => ?_)
              refine sq_nil ?_
              refine sx_xp SR ?_
              refine xj_one 6 RF (by kernel_rfl) ?_
              refine sq_append (news := rdRow r) Try.underlying30 ei54 rfl (by decide) RF RM RF rfl (fun _ hw => news_blk hw MM) (by simp [rdRow, Value.oneCell']) (by omega) rfl (fun v83 ho83 => ?_)
              rw [show ls.flatMap rdRow ++ rdRow r = (ls ++ [r]).flatMap rdRow from by simp, show ls.length + 1 = (ls ++ [r]).length from by simp]
              refine sq_nil ?_
              refine sx_xp SR ?_
              refine xj_one 7 RF (by kernel_rfl) ?_
              refine sq_call_new (first := []) (caps := []) (Z := Option Addr × Nat) (fun z => .tuple #[.slice z.1 (leftR b (ls ++ [r])).length z.2, .int .i64 (openE b (ls ++ [r]) [])]) (fun lo w' z => RowsA spRow 2 lo w' z.1 (leftR b (ls ++ [r]))) RF Try.call18 (EvL.cons RF (EvL.cons RF EvL.nil)) (fun w1 hw1 => left18y w1 b a c (hB.at hw1 MM) v83 (ls ++ [r]) (hw1.ok (Res.own v83 54 8 (ls ++ [r]).length ((ls ++ [r]).flatMap rdRow)) MM) (by rw [List.length_append, List.length_singleton]; omega) rfl rfl) rfl (fun lo2 wr2 zt ht2 => ?_)
              refine sq_nil ?_
              refine sx_xp SR ?_
              refine xj_s 8 RF (by kernel_rfl) SR (y_move RF) rfl ?_
              refine xj_s 9 RF (by kernel_rfl) SR (y_extract RF RF) rfl ?_
              refine xj_s 10 RF (by kernel_rfl) SR (y_extract RF RF) rfl ?_
              refine xj_s 11 RF (by kernel_rfl) SR (y_assign RF) rfl ?_
              refine xj_s 12 RF (by kernel_rfl) SR (y_assign RF) rfl ?_
              refine xj_done (by kernel_rfl) ?_
              exact sx_midE (⟨(lo2, wr2, zt.1, zt.2), ht2⟩) SU SR
            ·
              refine sq_bs Try.underlying30 ei54 (EvI.cons RF EvI.nil) (by first | (simp [Value.cells]; done) | (simp [Value.cells]; rfl) | (simp [Value.cells]; and_intros <;> rfl)) rfl rfl rfl (fun b82 => ?_)
              refine sq_nil ?_
              refine sx_xp SR ?_
              refine xj_one 3 RF (by kernel_rfl) ?_
              refine sq_append_rows (news := ls.flatMap rdRow) Try.underlying30 ei54 Try.sizeOf54 rfl (by decide) RF RM RF hl.noa (flat_len rdRow_len ls) (fun ad had w1 hw1 => rds_cells (by rw [← had]; exact hl.at hw1 MM)) (rds_one ls) (by omega) rfl (fun v80 ho80 => ?_)
              rw [Nat.zero_add ls.length, List.nil_append]
              refine sq_nil ?_
              refine sx_xp SR ?_
              refine xj_one 6 RF (by kernel_rfl) ?_
              refine sq_append (news := rdRow r) Try.underlying30 ei54 rfl (by decide) RF RM RF rfl (fun _ hw => news_blk hw MM) (by simp [rdRow, Value.oneCell']) (by omega) rfl (fun v83 ho83 => ?_)
              rw [show ls.flatMap rdRow ++ rdRow r = (ls ++ [r]).flatMap rdRow from by simp, show ls.length + 1 = (ls ++ [r]).length from by simp]
              refine sq_nil ?_
              refine sx_xp SR ?_
              refine xj_one 7 RF (by kernel_rfl) ?_
              refine sq_call_new (first := []) (caps := []) (Z := Option Addr × Nat) (fun z => .tuple #[.slice z.1 (leftR b (ls ++ [r])).length z.2, .int .i64 (openE b (ls ++ [r]) [])]) (fun lo w' z => RowsA spRow 2 lo w' z.1 (leftR b (ls ++ [r]))) RF Try.call18 (EvL.cons RF (EvL.cons RF EvL.nil)) (fun w1 hw1 => left18y w1 b a c (hB.at hw1 MM) v83 (ls ++ [r]) (hw1.ok (Res.own v83 54 8 (ls ++ [r]).length ((ls ++ [r]).flatMap rdRow)) MM) (by rw [List.length_append, List.length_singleton]; omega) rfl rfl) rfl (fun lo2 wr2 zt ht2 => ?_)
              refine sq_nil ?_
              refine sx_xp SR ?_
              refine xj_s 8 RF (by kernel_rfl) SR (y_move RF) rfl ?_
              refine xj_s 9 RF (by kernel_rfl) SR (y_extract RF RF) rfl ?_
              refine xj_s 10 RF (by kernel_rfl) SR (y_extract RF RF) rfl ?_
              refine xj_s 11 RF (by kernel_rfl) SR (y_assign RF) rfl ?_
              refine xj_s 12 RF (by kernel_rfl) SR (y_assign RF) rfl ?_
              refine xj_done (by kernel_rfl) ?_
              exact sx_midE (⟨(lo2, wr2, zt.1, zt.2), ht2⟩) SU SR
          ·
            refine sq_bs Try.underlying30 ei54 (EvI.cons RF EvI.nil) (by first | (simp [Value.cells]; done) | (simp [Value.cells]; rfl) | (simp [Value.cells]; and_intros <;> rfl)) rfl rfl rfl (fun b82 => ?_)
            refine sq_nil ?_
            refine sx_xp SR ?_
            refine xj_one 1 RF (by kernel_rfl) ?_
            refine sq_bs Try.underlying30 ei54 (EvI.nil) (by simp) rfl rfl rfl (fun b78 => ?_)
            refine sq_blk_own0 (sz := 8) (c := 0) RM rfl (Nat.zero_le _) ?_
            refine sq_nil ?_
            refine sx_xp SR ?_
            refine xj_one 3 RF (by kernel_rfl) ?_
            refine sq_append_rows (news := ls.flatMap rdRow) Try.underlying30 ei54 Try.sizeOf54 rfl (by decide) RF RM RF hl.noa (flat_len rdRow_len ls) (fun ad had w1 hw1 => rds_cells (by rw [← had]; exact hl.at hw1 MM)) (rds_one ls) (by omega) rfl (fun v80 ho80 => ?_)
            rw [Nat.zero_add ls.length, List.nil_append]
            refine sq_nil ?_
            refine sx_xp SR ?_
            refine xj_one 6 RF (by kernel_rfl) ?_
            refine sq_append (news := rdRow r) Try.underlying30 ei54 rfl (by decide) RF RM RF rfl (fun _ hw => news_blk hw MM) (by simp [rdRow, Value.oneCell']) (by omega) rfl (fun v83 ho83 => ?_)
            rw [show ls.flatMap rdRow ++ rdRow r = (ls ++ [r]).flatMap rdRow from by simp, show ls.length + 1 = (ls ++ [r]).length from by simp]
            refine sq_nil ?_
            refine sx_xp SR ?_
            refine xj_one 7 RF (by kernel_rfl) ?_
            refine sq_call_new (first := []) (caps := []) (Z := Option Addr × Nat) (fun z => .tuple #[.slice z.1 (leftR b (ls ++ [r])).length z.2, .int .i64 (openE b (ls ++ [r]) [])]) (fun lo w' z => RowsA spRow 2 lo w' z.1 (leftR b (ls ++ [r]))) RF Try.call18 (EvL.cons RF (EvL.cons RF EvL.nil)) (fun w1 hw1 => left18y w1 b a c (hB.at hw1 MM) v83 (ls ++ [r]) (hw1.ok (Res.own v83 54 8 (ls ++ [r]).length ((ls ++ [r]).flatMap rdRow)) MM) (by rw [List.length_append, List.length_singleton]; omega) rfl rfl) rfl (fun lo2 wr2 zt ht2 => ?_)
            refine sq_nil ?_
            refine sx_xp SR ?_
            refine xj_s 8 RF (by kernel_rfl) SR (y_move RF) rfl ?_
            refine xj_s 9 RF (by kernel_rfl) SR (y_extract RF RF) rfl ?_
            refine xj_s 10 RF (by kernel_rfl) SR (y_extract RF RF) rfl ?_
            refine xj_s 11 RF (by kernel_rfl) SR (y_assign RF) rfl ?_
            refine xj_s 12 RF (by kernel_rfl) SR (y_assign RF) rfl ?_
            refine xj_done (by kernel_rfl) ?_
            exact sx_midE (⟨(lo2, wr2, zt.1, zt.2), ht2⟩) SU SR
        rintro ⟨⟨lo2, wr2, at2, ct2⟩, ht2⟩
        try dsimp only
        refine sx_then ?_
        refine sc_seq ?_
        refine sc_seq ?_
        dsimp only at ht2
        refine sc_midE (Z := {x : Bool // x = false}) (fun z => [(1, .slice al ls.length cl), (3, .slice at_ ts.length ct), (4, .int .u8 x), (5, .pointer (some ⟨b5, 0, none⟩)), (7, .pointer (some ⟨b7, 0, none⟩)), (11, .int .i64 (jn b ls)), (12, .int .i64 (openE b ls [])), (13, .slice zs.1 (leftR b ls).length zs.2), (14, .int .i64 (openE b ls [])), (15, .int .i64 (jn b (ls ++ [r]))), (16, .int .i64 (openE b (ls ++ [r]) [])), (17, .slice at2 (leftR b (ls ++ [r])).length ct2), (18, .int .i64 (openE b (ls ++ [r]) [])), (113, .bool z.1)]) (fun _ => [.blk b7 (.cells (rdRow r).toArray 54 (0, 0)), .blk b5 (.cells (bxRow b a c).toArray 26 (0, 0)), .reg lo2 wr2, .reg lo1 wr1, .reg 0 w]) ?_ ?_
        ·
          refine sc_region ?_
          refine qs (y_move RF) ?_
          refine qs (y_move RF) ?_
          refine qs (y_neq RF RF) ?_
          refine qs (y_move RF) ?_
          refine sq_known (tt := 90) (b' := false) RF (by simp) ?_
          refine qg (y_move RF) ?_
          refine qg (y_eql RF RF) ?_
          refine qg (y_move RF) ?_
          refine sp 93 (fun hg9_6 => ?_) (fun hg9_6 => ?_)
          ·
            refine qg (y_move RF) ?_
            refine qg (y_neq RF RF) ?_
            refine qg (y_move RF) ?_
            refine sq_known (tt := 96) (b' := false) RF (by rw [more_open hg9_6]; rfl) ?_
            refine qg (y_move RF) ?_
            refine qg (y_neq RF RF) ?_
            refine qg (y_move RF) ?_
            refine sp 99 (fun hg9_12 => ?_) (fun hg9_12 => ?_)
            ·
              refine qg (y_move RF) ?_
              refine qg (y_move RF) ?_
              refine qg (y_neq RF RF) ?_
              refine qg (y_pick_t RF RF) ?_
              refine qg (y_pick_f RF RF) ?_
              refine qg (y_move RF) ?_
              refine sq_known (tt := 105) (b' := false) RF (by rw [more_judge hg9_6 hg9_12]; simp) ?_
              refine qg (y_move RF) ?_
              refine qg (y_len Try.underlying38 RF) ?_
              refine qg (y_move RF) ?_
              refine qg (y_len Try.underlying38 RF) ?_
              refine qg (y_neq RF RF) ?_
              refine qg (y_pick_f RF RF) ?_
              refine qg (y_pick_t RF RF) ?_
              refine qs (y_pick_f RF RF) ?_
              refine sq_nil ?_
              exact sx_midE (⟨!decide (((leftR b ls).length : Int) = ((leftR b (ls ++ [r])).length : Int)), by rw [more_len hg9_6]; simp⟩) SU SR
            ·
              refine qf ?_
              refine qf ?_
              refine qf ?_
              refine qg (y_pick_f RF RF) ?_
              refine qg (y_pick_f RF RF) ?_
              refine qg (y_move RF) ?_
              refine qg (y_move RF) ?_
              refine qg (y_len Try.underlying38 RF) ?_
              refine qg (y_move RF) ?_
              refine qg (y_len Try.underlying38 RF) ?_
              refine qg (y_neq RF RF) ?_
              refine qg (y_pick_f RF RF) ?_
              refine qg (y_pick_t RF RF) ?_
              refine qs (y_pick_f RF RF) ?_
              refine sq_nil ?_
              exact sx_midE (⟨!decide (((leftR b ls).length : Int) = ((leftR b (ls ++ [r])).length : Int)), by rw [more_len hg9_6]; simp⟩) SU SR
          ·
            refine qf ?_
            refine qf ?_
            refine qf ?_
            refine sq_gu RF RF rfl ?_
            refine sq_gu RF RF rfl ?_
            refine sq_gu RF RF rfl ?_
            refine sq_gu RF RF rfl ?_
            refine sq_gu RF RF rfl ?_
            refine sq_gu RF RF rfl ?_
            refine sq_gu RF RF rfl ?_
            refine qf ?_
            refine qf ?_
            refine sq_gu RF RF rfl ?_
            refine sq_gu RF RF rfl ?_
            refine sq_gu RF RF rfl ?_
            refine sq_gu RF RF rfl ?_
            refine sq_gu RF RF rfl ?_
            refine qf ?_
            refine qg (y_pick_f RF RF) ?_
            refine qs (y_pick_f RF RF) ?_
            refine sq_nil ?_
            exact sx_midE (⟨false, rfl⟩) SU SR
        rintro ⟨y, hy⟩
        try dsimp only
        refine sx_then ?_
        refine sc_f (lk_bool rfl (hy)) ?_
        refine sc_skip ?_
        refine sx_then ?_
        refine sc_seq ?_
        refine sc_seq ?_
        refine sc_region ?_
        refine qs (y_move RF) ?_
        refine qs (y_len Try.underlying38 RF) ?_
        refine qs (y_move RF) ?_
        refine sq_nil ?_
        refine sx_then ?_
        refine sc_block ?_
        refine sc_loop (σ := Nat)
          (fun s => [(1, .slice al ls.length cl), (3, .slice at_ ts.length ct), (4, .int .u8 x), (5, .pointer (some ⟨b5, 0, none⟩)), (7, .pointer (some ⟨b7, 0, none⟩)), (11, .int .i64 (jn b ls)), (12, .int .i64 (openE b ls [])), (13, .slice zs.1 (leftR b ls).length zs.2), (14, .int .i64 (openE b ls [])), (15, .int .i64 (jn b (ls ++ [r]))), (16, .int .i64 (openE b (ls ++ [r]) [])), (17, .slice at2 (leftR b (ls ++ [r])).length ct2), (18, .int .i64 (openE b (ls ++ [r]) [])), (114, .slice at2 (leftR b (ls ++ [r])).length ct2), (115, .int .i64 (leftR b (ls ++ [r])).length), (116, .int .i64 s)])
          (fun s => [.blk b7 (.cells (rdRow r).toArray 54 (0, 0)), .blk b5 (.cells (bxRow b a c).toArray 26 (0, 0)), .reg lo2 wr2, .reg lo1 wr1, .reg 0 w])
          (fun s => s ≤ (leftR b (ls ++ [r])).length)
          (fun s => (leftR b (ls ++ [r])).length - s)
          (0) ?_ SU SR ?_
        · exact Nat.zero_le _
        rintro k hk
        have hltl := ht2.len
        refine sc_seq ?_
        refine sc_region ?_
        refine qs (y_lss RF RF) ?_
        refine sq_nil ?_
        refine sx_then ?_
        refine sc_seq ?_
        refine scp (fun hc3 => ?_) (fun hc3 => ?_)
        ·
          have hk' : k < (leftR b (ls ++ [r])).length := by omega
          have hml := more_left hk'
          have hst1 := (ht2.get sp0 hk').1
          have hct := (ht2.get sp0 hk').2
          have hss1 := (hs1.get sp0 hml.1).1
          have hcs := (hs1.get sp0 hml.1).2
          refine sc_skip ?_
          refine sx_then ?_
          refine sc_seq ?_
          refine sc_block ?_
          refine sc_seq ?_
          refine sc_region ?_
          refine qs (y_move RF) ?_
          refine qs (y_assign RF) ?_
          refine sq_nil ?_
          refine sx_then ?_
          refine sc_seq ?_
          refine sc_draw rfl (by kernel_rfl) (by kernel_rfl) ?_
          refine qq_y (OpY.s (y_move RF)) rfl ?_
          refine qq_y (OpY.s (y_move RF)) rfl ?_
          refine qq_y (OpY.s IA38) rfl ?_
          refine qq_y (OpY.s FA24_3) rfl ?_
          refine qq_y (OpY.s (by first | exact y_load_caj (j := 0) Try.underlying3 rfl RF MM hct rfl | exact LD3)) rfl ?_
          refine qq_y (OpY.s (y_move RF)) rfl ?_
          refine qq_y (OpY.s (y_move RF)) rfl ?_
          refine qq_y (OpY.s IA38) rfl ?_
          refine qq_y (OpY.s FA24_3) rfl ?_
          refine qq_y (OpY.s (by first | exact y_load_caj (j := 0) Try.underlying3 rfl RF MM hcs rfl | exact LD3)) rfl ?_
          refine qq_y (OpY.s (y_lss RF RF)) rfl ?_
          refine qq_y (OpY.s (y_move RF)) rfl ?_
          refine qq_known (tt := 130) (b' := false) RF (decide_eq_false (by omega)) ?_
          refine qq_gt RF RF (OpY.s (y_move RF)) rfl ?_
          refine qq_gt RF RF (OpY.s (y_move RF)) rfl ?_
          refine qq_gt RF RF (OpY.s IA38) rfl ?_
          refine qq_gt RF RF (OpY.s FA24_3) rfl ?_
          refine qq_gt RF RF (OpY.s (by first | exact y_load_caj (j := 1) Try.underlying3 rfl RF MM hct rfl | exact LD3)) rfl ?_
          refine qq_gt RF RF (OpY.s (y_move RF)) rfl ?_
          refine qq_gt RF RF (OpY.s (y_move RF)) rfl ?_
          refine qq_gt RF RF (OpY.s IA38) rfl ?_
          refine qq_gt RF RF (OpY.s FA24_3) rfl ?_
          refine qq_gt RF RF (OpY.s (by first | exact y_load_caj (j := 1) Try.underlying3 rfl RF MM hcs rfl | exact LD3)) rfl ?_
          refine qq_gt RF RF (OpY.s (y_gtr RF RF)) rfl ?_
          refine qq_y (OpY.s (y_pick_f RF RF)) rfl ?_
          refine qq_nil ?_
          refine sx_then ?_
          refine sc_f (lk_bool rfl (decide_eq_false (by omega))) ?_
          refine sc_skip ?_
          refine sx_blk ?_
          refine sx_then ?_
          refine sc_region ?_
          refine qs (y_add RF RF (by omega)) ?_
          refine qs (y_move RF) ?_
          refine sq_nil ?_
          refine sx_round (k + 1) ?_ ?_ SU SR
          · omega
          · omega
        ·
          refine sc_exit ?_
          refine sx_then_exit ?_
          refine sx_round_exit ?_
          refine sx_blk_hit ?_
          refine sx_then ?_
          refine sc_seq ?_
          refine sc_region ?_
          refine qs (y_assign RF) ?_
          refine sq_nil ?_
          refine sx_then ?_
          refine sc_seq ?_
          refine sc_seq ?_
          refine sc_nil_own 54 8 ?_
          refine sc_region ?_
          refine qs (y_move RF) ?_
          refine qs (y_len Try.underlying30 RF) ?_
          refine qs (y_move RF) ?_
          refine sq_nil ?_
          refine sx_then ?_
          refine sc_block ?_
          refine sc_loop (σ := Nat × Value)
            (fun s => [(1, .slice al ls.length cl), (3, .slice at_ ts.length ct), (4, .int .u8 x), (5, .pointer (some ⟨b5, 0, none⟩)), (7, .pointer (some ⟨b7, 0, none⟩)), (11, .int .i64 (jn b ls)), (12, .int .i64 (openE b ls [])), (13, .slice zs.1 (leftR b ls).length zs.2), (14, .int .i64 (openE b ls [])), (20, s.2), (144, .slice al ls.length cl), (145, .int .i64 ls.length), (146, .int .i64 s.1)])
            (fun s => [.own s.2 54 8 s.1 ((turnA ls x s.1).flatMap rdRow), .blk b5 (.cells (bxRow b a c).toArray 26 (0, 0)), .reg lo1 wr1, .reg 0 w])
            (fun s => s.1 ≤ ls.length ∧ s.2.oneCell' = true)
            (fun s => ls.length - s.1)
            ((0, .slice none 0 0)) ?_ SU SR ?_
          · exact ⟨Nat.zero_le _, rfl⟩
          rintro ⟨i, v⟩ ⟨hi, hv⟩
          dsimp only at hi hv ⊢
          refine sc_seq ?_
          refine sc_region ?_
          refine qs (y_lss RF RF) ?_
          refine sq_nil ?_
          refine sx_then ?_
          refine sc_seq ?_
          refine scp (fun hc5 => ?_) (fun hc5 => ?_)
          ·
            have hi' : i < ls.length := by omega
            have hix : (i + x) % ls.length < ls.length := Nat.mod_lt _ (by omega)
            have hsm := (hl.get rd0 hix).1
            have hca := (hl.get rd0 hix).2
            refine sc_skip ?_
            refine sx_then ?_
            refine sc_seq ?_
            refine sc_block ?_
            refine sc_seq ?_
            refine sc_region ?_
            refine qs (y_move RF) ?_
            refine qs (y_assign RF) ?_
            refine sq_nil ?_
            refine sx_then ?_
            refine sc_region ?_
            refine qs (y_move RF) ?_
            refine qs (y_move RF) ?_
            refine qs (y_move RF) ?_
            refine qs (y_move RF) ?_
            refine qs (y_conv Try.underlying5 Try.underlying3 RF (wrap64_in (by omega) (by omega))) ?_
            refine qs (y_add RF RF (by omega)) ?_
            refine qs (y_move RF) ?_
            refine qs (y_len Try.underlying30 RF) ?_
            refine qs (y_rem RF RF (by omega) (by omega)) ?_
            rw [show ((i : Int) + (x : Int)) % (ls.length : Int) = (((i + x) % ls.length : Nat) : Int) from by rw [Int.natCast_emod, Int.natCast_add]]
            refine qs IA30 ?_
            refine qs (by first | exact y_load_ca Try.underlying54 rfl Try.sizeOf54 RF MM hca rfl | exact LD54) ?_
            refine sq_bs Try.underlying30 ei54 (EvI.cons RF EvI.nil) (by first | (simp [Value.cells]; done) | (simp [Value.cells]; rfl) | (simp [Value.cells]; and_intros <;> rfl)) rfl rfl rfl (fun b160 => ?_)
            refine sq_append (news := rdRow (ls.getD ((i + x) % ls.length) rd0)) Try.underlying30 ei54 rfl (by decide) RF RM RF rfl (fun _ hw => news_blk hw MM) (by simp [rdRow, Value.oneCell']) (by omega) rfl (fun v161 ho161 => ?_)
            rw [show (turnA ls x i).flatMap rdRow ++ rdRow (ls.getD ((i + x) % ls.length) rd0) = (turnA ls x (i + 1)).flatMap rdRow from by rw [turnA_succ]; simp]
            refine qs (y_assign RF) ?_
            refine sq_nil ?_
            refine sx_blk ?_
            refine sx_then ?_
            refine sc_region ?_
            refine qs (y_add RF RF (by omega)) ?_
            refine qs (y_move RF) ?_
            refine sq_nil ?_
            refine sx_round ((i + 1, v161)) ?_ ?_ SU SR
            · exact ⟨by dsimp only; omega, ho161⟩
            · dsimp only; omega
          ·
            have hin : i = ls.length := by omega
            subst hin
            refine sc_exit ?_
            refine sx_then_exit ?_
            refine sx_round_exit ?_
            refine sx_blk_hit ?_
            refine sx_then ?_
            refine sc_seq ?_
            refine sc_seq ?_
            refine sc_region ?_
            refine qs (y_move RF) ?_
            refine qs (y_len Try.underlying30 RF) ?_
            refine qs (y_gtr RF RF) ?_
            refine sq_nil ?_
            refine sx_then ?_
            refine sc_midE (Z := {v : Value // v.oneCell' = true}) (fun z => [(1, .slice al ls.length cl), (3, .slice at_ ts.length ct), (4, .int .u8 x), (5, .pointer (some ⟨b5, 0, none⟩)), (7, .pointer (some ⟨b7, 0, none⟩)), (11, .int .i64 (jn b ls)), (12, .int .i64 (openE b ls [])), (13, .slice zs.1 (leftR b ls).length zs.2), (14, .int .i64 (openE b ls [])), (20, z.1)]) (fun z => [.own z.1 54 8 (turnF ls x).length ((turnF ls x).flatMap rdRow), .blk b5 (.cells (bxRow b a c).toArray 26 (0, 0)), .reg lo1 wr1, .reg 0 w]) ?_ ?_
            ·
              refine scp (fun hc6 => ?_) (fun hc6 => ?_)
              ·
                have h0 : 0 < ls.length := by omega
                have hsm := (hl.get rd0 h0).1
                have hca := (hl.get rd0 h0).2
                refine sc_region ?_
                refine qs (y_move RF) ?_
                refine qs (y_move RF) ?_
                refine qs (by first | exact y_ia_blk Try.underlying30 Try.sizeOf54 RF (show _ = some (Value.int .i64 ((0 : Nat) : Int)) from rfl) (by omega) | exact y_ia_el Try.underlying30 Try.sizeOf54 RF (show _ = some (Value.int .i64 ((0 : Nat) : Int)) from rfl) (by omega) (by first | assumption | simp)) ?_
                refine qs (by first | exact y_load_ca Try.underlying54 rfl Try.sizeOf54 RF MM hca rfl | exact LD54) ?_
                refine sq_bs Try.underlying30 ei54 (EvI.cons RF EvI.nil) (by first | (simp [Value.cells]; done) | (simp [Value.cells]; rfl) | (simp [Value.cells]; and_intros <;> rfl)) rfl rfl rfl (fun b170 => ?_)
                refine sq_append (news := rdRow (ls.getD 0 rd0)) Try.underlying30 ei54 rfl (by decide) RF RM RF rfl (fun _ hw => news_blk hw MM) (by simp [rdRow, Value.oneCell']) (by omega) rfl (fun v171 ho171 => ?_)
                rw [show (turnA ls x ls.length).flatMap rdRow ++ rdRow (ls.getD 0 rd0) = (turnF ls x).flatMap rdRow from by rw [← turnF_pos ls x h0]; simp, show ls.length + 1 = (turnF ls x).length from by rw [← turnF_pos ls x h0]; simp [turnA_len]]
                refine qs (y_assign RF) ?_
                refine sq_nil ?_
                exact sx_midE (⟨v171, ho171⟩) SU SR
              ·
                rw [show Res.own v 54 8 ls.length ((turnA ls x ls.length).flatMap rdRow) = .own v 54 8 (turnF ls x).length ((turnF ls x).flatMap rdRow) from by rw [← turnF_nil ls x (by omega), turnA_len]]
                refine sc_skip ?_
                exact sx_midE (⟨v, hv⟩) SU SR
            rintro ⟨v20, hv20⟩
            try dsimp only
            refine sx_then ?_
            refine sc_seq ?_
            have hms : ∀ q, q ∈ turnF ls x ↔ q ∈ ls := fun q => mem_turnF
            refine sc_region ?_
            refine qs LD26 ?_
            refine qs (y_move RF) ?_
            refine qy (yc Try.call16 E2 (fun w1 hw1 => judge16y w1 b a c (hB.at hw1 MM) v20 (turnF ls x) (hw1.ok (Res.own v20 54 8 (turnF ls x).length ((turnF ls x).flatMap rdRow)) MM) (by have := turnF_len ls x; omega) (jn_same hms (by have := turnF_len ls x; omega) (by omega)) (open_same hms (by have := turnF_len ls x; omega) (by omega)))) ?_
            refine qs (y_move RF) ?_
            refine qs (y_extract RF RF) ?_
            refine qs (y_extract RF RF) ?_
            refine qs (y_assign RF) ?_
            refine qs (y_assign RF) ?_
            refine sq_nil ?_
            refine sx_then ?_
            refine sc_seq ?_
            refine sc_region ?_
            refine qs LD26 ?_
            refine qs (y_move RF) ?_
            refine sq_call_new (first := []) (caps := []) (Z := Option Addr × Nat) (fun z => .tuple #[.slice z.1 (leftR b ls).length z.2, .int .i64 (openE b ls [])]) (fun lo w' z => RowsA spRow 2 lo w' z.1 (leftR b ls)) RF Try.call18 (EvL.cons RF (EvL.cons RF EvL.nil)) (fun w1 hw1 => left18y w1 b a c (hB.at hw1 MM) v20 (turnF ls x) (hw1.ok (Res.own v20 54 8 (turnF ls x).length ((turnF ls x).flatMap rdRow)) MM) (by have := turnF_len ls x; omega) (left_same hms (by have := turnF_len ls x; omega) (by omega)) (open_same hms (by have := turnF_len ls x; omega) (by omega))) rfl (fun lo3 wr3 zu hu1 => ?_)
            refine qs (y_move RF) ?_
            refine qs (y_extract RF RF) ?_
            refine qs (y_extract RF RF) ?_
            refine qs (y_assign RF) ?_
            refine qs (y_assign RF) ?_
            refine sq_nil ?_
            refine sx_then ?_
            refine sc_seq ?_
            refine sc_seq ?_
            refine sc_region ?_
            refine qs (y_move RF) ?_
            refine qs (y_move RF) ?_
            refine qs (y_neq RF RF) ?_
            refine qs (y_move RF) ?_
            refine sq_known (tt := 187) (b' := false) RF (by simp) ?_
            refine qg (y_move RF) ?_
            refine qg (y_move RF) ?_
            refine qg (y_neq RF RF) ?_
            refine qs (y_pick_f RF RF) ?_
            refine qs (y_move RF) ?_
            refine sq_known (tt := 192) (b' := false) RF (by simp) ?_
            refine qg (y_move RF) ?_
            refine qg (y_move RF) ?_
            refine sq_gt RF RF (y_call (first := []) (caps := []) RF Try.call20 (EvL.cons RF (EvL.cons RF EvL.nil)) (fun w1 hw1 => spans20 w1 zu.1 zs.1 zu.2 zs.2 _ _ (hu1.at hw1 MM) (hs1.at hw1 MM))) rfl ?_
            refine qg (y_not RF) ?_
            refine qs (y_pick_f RF RF) ?_
            refine qs (y_move RF) ?_
            refine sq_known (tt := 198) (b' := false) RF (by simp) ?_
            refine qg (y_move RF) ?_
            refine qg (y_move RF) ?_
            refine qg (y_neq RF RF) ?_
            refine qs (y_pick_f RF RF) ?_
            refine sq_nil ?_
            refine sx_then ?_
            refine sc_f (lk_bool rfl (by simp)) ?_
            refine sc_skip ?_
            refine sx_then ?_
            refine sc_seq ?_
            refine sc_region ?_
            refine qs LD26 ?_
            refine qs (y_move RF) ?_
            refine sq_call_new (first := []) (caps := []) (Z := Option Addr × Nat) (fun z => .tuple #[.slice z.1 (slipR b ts).1.length z.2, .int .i64 (slipR b ts).2]) (fun _ _ _ => True) RF Try.call21 (EvL.cons RF (EvL.cons RF EvL.nil)) (fun w1 hw1 => slips21n w1 b a c (hB.at hw1 MM) at_ ct ts (ht.at hw1 MM) rfl) rfl (fun _ _ _ _ => ?_)
            refine qs (y_move RF) ?_
            refine qs (y_extract RF RF) ?_
            refine qs (y_extract RF RF) ?_
            refine qs (y_assign RF) ?_
            refine qs (y_assign RF) ?_
            refine sq_nil ?_
            refine sx_then ?_
            refine sc_seq ?_
            refine sc_midE (Z := Nat × Nat) (fun z => [(3, .slice at_ ts.length ct), (4, .int .u8 x), (5, .pointer (some ⟨b5, 0, none⟩)), (27, .int .i64 (slipR b ts).2), (28, .pointer (some ⟨z.1, 0, none⟩)), (29, .pointer (some ⟨z.2, 0, none⟩))]) (fun z => [.blk z.1 (.cells (bxRow b a c).toArray 26 (0, 0)), .blk z.2 (.cells (bxRow b a c).toArray 26 (0, 0)), .blk b5 (.cells (bxRow b a c).toArray 26 (0, 0)), .reg 0 w]) ?_ ?_
            ·
              refine sc_drawX ([.blk b5 (.cells (bxRow b a c).toArray 26 (0, 0))]) (by kernel_rfl) ?_
              refine xj_s 0 RF (by kernel_rfl) SR LD26 rfl ?_
              refine xj_s 1 RF (by kernel_rfl) SR LD26 rfl ?_
              refine xj_all (l := [2, 3]) (by kernel_rfl) (by simp) (Each.cons ⟨_, rfl, ?_⟩ (Each.cons ⟨_, rfl, ?_⟩ Each.nil))
              ·
                refine sq_alloc Try.zeroValue26 rfl (fun b28 => ?_)
                refine sq_nil ?_
                refine sx_xp SR ?_
                refine xj_one 3 RF (by kernel_rfl) ?_
                refine sq_alloc Try.zeroValue26 rfl (fun b29 => ?_)
                refine sq_nil ?_
                refine sx_xp SR ?_
                refine xj_one 4 RF (by kernel_rfl) ?_
                refine sq_store_all Try.sizeOf26 RF RF rfl RM rfl rfl ?_
                refine sq_nil ?_
                refine sx_xp SR ?_
                refine xj_one 5 RF (by kernel_rfl) ?_
                refine sq_store_all Try.sizeOf26 RF RF rfl RM rfl rfl ?_
                refine sq_nil ?_
                refine sx_xpl (by kernel_rfl) ?_
                refine xj_done (by kernel_rfl) ?_
                exact sx_midE ((b28, b29)) SU SR
              ·
                refine sq_alloc Try.zeroValue26 rfl (fun b29 => ?_)
                refine sq_nil ?_
                refine sx_xp SR ?_
                refine xj_one 2 RF (by kernel_rfl) ?_
                refine sq_alloc Try.zeroValue26 rfl (fun b28 => ?_)
                refine sq_nil ?_
                refine sx_xp SR ?_
                refine xj_one 4 RF (by kernel_rfl) ?_
                refine sq_store_all Try.sizeOf26 RF RF rfl RM rfl rfl ?_
                refine sq_nil ?_
                refine sx_xp SR ?_
                refine xj_one 5 RF (by kernel_rfl) ?_
                refine sq_store_all Try.sizeOf26 RF RF rfl RM rfl rfl ?_
                refine sq_nil ?_
                refine sx_xpl (by kernel_rfl) ?_
                refine xj_done (by kernel_rfl) ?_
                exact sx_midE ((b28, b29)) SU SR
            rintro ⟨b28, b29⟩
            try dsimp only
            refine sx_then ?_
            refine sc_seq ?_
            refine sc_region ?_
            refine sq_bs Try.underlying22 ei74 (EvI.nil) (by simp) rfl rfl rfl (fun b211 => ?_)
            refine sq_blk_own0 (sz := 3) (c := 0) RM rfl (Nat.zero_le _) ?_
            refine qs FA26_22 ?_
            refine qs LD22 ?_
            refine sq_append_rows (news := b.kinds.flatMap kdRow) Try.underlying22 ei74 Try.sizeOf74 rfl (by decide) RF RM RF hB.noa (flat_len kdRow_len b.kinds) (fun ad had w1 hw1 => kds_cells (by rw [← had]; exact hB.at hw1 MM)) (kds_one b.kinds) (by omega) rfl (fun v214 ho214 => ?_)
            rw [Nat.zero_add b.kinds.length, List.nil_append]
            refine qs FA26_22 ?_
            refine sq_store_eq (cs' := [v214, .int .i64 b.bag.lo, .int .i64 b.bag.hi, .int .i64 b.lost, .int .i64 b.extra].toArray) Try.sizeOf22 RF RF ho214 RM (Nat.le_of_ble_eq_true rfl) rfl ?_
            refine sq_nil ?_
            refine sx_then ?_
            refine sc_seq ?_
            have hj : x % b.kinds.length < b.kinds.length := Nat.mod_lt _ (by omega)
            have hkb := kd_bd hok hj
            refine sc_own_blk (e := 74) (sz := 3) RM (by omega) (fun g cap cur hv214 hnc hcm hsz htk => ?_)
            subst hv214
            have hclo : cur[0 + x % b.kinds.length * 3 + 1 + 0]? = some (.int .i64 (b.kinds.getD (x % b.kinds.length) kd0).wt.lo) := cur_get (k := 1) htk hj rfl
            have hchi : cur[0 + x % b.kinds.length * 3 + 1 + 1]? = some (.int .i64 (b.kinds.getD (x % b.kinds.length) kd0).wt.hi) := cur_get (k := 2) htk hj rfl
            refine sc_draw rfl (by kernel_rfl) (by kernel_rfl) ?_
            refine qq_y (OpY.s FA26_22) rfl ?_
            refine qq_y (OpY.s LD22) rfl ?_
            refine qq_y (OpY.s (y_move RF)) rfl ?_
            refine qq_y (OpY.s (y_conv Try.underlying5 Try.underlying3 RF (wrap64_in (by omega) (by omega)))) rfl ?_
            refine qq_y (OpY.s FA26_22) rfl ?_
            refine qq_y (OpY.s LD22) rfl ?_
            refine qq_y (OpY.s (y_len Try.underlying22 RF)) rfl ?_
            refine qq_y (OpY.s (y_rem RF RF (by omega) (by omega))) rfl ?_
            rw [← Int.natCast_emod]
            refine qq_y (OpY.s IA22) rfl ?_
            refine qq_y (OpY.s FA74_24) rfl ?_
            refine qq_y (OpY.s (y_assign RF)) rfl ?_
            refine qq_nil ?_
            refine sx_then ?_
            refine sc_seq ?_
            refine sc_drawR (by kernel_rfl) ?_
            refine xj_s 0 RF (by kernel_rfl) SR (y_move RF) rfl ?_
            refine xj_s 1 RF (by kernel_rfl) SR (y_move RF) rfl ?_
            refine xj_s 2 RF (by kernel_rfl) SR (y_nilCheck RF) rfl ?_
            refine xj_s 3 RF (by kernel_rfl) SR FA24_3 rfl ?_
            refine xj_s 4 RF (by kernel_rfl) SR (by first | exact y_load_blk (v := .int .i64 (b.kinds.getD (x % b.kinds.length) kd0).wt.lo) Try.underlying3 rfl RF MM hclo | exact LD3) rfl ?_
            refine xj_s 5 RF (by kernel_rfl) SR (y_move RF) rfl ?_
            refine xj_s 6 RF (by kernel_rfl) SR (y_nilCheck RF) rfl ?_
            refine xj_s 7 RF (by kernel_rfl) SR FA24_3 rfl ?_
            refine xj_s 8 RF (by kernel_rfl) SR (by first | exact y_load_blk (v := .int .i64 (b.kinds.getD (x % b.kinds.length) kd0).wt.hi) Try.underlying3 rfl RF MM hchi | exact LD3) rfl ?_
            refine xj_s 9 RF (by kernel_rfl) SR (y_move RF) rfl ?_
            refine xj_s 10 RF (by kernel_rfl) SR (y_conv Try.underlying5 Try.underlying3 RF (wrap64_in (by omega) (by omega))) rfl ?_
            refine xj_s 11 RF (by kernel_rfl) SR (y_rem RF RF (by omega) (by omega)) rfl ?_
            refine xj_s 12 RF (by kernel_rfl) SR (y_sub RF RF (by omega)) rfl ?_
            refine xj_s 13 RF (by kernel_rfl) SR (y_max RF RF) rfl ?_
            refine xj_s 14 RF (by kernel_rfl) SR (y_nilCheck RF) rfl ?_
            refine xj_s 15 RF (by kernel_rfl) SR FA24_3 rfl ?_
            refine xj_one 16 RF (by kernel_rfl) ?_
            refine sq_store (o := 0 + x % b.kinds.length * 3 + 1 + 1) Try.sizeOf3 RF RF rfl RM (by rw [hsz]; omega) ?_
            refine sq_nil ?_
            refine sx_xpl (by kernel_rfl) ?_
            refine xj_done (by kernel_rfl) ?_
            refine sx_then ?_
            refine sc_seq ?_
            refine sc_region ?_
            refine qs FA26_24 ?_
            refine qs FA24_3 ?_
            refine qs LD3 ?_
            refine qs FA26_24 ?_
            refine qs FA24_3 ?_
            refine qs LD3 ?_
            refine qs (y_move RF) ?_
            refine qs (y_conv Try.underlying5 Try.underlying3 RF (wrap64_in (by omega) (by omega))) ?_
            refine qs (y_rem RF RF (by omega) (by omega)) ?_
            refine qs (y_add RF RF (by omega)) ?_
            refine qs (y_min RF RF) ?_
            refine qs FA26_24 ?_
            refine qs FA24_3 ?_
            refine sq_store_eq (cs' := [.slice (some ⟨g, 0, none⟩) b.kinds.length cap, .int .i64 (min b.bag.hi (b.bag.lo + (x : Int) % 7)), .int .i64 b.bag.hi, .int .i64 b.lost, .int .i64 b.extra].toArray) Try.sizeOf3 RF RF rfl RM (Nat.le_of_ble_eq_true rfl) rfl ?_
            refine sq_nil ?_
            refine sx_then ?_
            refine sc_seq ?_
            refine sc_drawX ([.blk b5 (.cells (bxRow b a c).toArray 26 (0, 0))]) (by kernel_rfl) ?_
            refine xj_s 0 RF (by kernel_rfl) SR FA26_3 rfl ?_
            refine xj_s 1 RF (by kernel_rfl) SR LD3 rfl ?_
            refine xj_s 2 RF (by kernel_rfl) SR (y_add RF RF (by omega)) rfl ?_
            refine xj_s 3 RF (by kernel_rfl) SR (y_min RF RF) rfl ?_
            refine xj_s 4 RF (by kernel_rfl) SR FA26_3 rfl ?_
            refine xj_s 5 RF (by kernel_rfl) SR LD3 rfl ?_
            refine xj_s 6 RF (by kernel_rfl) SR (y_add RF RF (by omega)) rfl ?_
            refine xj_s 7 RF (by kernel_rfl) SR (y_min RF RF) rfl ?_
            refine xj_s 8 RF (by kernel_rfl) SR FA26_3 rfl ?_
            refine xj_one 9 RF (by kernel_rfl) ?_
            refine sq_store_eq (cs' := [.slice a b.kinds.length c, .int .i64 b.bag.lo, .int .i64 b.bag.hi, .int .i64 (min 4 (b.lost + 1)), .int .i64 b.extra].toArray) Try.sizeOf3 RF RF rfl RM (Nat.le_of_ble_eq_true rfl) rfl ?_
            refine sq_nil ?_
            refine sx_xp SR ?_
            refine xj_s 10 RF (by kernel_rfl) SR FA26_3 rfl ?_
            refine xj_one 11 RF (by kernel_rfl) ?_
            refine sq_store_eq (cs' := (bxRow (richB b) a c).toArray) Try.sizeOf3 RF RF rfl RM (Nat.le_of_ble_eq_true rfl) rfl ?_
            refine sq_nil ?_
            refine sx_xpl (by kernel_rfl) ?_
            refine xj_done (by kernel_rfl) ?_
            refine sx_then ?_
            refine sc_seq ?_
            refine sc_region ?_
            refine qs LD26 ?_
            refine qs (y_move RF) ?_
            refine sq_call_new (first := []) (caps := []) (Z := Option Addr × Nat) (fun z => .tuple #[.slice z.1 (slipR (thinB b (x % b.kinds.length) (max (b.kinds.getD (x % b.kinds.length) kd0).wt.lo ((b.kinds.getD (x % b.kinds.length) kd0).wt.hi - (x : Int) % 5)) (min b.bag.hi (b.bag.lo + (x : Int) % 7))) ts).1.length z.2, .int .i64 (slipR (thinB b (x % b.kinds.length) (max (b.kinds.getD (x % b.kinds.length) kd0).wt.lo ((b.kinds.getD (x % b.kinds.length) kd0).wt.hi - (x : Int) % 5)) (min b.bag.hi (b.bag.lo + (x : Int) % 7))) ts).2]) (fun _ _ _ => True) RF Try.call21 (EvL.cons RF (EvL.cons RF EvL.nil)) (fun w1 hw1 => slips21n w1 (thinB b (x % b.kinds.length) (max (b.kinds.getD (x % b.kinds.length) kd0).wt.lo ((b.kinds.getD (x % b.kinds.length) kd0).wt.hi - (x : Int) % 5)) (min b.bag.hi (b.bag.lo + (x : Int) % 7))) (some ⟨g, 0, none⟩) cap (blk_rowsA (n := b.kinds.length * 3) kdRow_len hw1 MM (thin_cells htk hj) (by rw [thin_len]; omega)) at_ ct ts (ht.at hw1 MM) (by simp [bxRow, thinB])) rfl (fun _ _ _ _ => ?_)
            refine qs (y_move RF) ?_
            refine qs (y_extract RF RF) ?_
            refine qs (y_extract RF RF) ?_
            refine qs (y_assign RF) ?_
            refine qs (y_assign RF) ?_
            refine sq_nil ?_
            refine sx_then ?_
            refine sc_seq ?_
            refine sc_region ?_
            refine qs LD26 ?_
            refine qs (y_move RF) ?_
            refine sq_call_new (first := []) (caps := []) (Z := Option Addr × Nat) (fun z => .tuple #[.slice z.1 (slipR (richB b) ts).1.length z.2, .int .i64 (slipR (richB b) ts).2]) (fun _ _ _ => True) RF Try.call21 (EvL.cons RF (EvL.cons RF EvL.nil)) (fun w1 hw1 => slips21n w1 (richB b) a c (hB.at hw1 MM) at_ ct ts (ht.at hw1 MM) rfl) rfl (fun _ _ _ _ => ?_)
            refine qs (y_move RF) ?_
            refine qs (y_extract RF RF) ?_
            refine qs (y_extract RF RF) ?_
            refine qs (y_assign RF) ?_
            refine qs (y_assign RF) ?_
            refine sq_nil ?_
            refine sx_then ?_
            refine sc_seq ?_
            refine sc_region ?_
            refine qs (y_move RF) ?_
            refine qs (y_neq RF RF) ?_
            refine qs (y_move RF) ?_
            refine sp 279 (fun hg38_2 => ?_) (fun hg38_2 => ?_)
            ·
              refine qf ?_
              refine qf ?_
              refine qf ?_
              refine qs (y_pick_t RF RF) ?_
              refine qs (y_move RF) ?_
              refine qg (y_move RF) ?_
              refine qg (y_neq RF RF) ?_
              refine qg (y_move RF) ?_
              refine sp 287 (fun hg38_10 => ?_) (fun hg38_10 => ?_)
              ·
                refine qf ?_
                refine qf ?_
                refine qf ?_
                refine qg (y_pick_t RF RF) ?_
                refine qs (y_pick_t RF RF) ?_
                refine qs (y_move RF) ?_
                refine sq_gt RF RF (y_call (first := []) (caps := []) RF Try.call13 EvL.nil (fun w1 _ => alive13 w1)) rfl ?_
                refine qs (y_pick_t RF RF) ?_
                refine qs (y_assign RF) ?_
                refine sq_nil ?_
                refine sx_then ?_
                refine sc_ret ?_
                refine sx_ret1 (.inl rfl) rfl Try.results10 RF ?_
                intro w' hw'
                exact ⟨rfl, hw'.below MM⟩
              ·
                refine qg (y_move RF) ?_
                refine qg (y_move RF) ?_
                refine qg (y_eql RF RF) ?_
                refine qg (y_pick_f RF RF) ?_
                refine qs (y_pick_t RF RF) ?_
                refine qs (y_move RF) ?_
                refine sq_known (tt := 293) (b' := true) RF (decide_eq_true (by rw [rich_slip hok hg38_10]; exact hg38_10.symm)) ?_
                refine sq_gt RF RF (y_call (first := []) (caps := []) RF Try.call13 EvL.nil (fun w1 _ => alive13 w1)) rfl ?_
                refine qs (y_pick_t RF RF) ?_
                refine qs (y_assign RF) ?_
                refine sq_nil ?_
                refine sx_then ?_
                refine sc_ret ?_
                refine sx_ret1 (.inl rfl) rfl Try.results10 RF ?_
                intro w' hw'
                exact ⟨rfl, hw'.below MM⟩
            ·
              refine qg (y_move RF) ?_
              refine qg (y_move RF) ?_
              refine qg (y_eql RF RF) ?_
              refine qs (y_pick_f RF RF) ?_
              refine qs (y_move RF) ?_
              refine sq_known (tt := 284) (b' := true) RF (decide_eq_true (by rw [thin_slip hok hj (by omega) (by omega) hg38_2]; exact hg38_2.symm)) ?_
              refine qg (y_move RF) ?_
              refine qg (y_neq RF RF) ?_
              refine qg (y_move RF) ?_
              refine sp 287 (fun hg38_10 => ?_) (fun hg38_10 => ?_)
              ·
                refine qf ?_
                refine qf ?_
                refine qf ?_
                refine qg (y_pick_t RF RF) ?_
                refine qs (y_pick_t RF RF) ?_
                refine qs (y_move RF) ?_
                refine sq_gt RF RF (y_call (first := []) (caps := []) RF Try.call13 EvL.nil (fun w1 _ => alive13 w1)) rfl ?_
                refine qs (y_pick_t RF RF) ?_
                refine qs (y_assign RF) ?_
                refine sq_nil ?_
                refine sx_then ?_
                refine sc_ret ?_
                refine sx_ret1 (.inl rfl) rfl Try.results10 RF ?_
                intro w' hw'
                exact ⟨rfl, hw'.below MM⟩
              ·
                refine qg (y_move RF) ?_
                refine qg (y_move RF) ?_
                refine qg (y_eql RF RF) ?_
                refine qg (y_pick_f RF RF) ?_
                refine qs (y_pick_t RF RF) ?_
                refine qs (y_move RF) ?_
                refine sq_known (tt := 293) (b' := true) RF (decide_eq_true (by rw [rich_slip hok hg38_10]; exact hg38_10.symm)) ?_
                refine sq_gt RF RF (y_call (first := []) (caps := []) RF Try.call13 EvL.nil (fun w1 _ => alive13 w1)) rfl ?_
                refine qs (y_pick_t RF RF) ?_
                refine qs (y_assign RF) ?_
                refine sq_nil ?_
                refine sx_then ?_
                refine sc_ret ?_
                refine sx_ret1 (.inl rfl) rfl Try.results10 RF ?_
                intro w' hw'
                exact ⟨rfl, hw'.below MM⟩
theorem more10 (w : World) (b : Bx) (a : Option Addr) (c : Nat) (hB : RowsA kdRow 3 0 w a b.kinds) (al : Option Addr) (cl : Nat) (ls : List Rd) (hl : RowsA rdRow 8 0 w al ls) (r : Rd) (at_ : Option Addr) (ct : Nat) (ts : List Te) (ht : RowsA teRow 7 0 w at_ ts) (x : Int) (hx : 0 ≤ x ∧ x ≤ 255) : Calls Try.prog 10 #[.agg (bxRow b a c).toArray, .slice al ls.length cl, .agg (rdRow r).toArray, .slice at_ ts.length ct, .int .u8 x] w fun e w' => e = .returned (.bool true) ∧ Below w.heap.size w w' := by
  obtain ⟨n, rfl⟩ := Int.eq_ofNat_of_zero_le hx.1
  exact more10n w b a c hB al cl ls hl r at_ ct ts ht n (by omega)
end Go.Proofs.Ytofjipmheckmjaa
