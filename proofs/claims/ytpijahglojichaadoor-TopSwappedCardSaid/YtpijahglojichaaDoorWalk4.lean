/- The walks of what compares lists and trades, of sums, and of what an exchange gives. -/
import Derived.Test.YtpijahglojichaaDoorWalk3
namespace Go.Proofs.YtpijahglojichaaDoor
open Go Go.Eng Go.RowKit Go.Proofs
set_option maxRecDepth 100000
def cmpL : List Int → List Int → Int
  | [], [] => 0
  | [], _ :: _ => -1
  | _ :: _, [] => 1
  | a :: l, b :: r => if a < b then -1 else if b < a then 1 else cmpL l r
theorem drop_cons {l : List Int} {i : Nat} (h : i < l.length) : l.drop i = l.getD i 0 :: l.drop (i + 1) := by
  rw [List.drop_eq_getElem_cons h, List.getD_eq_getElem?_getD, List.getElem?_eq_getElem h]; rfl
def cmpI (x y : Int) : Int := if x < y then -1 else if y < x then 1 else 0
/-- an exchange, and what it gives -/
structure Td where
  gets : List Int
  worth : Int
deriving DecidableEq
def td0 : Td := ⟨[], 0⟩
def betterB (t o : Td) : Bool := if t.worth ≠ o.worth then decide (o.worth < t.worth) else decide (cmpL t.gets o.gets < 0)
def tdV (y : Option Addr × Nat) (t : Td) : List Value := [.slice y.1 t.gets.length y.2, .int .i64 t.worth]
def tdOf (h : Option Td) : Td := h.getD td0
def hdV (y : Option Addr × Nat) (h : Option Td) : List Value := [.slice y.1 (tdOf h).gets.length y.2, .int .i64 (tdOf h).worth, .bool h.isSome, .func (.func 57) #[] #[]]
def takesB (h : Option Td) (t : Td) : Bool := match h with
  | none => true
  | some o => betterB t o
/-- the better one of what is held, and what is offered -/
def offer (h : Option Td) (t : Td) : Option Td := if takesB h t = true then some t else h
def sumI (l : List Int) : Int := l.foldl (· + ·) 0
theorem sum_take {l : List Int} {k : Nat} (h : k < l.length) : sumI (l.take (k + 1)) = sumI (l.take k) + l.getD k 0 := by
  unfold sumI
  rw [List.take_add_one, List.getD_eq_getElem?_getD, List.getElem?_eq_getElem h, List.foldl_append]
  rfl
theorem lit_i2 {w0 w : World} {rs : List Res} (hw : Hp w0 rs w) {g : Nat} {x y : Int} {e : TypeId} {fz : Nat × Nat} (hm : Res.blk g (.cells [Value.int .i64 x, .int .i64 y].toArray e fz) ∈ rs) : RowsA iRow 1 0 w (some ⟨g, 0, none⟩) [x, y] := lit_rowsA (row := iRow) (l := [x, y]) (fun _ => rfl) hw hm rfl (by simp)
theorem lit_i1 {w0 w : World} {rs : List Res} (hw : Hp w0 rs w) {g : Nat} {x : Int} {e : TypeId} {fz : Nat × Nat} (hm : Res.blk g (.cells [Value.int .i64 x].toArray e fz) ∈ rs) : RowsA iRow 1 0 w (some ⟨g, 0, none⟩) [x] := lit_rowsA (row := iRow) (l := [x]) (fun _ => rfl) hw hm rfl (by simp)
theorem sum2 (a b : Int) : sumI [a, b] = a + b := by simp [sumI]

theorem isNaN110 (w : World) (x : Int) : Calls Tryd.prog 110 #[.int .i64 x] w fun e w' => e = .returned (.bool false) ∧ Below w.heap.size w w' := by
  refine calls_of_SC (args := [.int .i64 x]) Tryd.func110 rfl Tryd.ntmps110 rfl ?_
  simp only [argL]
  refine sc_seq ?_
  refine sc_region ?_
  refine qs (y_assign RF) ?_
  refine sq_nil ?_
  refine sx_then ?_
  refine sc_seq ?_
  refine sc_region ?_
  refine qs (y_move RF) ?_
  refine qs (y_move RF) ?_
  refine qs (y_neq RF RF) ?_
  refine qs (y_assign RF) ?_
  refine sq_nil ?_
  refine sx_then ?_
  refine sc_ret ?_
  refine sx_ret1 (.inl rfl) rfl Tryd.results110 RF ?_
  intro w' hw'
  refine ⟨?_, hw'.below MM⟩
  simp
theorem compare104 (w : World) (x y : Int) : Calls Tryd.prog 104 #[.int .i64 x, .int .i64 y] w fun e w' => e = .returned (.int .i64 (cmpI x y)) ∧ Below w.heap.size w w' := by
  refine calls_of_SC (args := [.int .i64 x, .int .i64 y]) Tryd.func104 rfl Tryd.ntmps104 rfl ?_
  simp only [argL, Nat.zero_add]
  refine sc_seq ?_
  refine sc_region ?_
  refine qs (y_assign RF) ?_
  refine sq_nil ?_
  refine sx_then ?_
  refine sc_seq ?_
  refine sc_region ?_
  refine qs (y_move RF) ?_
  refine qy (yc Tryd.call110 E1 (fun w1 _ => isNaN110 w1 x)) ?_
  refine qs (y_assign RF) ?_
  refine sq_nil ?_
  refine sx_then ?_
  refine sc_seq ?_
  refine sc_region ?_
  refine qs (y_move RF) ?_
  refine qy (yc Tryd.call110 E1 (fun w1 _ => isNaN110 w1 y)) ?_
  refine qs (y_assign RF) ?_
  refine sq_nil ?_
  refine sx_then ?_
  refine sc_seq ?_
  refine sc_seq ?_
  refine sc_region ?_
  refine qs (y_move RF) ?_
  refine sq_nil ?_
  refine sx_then ?_
  refine sc_f (lk_bool rfl (rfl)) ?_
  refine sc_skip ?_
  refine sx_then ?_
  refine sc_seq ?_
  refine sc_seq ?_
  refine sc_region ?_
  refine qs (y_move RF) ?_
  refine sq_nil ?_
  refine sx_then ?_
  refine sc_f (lk_bool rfl (rfl)) ?_
  refine sc_skip ?_
  refine sx_then ?_
  refine sc_seq ?_
  refine sc_seq ?_
  refine sc_region ?_
  refine qs (y_move RF) ?_
  refine qs (y_move RF) ?_
  refine qs (y_lss RF RF) ?_
  refine sq_nil ?_
  refine sx_then ?_
  refine scp (fun hc3 => ?_) (fun hc3 => ?_)
  ·
    refine sc_seq ?_
    refine sc_region ?_
    refine qs (y_assign RF) ?_
    refine sq_nil ?_
    refine sx_then ?_
    refine sc_ret ?_
    refine sx_then_ret ?_
    refine sx_ret1 (.inl rfl) rfl Tryd.results104 RF ?_
    intro w' hw'
    refine ⟨?_, hw'.below MM⟩
    unfold cmpI; rw [if_pos (by omega)]
  ·
    refine sc_skip ?_
    refine sx_then ?_
    refine sc_seq ?_
    refine sc_seq ?_
    refine sc_region ?_
    refine qs (y_move RF) ?_
    refine qs (y_move RF) ?_
    refine qs (y_gtr RF RF) ?_
    refine sq_nil ?_
    refine sx_then ?_
    refine scp (fun hc4 => ?_) (fun hc4 => ?_)
    ·
      refine sc_seq ?_
      refine sc_region ?_
      refine qs (y_assign RF) ?_
      refine sq_nil ?_
      refine sx_then ?_
      refine sc_ret ?_
      refine sx_then_ret ?_
      refine sx_ret1 (.inl rfl) rfl Tryd.results104 RF ?_
      intro w' hw'
      refine ⟨?_, hw'.below MM⟩
      unfold cmpI; rw [if_neg (by omega), if_pos (by omega)]
    ·
      refine sc_skip ?_
      refine sx_then ?_
      refine sc_seq ?_
      refine sc_region ?_
      refine qs (y_assign RF) ?_
      refine sq_nil ?_
      refine sx_then ?_
      refine sc_ret ?_
      refine sx_ret1 (.inl rfl) rfl Tryd.results104 RF ?_
      intro w' hw'
      refine ⟨?_, hw'.below MM⟩
      unfold cmpI; rw [if_neg (by omega), if_neg (by omega)]
theorem compare84 (w : World) (a b : Option Addr) (ca cb : Nat) (l1 l2 : List Int) (h1 : RowsA iRow 1 0 w a l1) (h2 : RowsA iRow 1 0 w b l2) : Calls Tryd.prog 84 #[.slice a l1.length ca, .slice b l2.length cb] w fun e w' => e = .returned (.int .i64 (cmpL l1 l2)) ∧ Below w.heap.size w w' := by
  have hn1 := h1.len
  have hn2 := h2.len
  refine calls_of_SC (args := [.slice a l1.length ca, .slice b l2.length cb]) Tryd.func84 rfl Tryd.ntmps84 rfl ?_
  simp only [argL, Nat.zero_add]
  refine sc_seq ?_
  refine sc_region ?_
  refine qs (y_assign RF) ?_
  refine sq_nil ?_
  refine sx_then ?_
  refine sc_seq ?_
  refine sc_seq ?_
  refine sc_region ?_
  refine qs (y_move RF) ?_
  refine qs (y_len Tryd.underlying25 RF) ?_
  refine qs (y_move RF) ?_
  refine sq_nil ?_
  refine sx_then ?_
  refine sc_block ?_
  refine sc_loop (σ := Nat)
    (fun s => [(0, .slice a l1.length ca), (1, .slice b l2.length cb), (9, .slice a l1.length ca), (10, .int .i64 l1.length), (11, .int .i64 s)])
    (fun s => [.reg 0 w])
    (fun s => s ≤ l1.length ∧ s ≤ l2.length ∧ cmpL l1 l2 = cmpL (l1.drop s) (l2.drop s))
    (fun s => l1.length - s)
    (0) ?_ SU SE ?_
  · exact ⟨Nat.zero_le _, Nat.zero_le _, rfl⟩
  rintro k ⟨hk, hk2, hc⟩
  refine sc_seq ?_
  refine sc_region ?_
  refine qs (y_lss RF RF) ?_
  refine sq_nil ?_
  refine sx_then ?_
  refine sc_seq ?_
  refine scp (fun hc0 => ?_) (fun hc0 => ?_)
  ·
    have hk' : k < l1.length := by omega
    have hs1 := (h1.get 0 hk').1
    have hca := (h1.get 0 hk').2
    refine sc_skip ?_
    refine sx_then ?_
    refine sc_seq ?_
    refine sc_block ?_
    refine sc_seq ?_
    refine sc_region ?_
    refine qs (y_move RF) ?_
    refine qs IA25 ?_
    refine qs (by first | exact y_load_ca0 Tryd.underlying3 rfl RF MM hca rfl | exact LD3) ?_
    refine qs (y_assign RF) ?_
    refine qs (y_assign RF) ?_
    refine sq_nil ?_
    refine sx_then ?_
    refine sc_seq ?_
    refine sc_seq ?_
    refine sc_region ?_
    refine qs (y_move RF) ?_
    refine qs (y_move RF) ?_
    refine qs (y_len Tryd.underlying25 RF) ?_
    refine qs (y_geq RF RF) ?_
    refine sq_nil ?_
    refine sx_then ?_
    refine scp (fun hc1 => ?_) (fun hc1 => ?_)
    ·
      refine sc_seq ?_
      refine sc_region ?_
      refine qs (y_assign RF) ?_
      refine sq_nil ?_
      refine sx_then ?_
      refine sc_ret ?_
      refine sx_then_ret ?_
      refine sx_blk_ret ?_
      refine sx_then_ret ?_
      refine sx_round_ret ?_
      refine sx_blk_ret ?_
      refine sx_then_ret ?_
      refine sx_ret1 (.inl rfl) rfl Tryd.results84 RF ?_
      intro w' hw'
      refine ⟨?_, hw'.below MM⟩
      rw [hc, drop_cons hk', List.drop_eq_nil_of_le (show l2.length ≤ k by omega)]; rfl
    ·
      have hk2' : k < l2.length := by omega
      have hs2 := (h2.get 0 hk2').1
      have hcb := (h2.get 0 hk2').2
      refine sc_skip ?_
      refine sx_then ?_
      refine sc_seq ?_
      refine sc_region ?_
      refine qs (y_move RF) ?_
      refine qs (y_move RF) ?_
      refine qs IA25 ?_
      refine qs (by first | exact y_load_ca0 Tryd.underlying3 rfl RF MM hcb rfl | exact LD3) ?_
      refine qs (y_assign RF) ?_
      refine sq_nil ?_
      refine sx_then ?_
      refine sc_seq ?_
      refine sc_region ?_
      refine qs (y_move RF) ?_
      refine qs (y_move RF) ?_
      refine qy (yc Tryd.call104 E2 (fun w1 _ => compare104 w1 _ _)) ?_
      refine qs (y_assign RF) ?_
      refine sq_nil ?_
      refine sx_then ?_
      refine sc_seq ?_
      refine sc_region ?_
      refine qs (y_move RF) ?_
      refine qs (y_neq RF RF) ?_
      refine sq_nil ?_
      refine sx_then ?_
      refine scp (fun hc2 => ?_) (fun hc2 => ?_)
      ·
        refine sc_seq ?_
        refine sc_region ?_
        refine qs (y_move RF) ?_
        refine qs (y_assign RF) ?_
        refine sq_nil ?_
        refine sx_then ?_
        refine sc_ret ?_
        refine sx_blk_ret ?_
        refine sx_then_ret ?_
        refine sx_round_ret ?_
        refine sx_blk_ret ?_
        refine sx_then_ret ?_
        refine sx_ret1 (.inl rfl) rfl Tryd.results84 RF ?_
        intro w' hw'
        refine ⟨?_, hw'.below MM⟩
        rw [hc, drop_cons hk', drop_cons hk2']
        unfold cmpI at hc2 ⊢
        unfold cmpL
        split
        · rfl
        · rename_i g1
          rw [if_neg g1] at hc2
          split
          · rfl
          · rename_i g2; rw [if_neg g2] at hc2; omega
      ·
        refine sc_skip ?_
        refine sx_blk ?_
        refine sx_then ?_
        refine sc_region ?_
        refine qs (y_add RF RF (by omega)) ?_
        refine qs (y_move RF) ?_
        refine sq_nil ?_
        refine sx_round (k + 1) ?_ ?_ SU SE
        · refine ⟨by omega, by omega, ?_⟩
          rw [hc, drop_cons hk', drop_cons hk2']
          unfold cmpI at hc2
          conv => { lhs; unfold cmpL }
          split at hc2
          · omega
          · rename_i g1
            rw [if_neg g1]
            split at hc2
            · omega
            · rename_i g2; rw [if_neg g2]
        · omega
  ·
    refine sc_exit ?_
    refine sx_then_exit ?_
    refine sx_round_exit ?_
    refine sx_blk_hit ?_
    refine sx_then ?_
    refine sc_seq ?_
    refine sc_seq ?_
    refine sc_region ?_
    refine qs (y_move RF) ?_
    refine qs (y_len Tryd.underlying25 RF) ?_
    refine qs (y_move RF) ?_
    refine qs (y_len Tryd.underlying25 RF) ?_
    refine qs (y_lss RF RF) ?_
    refine sq_nil ?_
    refine sx_then ?_
    refine scp (fun hc3 => ?_) (fun hc3 => ?_)
    ·
      refine sc_seq ?_
      refine sc_region ?_
      refine qs (y_assign RF) ?_
      refine sq_nil ?_
      refine sx_then ?_
      refine sc_ret ?_
      refine sx_then_ret ?_
      refine sx_ret1 (.inl rfl) rfl Tryd.results84 RF ?_
      intro w' hw'
      refine ⟨?_, hw'.below MM⟩
      rw [hc, List.drop_eq_nil_of_le (show l1.length ≤ k by omega), drop_cons (show k < l2.length by omega)]; rfl
    ·
      refine sc_skip ?_
      refine sx_then ?_
      refine sc_seq ?_
      refine sc_region ?_
      refine qs (y_assign RF) ?_
      refine sq_nil ?_
      refine sx_then ?_
      refine sc_ret ?_
      refine sx_ret1 (.inl rfl) rfl Tryd.results84 RF ?_
      intro w' hw'
      refine ⟨?_, hw'.below MM⟩
      rw [hc, List.drop_eq_nil_of_le (show l1.length ≤ k by omega), List.drop_eq_nil_of_le (show l2.length ≤ k by omega)]; rfl
theorem better57 (w : World) (y1 y2 : Option Addr × Nat) (t o : Td) (h1 : RowsA iRow 1 0 w y1.1 t.gets) (h2 : RowsA iRow 1 0 w y2.1 o.gets) : Calls Tryd.prog 57 #[.agg (tdV y1 t).toArray, .agg (tdV y2 o).toArray] w fun e w' => e = .returned (.bool (betterB t o)) ∧ Below w.heap.size w w' := by
  refine calls_of_SC (args := [.agg (tdV y1 t).toArray, .agg (tdV y2 o).toArray]) Tryd.func57 rfl Tryd.ntmps57 rfl ?_
  simp only [argL, Nat.zero_add]
  refine sc_seq ?_
  refine sc_region ?_
  refine sq_box RF rfl (fun b2 => ?_)
  refine sq_box RF rfl (fun b3 => ?_)
  refine qs (y_assign RF) ?_
  refine sq_nil ?_
  refine sx_then ?_
  refine sc_seq ?_
  refine sc_seq ?_
  refine sc_region ?_
  refine qs FA85_3 ?_
  refine qs LD3 ?_
  refine qs FA85_3 ?_
  refine qs LD3 ?_
  refine qs (y_neq RF RF) ?_
  refine sq_nil ?_
  refine sx_then ?_
  refine scp (fun hc0 => ?_) (fun hc0 => ?_)
  ·
    refine sc_seq ?_
    refine sc_region ?_
    refine qs FA85_3 ?_
    refine qs LD3 ?_
    refine qs FA85_3 ?_
    refine qs LD3 ?_
    refine qs (y_gtr RF RF) ?_
    refine qs (y_assign RF) ?_
    refine sq_nil ?_
    refine sx_then ?_
    refine sc_ret ?_
    refine sx_then_ret ?_
    refine sx_ret1 (.inl rfl) rfl Tryd.results57 RF ?_
    intro w' hw'
    refine ⟨?_, hw'.below MM⟩
    unfold betterB; rw [if_pos hc0]
  ·
    refine sc_skip ?_
    refine sx_then ?_
    refine sc_seq ?_
    refine sc_region ?_
    refine qs FA85_25 ?_
    refine qs LD25 ?_
    refine qs FA85_25 ?_
    refine qs LD25 ?_
    refine qy (yc Tryd.call84 E2 (fun w1 hw1 => compare84 w1 y1.1 y2.1 y1.2 y2.2 _ _ (h1.at hw1 MM) (h2.at hw1 MM))) ?_
    refine qs (y_lss RF RF) ?_
    refine qs (y_assign RF) ?_
    refine sq_nil ?_
    refine sx_then ?_
    refine sc_ret ?_
    refine sx_ret1 (.inl rfl) rfl Tryd.results57 RF ?_
    intro w' hw'
    refine ⟨?_, hw'.below MM⟩
    unfold betterB; rw [if_neg (fun h => h hc0)]
theorem offer58n {w0 w : World} {F : List Res} {bh : Nat} (y yx : Option Addr × Nat) (t : Td) (_hr : ∀ w1, Hp w0 F w1 → RowsA iRow 1 0 w1 yx.1 t.gets) (hw : Hp w0 (.blk bh (.cells (hdV y none).toArray 100 (0, 0)) :: F) w) : Calls Tryd.prog 58 #[.pointer (some ⟨bh, 0, none⟩), .agg (tdV yx t).toArray] w fun e w' => e = .returned (.tuple #[]) ∧ Hp w0 (.blk bh (.cells (hdV yx (some t)).toArray 100 (0, 0)) :: F) w' := by
  refine calls_of_SCr (args := [.pointer (some ⟨bh, 0, none⟩), .agg (tdV yx t).toArray]) Tryd.func58 rfl Tryd.ntmps58 rfl hw ?_
  simp only [argL, Nat.zero_add]
  refine sc_seq ?_
  refine sc_region ?_
  refine sq_box RF rfl (fun b3 => ?_)
  refine sq_nil ?_
  refine sx_then ?_
  refine sc_seq ?_
  refine sc_drawR (by kernel_rfl) ?_
  refine xj_s 0 RF (by kernel_rfl) SR (y_move RF) rfl ?_
  refine xj_s 1 RF (by kernel_rfl) SR (y_nilCheck RF) rfl ?_
  refine xj_s 2 RF (by kernel_rfl) SR FA100_4 rfl ?_
  refine xj_s 3 RF (by kernel_rfl) SR LD4 rfl ?_
  refine xj_s 4 RF (by kernel_rfl) SR (y_not RF) rfl ?_
  refine xj_s 5 RF (by kernel_rfl) SR (y_move RF) rfl ?_
  refine xj_known (tt := 9) (b' := true) RF (rfl) ?_
  refine xj_gf 6 RF RF RF rfl (by kernel_rfl) SR rfl ?_
  refine xj_gf 7 RF RF RF rfl (by kernel_rfl) SR rfl ?_
  refine xj_gf 8 RF RF RF rfl (by kernel_rfl) SR rfl ?_
  refine xj_gf 9 RF RF RF rfl (by kernel_rfl) SR rfl ?_
  refine xj_gf 10 RF RF RF rfl (by kernel_rfl) SR rfl ?_
  refine xj_gf 11 RF RF RF rfl (by kernel_rfl) SR rfl ?_
  refine xj_gf 12 RF RF RF rfl (by kernel_rfl) SR rfl ?_
  refine xj_gf 13 RF RF RF rfl (by kernel_rfl) SR rfl ?_
  refine xj_gf 14 RF RF RF rfl (by kernel_rfl) SR rfl ?_
  refine xj_gf 15 RF RF RF rfl (by kernel_rfl) SR rfl ?_
  refine xj_s 16 RF (by kernel_rfl) SR (y_pick_t RF RF) rfl ?_
  refine xj_done (by kernel_rfl) ?_
  refine sx_then ?_
  refine sc_t RF ?_
  refine sc_region ?_
  refine qs (y_move RF) ?_
  refine qs (y_move RF) ?_
  refine qs LD85 ?_
  refine qs (y_nilCheck RF) ?_
  refine qs FA100_85 ?_
  refine sq_store_part (cs := hdV y none) (vs := tdV yx t) (cs' := (hdV y none).take 0 ++ tdV yx t ++ (hdV y none).drop 2) Tryd.sizeOf85 RF RF rfl RM rfl (Nat.le_of_ble_eq_true rfl) rfl ?_
  refine qs (y_nilCheck RF) ?_
  refine qs FA100_4 ?_
  refine sq_store_eq (cs' := (hdV yx (some t)).toArray) Tryd.sizeOf4 RF RF rfl RM (Nat.le_of_ble_eq_true rfl) rfl ?_
  refine sq_nil ?_
  refine sx_ret0 (.inr rfl) rfl Tryd.results58 ?_
  intro w' hw'
  exact ⟨rfl, hw'.sel SR⟩
theorem offer58s {w0 w : World} {F : List Res} {bh : Nat} (y yx : Option Addr × Nat) (o t : Td) (hr : ∀ w1, Hp w0 F w1 → RowsA iRow 1 0 w1 y.1 o.gets ∧ RowsA iRow 1 0 w1 yx.1 t.gets) (hw : Hp w0 (.blk bh (.cells (hdV y (some o)).toArray 100 (0, 0)) :: F) w) : Calls Tryd.prog 58 #[.pointer (some ⟨bh, 0, none⟩), .agg (tdV yx t).toArray] w fun e w' => e = .returned (.tuple #[]) ∧ Hp w0 (.blk bh (.cells (if betterB t o = true then hdV yx (some t) else hdV y (some o)).toArray 100 (0, 0)) :: F) w' := by
  refine calls_of_SCr (args := [.pointer (some ⟨bh, 0, none⟩), .agg (tdV yx t).toArray]) Tryd.func58 rfl Tryd.ntmps58 rfl hw ?_
  simp only [argL, Nat.zero_add]
  refine sc_seq ?_
  refine sc_region ?_
  refine sq_box RF rfl (fun b3 => ?_)
  refine sq_nil ?_
  refine sx_then ?_
  refine sc_seq ?_
  refine sc_drawR (by kernel_rfl) ?_
  refine xj_s 0 RF (by kernel_rfl) SR (y_move RF) rfl ?_
  refine xj_s 1 RF (by kernel_rfl) SR (y_nilCheck RF) rfl ?_
  refine xj_s 2 RF (by kernel_rfl) SR FA100_4 rfl ?_
  refine xj_s 3 RF (by kernel_rfl) SR LD4 rfl ?_
  refine xj_s 4 RF (by kernel_rfl) SR (y_not RF) rfl ?_
  refine xj_s 5 RF (by kernel_rfl) SR (y_move RF) rfl ?_
  refine xj_known (tt := 9) (b' := false) RF (rfl) ?_
  refine xj_gt 6 RF RF RF (by kernel_rfl) SR (y_move RF) rfl ?_
  refine xj_gt 7 RF RF RF (by kernel_rfl) SR (y_nilCheck RF) rfl ?_
  refine xj_gt 8 RF RF RF (by kernel_rfl) SR FA100_97 rfl ?_
  refine xj_gt 9 RF RF RF (by kernel_rfl) SR LD97 rfl ?_
  refine xj_gt 10 RF RF RF (by kernel_rfl) SR LD85 rfl ?_
  refine xj_gt 11 RF RF RF (by kernel_rfl) SR (y_move RF) rfl ?_
  refine xj_gt 12 RF RF RF (by kernel_rfl) SR (y_nilCheck RF) rfl ?_
  refine xj_gt 13 RF RF RF (by kernel_rfl) SR FA100_85 rfl ?_
  refine xj_gt 14 RF RF RF (by kernel_rfl) SR (by first | exact y_load_part Tryd.underlying85 rfl Tryd.sizeOf85 RF MM rfl | exact LD85) rfl ?_
  refine xj_one 15 RF (by kernel_rfl) ?_
  refine sq_gt RF RF (y_call (first := []) (caps := []) RF Tryd.call57 E2 (fun w1 hw1 => better57 w1 yx y t o (hr w1 (hw1.sel SR)).2 (hr w1 (hw1.sel SR)).1)) rfl ?_
  refine sq_nil ?_
  refine sx_xp SR ?_
  refine xj_s 16 RF (by kernel_rfl) SR (y_pick_f RF RF) rfl ?_
  refine xj_done (by kernel_rfl) ?_
  refine sx_then ?_
  refine scp (fun hc0 => ?_) (fun hc0 => ?_)
  ·
    refine sc_region ?_
    refine qs (y_move RF) ?_
    refine qs (y_move RF) ?_
    refine qs LD85 ?_
    refine qs (y_nilCheck RF) ?_
    refine qs FA100_85 ?_
    refine sq_store_part (cs := hdV y (some o)) (vs := tdV yx t) (cs' := (hdV y (some o)).take 0 ++ tdV yx t ++ (hdV y (some o)).drop 2) Tryd.sizeOf85 RF RF rfl RM rfl (Nat.le_of_ble_eq_true rfl) rfl ?_
    refine qs (y_nilCheck RF) ?_
    refine qs FA100_4 ?_
    refine sq_store_eq (cs' := (hdV yx (some t)).toArray) Tryd.sizeOf4 RF RF rfl RM (Nat.le_of_ble_eq_true rfl) rfl ?_
    refine sq_nil ?_
    refine sx_ret0 (.inr rfl) rfl Tryd.results58 ?_
    intro w' hw'
    rw [if_pos hc0]
    exact ⟨rfl, hw'.sel SR⟩
  ·
    refine sc_skip ?_
    refine sx_ret0 (.inr rfl) rfl Tryd.results58 ?_
    intro w' hw'
    rw [if_neg (by simpa using hc0)]
    exact ⟨rfl, hw'.sel SR⟩
theorem offer58 {w0 w : World} {F : List Res} {bh : Nat} (y yx : Option Addr × Nat) (h : Option Td) (t : Td) (hr : ∀ w1, Hp w0 F w1 → RowsA iRow 1 0 w1 y.1 (tdOf h).gets ∧ RowsA iRow 1 0 w1 yx.1 t.gets) (hw : Hp w0 (.blk bh (.cells (hdV y h).toArray 100 (0, 0)) :: F) w) : Calls Tryd.prog 58 #[.pointer (some ⟨bh, 0, none⟩), .agg (tdV yx t).toArray] w fun e w' => e = .returned (.tuple #[]) ∧ Hp w0 (.blk bh (.cells (hdV (if takesB h t = true then yx else y) (offer h t)).toArray 100 (0, 0)) :: F) w' := by
  cases h with
  | none => exact (offer58n y yx t (fun w1 h1 => (hr w1 h1).2) hw).mono fun e w' h => h
  | some o =>
    refine (offer58s y yx o t (fun w1 h1 => hr w1 h1) hw).mono fun e w' ⟨he, h⟩ => ⟨he, ?_⟩
    show Hp w0 (.blk bh (.cells (hdV (if betterB t o = true then yx else y) (if betterB t o = true then some t else some o)).toArray 100 (0, 0)) :: F) w'
    by_cases hb : betterB t o = true
    · rw [if_pos hb] at h
      rw [if_pos hb, if_pos hb]; exact h
    · rw [if_neg hb] at h
      rw [if_neg hb, if_neg hb]; exact h
theorem sum78 (w : World) (a : Option Addr) (c : Nat) (l : List Int) (hl : RowsA iRow 1 0 w a l) (hb : ∀ x, x ∈ l → -1000000000000 ≤ x ∧ x ≤ 1000000000000) (h4 : l.length ≤ 4) : Calls Tryd.prog 78 #[.slice a l.length c] w fun e w' => e = .returned (.int .i64 (sumI l)) ∧ Below w.heap.size w w' := by
  refine calls_of_SC (args := [.slice a l.length c]) Tryd.func78 rfl Tryd.ntmps78 rfl ?_
  simp only [argL]
  refine sc_seq ?_
  refine sc_region ?_
  refine qs (y_assign RF) ?_
  refine sq_nil ?_
  refine sx_then ?_
  refine sc_seq ?_
  refine sc_seq ?_
  refine sc_region ?_
  refine qs (y_move RF) ?_
  refine qs (y_len Tryd.underlying25 RF) ?_
  refine qs (y_move RF) ?_
  refine sq_nil ?_
  refine sx_then ?_
  refine sc_block ?_
  refine sc_loop (σ := Nat)
    (fun s => [(2, .int .i64 (sumI (l.take s))), (5, .slice a l.length c), (6, .int .i64 l.length), (7, .int .i64 s)])
    (fun s => [.reg 0 w])
    (fun s => s ≤ l.length ∧ -1000000000000 * (s : Int) ≤ sumI (l.take s) ∧ sumI (l.take s) ≤ 1000000000000 * (s : Int))
    (fun s => l.length - s)
    (0) ?_ SU SR ?_
  · exact ⟨Nat.zero_le _, by simp [sumI], by simp [sumI]⟩
  rintro k ⟨hk, hkb⟩
  refine sc_seq ?_
  refine sc_region ?_
  refine qs (y_lss RF RF) ?_
  refine sq_nil ?_
  refine sx_then ?_
  refine sc_seq ?_
  refine scp (fun hc0 => ?_) (fun hc0 => ?_)
  ·
    have hk' : k < l.length := by omega
    have hsm := (hl.get 0 hk').1
    have hca := (hl.get 0 hk').2
    have hbk := hb _ (getD_mem (d := 0) hk')
    have hst := sum_take hk'
    obtain ⟨q, hq⟩ : ∃ q, q = sumI (l.take k) := ⟨_, rfl⟩
    rw [← hq] at hst hkb ⊢
    refine sc_skip ?_
    refine sx_then ?_
    refine sc_seq ?_
    refine sc_block ?_
    refine sc_seq ?_
    refine sc_region ?_
    refine qs IA25 ?_
    refine qs (by first | exact y_load_ca0 Tryd.underlying3 rfl RF MM hca rfl | exact LD3) ?_
    refine qs (y_assign RF) ?_
    refine sq_nil ?_
    refine sx_then ?_
    refine sc_region ?_
    refine qs (y_move RF) ?_
    refine qs (y_move RF) ?_
    refine qs (y_add RF RF (by omega)) ?_
    rw [← hst]
    refine qs (y_assign RF) ?_
    refine sq_nil ?_
    refine sx_blk ?_
    refine sx_then ?_
    refine sc_region ?_
    refine qs (y_add RF RF (by omega)) ?_
    refine qs (y_move RF) ?_
    refine sq_nil ?_
    refine sx_round (k + 1) ?_ ?_ SU SR
    · refine ⟨by omega, ?_, ?_⟩ <;> (rw [hst]; omega)
    · omega
  ·
    have hkn : k = l.length := by omega
    rw [hkn, List.take_length]
    refine sc_exit ?_
    refine sx_then_exit ?_
    refine sx_round_exit ?_
    refine sx_blk_hit ?_
    refine sx_then ?_
    refine sc_seq ?_
    refine sc_region ?_
    refine qs (y_move RF) ?_
    refine qs (y_assign RF) ?_
    refine sq_nil ?_
    refine sx_then ?_
    refine sc_ret ?_
    refine sx_ret1 (.inl rfl) rfl Tryd.results78 RF ?_
    intro w' hw'
    exact ⟨rfl, hw'.below MM⟩
theorem sum78b (w : World) (a : Option Addr) (x y : Int) (hl : RowsA iRow 1 0 w a [x, y]) (hx : -1000000000000 ≤ x ∧ x ≤ 1000000000000) (hy : -1000000000000 ≤ y ∧ y ≤ 1000000000000) : Calls Tryd.prog 78 #[.slice a 2 2] w fun e w' => e = .returned (.int .i64 (x + y)) ∧ Below w.heap.size w w' := by
  have h := sum78 w a 2 [x, y] hl (by intro q hq; simp only [List.mem_cons, List.not_mem_nil, or_false] at hq; rcases hq with rfl | rfl <;> omega) (by simp)
  rw [sum2] at h; exact h
theorem value43 (w : World) (z : MA) (m : Mt) (hz : MtA 0 w z m) (hm : MkF m) (a : Option Addr) (c : Nat) (o : List Int) (ho : RowsA iRow 1 0 w a o) (hv : ordB o m.length = true) : Calls Tryd.prog 43 #[.agg (mV z m).toArray, .slice a o.length c] w fun e w' => e = .returned (.tuple #[.int .i64 (if fairI m o < 0 then worthL m o else 0), .int .i64 (fairI m o)]) ∧ Below w.heap.size w w' := by
  have hlen := ho.len
  have hol := ord_len hv
  have hn7 := hm.n7
  refine calls_of_SC (args := [.agg (mV z m).toArray, .slice a o.length c]) Tryd.func43 rfl Tryd.ntmps43 rfl ?_
  simp only [argL, Nat.zero_add]
  refine sc_seq ?_
  refine sc_region ?_
  refine sq_box RF rfl (fun b2 => ?_)
  refine qs (y_assign RF) ?_
  refine qs (y_assign RF) ?_
  refine sq_nil ?_
  refine sx_then ?_
  refine sc_seq ?_
  refine sc_seq ?_
  refine sc_region ?_
  refine qs (y_move RF) ?_
  refine qs (y_len Tryd.underlying25 RF) ?_
  refine qs (y_move RF) ?_
  refine sq_nil ?_
  refine sx_then ?_
  refine sc_block ?_
  refine sc_loop (σ := Nat)
    (fun s => [(1, .slice a o.length c), (2, .pointer (some ⟨b2, 0, none⟩)), (4, .int .i64 (worthN m o s)), (8, .slice a o.length c), (9, .int .i64 o.length), (10, .int .i64 s)])
    (fun s => [.blk b2 (.cells (mV z m).toArray 75 (0, 0)), .reg 0 w])
    (fun s => s ≤ o.length ∧ ∀ i, i < s → wantsB m i (getN o i) = true)
    (fun s => o.length - s)
    (0) ?_ SU SR ?_
  · exact ⟨Nat.zero_le _, fun i hi => absurd hi (Nat.not_lt_zero i)⟩
  rintro k ⟨hk, hno⟩
  refine sc_seq ?_
  refine sc_region ?_
  refine qs (y_lss RF RF) ?_
  refine sq_nil ?_
  refine sx_then ?_
  refine sc_seq ?_
  refine scp (fun hc0 => ?_) (fun hc0 => ?_)
  ·
    have hk' : k < o.length := by omega
    have hkm : k < m.length := by omega
    obtain ⟨hge, hgl⟩ := ord_get hv hkm
    have hrow := hm.row k hkm
    obtain ⟨hs1, hc1, hs2, hc2⟩ := hz.cell hkm (show getN o k < (m.getD k []).length by omega)
    have hso := (ho.get 0 hk').1
    have hco := (ho.get 0 hk').2
    rw [hge] at hco
    have hwb := worthN_bd hm o k
    have hbd := hm.bd k (getN o k)
    refine sc_skip ?_
    refine sx_then ?_
    refine sc_seq ?_
    refine sc_block ?_
    refine sc_seq ?_
    refine sc_region ?_
    refine qs (y_move RF) ?_
    refine qs IA25 ?_
    refine qs (by first | exact y_load_ca0 Tryd.underlying3 rfl RF MM hco rfl | exact LD3) ?_
    refine qs (y_assign RF) ?_
    refine qs (y_assign RF) ?_
    refine sq_nil ?_
    refine sx_then ?_
    refine sc_seq ?_
    refine sc_seq ?_
    refine sc_region ?_
    refine qs LD75 ?_
    refine qs (y_move RF) ?_
    refine qs (y_move RF) ?_
    refine qy (yc Tryd.call49 E3 (fun w1 hw1 => wants49 w1 z m (hz.at hw1 MM) k (getN o k) hkm (by omega))) ?_
    refine qs (y_not RF) ?_
    refine sq_nil ?_
    refine sx_then ?_
    first | refine sc_if RF (fun hc1' => ?_) (fun hc1' => ?_) | refine sc_ifn RF (fun hc1' => ?_) (fun hc1' => ?_) | refine sc_cond RF (fun hc1' => ?_) (fun hc1' => ?_)
    ·
      refine sc_seq ?_
      refine sc_region ?_
      refine qs (y_move RF) ?_
      refine qs (y_assign RF) ?_
      refine qs (y_assign RF) ?_
      refine sq_nil ?_
      refine sx_then ?_
      refine sc_ret ?_
      refine sx_then_ret ?_
      refine sx_blk_ret ?_
      refine sx_then_ret ?_
      refine sx_round_ret ?_
      refine sx_blk_ret ?_
      refine sx_then_ret ?_
      refine sx_ret2 (.inl rfl) rfl Tryd.results43 RF RF ?_
      intro w' hw'
      refine ⟨?_, hw'.below MM⟩
      have hff := fair_first (m := m) hk' (by simpa using hc1') hno
      rw [hff, if_neg (by omega)]
    ·
      refine sc_skip ?_
      refine sx_then ?_
      refine sc_region ?_
      refine qs (y_move RF) ?_
      refine qs FA75_24 ?_
      refine qs FA24_22 ?_
      refine qs LD22 ?_
      refine qs (y_move RF) ?_
      refine qs IA22 ?_
      refine qs (by first | exact y_load_ca0 Tryd.underlying25 rfl RF MM hc1 rfl | exact LD25) ?_
      refine qs (y_move RF) ?_
      refine qs IA25 ?_
      refine qs (by first | exact y_load_ca0 Tryd.underlying3 rfl RF MM hc2 rfl | exact LD3) ?_
      refine sq_bs Tryd.underlying25 ei3 (EvI.cons RF (EvI.cons RF EvI.nil)) (by first | (simp [Value.cells]; done) | (simp [Value.cells]; rfl) | (simp [Value.cells]; and_intros <;> rfl)) rfl rfl rfl (fun b31 => ?_)
      refine qy (yc Tryd.call78 E1 (fun w1 hw1 => sum78b w1 _ _ _ (lit_i2 hw1 MM) (by omega) (by omega))) ?_
      refine qs (y_assign RF) ?_
      refine sq_nil ?_
      refine sx_blk ?_
      refine sx_then ?_
      refine sc_region ?_
      refine qs (y_add RF RF (by omega)) ?_
      refine qs (y_move RF) ?_
      refine sq_nil ?_
      refine sx_round (k + 1) ?_ ?_ SU SR
      · refine ⟨by omega, fun i hi => ?_⟩
        rcases Nat.lt_succ_iff_lt_or_eq.1 hi with h | rfl
        · exact hno i h
        · simpa using hc1'
      · omega
  ·
    have hkn : k = o.length := by omega
    subst hkn
    have hfa := fair_all hno
    refine sc_exit ?_
    refine sx_then_exit ?_
    refine sx_round_exit ?_
    refine sx_blk_hit ?_
    refine sx_then ?_
    refine sc_seq ?_
    refine sc_region ?_
    refine qs (y_move RF) ?_
    refine qs (y_assign RF) ?_
    refine qs (y_assign RF) ?_
    refine sq_nil ?_
    refine sx_then ?_
    refine sc_ret ?_
    refine sx_ret2 (.inl rfl) rfl Tryd.results43 RF RF ?_
    intro w' hw'
    refine ⟨?_, hw'.below MM⟩
    rw [hfa, if_pos (by decide)]; rfl
theorem fair32 (w : World) (z : MA) (m : Mt) (hz : MtA 0 w z m) (hm : MkF m) (a : Option Addr) (c : Nat) (o : List Int) (ho : RowsA iRow 1 0 w a o) (hv : ordB o m.length = true) : Calls Tryd.prog 32 #[.agg (mV z m).toArray, .slice a o.length c] w fun e w' => e = .returned (.int .i64 (fairI m o)) ∧ Below w.heap.size w w' := by
  have hlen := ho.len
  have hol := ord_len hv
  have hn7 := hm.n7
  refine calls_of_SC (args := [.agg (mV z m).toArray, .slice a o.length c]) Tryd.func32 rfl Tryd.ntmps32 rfl ?_
  simp only [argL, Nat.zero_add]
  refine sc_seq ?_
  refine sc_region ?_
  refine sq_box RF rfl (fun b2 => ?_)
  refine qs (y_assign RF) ?_
  refine sq_nil ?_
  refine sx_then ?_
  refine sc_seq ?_
  refine sc_seq ?_
  refine sc_region ?_
  refine qs (y_assign RF) ?_
  refine sq_nil ?_
  refine sx_then ?_
  refine sc_block ?_
  refine sc_loop (σ := Nat)
    (fun s => [(1, .slice a o.length c), (2, .pointer (some ⟨b2, 0, none⟩)), (5, .int .i64 s)])
    (fun s => [.blk b2 (.cells (mV z m).toArray 24 (0, 0)), .reg 0 w])
    (fun s => s ≤ o.length ∧ ∀ i, i < s → wantsB m i (getN o i) = true)
    (fun s => o.length - s)
    (0) ?_ SU SR ?_
  · exact ⟨Nat.zero_le _, fun i hi => absurd hi (Nat.not_lt_zero i)⟩
  rintro k ⟨hk, hno⟩
  refine sc_seq ?_
  refine sc_seq ?_
  refine sc_region ?_
  refine qs (y_move RF) ?_
  refine qs (y_move RF) ?_
  refine qs (y_len Tryd.underlying25 RF) ?_
  refine qs (y_lss RF RF) ?_
  refine sq_nil ?_
  refine sx_then ?_
  refine scp (fun hc0 => ?_) (fun hc0 => ?_)
  ·
    have hk' : k < o.length := by omega
    have hkm : k < m.length := by omega
    obtain ⟨hge, hgl⟩ := ord_get hv hkm
    have hrow := hm.row k hkm
    obtain ⟨hs1, hc1, hs2, hc2⟩ := hz.cell hkm (show getN o k < (m.getD k []).length by omega)
    have hso := (ho.get 0 hk').1
    have hco := (ho.get 0 hk').2
    rw [hge] at hco
    have hwb := worthN_bd hm o k
    have hbd := hm.bd k (getN o k)
    refine sc_skip ?_
    refine sx_then ?_
    refine sc_seq ?_
    refine sc_block ?_
    refine sc_seq ?_
    refine sc_midE (Z := {v : Bool // v = !wantsB m k (getN o k)}) (fun v => [(1, .slice a o.length c), (2, .pointer (some ⟨b2, 0, none⟩)), (5, .int .i64 k), (31, .bool v.1)]) (fun _ => [.blk b2 (.cells (mV z m).toArray 24 (0, 0)), .reg 0 w]) ?_ ?_
    ·
      refine sc_drawR (by kernel_rfl) ?_
      refine xj_s 0 RF (by kernel_rfl) SR (y_move RF) rfl ?_
      refine xj_s 1 RF (by kernel_rfl) SR (y_move RF) rfl ?_
      refine xj_s 2 RF (by kernel_rfl) SR IA25 rfl ?_
      refine xj_s 3 RF (by kernel_rfl) SR (by first | exact y_load_ca0 Tryd.underlying3 rfl RF MM hco rfl | exact LD3) rfl ?_
      refine xj_s 4 RF (by kernel_rfl) SR (y_move RF) rfl ?_
      refine xj_s 5 RF (by kernel_rfl) SR (y_neq RF RF) rfl ?_
      refine xj_s 6 RF (by kernel_rfl) SR (y_move RF) rfl ?_
      first | refine xj_splitd (tt := 18) RF (fun hg4_6 => ?_) (fun hg4_6 => ?_) | refine xj_splitn (tt := 18) RF (fun hg4_6 => ?_) (fun hg4_6 => ?_) | refine xj_split (tt := 18) RF (fun hg4_6 => ?_) (fun hg4_6 => ?_)
      ·
        refine xj_gt 7 RF RF RF (by kernel_rfl) SR FA24_22 rfl ?_
        refine xj_gt 8 RF RF RF (by kernel_rfl) SR LD22 rfl ?_
        refine xj_gt 9 RF RF RF (by kernel_rfl) SR (y_move RF) rfl ?_
        refine xj_gt 10 RF RF RF (by kernel_rfl) SR IA22 rfl ?_
        refine xj_gt 11 RF RF RF (by kernel_rfl) SR (by first | exact y_load_ca0 Tryd.underlying25 rfl RF MM hc1 rfl | exact LD25) rfl ?_
        refine xj_gt 12 RF RF RF (by kernel_rfl) SR (y_move RF) rfl ?_
        refine xj_gt 13 RF RF RF (by kernel_rfl) SR (y_move RF) rfl ?_
        refine xj_gt 14 RF RF RF (by kernel_rfl) SR IA25 rfl ?_
        refine xj_gt 15 RF RF RF (by kernel_rfl) SR (by first | exact y_load_ca0 Tryd.underlying3 rfl RF MM hco rfl | exact LD3) rfl ?_
        refine xj_gt 16 RF RF RF (by kernel_rfl) SR IA25 rfl ?_
        refine xj_gt 17 RF RF RF (by kernel_rfl) SR (by first | exact y_load_ca0 Tryd.underlying3 rfl RF MM hc2 rfl | exact LD3) rfl ?_
        refine xj_gt 18 RF RF RF (by kernel_rfl) SR (y_eql RF RF) rfl ?_
        refine xj_s 19 RF (by kernel_rfl) SR (y_pick_t RF RF) rfl ?_
        refine xj_done (by kernel_rfl) ?_
        exact sx_midE (⟨_, by rw [wants_eq hm, decide_eq_true (show getN o k ≠ k by omega), Bool.true_and, Bool.not_not]⟩) SU SR
      ·
        refine xj_gf 7 RF RF RF rfl (by kernel_rfl) SR rfl ?_
        refine xj_gf 8 RF RF RF rfl (by kernel_rfl) SR rfl ?_
        refine xj_gf 9 RF RF RF rfl (by kernel_rfl) SR rfl ?_
        refine xj_gf 10 RF RF RF rfl (by kernel_rfl) SR rfl ?_
        refine xj_gf 11 RF RF RF rfl (by kernel_rfl) SR rfl ?_
        refine xj_gf 12 RF RF RF rfl (by kernel_rfl) SR rfl ?_
        refine xj_gf 13 RF RF RF rfl (by kernel_rfl) SR rfl ?_
        refine xj_gf 14 RF RF RF rfl (by kernel_rfl) SR rfl ?_
        refine xj_gf 15 RF RF RF rfl (by kernel_rfl) SR rfl ?_
        refine xj_gf 16 RF RF RF rfl (by kernel_rfl) SR rfl ?_
        refine xj_gf 17 RF RF RF rfl (by kernel_rfl) SR rfl ?_
        refine xj_gf 18 RF RF RF rfl (by kernel_rfl) SR rfl ?_
        refine xj_s 19 RF (by kernel_rfl) SR (y_pick_f RF RF) rfl ?_
        refine xj_done (by kernel_rfl) ?_
        exact sx_midE (⟨false, by rw [wants_eq hm, decide_eq_false (show ¬ getN o k ≠ k by omega)]; rfl⟩) SU SR
    rintro ⟨vb, hvb⟩
    try dsimp only
    refine sx_then ?_
    first | refine sc_if RF (fun hc1' => ?_) (fun hc1' => ?_) | refine sc_ifn RF (fun hc1' => ?_) (fun hc1' => ?_) | refine sc_cond RF (fun hc1' => ?_) (fun hc1' => ?_)
    ·
      refine sc_seq ?_
      refine sc_region ?_
      refine qs (y_move RF) ?_
      refine qs (y_assign RF) ?_
      refine sq_nil ?_
      refine sx_then ?_
      refine sc_ret ?_
      refine sx_blk_ret ?_
      refine sx_then_ret ?_
      refine sx_round_ret ?_
      refine sx_blk_ret ?_
      refine sx_then_ret ?_
      refine sx_ret1 (.inl rfl) rfl Tryd.results32 RF ?_
      intro w' hw'
      refine ⟨?_, hw'.below MM⟩
      have hv2 : vb = true := hc1'
      rw [hvb] at hv2
      rw [fair_first (m := m) hk' (by simpa using hv2) hno]
    ·
      refine sc_skip ?_
      refine sx_blk ?_
      refine sx_then ?_
      refine sc_region ?_
      refine qs (y_move RF) ?_
      refine qs (y_add RF RF (by omega)) ?_
      refine qs (y_assign RF) ?_
      refine sq_nil ?_
      refine sx_round (k + 1) ?_ ?_ SU SR
      · refine ⟨by omega, fun i hi => ?_⟩
        rcases Nat.lt_succ_iff_lt_or_eq.1 hi with h | rfl
        · exact hno i h
        · have hv2 : vb = false := hc1'
          rw [hvb] at hv2; simpa using hv2
      · omega
  ·
    have hkn : k = o.length := by omega
    subst hkn
    have hfa := fair_all hno
    refine sc_exit ?_
    refine sx_then_exit ?_
    refine sx_round_exit ?_
    refine sx_blk_hit ?_
    refine sx_then ?_
    refine sc_seq ?_
    refine sc_region ?_
    refine qs (y_assign RF) ?_
    refine sq_nil ?_
    refine sx_then ?_
    refine sc_ret ?_
    refine sx_ret1 (.inl rfl) rfl Tryd.results32 RF ?_
    intro w' hw'
    refine ⟨?_, hw'.below MM⟩
    rw [hfa]
theorem worth34 (w : World) (z : MA) (m : Mt) (hz : MtA 0 w z m) (hm : MkF m) (a : Option Addr) (c : Nat) (o : List Int) (ho : RowsA iRow 1 0 w a o) (hv : ordB o m.length = true) : Calls Tryd.prog 34 #[.agg (mV z m).toArray, .slice a o.length c] w fun e w' => e = .returned (.int .i64 (worthL m o)) ∧ Below w.heap.size w w' := by
  have hlen := ho.len
  have hol := ord_len hv
  have hn7 := hm.n7
  refine calls_of_SC (args := [.agg (mV z m).toArray, .slice a o.length c]) Tryd.func34 rfl Tryd.ntmps34 rfl ?_
  simp only [argL, Nat.zero_add]
  refine sc_seq ?_
  refine sc_region ?_
  refine sq_box RF rfl (fun b2 => ?_)
  refine qs (y_assign RF) ?_
  refine sq_nil ?_
  refine sx_then ?_
  refine sc_seq ?_
  refine sc_region ?_
  refine qs (y_assign RF) ?_
  refine sq_nil ?_
  refine sx_then ?_
  refine sc_seq ?_
  refine sc_seq ?_
  refine sc_region ?_
  refine qs (y_assign RF) ?_
  refine sq_nil ?_
  refine sx_then ?_
  refine sc_block ?_
  refine sc_loop (σ := Nat)
    (fun s => [(1, .slice a o.length c), (2, .pointer (some ⟨b2, 0, none⟩)), (5, .int .i64 (worthN m o s)), (6, .int .i64 s)])
    (fun s => [.blk b2 (.cells (mV z m).toArray 24 (0, 0)), .reg 0 w])
    (fun s => s ≤ o.length)
    (fun s => o.length - s)
    (0) ?_ SU SR ?_
  · exact Nat.zero_le _
  rintro k hk
  refine sc_seq ?_
  refine sc_seq ?_
  refine sc_region ?_
  refine qs (y_move RF) ?_
  refine qs (y_move RF) ?_
  refine qs (y_len Tryd.underlying25 RF) ?_
  refine qs (y_lss RF RF) ?_
  refine sq_nil ?_
  refine sx_then ?_
  refine scp (fun hc0 => ?_) (fun hc0 => ?_)
  ·
    have hk' : k < o.length := by omega
    have hkm : k < m.length := by omega
    obtain ⟨hge, hgl⟩ := ord_get hv hkm
    have hrow := hm.row k hkm
    obtain ⟨hs1, hc1, hs2, hc2⟩ := hz.cell hkm (show getN o k < (m.getD k []).length by omega)
    have hso := (ho.get 0 hk').1
    have hco := (ho.get 0 hk').2
    rw [hge] at hco
    have hwb := worthN_bd hm o k
    have hbd := hm.bd k (getN o k)
    refine sc_skip ?_
    refine sx_then ?_
    refine sc_seq ?_
    refine sc_block ?_
    refine sc_drawR (by kernel_rfl) ?_
    refine xj_s 0 RF (by kernel_rfl) SR (y_move RF) rfl ?_
    refine xj_s 1 RF (by kernel_rfl) SR FA24_22 rfl ?_
    refine xj_s 2 RF (by kernel_rfl) SR LD22 rfl ?_
    refine xj_s 3 RF (by kernel_rfl) SR (y_move RF) rfl ?_
    refine xj_s 4 RF (by kernel_rfl) SR IA22 rfl ?_
    refine xj_s 5 RF (by kernel_rfl) SR (by first | exact y_load_ca0 Tryd.underlying25 rfl RF MM hc1 rfl | exact LD25) rfl ?_
    refine xj_s 6 RF (by kernel_rfl) SR (y_move RF) rfl ?_
    refine xj_s 7 RF (by kernel_rfl) SR (y_move RF) rfl ?_
    refine xj_s 8 RF (by kernel_rfl) SR IA25 rfl ?_
    refine xj_s 9 RF (by kernel_rfl) SR (by first | exact y_load_ca0 Tryd.underlying3 rfl RF MM hco rfl | exact LD3) rfl ?_
    refine xj_s 10 RF (by kernel_rfl) SR IA25 rfl ?_
    refine xj_s 11 RF (by kernel_rfl) SR (by first | exact y_load_ca0 Tryd.underlying3 rfl RF MM hc2 rfl | exact LD3) rfl ?_
    refine xj_s 12 RF (by kernel_rfl) SR (y_add RF RF (by omega)) rfl ?_
    refine xj_s 13 RF (by kernel_rfl) SR (y_assign RF) rfl ?_
    refine xj_done (by kernel_rfl) ?_
    refine sx_blk ?_
    refine sx_then ?_
    refine sc_region ?_
    refine qs (y_move RF) ?_
    refine qs (y_add RF RF (by omega)) ?_
    refine qs (y_assign RF) ?_
    refine sq_nil ?_
    refine sx_round (k + 1) ?_ ?_ SU SR
    · omega
    · omega
  ·
    have hkn : k = o.length := by omega
    subst hkn
    refine sc_exit ?_
    refine sx_then_exit ?_
    refine sx_round_exit ?_
    refine sx_blk_hit ?_
    refine sx_then ?_
    refine sc_seq ?_
    refine sc_region ?_
    refine qs (y_move RF) ?_
    refine qs (y_assign RF) ?_
    refine sq_nil ?_
    refine sx_then ?_
    refine sc_ret ?_
    refine sx_ret1 (.inl rfl) rfl Tryd.results34 RF ?_
    intro w' hw'
    exact ⟨rfl, hw'.below MM⟩
end Go.Proofs.YtpijahglojichaaDoor
