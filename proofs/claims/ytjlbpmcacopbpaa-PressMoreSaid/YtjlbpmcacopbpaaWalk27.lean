/- The walk of the law PressMore. -/
import Derived.Test.YtjlbpmcacopbpaaLawQ
import Derived.Test.YtjlbpmcacopbpaaWalk23
import Derived.Test.YtjlbpmcacopbpaaOpen
namespace Go.Proofs.Ytjlbpmcacopbpaa
open Go Go.Eng Go.RowKit Go.Proofs
set_option maxRecDepth 100000
section
variable {X : Ctx} {Q : Post} {L : List (Nat × Value)} {rs : List Res} {ops : Array Oper} {rest : List Oper} {ty t t' e e' : TypeId} {v u : Value} {d n : Nat} {pos : String} {af : Array Edge} {x y : Operand} {d0 : TypeDesc}
theorem y_load_ownjj {sz m i o1 o2 : Nat} {xs : List Value} (hu : X.P.underlying t = some d0) (hs : scal d0 = true) (hx : ev L x = some (.pointer (some (((elt (baseA v) i sz).add o1).add o2)))) (hm : Res.own v e sz m xs ∈ rs) (h0 : i < m) (hv : xs[i * sz + (o1 + o2)]? = some u) : OpS X L rs (.load t x) ty u := by
  rw [Addr.add_add] at hx
  exact y_load_ownj hu hs hx hm h0 hv
theorem sq_store_ownjj {sz m i o1 o2 : Nat} {xs : List Value} {rest' : List Res} (hz : ∀ w, (Go.sizeOf t).run X.P w = .ok 1 w) (hx : ev L x = some (.pointer (some (((elt (baseA v) i sz).add o1).add o2)))) (hy : ev L y = some u) (h1 : u.oneCell' = true) (hr : Rem (.own v e sz m xs) rs rest') (h0 : i < m) (hj : o1 + o2 < sz)
    (k : SQ X ops Q rest L (.own v e sz m (xs.set (i * sz + (o1 + o2)) u) :: rest')) : SQ X ops Q (⟨none, .store t x y, ty, pos, af, none⟩ :: rest) L rs := by
  rw [Addr.add_add] at hx
  exact sq_store_own hz hx hy h1 hr h0 hj k
end
theorem flat_set {α : Type} {row : α → List Value} {sz : Nat} (hr : ∀ x, (row x).length = sz) : ∀ {l : List α} {i : Nat} {x y : α} {j : Nat} {u : Value}, l[i]? = some x → j < sz → (row x).set j u = row y → (l.flatMap row).set (i * sz + j) u = (l.set i y).flatMap row
  | a :: l, 0, x, y, j, u, h, hj, he => by
    have hx : a = x := by simpa using h
    subst hx
    rw [List.flatMap_cons, List.set_cons_zero, List.flatMap_cons, ← he, Nat.zero_mul, Nat.zero_add, List.set_append_left _ _ (by rw [hr]; exact hj)]
  | a :: l, i + 1, x, y, j, u, h, hj, he => by
    have ih := flat_set hr (l := l) (i := i) (by simpa using h) hj he
    rw [List.flatMap_cons, List.set_cons_succ, List.flatMap_cons, ← ih, List.set_append_right _ _ (by rw [hr, Nat.add_mul]; omega), hr, show (i + 1) * sz + j - sz = i * sz + j by rw [Nat.add_mul]; omega]
theorem jbRow_len (j : Jb) : (jbRow j).length = 5 := rfl
theorem sfRow_len (j : Sf) : (sfRow j).length = 4 := rfl
theorem jb_one (l : List Jb) : ∀ u, u ∈ l.flatMap jbRow → u.oneCell' = true := flat_one (fun _ u hu => by simp [jbRow] at hu; rcases hu with rfl | rfl | rfl | rfl | rfl <;> rfl) l
theorem sf_one (l : List Sf) : ∀ u, u ∈ l.flatMap sfRow → u.oneCell' = true := flat_one (fun _ u hu => by simp [sfRow] at hu; rcases hu with rfl | rfl | rfl | rfl <;> rfl) l
theorem i_one (l : List Int) : ∀ u, u ∈ l.flatMap iRow → u.oneCell' = true := flat_one (fun _ u hu => by simp [iRow] at hu; subst hu; rfl) l
theorem run20jv {n : Nat} {l : List Jb} {v : Value} (hn : l.length = n) (h64 : n ≤ 9223372036854775807) (w : World) (hv : w.ownsRow 0 58 5 v n (l.flatMap jbRow)) (ao : Option Addr) (co : Nat) (o : List Int) (ho : RowsA iRow 1 0 w ao o) (h1000 : o.length ≤ 1000) : Calls Try.prog 20 #[v, .slice ao o.length co] w fun e w' => ∃ z : Option Addr × Nat, e = .returned (.tuple #[.slice z.1 (runR l o).1.length z.2, .int .i64 (runR l o).2]) ∧ Below w.heap.size w w' ∧ RowsA spRow 2 w.heap.size w' z.1 (runR l o).1 := by
  obtain ⟨a2, c2, rfl, _, hr⟩ := own_rowsA (row := jbRow) jbRow_len hv hn h64
  exact run20m hn rfl w a2 c2 hr ao co ho h1000
theorem run20vv {n m : Nat} {l : List Jb} {o : List Int} {v u : Value} (hn : l.length = n) (hm : o.length = m) (h64 : n ≤ 9223372036854775807) (w : World) (hv : w.ownsRow 0 58 5 v n (l.flatMap jbRow)) (hu : w.ownsRow 0 3 1 u m (o.flatMap iRow)) (h1000 : o.length ≤ 1000) : Calls Try.prog 20 #[v, u] w fun e w' => ∃ z : Option Addr × Nat, e = .returned (.tuple #[.slice z.1 (runR l o).1.length z.2, .int .i64 (runR l o).2]) ∧ Below w.heap.size w w' ∧ RowsA spRow 2 w.heap.size w' z.1 (runR l o).1 := by
  obtain ⟨a2, c2, rfl, _, hr⟩ := own_rowsA (row := jbRow) jbRow_len hv hn h64
  obtain ⟨a3, c3, rfl, _, hr3⟩ := own_rowsA (row := iRow) (fun _ => rfl) hu hm (by omega)
  exact run20m hn hm w a2 c2 hr a3 c3 hr3 h1000
theorem best27v {n : Nat} {l : List Jb} {v : Value} (hn : l.length = n) (h64 : n ≤ 9223372036854775807) (w : World) (hv : w.ownsRow 0 58 5 v n (l.flatMap jbRow)) : Calls Try.prog 27 #[v] w fun e w' => ∃ z : Option Addr × Nat, e = .returned (.tuple #[.slice z.1 (bestR l).1.length z.2, .int .i64 (bestR l).2.1, .int .i64 (bestR l).2.2]) ∧ Below w.heap.size w w' ∧ RowsA iRow 1 w.heap.size w' z.1 (bestR l).1 := by
  obtain ⟨a2, c2, rfl, _, hr⟩ := own_rowsA (row := jbRow) jbRow_len hv hn h64
  exact best27n hn w a2 c2 hr
theorem fringe14v {n : Nat} {l : List Sf} {v : Value} (hn : l.length = n) (h64 : n ≤ 9223372036854775807) (w : World) (hv : w.ownsRow 0 51 4 v n (l.flatMap sfRow)) : Calls Try.prog 14 #[v] w fun e w' => e = .returned (.tuple #[.agg (spRow (fringeV l).1).toArray, .agg (spRow (fringeV l).2.1).toArray, .int .i64 (fringeV l).2.2]) ∧ Below w.heap.size w w' := by
  obtain ⟨a2, c2, rfl, _, hr⟩ := own_rowsA (row := sfRow) sfRow_len hv hn h64
  exact fringe14n hn w a2 c2 hr
def inS (x y : Sp) : Bool := decide (y.lo ≤ x.lo ∧ x.hi ≤ y.hi)
theorem mini_set {l : List Jb} {b : Int} {k : Nat} (h : k < l.length) (x : Jb) : ((thinK b l k).set k x)[k]? = some x := by
  rw [List.getElem?_set_self (by rw [thinK_len]; exact h)]

theorem in43 (w : World) (x y : Sp) : Calls Try.prog 43 #[.agg (spRow x).toArray, .agg (spRow y).toArray] w fun e w' => e = .returned (.bool (inS x y)) ∧ Below w.heap.size w w' := by
  unfold inS
  refine calls_of_SC (args := [.agg (spRow x).toArray, .agg (spRow y).toArray]) Try.func43 rfl Try.ntmps43 rfl ?_
  simp only [argL, Nat.zero_add]
  refine sc_seq ?_
  refine sc_region ?_
  refine sq_box RF rfl (fun b2 => ?_)
  refine sq_box RF rfl (fun b3 => ?_)
  refine qs (y_assign RF) ?_
  refine sq_nil ?_
  refine sx_then ?_
  refine sc_seq ?_
  refine sc_region ?_
  refine qs FA24_3 ?_
  refine qs LD3 ?_
  refine qs FA24_3 ?_
  refine qs LD3 ?_
  refine qs (y_geq RF RF) ?_
  refine qs (y_move RF) ?_
  refine sp 10 (fun hg1_5 => ?_) (fun hg1_5 => ?_)
  ·
    refine qg FA24_3 ?_
    refine qg LD3 ?_
    refine qg FA24_3 ?_
    refine qg LD3 ?_
    refine qg (y_leq RF RF) ?_
    refine qs (y_pick_t RF RF) ?_
    refine qs (y_assign RF) ?_
    refine sq_nil ?_
    refine sx_then ?_
    refine sc_ret ?_
    refine sx_ret1 (.inl rfl) rfl Try.results43 RF ?_
    intro w' hw'
    exact ⟨by simp [*], hw'.below MM⟩
  ·
    refine qf ?_
    refine qf ?_
    refine qf ?_
    refine qf ?_
    refine qf ?_
    refine qs (y_pick_f RF RF) ?_
    refine qs (y_assign RF) ?_
    refine sq_nil ?_
    refine sx_then ?_
    refine sc_ret ?_
    refine sx_ret1 (.inl rfl) rfl Try.results43 RF ?_
    intro w' hw'
    exact ⟨by simp [*], hw'.below MM⟩
set_option maxHeartbeats 4000000 in
theorem more11 (w : World) (a : Option Addr) (c : Nat) (l : List Jb) (hl : RowsA jbRow 5 0 w a l) (ao : Option Addr) (co : Nat) (o : List Int) (ho : RowsA iRow 1 0 w ao o) (m : Jb) (ah : Option Addr) (ch : Nat) (ls : List Sf) (hs : RowsA sfRow 4 0 w ah ls) (kk : Sf) (q : Sp) (sheets b : Int) (hb : 0 ≤ b ∧ b ≤ 255) : Calls Try.prog 11 #[.slice a l.length c, .slice ao o.length co, .agg (jbRow m).toArray, .slice ah ls.length ch, .agg (sfRow kk).toArray, .agg (spRow q).toArray, .int .i64 sheets, .int .u8 b] w fun e w' => e = .returned (.bool true) ∧ Below w.heap.size w w' := by
  have hlen := hl.len
  have hlens := hs.len
  have hleno := ho.len
  refine calls_of_SC (args := [.slice a l.length c, .slice ao o.length co, .agg (jbRow m).toArray, .slice ah ls.length ch, .agg (sfRow kk).toArray, .agg (spRow q).toArray, .int .i64 sheets, .int .u8 b]) Try.func11 rfl Try.ntmps11 rfl ?_
  simp only [argL, Nat.reduceAdd, Nat.zero_add]
  refine sc_seq ?_
  refine sc_region ?_
  refine sq_box RF rfl (fun b10 => ?_)
  refine sq_box RF rfl (fun b12 => ?_)
  refine sq_box RF rfl (fun b13 => ?_)
  refine qs (y_assign RF) ?_
  refine sq_nil ?_
  refine sx_then ?_
  refine sc_seq ?_
  refine sc_seq ?_
  refine sc_midE (Z := {v : Bool // v = (decide (12 < (l.length : Int)) || (decide (20 < (ls.length : Int)) || decide (12 < (o.length : Int))))}) (fun v => [(0, .slice a l.length c), (1, .slice ao o.length co), (3, .slice ah ls.length ch), (6, .int .i64 sheets), (7, .int .u8 b), (10, .pointer (some ⟨b10, 0, none⟩)), (12, .pointer (some ⟨b12, 0, none⟩)), (13, .pointer (some ⟨b13, 0, none⟩)), (56, .bool v.1)]) (fun _ => [.blk b10 (.cells (jbRow m).toArray 58 (0, 0)), .blk b12 (.cells (sfRow kk).toArray 51 (0, 0)), .blk b13 (.cells (spRow q).toArray 24 (0, 0)), .reg 0 w]) ?_ ?_
  ·
    refine sc_region ?_
    refine qs (y_move RF) ?_
    refine qs (y_len Try.underlying34 RF) ?_
    refine qs (y_gtr RF RF) ?_
    refine qs (y_move RF) ?_
    refine sp 47 (fun hg1_3 => ?_) (fun hg1_3 => ?_)
    ·
      refine qf ?_
      refine qf ?_
      refine qf ?_
      refine qs (y_pick_t RF RF) ?_
      refine qs (y_move RF) ?_
      refine qf ?_
      refine qf ?_
      refine qf ?_
      refine qs (y_pick_t RF RF) ?_
      refine sq_nil ?_
      exact sx_midE (⟨true, by rw [decide_eq_true (show 12 < (l.length : Int) by omega)]; rfl⟩) SU SR
    ·
      refine qg (y_move RF) ?_
      refine qg (y_len Try.underlying22 RF) ?_
      refine qg (y_gtr RF RF) ?_
      refine qs (y_pick_f RF RF) ?_
      refine qs (y_move RF) ?_
      refine sp 52 (fun hg1_8 => ?_) (fun hg1_8 => ?_)
      ·
        refine qf ?_
        refine qf ?_
        refine qf ?_
        refine qs (y_pick_t RF RF) ?_
        refine sq_nil ?_
        exact sx_midE (⟨true, by rw [decide_eq_true (show 20 < (ls.length : Int) by omega)]; simp⟩) SU SR
      ·
        refine qg (y_move RF) ?_
        refine qg (y_len Try.underlying35 RF) ?_
        refine qg (y_gtr RF RF) ?_
        refine qs (y_pick_f RF RF) ?_
        refine sq_nil ?_
        exact sx_midE (⟨_, by rw [decide_eq_false (show ¬ 12 < (l.length : Int) by omega), decide_eq_false (show ¬ 20 < (ls.length : Int) by omega), Bool.false_or, Bool.false_or]⟩) SU SR
  rintro ⟨vb, hvb⟩
  try dsimp only
  refine sx_then ?_
  refine scp (fun hc0 => ?_) (fun hc0 => ?_)
  ·
    refine sc_seq ?_
    refine sc_region ?_
    refine qy (yc Try.call13 E0 (fun w1 _ => awake13 w1)) ?_
    refine qs (y_assign RF) ?_
    refine sq_nil ?_
    refine sx_then ?_
    refine sc_ret ?_
    refine sx_then_ret ?_
    refine sx_ret1 (.inl rfl) rfl Try.results11 RF ?_
    intro w' hw'
    exact ⟨rfl, hw'.below MM⟩
  ·
    have hv2 : vb = false := hc0
    rw [hvb, Bool.or_eq_false_iff, Bool.or_eq_false_iff] at hv2
    have hl12 : l.length ≤ 12 := by have := of_decide_eq_false hv2.1; omega
    have hl20 : ls.length ≤ 20 := by have := of_decide_eq_false hv2.2.1; omega
    have h12 : o.length ≤ 1000 := by have := of_decide_eq_false hv2.2.2; omega
    refine sc_skip ?_
    refine sx_then ?_
    refine sc_seq ?_
    refine sc_region ?_
    refine qs (y_assign RF) ?_
    refine sq_nil ?_
    refine sx_then ?_
    refine sc_seq ?_
    refine sc_region ?_
    refine qs (y_move RF) ?_
    refine qs (y_move RF) ?_
    refine sq_call_new (first := []) (caps := []) (Z := Option Addr × Nat) (fun z => .tuple #[.slice z.1 (runR l o).1.length z.2, .int .i64 (runR l o).2]) (fun lo w' z => RowsA spRow 2 lo w' z.1 (runR l o).1) RF Try.call20 (EvL.cons RF (EvL.cons RF EvL.nil)) (fun w1 hw1 => run20s w1 a c l (hl.at hw1 MM) ao co o (ho.at hw1 MM) h12) rfl (fun lo4 wr4 z4 hz4 => ?_)
    refine qs (y_move RF) ?_
    refine qs (y_extract RF RF) ?_
    refine qs (y_extract RF RF) ?_
    refine qs (y_assign RF) ?_
    refine qs (y_assign RF) ?_
    refine sq_nil ?_
    refine sx_then ?_
    refine sc_seq ?_
    refine sc_seq ?_
    refine sc_region ?_
    refine qs (y_move RF) ?_
    refine qs (y_eql RF RF) ?_
    refine sq_nil ?_
    refine sx_then ?_
    refine sc_midE (Z := Unit) (fun _ => [(0, .slice a l.length c), (1, .slice ao o.length co), (3, .slice ah ls.length ch), (6, .int .i64 sheets), (7, .int .u8 b), (10, .pointer (some ⟨b10, 0, none⟩)), (12, .pointer (some ⟨b12, 0, none⟩)), (13, .pointer (some ⟨b13, 0, none⟩))]) (fun _ => [.blk b10 (.cells (jbRow m).toArray 58 (0, 0)), .blk b12 (.cells (sfRow kk).toArray 51 (0, 0)), .blk b13 (.cells (spRow q).toArray 24 (0, 0)), .reg 0 w]) ?_ ?_
    ·
      refine scp (fun hc1 => ?_) (fun hc1 => ?_)
      ·
        have hch := run_yes (l := l) (o := o) (by simpa using hc1)
        obtain ⟨hj, hoB⟩ := chkV_ok hch
        have hop := (ordB_iff _ _).1 hoB
        obtain ⟨hr1, hr2⟩ := run_ok hch
        have h7 := (jobsB_parts hj).1
        have hjp := (jobsB_parts hj).2
        have hol : o.length = l.length := by rw [hop.length_eq, rngI_len]
        have hsl : (runR l o).1.length = l.length := by rw [hr1, spansV_len]
        have htj := thin_ok hj b
        have htc : chkV (l.map (thinJ b)) o = 0 := chk_perm htj (by rw [List.length_map]; exact hop)
        obtain ⟨ht1, ht2⟩ := run_ok htc
        have ht3 : (runR (l.map (thinJ b)) o).1.length = l.length := by rw [ht1, spansV_len, List.length_map]
        have hF := best_jobs hj
        have hU : (runR (l ++ [m]) (o ++ [(l.length : Int)])).2 = 0 → (runR (l ++ [m]) (o ++ [(l.length : Int)])).1.length = l.length + 1 ∧ (bestR (l ++ [m])).2.2 = 0 ∧ (bestR l).2.1 ≤ (bestR (l ++ [m])).2.1 ∧ ∀ k, k < l.length → (runR (l ++ [m]) (o ++ [(l.length : Int)])).1.getD k sp0 = spanK l o k := fun h => by
          have hc := run_yes h
          have hrj := (chkV_ok hc).1
          obtain ⟨g1, _⟩ := run_ok hc
          refine ⟨by rw [g1, spansV_len, List.length_append]; rfl, (best_jobs hrj).err, rich_best hrj, fun k hk => ?_⟩
          rw [g1, spansV_getD (by rw [List.length_append]; omega), rich_span hch hk]
        refine sc_seq ?_
        refine sc_region ?_
        refine sq_bs Try.underlying34 ei58 (EvI.nil) (by simp) rfl rfl rfl (fun b66 => ?_)
        refine sq_blk_own0 (sz := 5) (c := 0) RM rfl (Nat.zero_le _) ?_
        refine qs (y_move RF) ?_
        refine sq_append_rows (news := l.flatMap jbRow) Try.underlying34 ei58 Try.sizeOf58 rfl (by decide) RF RM RF hl.noa (flat_len jbRow_len l) (fun ad had w1 hw1 => rows_cells jbRow_len (by decide) (fun i x hi => by rw [← had]; exact ((hl.at hw1 MM).el i x hi).2)) (jb_one l) (by omega) rfl (fun v68 ho68 => ?_)
        rw [Nat.zero_add l.length, List.nil_append, show l.flatMap jbRow = (thinK b l 0).flatMap jbRow from by rw [thinK_zero]]
        refine qs (y_assign RF) ?_
        refine sq_nil ?_
        refine sx_then ?_
        refine sc_seq ?_
        refine sc_seq ?_
        refine sc_own_dest (v := v68) (e := 58) (sz := 5) (m := l.length) (xs := (thinK b l 0).flatMap jbRow) MM (fun a68 c68 hv_ hmc68 hn68 => ?_)
        subst hv_
        refine sc_region ?_
        refine qs (y_assign RF) ?_
        refine sq_nil ?_
        refine sx_then ?_
        refine sc_block ?_
        refine sc_loop (σ := Nat)
          (fun s => [(0, .slice a l.length c), (1, .slice ao o.length co), (3, .slice ah ls.length ch), (6, .int .i64 sheets), (7, .int .u8 b), (10, .pointer (some ⟨b10, 0, none⟩)), (12, .pointer (some ⟨b12, 0, none⟩)), (13, .pointer (some ⟨b13, 0, none⟩)), (17, .func (.func 43) #[] #[]), (18, .slice z4.1 (runR l o).1.length z4.2), (20, .slice a68 l.length c68), (21, .int .i64 s)])
          (fun s => [.own (.slice a68 l.length c68) 58 5 l.length ((thinK b l s).flatMap jbRow), .blk b10 (.cells (jbRow m).toArray 58 (0, 0)), .blk b12 (.cells (sfRow kk).toArray 51 (0, 0)), .blk b13 (.cells (spRow q).toArray 24 (0, 0)), .reg lo4 wr4, .reg 0 w])
          (fun s => s ≤ l.length)
          (fun s => l.length - s)
          (0) ?_ SU SR ?_
        · exact Nat.zero_le _
        rintro k hk
        refine sc_seq ?_
        refine sc_seq ?_
        refine sc_region ?_
        refine qs (y_move RF) ?_
        refine qs (y_move RF) ?_
        refine qs (y_len Try.underlying34 RF) ?_
        refine qs (y_lss RF RF) ?_
        refine sq_nil ?_
        refine sx_then ?_
        refine scp (fun hc2 => ?_) (fun hc2 => ?_)
        ·
          have hk' : k < l.length := by omega
          have ha68 : a68.isSome = true := by
            cases a68 with
            | none => have := hn68 rfl; omega
            | some _ => rfl
          have hjk := hjp _ (getD_mem (d := jb0) hk')
          have h5 := Int.emod_nonneg b (show (5 : Int) ≠ 0 by decide)
          have h3 := Int.emod_nonneg b (show (3 : Int) ≠ 0 by decide)
          have h55 := Int.emod_lt_of_pos b (show (0 : Int) < 5 by decide)
          have h33 := Int.emod_lt_of_pos b (show (0 : Int) < 3 by decide)
          refine sc_skip ?_
          refine sx_then ?_
          refine sc_seq ?_
          refine sc_block ?_
          refine sc_seq ?_
          refine sc_drawX ([.reg 0 w]) (by kernel_rfl) ?_
          refine xj_s 0 RF (by kernel_rfl) SR (y_move RF) rfl ?_
          refine xj_s 1 RF (by kernel_rfl) SR (y_move RF) rfl ?_
          refine xj_s 2 RF (by kernel_rfl) SR (y_move RF) rfl ?_
          refine xj_s 3 RF (by kernel_rfl) SR (y_move RF) rfl ?_
          refine xj_s 4 RF (by kernel_rfl) SR (y_ia_el (i := k) Try.underlying34 Try.sizeOf58 RF RF hk' ha68) rfl ?_
          refine xj_s 5 RF (by kernel_rfl) SR (y_fa Try.underlying58 RF (by exact Try.sizeOf24) RF rfl) rfl ?_
          refine xj_s 6 RF (by kernel_rfl) SR (y_fa Try.underlying24 RF (by exact Try.sizeOf3) RF rfl) rfl ?_
          refine xj_s 8 RF (by kernel_rfl) SR (y_move RF) rfl ?_
          refine xj_s 9 RF (by kernel_rfl) SR (y_move RF) rfl ?_
          refine xj_s 10 RF (by kernel_rfl) SR (y_ia_el (i := k) Try.underlying34 Try.sizeOf58 RF RF hk' ha68) rfl ?_
          refine xj_s 11 RF (by kernel_rfl) SR (y_fa Try.underlying58 RF (by exact Try.sizeOf24) RF rfl) rfl ?_
          refine xj_s 12 RF (by kernel_rfl) SR (y_fa Try.underlying24 RF (by exact Try.sizeOf3) RF rfl) rfl ?_
          refine xj_s 14 RF (by kernel_rfl) SR (y_move RF) rfl ?_
          refine xj_s 15 RF (by kernel_rfl) SR (y_conv Try.underlying5 Try.underlying3 RF (wrap64_in (by omega) (by omega))) rfl ?_
          refine xj_s 16 RF (by kernel_rfl) SR (y_rem RF RF (by omega) (by omega)) rfl ?_
          refine xj_all (l := [7, 13]) (by kernel_rfl) (by simp) (Each.cons ⟨_, rfl, ?_⟩ (Each.cons ⟨_, rfl, ?_⟩ Each.nil))
          ·
            refine qs (by first | exact y_load_ownjj (v := .slice a68 l.length c68) (o1 := 0) (o2 := 0) (u := .int .i64 (l.getD k jb0).print.lo) Try.underlying3 rfl RF MM hk' (flat_get jbRow_len _ k _ (thinK_get b hk') (0 + 0) _ rfl) | exact LD3) ?_
            refine sq_nil ?_
            refine sx_xp SR ?_
            refine xj_one 13 RF (by kernel_rfl) ?_
            refine qs (by first | exact y_load_ownjj (v := .slice a68 l.length c68) (o1 := 0) (o2 := 1) (u := .int .i64 (l.getD k jb0).print.hi) Try.underlying3 rfl RF MM hk' (flat_get jbRow_len _ k _ (thinK_get b hk') (0 + 1) _ rfl) | exact LD3) ?_
            refine sq_nil ?_
            refine sx_xp SR ?_
            refine xj_s 17 RF (by kernel_rfl) SR (y_sub RF RF (by omega)) rfl ?_
            refine xj_s 18 RF (by kernel_rfl) SR (y_max RF RF) rfl ?_
            refine xj_s 19 RF (by kernel_rfl) SR (y_ia_el (i := k) Try.underlying34 Try.sizeOf58 RF RF hk' ha68) rfl ?_
            refine xj_s 20 RF (by kernel_rfl) SR (y_fa Try.underlying58 RF (by exact Try.sizeOf24) RF rfl) rfl ?_
            refine xj_s 21 RF (by kernel_rfl) SR (y_fa Try.underlying24 RF (by exact Try.sizeOf3) RF rfl) rfl ?_
            refine xj_one 22 RF (by kernel_rfl) ?_
            refine sq_store_ownjj (v := .slice a68 l.length c68) (i := k) (o1 := 0) (o2 := 1) Try.sizeOf3 RF RF rfl RM hk' (by decide) ?_
            rw [flat_set jbRow_len (thinK_get b hk') (by decide) (y := halfJ b (l.getD k jb0)) rfl]
            refine sq_nil ?_
            refine sx_xp SR ?_
            refine xj_done (by kernel_rfl) ?_
            refine sx_then ?_
            refine sc_drawX ([.reg 0 w]) (by kernel_rfl) ?_
            refine xj_s 0 RF (by kernel_rfl) SR (y_move RF) rfl ?_
            refine xj_s 1 RF (by kernel_rfl) SR (y_move RF) rfl ?_
            refine xj_s 2 RF (by kernel_rfl) SR (y_move RF) rfl ?_
            refine xj_s 3 RF (by kernel_rfl) SR (y_move RF) rfl ?_
            refine xj_s 4 RF (by kernel_rfl) SR (y_ia_el (i := k) Try.underlying34 Try.sizeOf58 RF RF hk' ha68) rfl ?_
            refine xj_s 5 RF (by kernel_rfl) SR (y_fa Try.underlying58 RF (by exact Try.sizeOf24) RF rfl) rfl ?_
            refine xj_s 6 RF (by kernel_rfl) SR (y_fa Try.underlying24 RF (by exact Try.sizeOf3) RF rfl) rfl ?_
            refine xj_s 8 RF (by kernel_rfl) SR (y_move RF) rfl ?_
            refine xj_s 9 RF (by kernel_rfl) SR (y_move RF) rfl ?_
            refine xj_s 10 RF (by kernel_rfl) SR (y_ia_el (i := k) Try.underlying34 Try.sizeOf58 RF RF hk' ha68) rfl ?_
            refine xj_s 11 RF (by kernel_rfl) SR (y_fa Try.underlying58 RF (by exact Try.sizeOf24) RF rfl) rfl ?_
            refine xj_s 12 RF (by kernel_rfl) SR (y_fa Try.underlying24 RF (by exact Try.sizeOf3) RF rfl) rfl ?_
            refine xj_s 14 RF (by kernel_rfl) SR (y_move RF) rfl ?_
            refine xj_s 15 RF (by kernel_rfl) SR (y_conv Try.underlying5 Try.underlying3 RF (wrap64_in (by omega) (by omega))) rfl ?_
            refine xj_s 16 RF (by kernel_rfl) SR (y_rem RF RF (by omega) (by omega)) rfl ?_
            refine xj_all (l := [7, 13]) (by kernel_rfl) (by simp) (Each.cons ⟨_, rfl, ?_⟩ (Each.cons ⟨_, rfl, ?_⟩ Each.nil))
            ·
              refine qs (by first | exact y_load_ownjj (v := .slice a68 l.length c68) (o1 := 2) (o2 := 1) (u := .int .i64 (l.getD k jb0).lay.hi) Try.underlying3 rfl RF MM hk' (flat_get jbRow_len _ k _ (mini_set (b := b) hk' (halfJ b (l.getD k jb0))) (2 + 1) _ rfl) | exact LD3) ?_
              refine sq_nil ?_
              refine sx_xp SR ?_
              refine xj_one 13 RF (by kernel_rfl) ?_
              refine qs (by first | exact y_load_ownjj (v := .slice a68 l.length c68) (o1 := 2) (o2 := 0) (u := .int .i64 (l.getD k jb0).lay.lo) Try.underlying3 rfl RF MM hk' (flat_get jbRow_len _ k _ (mini_set (b := b) hk' (halfJ b (l.getD k jb0))) (2 + 0) _ rfl) | exact LD3) ?_
              refine sq_nil ?_
              refine sx_xp SR ?_
              refine xj_s 17 RF (by kernel_rfl) SR (y_add RF RF (by omega)) rfl ?_
              refine xj_s 18 RF (by kernel_rfl) SR (y_min RF RF) rfl ?_
              refine xj_s 19 RF (by kernel_rfl) SR (y_ia_el (i := k) Try.underlying34 Try.sizeOf58 RF RF hk' ha68) rfl ?_
              refine xj_s 20 RF (by kernel_rfl) SR (y_fa Try.underlying58 RF (by exact Try.sizeOf24) RF rfl) rfl ?_
              refine xj_s 21 RF (by kernel_rfl) SR (y_fa Try.underlying24 RF (by exact Try.sizeOf3) RF rfl) rfl ?_
              refine xj_one 22 RF (by kernel_rfl) ?_
              refine sq_store_ownjj (v := .slice a68 l.length c68) (i := k) (o1 := 2) (o2 := 0) Try.sizeOf3 RF RF rfl RM hk' (by decide) ?_
              rw [flat_set jbRow_len (mini_set (b := b) hk' (halfJ b (l.getD k jb0))) (by decide) (y := thinJ b (l.getD k jb0)) rfl, thinK_next b hk']
              refine sq_nil ?_
              refine sx_xp SR ?_
              refine xj_done (by kernel_rfl) ?_
              refine sx_blk ?_
              refine sx_then ?_
              refine sc_region ?_
              refine qs (y_move RF) ?_
              refine qs (y_add RF RF (by omega)) ?_
              refine qs (y_assign RF) ?_
              refine sq_nil ?_
              refine sx_round (k + 1) ?_ ?_ SU SR
              · omega
              · omega
            ·
              refine qs (by first | exact y_load_ownjj (v := .slice a68 l.length c68) (o1 := 2) (o2 := 0) (u := .int .i64 (l.getD k jb0).lay.lo) Try.underlying3 rfl RF MM hk' (flat_get jbRow_len _ k _ (mini_set (b := b) hk' (halfJ b (l.getD k jb0))) (2 + 0) _ rfl) | exact LD3) ?_
              refine sq_nil ?_
              refine sx_xp SR ?_
              refine xj_s 17 RF (by kernel_rfl) SR (y_add RF RF (by omega)) rfl ?_
              refine xj_one 7 RF (by kernel_rfl) ?_
              refine qs (by first | exact y_load_ownjj (v := .slice a68 l.length c68) (o1 := 2) (o2 := 1) (u := .int .i64 (l.getD k jb0).lay.hi) Try.underlying3 rfl RF MM hk' (flat_get jbRow_len _ k _ (mini_set (b := b) hk' (halfJ b (l.getD k jb0))) (2 + 1) _ rfl) | exact LD3) ?_
              refine sq_nil ?_
              refine sx_xp SR ?_
              refine xj_s 18 RF (by kernel_rfl) SR (y_min RF RF) rfl ?_
              refine xj_s 19 RF (by kernel_rfl) SR (y_ia_el (i := k) Try.underlying34 Try.sizeOf58 RF RF hk' ha68) rfl ?_
              refine xj_s 20 RF (by kernel_rfl) SR (y_fa Try.underlying58 RF (by exact Try.sizeOf24) RF rfl) rfl ?_
              refine xj_s 21 RF (by kernel_rfl) SR (y_fa Try.underlying24 RF (by exact Try.sizeOf3) RF rfl) rfl ?_
              refine xj_one 22 RF (by kernel_rfl) ?_
              refine sq_store_ownjj (v := .slice a68 l.length c68) (i := k) (o1 := 2) (o2 := 0) Try.sizeOf3 RF RF rfl RM hk' (by decide) ?_
              rw [flat_set jbRow_len (mini_set (b := b) hk' (halfJ b (l.getD k jb0))) (by decide) (y := thinJ b (l.getD k jb0)) rfl, thinK_next b hk']
              refine sq_nil ?_
              refine sx_xp SR ?_
              refine xj_done (by kernel_rfl) ?_
              refine sx_blk ?_
              refine sx_then ?_
              refine sc_region ?_
              refine qs (y_move RF) ?_
              refine qs (y_add RF RF (by omega)) ?_
              refine qs (y_assign RF) ?_
              refine sq_nil ?_
              refine sx_round (k + 1) ?_ ?_ SU SR
              · omega
              · omega
          ·
            refine qs (by first | exact y_load_ownjj (v := .slice a68 l.length c68) (o1 := 0) (o2 := 1) (u := .int .i64 (l.getD k jb0).print.hi) Try.underlying3 rfl RF MM hk' (flat_get jbRow_len _ k _ (thinK_get b hk') (0 + 1) _ rfl) | exact LD3) ?_
            refine sq_nil ?_
            refine sx_xp SR ?_
            refine xj_s 17 RF (by kernel_rfl) SR (y_sub RF RF (by omega)) rfl ?_
            refine xj_one 7 RF (by kernel_rfl) ?_
            refine qs (by first | exact y_load_ownjj (v := .slice a68 l.length c68) (o1 := 0) (o2 := 0) (u := .int .i64 (l.getD k jb0).print.lo) Try.underlying3 rfl RF MM hk' (flat_get jbRow_len _ k _ (thinK_get b hk') (0 + 0) _ rfl) | exact LD3) ?_
            refine sq_nil ?_
            refine sx_xp SR ?_
            refine xj_s 18 RF (by kernel_rfl) SR (y_max RF RF) rfl ?_
            refine xj_s 19 RF (by kernel_rfl) SR (y_ia_el (i := k) Try.underlying34 Try.sizeOf58 RF RF hk' ha68) rfl ?_
            refine xj_s 20 RF (by kernel_rfl) SR (y_fa Try.underlying58 RF (by exact Try.sizeOf24) RF rfl) rfl ?_
            refine xj_s 21 RF (by kernel_rfl) SR (y_fa Try.underlying24 RF (by exact Try.sizeOf3) RF rfl) rfl ?_
            refine xj_one 22 RF (by kernel_rfl) ?_
            refine sq_store_ownjj (v := .slice a68 l.length c68) (i := k) (o1 := 0) (o2 := 1) Try.sizeOf3 RF RF rfl RM hk' (by decide) ?_
            rw [flat_set jbRow_len (thinK_get b hk') (by decide) (y := halfJ b (l.getD k jb0)) rfl]
            refine sq_nil ?_
            refine sx_xp SR ?_
            refine xj_done (by kernel_rfl) ?_
            refine sx_then ?_
            refine sc_drawX ([.reg 0 w]) (by kernel_rfl) ?_
            refine xj_s 0 RF (by kernel_rfl) SR (y_move RF) rfl ?_
            refine xj_s 1 RF (by kernel_rfl) SR (y_move RF) rfl ?_
            refine xj_s 2 RF (by kernel_rfl) SR (y_move RF) rfl ?_
            refine xj_s 3 RF (by kernel_rfl) SR (y_move RF) rfl ?_
            refine xj_s 4 RF (by kernel_rfl) SR (y_ia_el (i := k) Try.underlying34 Try.sizeOf58 RF RF hk' ha68) rfl ?_
            refine xj_s 5 RF (by kernel_rfl) SR (y_fa Try.underlying58 RF (by exact Try.sizeOf24) RF rfl) rfl ?_
            refine xj_s 6 RF (by kernel_rfl) SR (y_fa Try.underlying24 RF (by exact Try.sizeOf3) RF rfl) rfl ?_
            refine xj_s 8 RF (by kernel_rfl) SR (y_move RF) rfl ?_
            refine xj_s 9 RF (by kernel_rfl) SR (y_move RF) rfl ?_
            refine xj_s 10 RF (by kernel_rfl) SR (y_ia_el (i := k) Try.underlying34 Try.sizeOf58 RF RF hk' ha68) rfl ?_
            refine xj_s 11 RF (by kernel_rfl) SR (y_fa Try.underlying58 RF (by exact Try.sizeOf24) RF rfl) rfl ?_
            refine xj_s 12 RF (by kernel_rfl) SR (y_fa Try.underlying24 RF (by exact Try.sizeOf3) RF rfl) rfl ?_
            refine xj_s 14 RF (by kernel_rfl) SR (y_move RF) rfl ?_
            refine xj_s 15 RF (by kernel_rfl) SR (y_conv Try.underlying5 Try.underlying3 RF (wrap64_in (by omega) (by omega))) rfl ?_
            refine xj_s 16 RF (by kernel_rfl) SR (y_rem RF RF (by omega) (by omega)) rfl ?_
            refine xj_all (l := [7, 13]) (by kernel_rfl) (by simp) (Each.cons ⟨_, rfl, ?_⟩ (Each.cons ⟨_, rfl, ?_⟩ Each.nil))
            ·
              refine qs (by first | exact y_load_ownjj (v := .slice a68 l.length c68) (o1 := 2) (o2 := 1) (u := .int .i64 (l.getD k jb0).lay.hi) Try.underlying3 rfl RF MM hk' (flat_get jbRow_len _ k _ (mini_set (b := b) hk' (halfJ b (l.getD k jb0))) (2 + 1) _ rfl) | exact LD3) ?_
              refine sq_nil ?_
              refine sx_xp SR ?_
              refine xj_one 13 RF (by kernel_rfl) ?_
              refine qs (by first | exact y_load_ownjj (v := .slice a68 l.length c68) (o1 := 2) (o2 := 0) (u := .int .i64 (l.getD k jb0).lay.lo) Try.underlying3 rfl RF MM hk' (flat_get jbRow_len _ k _ (mini_set (b := b) hk' (halfJ b (l.getD k jb0))) (2 + 0) _ rfl) | exact LD3) ?_
              refine sq_nil ?_
              refine sx_xp SR ?_
              refine xj_s 17 RF (by kernel_rfl) SR (y_add RF RF (by omega)) rfl ?_
              refine xj_s 18 RF (by kernel_rfl) SR (y_min RF RF) rfl ?_
              refine xj_s 19 RF (by kernel_rfl) SR (y_ia_el (i := k) Try.underlying34 Try.sizeOf58 RF RF hk' ha68) rfl ?_
              refine xj_s 20 RF (by kernel_rfl) SR (y_fa Try.underlying58 RF (by exact Try.sizeOf24) RF rfl) rfl ?_
              refine xj_s 21 RF (by kernel_rfl) SR (y_fa Try.underlying24 RF (by exact Try.sizeOf3) RF rfl) rfl ?_
              refine xj_one 22 RF (by kernel_rfl) ?_
              refine sq_store_ownjj (v := .slice a68 l.length c68) (i := k) (o1 := 2) (o2 := 0) Try.sizeOf3 RF RF rfl RM hk' (by decide) ?_
              rw [flat_set jbRow_len (mini_set (b := b) hk' (halfJ b (l.getD k jb0))) (by decide) (y := thinJ b (l.getD k jb0)) rfl, thinK_next b hk']
              refine sq_nil ?_
              refine sx_xp SR ?_
              refine xj_done (by kernel_rfl) ?_
              refine sx_blk ?_
              refine sx_then ?_
              refine sc_region ?_
              refine qs (y_move RF) ?_
              refine qs (y_add RF RF (by omega)) ?_
              refine qs (y_assign RF) ?_
              refine sq_nil ?_
              refine sx_round (k + 1) ?_ ?_ SU SR
              · omega
              · omega
            ·
              refine qs (by first | exact y_load_ownjj (v := .slice a68 l.length c68) (o1 := 2) (o2 := 0) (u := .int .i64 (l.getD k jb0).lay.lo) Try.underlying3 rfl RF MM hk' (flat_get jbRow_len _ k _ (mini_set (b := b) hk' (halfJ b (l.getD k jb0))) (2 + 0) _ rfl) | exact LD3) ?_
              refine sq_nil ?_
              refine sx_xp SR ?_
              refine xj_s 17 RF (by kernel_rfl) SR (y_add RF RF (by omega)) rfl ?_
              refine xj_one 7 RF (by kernel_rfl) ?_
              refine qs (by first | exact y_load_ownjj (v := .slice a68 l.length c68) (o1 := 2) (o2 := 1) (u := .int .i64 (l.getD k jb0).lay.hi) Try.underlying3 rfl RF MM hk' (flat_get jbRow_len _ k _ (mini_set (b := b) hk' (halfJ b (l.getD k jb0))) (2 + 1) _ rfl) | exact LD3) ?_
              refine sq_nil ?_
              refine sx_xp SR ?_
              refine xj_s 18 RF (by kernel_rfl) SR (y_min RF RF) rfl ?_
              refine xj_s 19 RF (by kernel_rfl) SR (y_ia_el (i := k) Try.underlying34 Try.sizeOf58 RF RF hk' ha68) rfl ?_
              refine xj_s 20 RF (by kernel_rfl) SR (y_fa Try.underlying58 RF (by exact Try.sizeOf24) RF rfl) rfl ?_
              refine xj_s 21 RF (by kernel_rfl) SR (y_fa Try.underlying24 RF (by exact Try.sizeOf3) RF rfl) rfl ?_
              refine xj_one 22 RF (by kernel_rfl) ?_
              refine sq_store_ownjj (v := .slice a68 l.length c68) (i := k) (o1 := 2) (o2 := 0) Try.sizeOf3 RF RF rfl RM hk' (by decide) ?_
              rw [flat_set jbRow_len (mini_set (b := b) hk' (halfJ b (l.getD k jb0))) (by decide) (y := thinJ b (l.getD k jb0)) rfl, thinK_next b hk']
              refine sq_nil ?_
              refine sx_xp SR ?_
              refine xj_done (by kernel_rfl) ?_
              refine sx_blk ?_
              refine sx_then ?_
              refine sc_region ?_
              refine qs (y_move RF) ?_
              refine qs (y_add RF RF (by omega)) ?_
              refine qs (y_assign RF) ?_
              refine sq_nil ?_
              refine sx_round (k + 1) ?_ ?_ SU SR
              · omega
              · omega
        ·
          have hkn : k = l.length := by omega
          rw [thinK_all b l hkn]
          refine sc_exit ?_
          refine sx_then_exit ?_
          refine sx_round_exit ?_
          refine sx_blk_hit ?_
          refine sx_then ?_
          refine sc_seq ?_
          refine sc_region ?_
          refine qs (y_move RF) ?_
          refine qs (y_move RF) ?_
          refine sq_call_new (first := []) (caps := []) (Z := Option Addr × Nat) (fun z => .tuple #[.slice z.1 (runR (l.map (thinJ b)) o).1.length z.2, .int .i64 (runR (l.map (thinJ b)) o).2]) (fun lo w' z => RowsA spRow 2 lo w' z.1 (runR (l.map (thinJ b)) o).1) RF Try.call20 (EvL.cons RF (EvL.cons RF EvL.nil)) (fun w1 hw1 => run20jv (l := (l.map (thinJ b))) (List.length_map _) hlen w1 (hw1.ok (Res.own (.slice a68 l.length c68) 58 5 l.length ((l.map (thinJ b)).flatMap jbRow)) MM) ao co o (ho.at hw1 MM) h12) rfl (fun lo12 wr12 z12 hz12 => ?_)
          refine qs (y_move RF) ?_
          refine qs (y_extract RF RF) ?_
          refine qs (y_extract RF RF) ?_
          refine qs (y_assign RF) ?_
          refine qs (y_assign RF) ?_
          refine sq_nil ?_
          refine sx_then ?_
          refine sc_seq ?_
          refine sc_midE (Z := {v : Value // v.oneCell' = true}) (fun v => [(0, .slice a l.length c), (1, .slice ao o.length co), (3, .slice ah ls.length ch), (6, .int .i64 sheets), (7, .int .u8 b), (10, .pointer (some ⟨b10, 0, none⟩)), (12, .pointer (some ⟨b12, 0, none⟩)), (13, .pointer (some ⟨b13, 0, none⟩)), (17, .func (.func 43) #[] #[]), (18, .slice z4.1 (runR l o).1.length z4.2), (22, .slice z12.1 (runR (l.map (thinJ b)) o).1.length z12.2), (23, .int .i64 (runR (l.map (thinJ b)) o).2), (24, v.1)]) (fun v => [.own v.1 58 5 (l.length + 1) ((l ++ [m]).flatMap jbRow), .blk b10 (.cells (jbRow m).toArray 58 (0, 0)), .blk b12 (.cells (sfRow kk).toArray 51 (0, 0)), .blk b13 (.cells (spRow q).toArray 24 (0, 0)), .reg lo12 wr12, .reg lo4 wr4, .reg 0 w]) ?_ ?_
          ·
            refine sc_drawX ([.blk b10 (.cells (jbRow m).toArray 58 (0, 0)), .reg 0 w]) (by kernel_rfl) ?_
            refine xj_s 1 RF (by kernel_rfl) SR (y_move RF) rfl ?_
            refine xj_s 3 RF (by kernel_rfl) SR LD58 rfl ?_
            refine xj_all (l := [0, 4]) (by kernel_rfl) (by simp) (Each.cons ⟨_, rfl, ?_⟩ (Each.cons ⟨_, rfl, ?_⟩ Each.nil))
            ·
              refine sq_bs Try.underlying34 ei58 (EvI.nil) (by simp) rfl rfl rfl (fun b125 => ?_)
              refine sq_blk_own0 (sz := 5) (c := 0) RM rfl (Nat.zero_le _) ?_
              refine sq_nil ?_
              refine sx_xp SR ?_
              refine xj_all (l := [2, 4]) (by kernel_rfl) (by simp) (Each.cons ⟨_, rfl, ?_⟩ (Each.cons ⟨_, rfl, ?_⟩ Each.nil))
              ·
                refine sq_append_rows (news := l.flatMap jbRow) Try.underlying34 ei58 Try.sizeOf58 rfl (by decide) RF RM RF hl.noa (flat_len jbRow_len l) (fun ad had w1 hw1 => rows_cells jbRow_len (by decide) (fun i x hi => by rw [← had]; exact ((hl.at hw1 MM).el i x hi).2)) (jb_one l) (by omega) rfl (fun v127 ho127 => ?_)
                refine sq_nil ?_
                refine sx_xp SR ?_
                refine xj_one 4 RF (by kernel_rfl) ?_
                refine sq_bs Try.underlying34 ei58 (EvI.cons RF EvI.nil) (by first | (simp [Value.cells]; done) | (simp [Value.cells]; rfl) | (simp [Value.cells]; and_intros <;> rfl)) rfl rfl rfl (fun b129 => ?_)
                refine sq_nil ?_
                refine sx_xp SR ?_
                refine xj_one 5 RF (by kernel_rfl) ?_
                refine sq_append (news := jbRow m) Try.underlying34 ei58 rfl (by decide) RF RM RF rfl (fun _ hw => news_blk hw MM) (by simp [jbRow, Value.oneCell']) (by omega) rfl (fun v130 ho130 => ?_)
                refine sq_nil ?_
                refine sx_xp SR ?_
                rw [show 0 + l.length + 1 = l.length + 1 by omega, show [] ++ l.flatMap jbRow ++ jbRow m = (l ++ [m]).flatMap jbRow from by simp]
                refine xj_s 6 RF (by kernel_rfl) SR (y_assign RF) rfl ?_
                refine xj_done (by kernel_rfl) ?_
                exact sx_midE (⟨v130, ho130⟩) SU SR
              ·
                refine sq_bs Try.underlying34 ei58 (EvI.cons RF EvI.nil) (by first | (simp [Value.cells]; done) | (simp [Value.cells]; rfl) | (simp [Value.cells]; and_intros <;> rfl)) rfl rfl rfl (fun b129 => ?_)
                refine sq_nil ?_
                refine sx_xp SR ?_
                refine xj_one 2 RF (by kernel_rfl) ?_
                refine sq_append_rows (news := l.flatMap jbRow) Try.underlying34 ei58 Try.sizeOf58 rfl (by decide) RF RM RF hl.noa (flat_len jbRow_len l) (fun ad had w1 hw1 => rows_cells jbRow_len (by decide) (fun i x hi => by rw [← had]; exact ((hl.at hw1 MM).el i x hi).2)) (jb_one l) (by omega) rfl (fun v127 ho127 => ?_)
                refine sq_nil ?_
                refine sx_xp SR ?_
                refine xj_one 5 RF (by kernel_rfl) ?_
                refine sq_append (news := jbRow m) Try.underlying34 ei58 rfl (by decide) RF RM RF rfl (fun _ hw => news_blk hw MM) (by simp [jbRow, Value.oneCell']) (by omega) rfl (fun v130 ho130 => ?_)
                refine sq_nil ?_
                refine sx_xp SR ?_
                rw [show 0 + l.length + 1 = l.length + 1 by omega, show [] ++ l.flatMap jbRow ++ jbRow m = (l ++ [m]).flatMap jbRow from by simp]
                refine xj_s 6 RF (by kernel_rfl) SR (y_assign RF) rfl ?_
                refine xj_done (by kernel_rfl) ?_
                exact sx_midE (⟨v130, ho130⟩) SU SR
            ·
              refine sq_bs Try.underlying34 ei58 (EvI.cons RF EvI.nil) (by first | (simp [Value.cells]; done) | (simp [Value.cells]; rfl) | (simp [Value.cells]; and_intros <;> rfl)) rfl rfl rfl (fun b129 => ?_)
              refine sq_nil ?_
              refine sx_xp SR ?_
              refine xj_one 0 RF (by kernel_rfl) ?_
              refine sq_bs Try.underlying34 ei58 (EvI.nil) (by simp) rfl rfl rfl (fun b125 => ?_)
              refine sq_blk_own0 (sz := 5) (c := 0) RM rfl (Nat.zero_le _) ?_
              refine sq_nil ?_
              refine sx_xp SR ?_
              refine xj_one 2 RF (by kernel_rfl) ?_
              refine sq_append_rows (news := l.flatMap jbRow) Try.underlying34 ei58 Try.sizeOf58 rfl (by decide) RF RM RF hl.noa (flat_len jbRow_len l) (fun ad had w1 hw1 => rows_cells jbRow_len (by decide) (fun i x hi => by rw [← had]; exact ((hl.at hw1 MM).el i x hi).2)) (jb_one l) (by omega) rfl (fun v127 ho127 => ?_)
              refine sq_nil ?_
              refine sx_xp SR ?_
              refine xj_one 5 RF (by kernel_rfl) ?_
              refine sq_append (news := jbRow m) Try.underlying34 ei58 rfl (by decide) RF RM RF rfl (fun _ hw => news_blk hw MM) (by simp [jbRow, Value.oneCell']) (by omega) rfl (fun v130 ho130 => ?_)
              refine sq_nil ?_
              refine sx_xp SR ?_
              rw [show 0 + l.length + 1 = l.length + 1 by omega, show [] ++ l.flatMap jbRow ++ jbRow m = (l ++ [m]).flatMap jbRow from by simp]
              refine xj_s 6 RF (by kernel_rfl) SR (y_assign RF) rfl ?_
              refine xj_done (by kernel_rfl) ?_
              exact sx_midE (⟨v130, ho130⟩) SU SR
          rintro ⟨v24, hv24⟩
          try dsimp only
          refine sx_then ?_
          refine sc_seq ?_
          refine sc_region ?_
          refine qs (y_move RF) ?_
          refine sq_bs Try.underlying35 ei3 (EvI.nil) (by simp) rfl rfl rfl (fun b133 => ?_)
          refine sq_blk_own0 (sz := 1) (c := 0) RM rfl (Nat.zero_le _) ?_
          refine qs (y_move RF) ?_
          refine sq_append_rows (news := o.flatMap iRow) Try.underlying35 ei3 Try.sizeOf3 rfl (by decide) RF RM RF ho.noa (flat_len iRow_len o) (fun ad had w1 hw1 => rows_cells iRow_len (by decide) (fun i x hi => by rw [← had]; exact ((ho.at hw1 MM).el i x hi).2)) (i_one o) (by omega) rfl (fun v135 ho135 => ?_)
          refine qs (y_move RF) ?_
          refine qs (y_len Try.underlying34 RF) ?_
          refine sq_bs Try.underlying35 ei3 (EvI.cons RF EvI.nil) (by first | (simp [Value.cells]; done) | (simp [Value.cells]; rfl) | (simp [Value.cells]; and_intros <;> rfl)) rfl rfl rfl (fun b138 => ?_)
          refine sq_append (news := [Value.int .i64 (l.length : Int)]) Try.underlying35 ei3 rfl (by decide) RF RM RF rfl (fun _ hw => news_blk hw MM) (by simp [Value.oneCell']) (by omega) rfl (fun v139 ho139 => ?_)
          rw [show 0 + o.length + 1 = o.length + 1 by omega, show [] ++ o.flatMap iRow ++ [Value.int .i64 (l.length : Int)] = (o ++ [(l.length : Int)]).flatMap iRow from by simp [iRow]]
          refine sq_call_new (first := []) (caps := []) (Z := Option Addr × Nat) (fun z => .tuple #[.slice z.1 (runR (l ++ [m]) (o ++ [(l.length : Int)])).1.length z.2, .int .i64 (runR (l ++ [m]) (o ++ [(l.length : Int)])).2]) (fun lo w' z => RowsA spRow 2 lo w' z.1 (runR (l ++ [m]) (o ++ [(l.length : Int)])).1) RF Try.call20 (EvL.cons RF (EvL.cons RF EvL.nil)) (fun w1 hw1 => run20vv (l := (l ++ [m])) (o := (o ++ [(l.length : Int)])) (n := l.length + 1) (m := o.length + 1) (by simp) (by simp) (by omega) w1 (hw1.ok (Res.own v24 58 5 (l.length + 1) ((l ++ [m]).flatMap jbRow)) MM) (hw1.ok (Res.own v139 3 1 (o.length + 1) ((o ++ [(l.length : Int)]).flatMap iRow)) MM) (by simp; omega)) rfl (fun lo14 wr14 z14 hz14 => ?_)
          refine qs (y_move RF) ?_
          refine qs (y_extract RF RF) ?_
          refine qs (y_extract RF RF) ?_
          refine qs (y_assign RF) ?_
          refine qs (y_assign RF) ?_
          refine sq_nil ?_
          refine sx_then ?_
          refine sc_seq ?_
          refine sc_region ?_
          refine qs (y_move RF) ?_
          refine sq_call_new (first := []) (caps := []) (Z := Option Addr × Nat) (fun z => .tuple #[.slice z.1 (bestR l).1.length z.2, .int .i64 (bestR l).2.1, .int .i64 (bestR l).2.2]) (fun lo w' z => RowsA iRow 1 lo w' z.1 (bestR l).1) RF Try.call27 (EvL.cons RF EvL.nil) (fun w1 hw1 => best27s w1 a c l (hl.at hw1 MM)) rfl (fun lo15 wr15 z15 hz15 => ?_)
          refine qs (y_move RF) ?_
          refine qs (y_extract RF RF) ?_
          refine qs (y_extract RF RF) ?_
          refine qs (y_extract RF RF) ?_
          refine qs (y_assign RF) ?_
          refine qs (y_assign RF) ?_
          refine qs (y_assign RF) ?_
          refine sq_nil ?_
          refine sx_then ?_
          refine sc_seq ?_
          refine sc_region ?_
          refine qs (y_move RF) ?_
          refine sq_call_new (first := []) (caps := []) (Z := Option Addr × Nat) (fun z => .tuple #[.slice z.1 (bestR (l ++ [m])).1.length z.2, .int .i64 (bestR (l ++ [m])).2.1, .int .i64 (bestR (l ++ [m])).2.2]) (fun lo w' z => RowsA iRow 1 lo w' z.1 (bestR (l ++ [m])).1) RF Try.call27 (EvL.cons RF EvL.nil) (fun w1 hw1 => best27v (l := (l ++ [m])) (n := l.length + 1) (by simp) (by omega) w1 (hw1.ok (Res.own v24 58 5 (l.length + 1) ((l ++ [m]).flatMap jbRow)) MM)) rfl (fun lo16 wr16 z16 hz16 => ?_)
          refine qs (y_move RF) ?_
          refine qs (y_extract RF RF) ?_
          refine qs (y_extract RF RF) ?_
          refine qs (y_extract RF RF) ?_
          refine qs (y_assign RF) ?_
          refine qs (y_assign RF) ?_
          refine qs (y_assign RF) ?_
          refine sq_nil ?_
          refine sx_then ?_
          refine sc_seq ?_
          refine sc_seq ?_
          refine sc_midE (Z := {v : Bool // v = false}) (fun v => [(0, .slice a l.length c), (1, .slice ao o.length co), (3, .slice ah ls.length ch), (6, .int .i64 sheets), (7, .int .u8 b), (10, .pointer (some ⟨b10, 0, none⟩)), (12, .pointer (some ⟨b12, 0, none⟩)), (13, .pointer (some ⟨b13, 0, none⟩)), (17, .func (.func 43) #[] #[]), (18, .slice z4.1 (runR l o).1.length z4.2), (22, .slice z12.1 (runR (l.map (thinJ b)) o).1.length z12.2), (25, .slice z14.1 (runR (l ++ [m]) (o ++ [(l.length : Int)])).1.length z14.2), (26, .int .i64 (runR (l ++ [m]) (o ++ [(l.length : Int)])).2), (188, .bool v.1)]) (fun _ => [.blk b10 (.cells (jbRow m).toArray 58 (0, 0)), .blk b12 (.cells (sfRow kk).toArray 51 (0, 0)), .blk b13 (.cells (spRow q).toArray 24 (0, 0)), .reg lo14 wr14, .reg lo12 wr12, .reg lo4 wr4, .reg 0 w]) ?_ ?_
          ·
            refine sc_region ?_
            refine qs (y_move RF) ?_
            refine qs (y_neq RF RF) ?_
            refine qs (y_move RF) ?_
            refine sq_known (tt := 157) (b' := false) RF (by simp [ht2]) ?_
            refine qg (y_move RF) ?_
            refine qg (y_len Try.underlying36 RF) ?_
            refine qg (y_move RF) ?_
            refine qg (y_len Try.underlying36 RF) ?_
            refine qg (y_neq RF RF) ?_
            refine qs (y_pick_f RF RF) ?_
            refine qs (y_move RF) ?_
            refine sq_known (tt := 164) (b' := false) RF (by rw [ht3, hsl]; simp) ?_
            refine qg (y_move RF) ?_
            refine qg (y_neq RF RF) ?_
            refine qs (y_pick_f RF RF) ?_
            refine qs (y_move RF) ?_
            refine sq_known (tt := 168) (b' := false) RF (by simp [hF.err]) ?_
            refine qg (y_move RF) ?_
            refine qg (y_eql RF RF) ?_
            refine qg (y_move RF) ?_
            refine sp 171 (fun hg17_16 => ?_) (fun hg17_16 => ?_)
            ·
              refine qg (y_move RF) ?_
              refine qg (y_len Try.underlying36 RF) ?_
              refine qg (y_move RF) ?_
              refine qg (y_len Try.underlying36 RF) ?_
              refine qg (y_add RF RF (by omega)) ?_
              refine qg (y_neq RF RF) ?_
              refine qg (y_move RF) ?_
              refine sq_known (tt := 178) (b' := false) RF (by rw [(hU hg17_16).1, hsl]; simp) ?_
              refine qg (y_move RF) ?_
              refine qg (y_neq RF RF) ?_
              refine qg (y_pick_f RF RF) ?_
              refine qg (y_move RF) ?_
              refine sq_known (tt := 182) (b' := false) RF (by simp [(hU hg17_16).2.1]) ?_
              refine qg (y_move RF) ?_
              refine qg (y_move RF) ?_
              refine qg (y_lss RF RF) ?_
              refine qg (y_pick_f RF RF) ?_
              refine qg (y_pick_t RF RF) ?_
              refine qs (y_pick_f RF RF) ?_
              refine sq_nil ?_
              exact sx_midE (⟨decide ((bestR (l ++ [m])).2.1 < (bestR l).2.1), decide_eq_false (by have := (hU hg17_16).2.2.1; omega)⟩) SU SR
            ·
              refine qf ?_
              refine qf ?_
              refine qf ?_
              refine qf ?_
              refine qf ?_
              refine qf ?_
              refine qf ?_
              refine sq_gu RF RF rfl ?_
              refine sq_gu RF RF rfl ?_
              refine qf ?_
              refine qf ?_
              refine sq_gu RF RF rfl ?_
              refine sq_gu RF RF rfl ?_
              refine sq_gu RF RF rfl ?_
              refine qf ?_
              refine qg (y_pick_f RF RF) ?_
              refine qs (y_pick_f RF RF) ?_
              refine sq_nil ?_
              exact sx_midE (⟨false, rfl⟩) SU SR
          rintro ⟨_, rfl⟩
          try dsimp only
          refine sx_then ?_
          refine sc_f (lk_bool rfl (rfl)) ?_
          refine sc_skip ?_
          refine sx_then ?_
          refine sc_seq ?_
          refine sc_region ?_
          refine qs (y_assign RF) ?_
          refine sq_nil ?_
          refine sx_then ?_
          refine sc_block ?_
          refine sc_loop (σ := Nat)
            (fun s => [(0, .slice a l.length c), (1, .slice ao o.length co), (3, .slice ah ls.length ch), (6, .int .i64 sheets), (7, .int .u8 b), (10, .pointer (some ⟨b10, 0, none⟩)), (12, .pointer (some ⟨b12, 0, none⟩)), (13, .pointer (some ⟨b13, 0, none⟩)), (17, .func (.func 43) #[] #[]), (18, .slice z4.1 (runR l o).1.length z4.2), (22, .slice z12.1 (runR (l.map (thinJ b)) o).1.length z12.2), (25, .slice z14.1 (runR (l ++ [m]) (o ++ [(l.length : Int)])).1.length z14.2), (26, .int .i64 (runR (l ++ [m]) (o ++ [(l.length : Int)])).2), (33, .int .i64 s)])
            (fun s => [.blk b10 (.cells (jbRow m).toArray 58 (0, 0)), .blk b12 (.cells (sfRow kk).toArray 51 (0, 0)), .blk b13 (.cells (spRow q).toArray 24 (0, 0)), .reg lo14 wr14, .reg lo12 wr12, .reg lo4 wr4, .reg 0 w])
            (fun s => s ≤ l.length)
            (fun s => l.length - s)
            (0) ?_ SU SR ?_
          · exact Nat.zero_le _
          rintro k hk
          refine sc_seq ?_
          refine sc_seq ?_
          refine sc_region ?_
          refine qs (y_move RF) ?_
          refine qs (y_move RF) ?_
          refine qs (y_len Try.underlying36 RF) ?_
          refine qs (y_lss RF RF) ?_
          refine sq_nil ?_
          refine sx_then ?_
          refine scp (fun hc4 => ?_) (fun hc4 => ?_)
          ·
            have hk' : k < l.length := by omega
            have hs4 := (hz4.get sp0 (show k < (runR l o).1.length by omega)).1
            have hc4 := (hz4.get sp0 (show k < (runR l o).1.length by omega)).2
            have hs12 := (hz12.get sp0 (show k < (runR (l.map (thinJ b)) o).1.length by omega)).1
            have hc12 := (hz12.get sp0 (show k < (runR (l.map (thinJ b)) o).1.length by omega)).2
            have hg4 : (runR l o).1.getD k sp0 = spanK l o k := by rw [hr1]; exact spansV_getD hk'
            have hg12 : (runR (l.map (thinJ b)) o).1.getD k sp0 = spanK (l.map (thinJ b)) o k := by rw [ht1]; exact spansV_getD (by rw [List.length_map]; exact hk')
            rw [hg4] at hc4
            rw [hg12] at hc12
            have hin : inS (spanK (l.map (thinJ b)) o k) (spanK l o k) = true := decide_eq_true (thin_span hj b o k)
            refine sc_skip ?_
            refine sx_then ?_
            refine sc_seq ?_
            refine sc_block ?_
            refine sc_seq ?_
            refine sc_midE (Z := {v : Bool // v = false}) (fun v => [(0, .slice a l.length c), (1, .slice ao o.length co), (3, .slice ah ls.length ch), (6, .int .i64 sheets), (7, .int .u8 b), (10, .pointer (some ⟨b10, 0, none⟩)), (12, .pointer (some ⟨b12, 0, none⟩)), (13, .pointer (some ⟨b13, 0, none⟩)), (17, .func (.func 43) #[] #[]), (18, .slice z4.1 (runR l o).1.length z4.2), (22, .slice z12.1 (runR (l.map (thinJ b)) o).1.length z12.2), (25, .slice z14.1 (runR (l ++ [m]) (o ++ [(l.length : Int)])).1.length z14.2), (26, .int .i64 (runR (l ++ [m]) (o ++ [(l.length : Int)])).2), (33, .int .i64 k), (220, .bool v.1)]) (fun _ => [.blk b10 (.cells (jbRow m).toArray 58 (0, 0)), .blk b12 (.cells (sfRow kk).toArray 51 (0, 0)), .blk b13 (.cells (spRow q).toArray 24 (0, 0)), .reg lo14 wr14, .reg lo12 wr12, .reg lo4 wr4, .reg 0 w]) ?_ ?_
            ·
              refine sc_draw rfl (by kernel_rfl) (by kernel_rfl) ?_
              refine qq_y (OpY.s (y_move RF)) rfl ?_
              refine qq_y (OpY.s (y_move RF)) rfl ?_
              refine qq_y (OpY.s (y_move RF)) rfl ?_
              refine qq_y (OpY.s IA36) rfl ?_
              refine qq_y (OpY.s (by first | exact y_load_ca Try.underlying24 rfl Try.sizeOf24 RF MM hc12 rfl | exact LD24)) rfl ?_
              refine qq_y (OpY.s (y_move RF)) rfl ?_
              refine qq_y (OpY.s (y_move RF)) rfl ?_
              refine qq_y (OpY.s IA36) rfl ?_
              refine qq_y (OpY.s (by first | exact y_load_ca Try.underlying24 rfl Try.sizeOf24 RF MM hc4 rfl | exact LD24)) rfl ?_
              refine qq_y (y_call (first := []) (caps := []) RF Try.call43 E2 (fun w1 _ => in43 w1 _ _)) rfl ?_
              refine qq_y (OpY.s (y_not RF)) rfl ?_
              refine qq_y (OpY.s (y_move RF)) rfl ?_
              refine qq_known (tt := 206) (b' := false) RF (by simp [hin]) ?_
              refine qq_gt RF RF (OpY.s (y_move RF)) rfl ?_
              refine qq_gt RF RF (OpY.s (y_eql RF RF)) rfl ?_
              refine qq_gt RF RF (OpY.s (y_move RF)) rfl ?_
              first | refine qq_splitd (tt := 209) RF (fun hg22_14 => ?_) (fun hg22_14 => ?_) | refine qq_splitn (tt := 209) RF (fun hg22_14 => ?_) (fun hg22_14 => ?_) | refine qq_split (tt := 209) RF (fun hg22_14 => ?_) (fun hg22_14 => ?_)
              ·
                refine qq_gt RF RF (OpY.s (y_move RF)) rfl ?_
                have hul := (hU hg22_14).1
                have hs14 := (hz14.get sp0 (show k < (runR (l ++ [m]) (o ++ [(l.length : Int)])).1.length by omega)).1
                have hc14 := (hz14.get sp0 (show k < (runR (l ++ [m]) (o ++ [(l.length : Int)])).1.length by omega)).2
                rw [(hU hg22_14).2.2.2 k hk'] at hc14
                refine qq_gt RF RF (OpY.s (y_move RF)) rfl ?_
                refine qq_gt RF RF (OpY.s IA36) rfl ?_
                refine qq_gt RF RF (OpY.s (by first | exact y_load_ca Try.underlying24 rfl Try.sizeOf24 RF MM hc14 rfl | exact LD24)) rfl ?_
                refine qq_gt RF RF (OpY.s (y_move RF)) rfl ?_
                refine qq_gt RF RF (OpY.s (y_move RF)) rfl ?_
                refine qq_gt RF RF (OpY.s IA36) rfl ?_
                refine qq_gt RF RF (OpY.s (by first | exact y_load_ca Try.underlying24 rfl Try.sizeOf24 RF MM hc4 rfl | exact LD24)) rfl ?_
                refine qq_gt RF RF (OpY.s (y_neqs (by kernel_rfl) RF RF (neq24 _ _ _ _))) rfl ?_
                refine qq_gt RF RF (OpY.s (y_pick_t RF RF)) rfl ?_
                refine qq_y (OpY.s (y_pick_f RF RF)) rfl ?_
                refine qq_nil ?_
                exact sx_midE (⟨!decide ((spanK l o k).lo = (spanK l o k).lo ∧ (spanK l o k).hi = (spanK l o k).hi), by simp⟩) SU SR
              ·
                refine qq_gf RF RF RF rfl ?_
                refine qq_gf RF RF RF rfl ?_
                refine qq_gf RF RF RF rfl ?_
                refine qq_gf RF RF RF rfl ?_
                refine qq_gf RF RF RF rfl ?_
                refine qq_gf RF RF RF rfl ?_
                refine qq_gf RF RF RF rfl ?_
                refine qq_gf RF RF RF rfl ?_
                refine qq_gf RF RF RF rfl ?_
                refine qq_gt RF RF (OpY.s (y_pick_f RF RF)) rfl ?_
                refine qq_y (OpY.s (y_pick_f RF RF)) rfl ?_
                refine qq_nil ?_
                exact sx_midE (⟨false, rfl⟩) SU SR
            rintro ⟨_, rfl⟩
            try dsimp only
            refine sx_then ?_
            refine sc_f (lk_bool rfl (rfl)) ?_
            refine sc_skip ?_
            refine sx_blk ?_
            refine sx_then ?_
            refine sc_region ?_
            refine qs (y_move RF) ?_
            refine qs (y_add RF RF (by omega)) ?_
            refine qs (y_assign RF) ?_
            refine sq_nil ?_
            refine sx_round (k + 1) ?_ ?_ SU SR
            · omega
            · omega
          ·
            refine sc_exit ?_
            refine sx_then_exit ?_
            refine sx_round_exit ?_
            refine sx_blk_hit ?_
            exact sx_midE (()) SU SR
      ·
        refine sc_skip ?_
        exact sx_midE (()) SU SR
    rintro ⟨⟩
    try dsimp only
    refine sx_then ?_
    refine sc_seq ?_
    refine sc_region ?_
    refine qs (y_move RF) ?_
    refine qy (yc Try.call14 E1 (fun w1 hw1 => fringe14 w1 ah ch ls (hs.at hw1 MM))) ?_
    refine qs (y_move RF) ?_
    refine qs (y_extract RF RF) ?_
    refine qs (y_extract RF RF) ?_
    refine qs (y_extract RF RF) ?_
    refine sq_alloc Try.zeroValue24 rfl (fun b34 => ?_)
    refine sq_alloc Try.zeroValue24 rfl (fun b35 => ?_)
    refine sq_store_all Try.sizeOf24 RF RF rfl RM rfl rfl ?_
    refine sq_store_all Try.sizeOf24 RF RF rfl RM rfl rfl ?_
    refine qs (y_assign RF) ?_
    refine sq_nil ?_
    refine sx_then ?_
    refine sc_seq ?_
    refine sc_drawX ([.blk b12 (.cells (sfRow kk).toArray 51 (0, 0)), .reg 0 w]) (by kernel_rfl) ?_
    refine xj_abs (fun J hJ => ?_)
    have hS25_1 : ∀ (b228 : Nat) (v230 : Value) (ho230 : v230.oneCell' = true) (b232 : Nat) (v233 : Value) (ho233 : v233.oneCell' = true) (b37 : Nat) (b38 : Nat), J 2 #[true, true, true, true, true, true, true, true, true, true, true, true, true, true, false, false] [(236, .agg (spRow (fringeV (ls ++ [kk])).2.1).toArray), (237, .int .i64 (fringeV (ls ++ [kk])).2.2), (37, .pointer (some ⟨b37, 0, none⟩)), (38, .pointer (some ⟨b38, 0, none⟩)), (3, .slice ah ls.length ch), (6, .int .i64 sheets), (7, .int .u8 b), (12, .pointer (some ⟨b12, 0, none⟩)), (13, .pointer (some ⟨b13, 0, none⟩)), (34, .pointer (some ⟨b34, 0, none⟩)), (35, .pointer (some ⟨b35, 0, none⟩)), (36, .int .i64 (fringeV ls).2.2)] [.blk b34 (.cells (spRow (fringeV ls).1).toArray 24 (0, 0)), .blk b35 (.cells (spRow (fringeV ls).2.1).toArray 24 (0, 0)), .blk b12 (.cells (sfRow kk).toArray 51 (0, 0)), .blk b13 (.cells (spRow q).toArray 24 (0, 0)), .reg 0 w, .blk b232 (.cells (sfRow kk).toArray 51 (0, 0)), .own v233 51 4 (ls.length + 1) ((ls ++ [kk]).flatMap sfRow), .blk b38 (.cells (Value.agg #[.int .i64 0, .int .i64 0]).cells 24 (0, 0)), .blk b37 (.cells (spRow (fringeV (ls ++ [kk])).1).toArray 24 (0, 0))] := by
      intro b228 v230 ho230 b232 v233 ho233 b37 b38
      refine Eq.mpr (hJ _ _ _ _) ?_
      refine xj_one 14 RF (by kernel_rfl) ?_
      refine sq_store_all Try.sizeOf24 RF RF rfl RM rfl rfl ?_
      refine sq_nil ?_
      refine sx_xp SR ?_
      refine xj_s 15 RF (by kernel_rfl) SR (y_assign RF) rfl ?_
      refine xj_done (by kernel_rfl) ?_
      refine sx_then ?_
      refine sc_seq ?_
      refine sc_seq ?_
      refine sc_midE (Z := {v : Bool // v = false}) (fun v => [(6, .int .i64 sheets), (7, .int .u8 b), (13, .pointer (some ⟨b13, 0, none⟩)), (271, .bool v.1)]) (fun _ => [.blk b13 (.cells (spRow q).toArray 24 (0, 0)), .reg 0 w]) ?_ ?_
      ·
        refine sc_region ?_
        refine qs (y_move RF) ?_
        refine qs (y_eql RF RF) ?_
        refine qs (y_move RF) ?_
        refine sp 240 (fun hg26_2 => ?_) (fun hg26_2 => ?_)
        ·
          refine qg (y_move RF) ?_
          refine qg (y_eql RF RF) ?_
          refine qs (y_pick_t RF RF) ?_
          refine qs (y_move RF) ?_
          refine sp 244 (fun hg26_6 => ?_) (fun hg26_6 => ?_)
          ·
            refine qg FA24_3 ?_
            refine qg LD3 ?_
            refine qg FA24_3 ?_
            refine qg LD3 ?_
            refine qg (y_lss RF RF) ?_
            refine qg (y_move RF) ?_
            refine sq_known (tt := 250) (b' := false) RF (decide_eq_false (by have := fringe_app hg26_2 hg26_6; omega)) ?_
            refine qg FA24_3 ?_
            refine qg LD3 ?_
            refine qg FA24_3 ?_
            refine qg LD3 ?_
            refine qg (y_lss RF RF) ?_
            refine qg (y_pick_f RF RF) ?_
            refine qg (y_move RF) ?_
            refine sq_known (tt := 257) (b' := false) RF (decide_eq_false (by have := fringe_app hg26_2 hg26_6; omega)) ?_
            refine qg FA24_3 ?_
            refine qg LD3 ?_
            refine qg FA24_3 ?_
            refine qg LD3 ?_
            refine qg (y_lss RF RF) ?_
            refine qg (y_pick_f RF RF) ?_
            refine qg (y_move RF) ?_
            refine sq_known (tt := 264) (b' := false) RF (decide_eq_false (by have := fringe_app hg26_2 hg26_6; omega)) ?_
            refine qg FA24_3 ?_
            refine qg LD3 ?_
            refine qg FA24_3 ?_
            refine qg LD3 ?_
            refine qg (y_lss RF RF) ?_
            refine qg (y_pick_f RF RF) ?_
            refine qs (y_pick_t RF RF) ?_
            refine sq_nil ?_
            exact sx_midE (⟨decide ((fringeV (ls ++ [kk])).2.1.hi < (fringeV ls).2.1.hi), decide_eq_false (by have := fringe_app hg26_2 hg26_6; omega)⟩) SU SR
          ·
            refine qf ?_
            refine qf ?_
            refine qf ?_
            refine qf ?_
            refine qf ?_
            refine qf ?_
            refine sq_gu RF RF rfl ?_
            refine sq_gu RF RF rfl ?_
            refine sq_gu RF RF rfl ?_
            refine sq_gu RF RF rfl ?_
            refine sq_gu RF RF rfl ?_
            refine qf ?_
            refine qf ?_
            refine sq_gu RF RF rfl ?_
            refine sq_gu RF RF rfl ?_
            refine sq_gu RF RF rfl ?_
            refine sq_gu RF RF rfl ?_
            refine sq_gu RF RF rfl ?_
            refine qf ?_
            refine qf ?_
            refine sq_gu RF RF rfl ?_
            refine sq_gu RF RF rfl ?_
            refine sq_gu RF RF rfl ?_
            refine sq_gu RF RF rfl ?_
            refine sq_gu RF RF rfl ?_
            refine qf ?_
            refine qs (y_pick_f RF RF) ?_
            refine sq_nil ?_
            exact sx_midE (⟨false, rfl⟩) SU SR
        ·
          refine qf ?_
          refine qf ?_
          refine qs (y_pick_f RF RF) ?_
          refine qs (y_move RF) ?_
          refine qf ?_
          refine qf ?_
          refine qf ?_
          refine qf ?_
          refine qf ?_
          refine qf ?_
          refine sq_gu RF RF rfl ?_
          refine sq_gu RF RF rfl ?_
          refine sq_gu RF RF rfl ?_
          refine sq_gu RF RF rfl ?_
          refine sq_gu RF RF rfl ?_
          refine qf ?_
          refine qf ?_
          refine sq_gu RF RF rfl ?_
          refine sq_gu RF RF rfl ?_
          refine sq_gu RF RF rfl ?_
          refine sq_gu RF RF rfl ?_
          refine sq_gu RF RF rfl ?_
          refine qf ?_
          refine qf ?_
          refine sq_gu RF RF rfl ?_
          refine sq_gu RF RF rfl ?_
          refine sq_gu RF RF rfl ?_
          refine sq_gu RF RF rfl ?_
          refine sq_gu RF RF rfl ?_
          refine qf ?_
          refine qs (y_pick_f RF RF) ?_
          refine sq_nil ?_
          exact sx_midE (⟨false, rfl⟩) SU SR
      rintro ⟨_, rfl⟩
      try dsimp only
      refine sx_then ?_
      refine sc_f (lk_bool rfl (rfl)) ?_
      refine sc_skip ?_
      refine sx_then ?_
      refine sc_seq ?_
      refine sc_region ?_
      refine qs LD24 ?_
      refine qs (y_move RF) ?_
      refine qy (yc Try.call16 E2 (fun w1 _ => good16 w1 q sheets)) ?_
      refine qs (y_move RF) ?_
      refine qs (y_extract RF RF) ?_
      refine qs (y_extract RF RF) ?_
      refine sq_alloc Try.zeroValue24 rfl (fun b40 => ?_)
      refine sq_store_all Try.sizeOf24 RF RF rfl RM rfl rfl ?_
      refine qs (y_assign RF) ?_
      refine sq_nil ?_
      refine sx_then ?_
      refine sc_seq ?_
      refine sc_seq ?_
      refine sc_midE (Z := {v : Bool // v = (decide ((goodR q sheets).2 = 0) && decide (sheets < 1048276))}) (fun v => [(6, .int .i64 sheets), (7, .int .u8 b), (13, .pointer (some ⟨b13, 0, none⟩)), (40, .pointer (some ⟨b40, 0, none⟩)), (283, .bool v.1)]) (fun _ => [.blk b40 (.cells (spRow (goodR q sheets).1).toArray 24 (0, 0)), .blk b13 (.cells (spRow q).toArray 24 (0, 0)), .reg 0 w]) ?_ ?_
      ·
        refine sc_region ?_
        refine qs (y_move RF) ?_
        refine qs (y_eql RF RF) ?_
        refine qs (y_move RF) ?_
        refine sp 280 (fun hg29_2 => ?_) (fun hg29_2 => ?_)
        ·
          refine qg (y_move RF) ?_
          refine qg (y_lss RF RF) ?_
          refine qs (y_pick_t RF RF) ?_
          refine sq_nil ?_
          exact sx_midE (⟨decide (sheets < 1048276), by rw [decide_eq_true hg29_2, Bool.true_and]⟩) SU SR
        ·
          refine qf ?_
          refine qf ?_
          refine qs (y_pick_f RF RF) ?_
          refine sq_nil ?_
          exact sx_midE (⟨false, by rw [decide_eq_false hg29_2, Bool.false_and]⟩) SU SR
      rintro ⟨vs, hvs⟩
      try dsimp only
      refine sx_then ?_
      refine scp (fun hc7 => ?_) (fun hc7 => ?_)
      ·
        have hv3 : vs = true := hc7
        rw [hvs, Bool.and_eq_true] at hv3
        obtain ⟨hgs, hsr, hgv⟩ := good_yes (s := q) (n := sheets) (of_decide_eq_true hv3.1)
        have hlt := of_decide_eq_true hv3.2
        have hqp := spB_parts hgs
        have hg2 : goodR q (sheets + b) = (goodV q (sheets + b), 0) := good_in hgs (by omega) (by omega)
        have hml := good_mono (s := q) (by omega) hqp.2.2 (show sheets ≤ sheets + b by omega)
        have hmh := good_mono2 (s := q) hqp.1 (by omega) (show sheets ≤ sheets + b by omega)
        rw [hgv]
        obtain ⟨gA, hgA⟩ : ∃ g, goodV q sheets = g := ⟨_, rfl⟩
        obtain ⟨gB, hgB⟩ : ∃ g, goodV q (sheets + b) = g := ⟨_, rfl⟩
        rw [hgA] at hml hmh ⊢
        rw [hgB] at hml hmh hg2
        refine sc_seq ?_
        refine sc_region ?_
        refine qs LD24 ?_
        refine qs (y_move RF) ?_
        refine qs (y_move RF) ?_
        refine qs (y_conv Try.underlying5 Try.underlying3 RF (wrap64_in (by omega) (by omega))) ?_
        refine qs (y_add RF RF (by omega)) ?_
        refine qy (yc Try.call16 E2 (fun w1 _ => by have h := good16 w1 q (sheets + b); rw [hg2] at h; exact h)) ?_
        refine qs (y_move RF) ?_
        refine qs (y_extract RF RF) ?_
        refine qs (y_extract RF RF) ?_
        refine sq_alloc Try.zeroValue24 rfl (fun b42 => ?_)
        refine sq_store_all Try.sizeOf24 RF RF rfl RM rfl rfl ?_
        refine qs (y_assign RF) ?_
        refine sq_nil ?_
        refine sx_then ?_
        refine sc_seq ?_
        refine sc_region ?_
        refine qs (y_move RF) ?_
        refine qs (y_neq RF RF) ?_
        refine qs (y_move RF) ?_
        refine sq_known (tt := 295) (b' := false) RF (by simp) ?_
        refine qg FA24_3 ?_
        refine qg LD3 ?_
        refine qg FA24_3 ?_
        refine qg LD3 ?_
        refine qg (y_lss RF RF) ?_
        refine qs (y_pick_f RF RF) ?_
        refine qs (y_move RF) ?_
        refine sq_known (tt := 302) (b' := false) RF (decide_eq_false (by dsimp only; omega)) ?_
        refine qg FA24_3 ?_
        refine qg LD3 ?_
        refine qg FA24_3 ?_
        refine qg LD3 ?_
        refine qg (y_lss RF RF) ?_
        refine qs (y_pick_f RF RF) ?_
        refine sq_nil ?_
        refine sx_then ?_
        refine sc_f (lk_bool rfl (decide_eq_false (by dsimp only; omega))) ?_
        refine sc_skip ?_
        refine sx_then ?_
        refine sc_seq ?_
        refine sc_region ?_
        refine qy (yc Try.call13 E0 (fun w1 _ => awake13 w1)) ?_
        refine qs (y_assign RF) ?_
        refine sq_nil ?_
        refine sx_then ?_
        refine sc_ret ?_
        refine sx_ret1 (.inl rfl) rfl Try.results11 RF ?_
        intro w' hw'
        exact ⟨rfl, hw'.below MM⟩
      ·
        refine sc_skip ?_
        refine sx_then ?_
        refine sc_seq ?_
        refine sc_region ?_
        refine qy (yc Try.call13 E0 (fun w1 _ => awake13 w1)) ?_
        refine qs (y_assign RF) ?_
        refine sq_nil ?_
        refine sx_then ?_
        refine sc_ret ?_
        refine sx_ret1 (.inl rfl) rfl Try.results11 RF ?_
        intro w' hw'
        exact ⟨rfl, hw'.below MM⟩
    have hS25_2 : ∀ (b228 : Nat) (v230 : Value) (ho230 : v230.oneCell' = true) (b232 : Nat) (v233 : Value) (ho233 : v233.oneCell' = true) (b37 : Nat) (b38 : Nat), J 3 #[true, true, true, true, true, true, true, true, true, true, true, true, true, false, false, false] [(235, .agg (spRow (fringeV (ls ++ [kk])).1).toArray), (236, .agg (spRow (fringeV (ls ++ [kk])).2.1).toArray), (237, .int .i64 (fringeV (ls ++ [kk])).2.2), (37, .pointer (some ⟨b37, 0, none⟩)), (38, .pointer (some ⟨b38, 0, none⟩)), (3, .slice ah ls.length ch), (6, .int .i64 sheets), (7, .int .u8 b), (12, .pointer (some ⟨b12, 0, none⟩)), (13, .pointer (some ⟨b13, 0, none⟩)), (34, .pointer (some ⟨b34, 0, none⟩)), (35, .pointer (some ⟨b35, 0, none⟩)), (36, .int .i64 (fringeV ls).2.2)] [.blk b34 (.cells (spRow (fringeV ls).1).toArray 24 (0, 0)), .blk b35 (.cells (spRow (fringeV ls).2.1).toArray 24 (0, 0)), .blk b12 (.cells (sfRow kk).toArray 51 (0, 0)), .blk b13 (.cells (spRow q).toArray 24 (0, 0)), .reg 0 w, .blk b232 (.cells (sfRow kk).toArray 51 (0, 0)), .own v233 51 4 (ls.length + 1) ((ls ++ [kk]).flatMap sfRow), .blk b37 (.cells (Value.agg #[.int .i64 0, .int .i64 0]).cells 24 (0, 0)), .blk b38 (.cells (Value.agg #[.int .i64 0, .int .i64 0]).cells 24 (0, 0))] := by
      intro b228 v230 ho230 b232 v233 ho233 b37 b38
      refine Eq.mpr (hJ _ _ _ _) ?_
      refine xj_one 13 RF (by kernel_rfl) ?_
      refine sq_store_all Try.sizeOf24 RF RF rfl RM rfl rfl ?_
      refine sq_nil ?_
      refine sx_xp SR ?_
      exact xj_sub rfl (by kernel_rfl) SU SR (Eq.mp (hJ _ _ _ _) (hS25_1 b228 v230 ho230 b232 v233 ho233 b37 b38))
    have hS25_3 : ∀ (b228 : Nat) (v230 : Value) (ho230 : v230.oneCell' = true) (b232 : Nat) (v233 : Value) (ho233 : v233.oneCell' = true) (b37 : Nat), J 4 #[true, true, true, true, true, true, true, true, true, true, true, true, false, false, false, false] [(235, .agg (spRow (fringeV (ls ++ [kk])).1).toArray), (236, .agg (spRow (fringeV (ls ++ [kk])).2.1).toArray), (237, .int .i64 (fringeV (ls ++ [kk])).2.2), (37, .pointer (some ⟨b37, 0, none⟩)), (3, .slice ah ls.length ch), (6, .int .i64 sheets), (7, .int .u8 b), (12, .pointer (some ⟨b12, 0, none⟩)), (13, .pointer (some ⟨b13, 0, none⟩)), (34, .pointer (some ⟨b34, 0, none⟩)), (35, .pointer (some ⟨b35, 0, none⟩)), (36, .int .i64 (fringeV ls).2.2)] [.blk b34 (.cells (spRow (fringeV ls).1).toArray 24 (0, 0)), .blk b35 (.cells (spRow (fringeV ls).2.1).toArray 24 (0, 0)), .blk b12 (.cells (sfRow kk).toArray 51 (0, 0)), .blk b13 (.cells (spRow q).toArray 24 (0, 0)), .reg 0 w, .blk b232 (.cells (sfRow kk).toArray 51 (0, 0)), .own v233 51 4 (ls.length + 1) ((ls ++ [kk]).flatMap sfRow), .blk b37 (.cells (Value.agg #[.int .i64 0, .int .i64 0]).cells 24 (0, 0))] := by
      intro b228 v230 ho230 b232 v233 ho233 b37
      refine Eq.mpr (hJ _ _ _ _) ?_
      refine xj_one 12 RF (by kernel_rfl) ?_
      refine sq_alloc Try.zeroValue24 rfl (fun b38 => ?_)
      refine sq_nil ?_
      refine sx_xp SR ?_
      exact xj_sub rfl (by kernel_rfl) SU SR (Eq.mp (hJ _ _ _ _) (hS25_2 b228 v230 ho230 b232 v233 ho233 b37 b38))
    have hS25_4 : ∀ (b228 : Nat) (v230 : Value) (ho230 : v230.oneCell' = true) (b232 : Nat) (v233 : Value) (ho233 : v233.oneCell' = true) (b38 : Nat), J 4 #[true, true, true, true, true, true, true, true, true, true, true, false, true, false, false, false] [(235, .agg (spRow (fringeV (ls ++ [kk])).1).toArray), (236, .agg (spRow (fringeV (ls ++ [kk])).2.1).toArray), (237, .int .i64 (fringeV (ls ++ [kk])).2.2), (38, .pointer (some ⟨b38, 0, none⟩)), (3, .slice ah ls.length ch), (6, .int .i64 sheets), (7, .int .u8 b), (12, .pointer (some ⟨b12, 0, none⟩)), (13, .pointer (some ⟨b13, 0, none⟩)), (34, .pointer (some ⟨b34, 0, none⟩)), (35, .pointer (some ⟨b35, 0, none⟩)), (36, .int .i64 (fringeV ls).2.2)] [.blk b34 (.cells (spRow (fringeV ls).1).toArray 24 (0, 0)), .blk b35 (.cells (spRow (fringeV ls).2.1).toArray 24 (0, 0)), .blk b12 (.cells (sfRow kk).toArray 51 (0, 0)), .blk b13 (.cells (spRow q).toArray 24 (0, 0)), .reg 0 w, .blk b232 (.cells (sfRow kk).toArray 51 (0, 0)), .own v233 51 4 (ls.length + 1) ((ls ++ [kk]).flatMap sfRow), .blk b38 (.cells (Value.agg #[.int .i64 0, .int .i64 0]).cells 24 (0, 0))] := by
      intro b228 v230 ho230 b232 v233 ho233 b38
      refine Eq.mpr (hJ _ _ _ _) ?_
      refine xj_one 11 RF (by kernel_rfl) ?_
      refine sq_alloc Try.zeroValue24 rfl (fun b37 => ?_)
      refine sq_nil ?_
      refine sx_xp SR ?_
      exact xj_sub rfl (by kernel_rfl) SU SR (Eq.mp (hJ _ _ _ _) (hS25_2 b228 v230 ho230 b232 v233 ho233 b37 b38))
    have hS25_5 : ∀ (b228 : Nat) (v230 : Value) (ho230 : v230.oneCell' = true) (b232 : Nat) (v233 : Value) (ho233 : v233.oneCell' = true), J 5 #[true, true, true, true, true, true, true, true, true, true, true, false, false, false, false, false] [(235, .agg (spRow (fringeV (ls ++ [kk])).1).toArray), (236, .agg (spRow (fringeV (ls ++ [kk])).2.1).toArray), (237, .int .i64 (fringeV (ls ++ [kk])).2.2), (3, .slice ah ls.length ch), (6, .int .i64 sheets), (7, .int .u8 b), (12, .pointer (some ⟨b12, 0, none⟩)), (13, .pointer (some ⟨b13, 0, none⟩)), (34, .pointer (some ⟨b34, 0, none⟩)), (35, .pointer (some ⟨b35, 0, none⟩)), (36, .int .i64 (fringeV ls).2.2)] [.blk b34 (.cells (spRow (fringeV ls).1).toArray 24 (0, 0)), .blk b35 (.cells (spRow (fringeV ls).2.1).toArray 24 (0, 0)), .blk b12 (.cells (sfRow kk).toArray 51 (0, 0)), .blk b13 (.cells (spRow q).toArray 24 (0, 0)), .reg 0 w, .blk b232 (.cells (sfRow kk).toArray 51 (0, 0)), .own v233 51 4 (ls.length + 1) ((ls ++ [kk]).flatMap sfRow)] := by
      intro b228 v230 ho230 b232 v233 ho233
      refine Eq.mpr (hJ _ _ _ _) ?_
      refine xj_all (l := [11, 12]) (by kernel_rfl) (by simp) (Each.cons ⟨_, rfl, ?_⟩ (Each.cons ⟨_, rfl, ?_⟩ Each.nil))
      ·
        refine sq_alloc Try.zeroValue24 rfl (fun b37 => ?_)
        refine sq_nil ?_
        refine sx_xp SR ?_
        exact xj_sub rfl (by kernel_rfl) SU SR (Eq.mp (hJ _ _ _ _) (hS25_3 b228 v230 ho230 b232 v233 ho233 b37))
      ·
        refine sq_alloc Try.zeroValue24 rfl (fun b38 => ?_)
        refine sq_nil ?_
        refine sx_xp SR ?_
        exact xj_sub rfl (by kernel_rfl) SU SR (Eq.mp (hJ _ _ _ _) (hS25_4 b228 v230 ho230 b232 v233 ho233 b38))
    have hS25_6 : ∀ (b228 : Nat) (v230 : Value) (ho230 : v230.oneCell' = true) (b232 : Nat) (v233 : Value) (ho233 : v233.oneCell' = true) (b37 : Nat) (b38 : Nat), J 8 #[true, true, true, true, true, true, false, false, false, false, false, true, true, false, false, false] [(233, v233), (37, .pointer (some ⟨b37, 0, none⟩)), (38, .pointer (some ⟨b38, 0, none⟩)), (3, .slice ah ls.length ch), (6, .int .i64 sheets), (7, .int .u8 b), (12, .pointer (some ⟨b12, 0, none⟩)), (13, .pointer (some ⟨b13, 0, none⟩)), (34, .pointer (some ⟨b34, 0, none⟩)), (35, .pointer (some ⟨b35, 0, none⟩)), (36, .int .i64 (fringeV ls).2.2)] [.blk b34 (.cells (spRow (fringeV ls).1).toArray 24 (0, 0)), .blk b35 (.cells (spRow (fringeV ls).2.1).toArray 24 (0, 0)), .blk b12 (.cells (sfRow kk).toArray 51 (0, 0)), .blk b13 (.cells (spRow q).toArray 24 (0, 0)), .reg 0 w, .blk b232 (.cells (sfRow kk).toArray 51 (0, 0)), .own v233 51 4 (ls.length + 1) ((ls ++ [kk]).flatMap sfRow), .blk b37 (.cells (Value.agg #[.int .i64 0, .int .i64 0]).cells 24 (0, 0)), .blk b38 (.cells (Value.agg #[.int .i64 0, .int .i64 0]).cells 24 (0, 0))] := by
      intro b228 v230 ho230 b232 v233 ho233 b37 b38
      refine Eq.mpr (hJ _ _ _ _) ?_
      refine xj_one 6 RF (by kernel_rfl) ?_
      refine qy (yc Try.call14 E1 (fun w1 hw1 => fringe14v (l := (ls ++ [kk])) (n := ls.length + 1) (by simp) (by omega) w1 (hw1.ok (Res.own v233 51 4 (ls.length + 1) ((ls ++ [kk]).flatMap sfRow)) MM))) ?_
      refine sq_nil ?_
      refine sx_xp SR ?_
      refine xj_s 7 RF (by kernel_rfl) SR (y_move RF) rfl ?_
      refine xj_s 8 RF (by kernel_rfl) SR (y_extract RF RF) rfl ?_
      refine xj_s 9 RF (by kernel_rfl) SR (y_extract RF RF) rfl ?_
      refine xj_s 10 RF (by kernel_rfl) SR (y_extract RF RF) rfl ?_
      exact xj_sub rfl (by kernel_rfl) SU SR (Eq.mp (hJ _ _ _ _) (hS25_2 b228 v230 ho230 b232 v233 ho233 b37 b38))
    have hS25_7 : ∀ (b228 : Nat) (v230 : Value) (ho230 : v230.oneCell' = true) (b232 : Nat) (v233 : Value) (ho233 : v233.oneCell' = true) (b37 : Nat), J 9 #[true, true, true, true, true, true, false, false, false, false, false, true, false, false, false, false] [(233, v233), (37, .pointer (some ⟨b37, 0, none⟩)), (3, .slice ah ls.length ch), (6, .int .i64 sheets), (7, .int .u8 b), (12, .pointer (some ⟨b12, 0, none⟩)), (13, .pointer (some ⟨b13, 0, none⟩)), (34, .pointer (some ⟨b34, 0, none⟩)), (35, .pointer (some ⟨b35, 0, none⟩)), (36, .int .i64 (fringeV ls).2.2)] [.blk b34 (.cells (spRow (fringeV ls).1).toArray 24 (0, 0)), .blk b35 (.cells (spRow (fringeV ls).2.1).toArray 24 (0, 0)), .blk b12 (.cells (sfRow kk).toArray 51 (0, 0)), .blk b13 (.cells (spRow q).toArray 24 (0, 0)), .reg 0 w, .blk b232 (.cells (sfRow kk).toArray 51 (0, 0)), .own v233 51 4 (ls.length + 1) ((ls ++ [kk]).flatMap sfRow), .blk b37 (.cells (Value.agg #[.int .i64 0, .int .i64 0]).cells 24 (0, 0))] := by
      intro b228 v230 ho230 b232 v233 ho233 b37
      refine Eq.mpr (hJ _ _ _ _) ?_
      refine xj_all (l := [6, 12]) (by kernel_rfl) (by simp) (Each.cons ⟨_, rfl, ?_⟩ (Each.cons ⟨_, rfl, ?_⟩ Each.nil))
      ·
        refine qy (yc Try.call14 E1 (fun w1 hw1 => fringe14v (l := (ls ++ [kk])) (n := ls.length + 1) (by simp) (by omega) w1 (hw1.ok (Res.own v233 51 4 (ls.length + 1) ((ls ++ [kk]).flatMap sfRow)) MM))) ?_
        refine sq_nil ?_
        refine sx_xp SR ?_
        refine xj_s 7 RF (by kernel_rfl) SR (y_move RF) rfl ?_
        refine xj_s 8 RF (by kernel_rfl) SR (y_extract RF RF) rfl ?_
        refine xj_s 9 RF (by kernel_rfl) SR (y_extract RF RF) rfl ?_
        refine xj_s 10 RF (by kernel_rfl) SR (y_extract RF RF) rfl ?_
        exact xj_sub rfl (by kernel_rfl) SU SR (Eq.mp (hJ _ _ _ _) (hS25_3 b228 v230 ho230 b232 v233 ho233 b37))
      ·
        refine sq_alloc Try.zeroValue24 rfl (fun b38 => ?_)
        refine sq_nil ?_
        refine sx_xp SR ?_
        exact xj_sub rfl (by kernel_rfl) SU SR (Eq.mp (hJ _ _ _ _) (hS25_6 b228 v230 ho230 b232 v233 ho233 b37 b38))
    have hS25_8 : ∀ (b228 : Nat) (v230 : Value) (ho230 : v230.oneCell' = true) (b232 : Nat) (v233 : Value) (ho233 : v233.oneCell' = true) (b38 : Nat), J 9 #[true, true, true, true, true, true, false, false, false, false, false, false, true, false, false, false] [(233, v233), (38, .pointer (some ⟨b38, 0, none⟩)), (3, .slice ah ls.length ch), (6, .int .i64 sheets), (7, .int .u8 b), (12, .pointer (some ⟨b12, 0, none⟩)), (13, .pointer (some ⟨b13, 0, none⟩)), (34, .pointer (some ⟨b34, 0, none⟩)), (35, .pointer (some ⟨b35, 0, none⟩)), (36, .int .i64 (fringeV ls).2.2)] [.blk b34 (.cells (spRow (fringeV ls).1).toArray 24 (0, 0)), .blk b35 (.cells (spRow (fringeV ls).2.1).toArray 24 (0, 0)), .blk b12 (.cells (sfRow kk).toArray 51 (0, 0)), .blk b13 (.cells (spRow q).toArray 24 (0, 0)), .reg 0 w, .blk b232 (.cells (sfRow kk).toArray 51 (0, 0)), .own v233 51 4 (ls.length + 1) ((ls ++ [kk]).flatMap sfRow), .blk b38 (.cells (Value.agg #[.int .i64 0, .int .i64 0]).cells 24 (0, 0))] := by
      intro b228 v230 ho230 b232 v233 ho233 b38
      refine Eq.mpr (hJ _ _ _ _) ?_
      refine xj_all (l := [6, 11]) (by kernel_rfl) (by simp) (Each.cons ⟨_, rfl, ?_⟩ (Each.cons ⟨_, rfl, ?_⟩ Each.nil))
      ·
        refine qy (yc Try.call14 E1 (fun w1 hw1 => fringe14v (l := (ls ++ [kk])) (n := ls.length + 1) (by simp) (by omega) w1 (hw1.ok (Res.own v233 51 4 (ls.length + 1) ((ls ++ [kk]).flatMap sfRow)) MM))) ?_
        refine sq_nil ?_
        refine sx_xp SR ?_
        refine xj_s 7 RF (by kernel_rfl) SR (y_move RF) rfl ?_
        refine xj_s 8 RF (by kernel_rfl) SR (y_extract RF RF) rfl ?_
        refine xj_s 9 RF (by kernel_rfl) SR (y_extract RF RF) rfl ?_
        refine xj_s 10 RF (by kernel_rfl) SR (y_extract RF RF) rfl ?_
        exact xj_sub rfl (by kernel_rfl) SU SR (Eq.mp (hJ _ _ _ _) (hS25_4 b228 v230 ho230 b232 v233 ho233 b38))
      ·
        refine sq_alloc Try.zeroValue24 rfl (fun b37 => ?_)
        refine sq_nil ?_
        refine sx_xp SR ?_
        exact xj_sub rfl (by kernel_rfl) SU SR (Eq.mp (hJ _ _ _ _) (hS25_6 b228 v230 ho230 b232 v233 ho233 b37 b38))
    have hS25_9 : ∀ (b228 : Nat) (v230 : Value) (ho230 : v230.oneCell' = true) (b232 : Nat) (b37 : Nat) (b38 : Nat), J 9 #[true, true, true, true, true, false, false, false, false, false, false, true, true, false, false, false] [(230, v230), (232, .slice (some ⟨b232, 0, none⟩) 1 1), (37, .pointer (some ⟨b37, 0, none⟩)), (38, .pointer (some ⟨b38, 0, none⟩)), (3, .slice ah ls.length ch), (6, .int .i64 sheets), (7, .int .u8 b), (12, .pointer (some ⟨b12, 0, none⟩)), (13, .pointer (some ⟨b13, 0, none⟩)), (34, .pointer (some ⟨b34, 0, none⟩)), (35, .pointer (some ⟨b35, 0, none⟩)), (36, .int .i64 (fringeV ls).2.2)] [.blk b34 (.cells (spRow (fringeV ls).1).toArray 24 (0, 0)), .blk b35 (.cells (spRow (fringeV ls).2.1).toArray 24 (0, 0)), .blk b12 (.cells (sfRow kk).toArray 51 (0, 0)), .blk b13 (.cells (spRow q).toArray 24 (0, 0)), .reg 0 w, .own v230 51 4 (0 + ls.length) ([] ++ ls.flatMap sfRow), .blk b232 (.cells (sfRow kk).toArray 51 (0, 0)), .blk b37 (.cells (Value.agg #[.int .i64 0, .int .i64 0]).cells 24 (0, 0)), .blk b38 (.cells (Value.agg #[.int .i64 0, .int .i64 0]).cells 24 (0, 0))] := by
      intro b228 v230 ho230 b232 b37 b38
      refine Eq.mpr (hJ _ _ _ _) ?_
      refine xj_one 5 RF (by kernel_rfl) ?_
      refine sq_append (news := sfRow kk) Try.underlying22 ei51 rfl (by decide) RF RM RF rfl (fun _ hw => news_blk hw MM) (by simp [sfRow, Value.oneCell']) (by omega) rfl (fun v233 ho233 => ?_)
      refine sq_nil ?_
      refine sx_xp SR ?_
      rw [show 0 + ls.length + 1 = ls.length + 1 by omega, show [] ++ ls.flatMap sfRow ++ sfRow kk = (ls ++ [kk]).flatMap sfRow from by simp]
      exact xj_sub rfl (by kernel_rfl) SU SR (Eq.mp (hJ _ _ _ _) (hS25_6 b228 v230 ho230 b232 v233 ho233 b37 b38))
    have hS25_10 : ∀ (b228 : Nat) (v230 : Value) (ho230 : v230.oneCell' = true) (b232 : Nat) (v233 : Value) (ho233 : v233.oneCell' = true), J 10 #[true, true, true, true, true, true, false, false, false, false, false, false, false, false, false, false] [(233, v233), (3, .slice ah ls.length ch), (6, .int .i64 sheets), (7, .int .u8 b), (12, .pointer (some ⟨b12, 0, none⟩)), (13, .pointer (some ⟨b13, 0, none⟩)), (34, .pointer (some ⟨b34, 0, none⟩)), (35, .pointer (some ⟨b35, 0, none⟩)), (36, .int .i64 (fringeV ls).2.2)] [.blk b34 (.cells (spRow (fringeV ls).1).toArray 24 (0, 0)), .blk b35 (.cells (spRow (fringeV ls).2.1).toArray 24 (0, 0)), .blk b12 (.cells (sfRow kk).toArray 51 (0, 0)), .blk b13 (.cells (spRow q).toArray 24 (0, 0)), .reg 0 w, .blk b232 (.cells (sfRow kk).toArray 51 (0, 0)), .own v233 51 4 (ls.length + 1) ((ls ++ [kk]).flatMap sfRow)] := by
      intro b228 v230 ho230 b232 v233 ho233
      refine Eq.mpr (hJ _ _ _ _) ?_
      refine xj_all (l := [6, 11, 12]) (by kernel_rfl) (by simp) (Each.cons ⟨_, rfl, ?_⟩ (Each.cons ⟨_, rfl, ?_⟩ (Each.cons ⟨_, rfl, ?_⟩ Each.nil)))
      ·
        refine qy (yc Try.call14 E1 (fun w1 hw1 => fringe14v (l := (ls ++ [kk])) (n := ls.length + 1) (by simp) (by omega) w1 (hw1.ok (Res.own v233 51 4 (ls.length + 1) ((ls ++ [kk]).flatMap sfRow)) MM))) ?_
        refine sq_nil ?_
        refine sx_xp SR ?_
        refine xj_s 7 RF (by kernel_rfl) SR (y_move RF) rfl ?_
        refine xj_s 8 RF (by kernel_rfl) SR (y_extract RF RF) rfl ?_
        refine xj_s 9 RF (by kernel_rfl) SR (y_extract RF RF) rfl ?_
        refine xj_s 10 RF (by kernel_rfl) SR (y_extract RF RF) rfl ?_
        exact xj_sub rfl (by kernel_rfl) SU SR (Eq.mp (hJ _ _ _ _) (hS25_5 b228 v230 ho230 b232 v233 ho233))
      ·
        refine sq_alloc Try.zeroValue24 rfl (fun b37 => ?_)
        refine sq_nil ?_
        refine sx_xp SR ?_
        exact xj_sub rfl (by kernel_rfl) SU SR (Eq.mp (hJ _ _ _ _) (hS25_7 b228 v230 ho230 b232 v233 ho233 b37))
      ·
        refine sq_alloc Try.zeroValue24 rfl (fun b38 => ?_)
        refine sq_nil ?_
        refine sx_xp SR ?_
        exact xj_sub rfl (by kernel_rfl) SU SR (Eq.mp (hJ _ _ _ _) (hS25_8 b228 v230 ho230 b232 v233 ho233 b38))
    have hS25_11 : ∀ (b228 : Nat) (v230 : Value) (ho230 : v230.oneCell' = true) (b232 : Nat) (b37 : Nat), J 10 #[true, true, true, true, true, false, false, false, false, false, false, true, false, false, false, false] [(230, v230), (232, .slice (some ⟨b232, 0, none⟩) 1 1), (37, .pointer (some ⟨b37, 0, none⟩)), (3, .slice ah ls.length ch), (6, .int .i64 sheets), (7, .int .u8 b), (12, .pointer (some ⟨b12, 0, none⟩)), (13, .pointer (some ⟨b13, 0, none⟩)), (34, .pointer (some ⟨b34, 0, none⟩)), (35, .pointer (some ⟨b35, 0, none⟩)), (36, .int .i64 (fringeV ls).2.2)] [.blk b34 (.cells (spRow (fringeV ls).1).toArray 24 (0, 0)), .blk b35 (.cells (spRow (fringeV ls).2.1).toArray 24 (0, 0)), .blk b12 (.cells (sfRow kk).toArray 51 (0, 0)), .blk b13 (.cells (spRow q).toArray 24 (0, 0)), .reg 0 w, .own v230 51 4 (0 + ls.length) ([] ++ ls.flatMap sfRow), .blk b232 (.cells (sfRow kk).toArray 51 (0, 0)), .blk b37 (.cells (Value.agg #[.int .i64 0, .int .i64 0]).cells 24 (0, 0))] := by
      intro b228 v230 ho230 b232 b37
      refine Eq.mpr (hJ _ _ _ _) ?_
      refine xj_all (l := [5, 12]) (by kernel_rfl) (by simp) (Each.cons ⟨_, rfl, ?_⟩ (Each.cons ⟨_, rfl, ?_⟩ Each.nil))
      ·
        refine sq_append (news := sfRow kk) Try.underlying22 ei51 rfl (by decide) RF RM RF rfl (fun _ hw => news_blk hw MM) (by simp [sfRow, Value.oneCell']) (by omega) rfl (fun v233 ho233 => ?_)
        refine sq_nil ?_
        refine sx_xp SR ?_
        rw [show 0 + ls.length + 1 = ls.length + 1 by omega, show [] ++ ls.flatMap sfRow ++ sfRow kk = (ls ++ [kk]).flatMap sfRow from by simp]
        exact xj_sub rfl (by kernel_rfl) SU SR (Eq.mp (hJ _ _ _ _) (hS25_7 b228 v230 ho230 b232 v233 ho233 b37))
      ·
        refine sq_alloc Try.zeroValue24 rfl (fun b38 => ?_)
        refine sq_nil ?_
        refine sx_xp SR ?_
        exact xj_sub rfl (by kernel_rfl) SU SR (Eq.mp (hJ _ _ _ _) (hS25_9 b228 v230 ho230 b232 b37 b38))
    have hS25_12 : ∀ (b228 : Nat) (v230 : Value) (ho230 : v230.oneCell' = true) (b232 : Nat) (b38 : Nat), J 10 #[true, true, true, true, true, false, false, false, false, false, false, false, true, false, false, false] [(230, v230), (232, .slice (some ⟨b232, 0, none⟩) 1 1), (38, .pointer (some ⟨b38, 0, none⟩)), (3, .slice ah ls.length ch), (6, .int .i64 sheets), (7, .int .u8 b), (12, .pointer (some ⟨b12, 0, none⟩)), (13, .pointer (some ⟨b13, 0, none⟩)), (34, .pointer (some ⟨b34, 0, none⟩)), (35, .pointer (some ⟨b35, 0, none⟩)), (36, .int .i64 (fringeV ls).2.2)] [.blk b34 (.cells (spRow (fringeV ls).1).toArray 24 (0, 0)), .blk b35 (.cells (spRow (fringeV ls).2.1).toArray 24 (0, 0)), .blk b12 (.cells (sfRow kk).toArray 51 (0, 0)), .blk b13 (.cells (spRow q).toArray 24 (0, 0)), .reg 0 w, .own v230 51 4 (0 + ls.length) ([] ++ ls.flatMap sfRow), .blk b232 (.cells (sfRow kk).toArray 51 (0, 0)), .blk b38 (.cells (Value.agg #[.int .i64 0, .int .i64 0]).cells 24 (0, 0))] := by
      intro b228 v230 ho230 b232 b38
      refine Eq.mpr (hJ _ _ _ _) ?_
      refine xj_all (l := [5, 11]) (by kernel_rfl) (by simp) (Each.cons ⟨_, rfl, ?_⟩ (Each.cons ⟨_, rfl, ?_⟩ Each.nil))
      ·
        refine sq_append (news := sfRow kk) Try.underlying22 ei51 rfl (by decide) RF RM RF rfl (fun _ hw => news_blk hw MM) (by simp [sfRow, Value.oneCell']) (by omega) rfl (fun v233 ho233 => ?_)
        refine sq_nil ?_
        refine sx_xp SR ?_
        rw [show 0 + ls.length + 1 = ls.length + 1 by omega, show [] ++ ls.flatMap sfRow ++ sfRow kk = (ls ++ [kk]).flatMap sfRow from by simp]
        exact xj_sub rfl (by kernel_rfl) SU SR (Eq.mp (hJ _ _ _ _) (hS25_8 b228 v230 ho230 b232 v233 ho233 b38))
      ·
        refine sq_alloc Try.zeroValue24 rfl (fun b37 => ?_)
        refine sq_nil ?_
        refine sx_xp SR ?_
        exact xj_sub rfl (by kernel_rfl) SU SR (Eq.mp (hJ _ _ _ _) (hS25_9 b228 v230 ho230 b232 b37 b38))
    have hS25_13 : ∀ (b228 : Nat) (v230 : Value) (ho230 : v230.oneCell' = true) (b37 : Nat) (b38 : Nat), J 10 #[true, true, true, true, false, false, false, false, false, false, false, true, true, false, false, false] [(230, v230), (231, .agg (sfRow kk).toArray), (37, .pointer (some ⟨b37, 0, none⟩)), (38, .pointer (some ⟨b38, 0, none⟩)), (3, .slice ah ls.length ch), (6, .int .i64 sheets), (7, .int .u8 b), (12, .pointer (some ⟨b12, 0, none⟩)), (13, .pointer (some ⟨b13, 0, none⟩)), (34, .pointer (some ⟨b34, 0, none⟩)), (35, .pointer (some ⟨b35, 0, none⟩)), (36, .int .i64 (fringeV ls).2.2)] [.blk b34 (.cells (spRow (fringeV ls).1).toArray 24 (0, 0)), .blk b35 (.cells (spRow (fringeV ls).2.1).toArray 24 (0, 0)), .blk b12 (.cells (sfRow kk).toArray 51 (0, 0)), .blk b13 (.cells (spRow q).toArray 24 (0, 0)), .reg 0 w, .own v230 51 4 (0 + ls.length) ([] ++ ls.flatMap sfRow), .blk b37 (.cells (Value.agg #[.int .i64 0, .int .i64 0]).cells 24 (0, 0)), .blk b38 (.cells (Value.agg #[.int .i64 0, .int .i64 0]).cells 24 (0, 0))] := by
      intro b228 v230 ho230 b37 b38
      refine Eq.mpr (hJ _ _ _ _) ?_
      refine xj_one 4 RF (by kernel_rfl) ?_
      refine sq_bs Try.underlying22 ei51 (EvI.cons RF EvI.nil) (by first | (simp [Value.cells]; done) | (simp [Value.cells]; rfl) | (simp [Value.cells]; and_intros <;> rfl)) rfl rfl rfl (fun b232 => ?_)
      refine sq_nil ?_
      refine sx_xp SR ?_
      exact xj_sub rfl (by kernel_rfl) SU SR (Eq.mp (hJ _ _ _ _) (hS25_9 b228 v230 ho230 b232 b37 b38))
    have hS25_14 : ∀ (b228 : Nat) (b232 : Nat) (b37 : Nat) (b38 : Nat), J 10 #[true, true, false, true, true, false, false, false, false, false, false, true, true, false, false, false] [(228, .slice (some ⟨b228, 0, none⟩) 0 0), (229, .slice ah ls.length ch), (232, .slice (some ⟨b232, 0, none⟩) 1 1), (37, .pointer (some ⟨b37, 0, none⟩)), (38, .pointer (some ⟨b38, 0, none⟩)), (3, .slice ah ls.length ch), (6, .int .i64 sheets), (7, .int .u8 b), (12, .pointer (some ⟨b12, 0, none⟩)), (13, .pointer (some ⟨b13, 0, none⟩)), (34, .pointer (some ⟨b34, 0, none⟩)), (35, .pointer (some ⟨b35, 0, none⟩)), (36, .int .i64 (fringeV ls).2.2)] [.blk b34 (.cells (spRow (fringeV ls).1).toArray 24 (0, 0)), .blk b35 (.cells (spRow (fringeV ls).2.1).toArray 24 (0, 0)), .blk b12 (.cells (sfRow kk).toArray 51 (0, 0)), .blk b13 (.cells (spRow q).toArray 24 (0, 0)), .reg 0 w, .own (.slice (some ⟨b228, 0, none⟩) 0 0) 51 4 0 [], .blk b232 (.cells (sfRow kk).toArray 51 (0, 0)), .blk b37 (.cells (Value.agg #[.int .i64 0, .int .i64 0]).cells 24 (0, 0)), .blk b38 (.cells (Value.agg #[.int .i64 0, .int .i64 0]).cells 24 (0, 0))] := by
      intro b228 b232 b37 b38
      refine Eq.mpr (hJ _ _ _ _) ?_
      refine xj_one 2 RF (by kernel_rfl) ?_
      refine sq_append_rows (news := ls.flatMap sfRow) Try.underlying22 ei51 Try.sizeOf51 rfl (by decide) RF RM RF hs.noa (flat_len sfRow_len ls) (fun ad had w1 hw1 => rows_cells sfRow_len (by decide) (fun i x hi => by rw [← had]; exact ((hs.at hw1 MM).el i x hi).2)) (sf_one ls) (by omega) rfl (fun v230 ho230 => ?_)
      refine sq_nil ?_
      refine sx_xp SR ?_
      exact xj_sub rfl (by kernel_rfl) SU SR (Eq.mp (hJ _ _ _ _) (hS25_9 b228 v230 ho230 b232 b37 b38))
    have hS25_15 : ∀ (b228 : Nat) (v230 : Value) (ho230 : v230.oneCell' = true) (b232 : Nat), J 11 #[true, true, true, true, true, false, false, false, false, false, false, false, false, false, false, false] [(230, v230), (232, .slice (some ⟨b232, 0, none⟩) 1 1), (3, .slice ah ls.length ch), (6, .int .i64 sheets), (7, .int .u8 b), (12, .pointer (some ⟨b12, 0, none⟩)), (13, .pointer (some ⟨b13, 0, none⟩)), (34, .pointer (some ⟨b34, 0, none⟩)), (35, .pointer (some ⟨b35, 0, none⟩)), (36, .int .i64 (fringeV ls).2.2)] [.blk b34 (.cells (spRow (fringeV ls).1).toArray 24 (0, 0)), .blk b35 (.cells (spRow (fringeV ls).2.1).toArray 24 (0, 0)), .blk b12 (.cells (sfRow kk).toArray 51 (0, 0)), .blk b13 (.cells (spRow q).toArray 24 (0, 0)), .reg 0 w, .own v230 51 4 (0 + ls.length) ([] ++ ls.flatMap sfRow), .blk b232 (.cells (sfRow kk).toArray 51 (0, 0))] := by
      intro b228 v230 ho230 b232
      refine Eq.mpr (hJ _ _ _ _) ?_
      refine xj_all (l := [5, 11, 12]) (by kernel_rfl) (by simp) (Each.cons ⟨_, rfl, ?_⟩ (Each.cons ⟨_, rfl, ?_⟩ (Each.cons ⟨_, rfl, ?_⟩ Each.nil)))
      ·
        refine sq_append (news := sfRow kk) Try.underlying22 ei51 rfl (by decide) RF RM RF rfl (fun _ hw => news_blk hw MM) (by simp [sfRow, Value.oneCell']) (by omega) rfl (fun v233 ho233 => ?_)
        refine sq_nil ?_
        refine sx_xp SR ?_
        rw [show 0 + ls.length + 1 = ls.length + 1 by omega, show [] ++ ls.flatMap sfRow ++ sfRow kk = (ls ++ [kk]).flatMap sfRow from by simp]
        exact xj_sub rfl (by kernel_rfl) SU SR (Eq.mp (hJ _ _ _ _) (hS25_10 b228 v230 ho230 b232 v233 ho233))
      ·
        refine sq_alloc Try.zeroValue24 rfl (fun b37 => ?_)
        refine sq_nil ?_
        refine sx_xp SR ?_
        exact xj_sub rfl (by kernel_rfl) SU SR (Eq.mp (hJ _ _ _ _) (hS25_11 b228 v230 ho230 b232 b37))
      ·
        refine sq_alloc Try.zeroValue24 rfl (fun b38 => ?_)
        refine sq_nil ?_
        refine sx_xp SR ?_
        exact xj_sub rfl (by kernel_rfl) SU SR (Eq.mp (hJ _ _ _ _) (hS25_12 b228 v230 ho230 b232 b38))
    have hS25_16 : ∀ (b228 : Nat) (v230 : Value) (ho230 : v230.oneCell' = true) (b37 : Nat), J 11 #[true, true, true, true, false, false, false, false, false, false, false, true, false, false, false, false] [(230, v230), (231, .agg (sfRow kk).toArray), (37, .pointer (some ⟨b37, 0, none⟩)), (3, .slice ah ls.length ch), (6, .int .i64 sheets), (7, .int .u8 b), (12, .pointer (some ⟨b12, 0, none⟩)), (13, .pointer (some ⟨b13, 0, none⟩)), (34, .pointer (some ⟨b34, 0, none⟩)), (35, .pointer (some ⟨b35, 0, none⟩)), (36, .int .i64 (fringeV ls).2.2)] [.blk b34 (.cells (spRow (fringeV ls).1).toArray 24 (0, 0)), .blk b35 (.cells (spRow (fringeV ls).2.1).toArray 24 (0, 0)), .blk b12 (.cells (sfRow kk).toArray 51 (0, 0)), .blk b13 (.cells (spRow q).toArray 24 (0, 0)), .reg 0 w, .own v230 51 4 (0 + ls.length) ([] ++ ls.flatMap sfRow), .blk b37 (.cells (Value.agg #[.int .i64 0, .int .i64 0]).cells 24 (0, 0))] := by
      intro b228 v230 ho230 b37
      refine Eq.mpr (hJ _ _ _ _) ?_
      refine xj_all (l := [4, 12]) (by kernel_rfl) (by simp) (Each.cons ⟨_, rfl, ?_⟩ (Each.cons ⟨_, rfl, ?_⟩ Each.nil))
      ·
        refine sq_bs Try.underlying22 ei51 (EvI.cons RF EvI.nil) (by first | (simp [Value.cells]; done) | (simp [Value.cells]; rfl) | (simp [Value.cells]; and_intros <;> rfl)) rfl rfl rfl (fun b232 => ?_)
        refine sq_nil ?_
        refine sx_xp SR ?_
        exact xj_sub rfl (by kernel_rfl) SU SR (Eq.mp (hJ _ _ _ _) (hS25_11 b228 v230 ho230 b232 b37))
      ·
        refine sq_alloc Try.zeroValue24 rfl (fun b38 => ?_)
        refine sq_nil ?_
        refine sx_xp SR ?_
        exact xj_sub rfl (by kernel_rfl) SU SR (Eq.mp (hJ _ _ _ _) (hS25_13 b228 v230 ho230 b37 b38))
    have hS25_17 : ∀ (b228 : Nat) (v230 : Value) (ho230 : v230.oneCell' = true) (b38 : Nat), J 11 #[true, true, true, true, false, false, false, false, false, false, false, false, true, false, false, false] [(230, v230), (231, .agg (sfRow kk).toArray), (38, .pointer (some ⟨b38, 0, none⟩)), (3, .slice ah ls.length ch), (6, .int .i64 sheets), (7, .int .u8 b), (12, .pointer (some ⟨b12, 0, none⟩)), (13, .pointer (some ⟨b13, 0, none⟩)), (34, .pointer (some ⟨b34, 0, none⟩)), (35, .pointer (some ⟨b35, 0, none⟩)), (36, .int .i64 (fringeV ls).2.2)] [.blk b34 (.cells (spRow (fringeV ls).1).toArray 24 (0, 0)), .blk b35 (.cells (spRow (fringeV ls).2.1).toArray 24 (0, 0)), .blk b12 (.cells (sfRow kk).toArray 51 (0, 0)), .blk b13 (.cells (spRow q).toArray 24 (0, 0)), .reg 0 w, .own v230 51 4 (0 + ls.length) ([] ++ ls.flatMap sfRow), .blk b38 (.cells (Value.agg #[.int .i64 0, .int .i64 0]).cells 24 (0, 0))] := by
      intro b228 v230 ho230 b38
      refine Eq.mpr (hJ _ _ _ _) ?_
      refine xj_all (l := [4, 11]) (by kernel_rfl) (by simp) (Each.cons ⟨_, rfl, ?_⟩ (Each.cons ⟨_, rfl, ?_⟩ Each.nil))
      ·
        refine sq_bs Try.underlying22 ei51 (EvI.cons RF EvI.nil) (by first | (simp [Value.cells]; done) | (simp [Value.cells]; rfl) | (simp [Value.cells]; and_intros <;> rfl)) rfl rfl rfl (fun b232 => ?_)
        refine sq_nil ?_
        refine sx_xp SR ?_
        exact xj_sub rfl (by kernel_rfl) SU SR (Eq.mp (hJ _ _ _ _) (hS25_12 b228 v230 ho230 b232 b38))
      ·
        refine sq_alloc Try.zeroValue24 rfl (fun b37 => ?_)
        refine sq_nil ?_
        refine sx_xp SR ?_
        exact xj_sub rfl (by kernel_rfl) SU SR (Eq.mp (hJ _ _ _ _) (hS25_13 b228 v230 ho230 b37 b38))
    have hS25_18 : ∀ (b228 : Nat) (b232 : Nat) (b37 : Nat), J 11 #[true, true, false, true, true, false, false, false, false, false, false, true, false, false, false, false] [(228, .slice (some ⟨b228, 0, none⟩) 0 0), (229, .slice ah ls.length ch), (232, .slice (some ⟨b232, 0, none⟩) 1 1), (37, .pointer (some ⟨b37, 0, none⟩)), (3, .slice ah ls.length ch), (6, .int .i64 sheets), (7, .int .u8 b), (12, .pointer (some ⟨b12, 0, none⟩)), (13, .pointer (some ⟨b13, 0, none⟩)), (34, .pointer (some ⟨b34, 0, none⟩)), (35, .pointer (some ⟨b35, 0, none⟩)), (36, .int .i64 (fringeV ls).2.2)] [.blk b34 (.cells (spRow (fringeV ls).1).toArray 24 (0, 0)), .blk b35 (.cells (spRow (fringeV ls).2.1).toArray 24 (0, 0)), .blk b12 (.cells (sfRow kk).toArray 51 (0, 0)), .blk b13 (.cells (spRow q).toArray 24 (0, 0)), .reg 0 w, .own (.slice (some ⟨b228, 0, none⟩) 0 0) 51 4 0 [], .blk b232 (.cells (sfRow kk).toArray 51 (0, 0)), .blk b37 (.cells (Value.agg #[.int .i64 0, .int .i64 0]).cells 24 (0, 0))] := by
      intro b228 b232 b37
      refine Eq.mpr (hJ _ _ _ _) ?_
      refine xj_all (l := [2, 12]) (by kernel_rfl) (by simp) (Each.cons ⟨_, rfl, ?_⟩ (Each.cons ⟨_, rfl, ?_⟩ Each.nil))
      ·
        refine sq_append_rows (news := ls.flatMap sfRow) Try.underlying22 ei51 Try.sizeOf51 rfl (by decide) RF RM RF hs.noa (flat_len sfRow_len ls) (fun ad had w1 hw1 => rows_cells sfRow_len (by decide) (fun i x hi => by rw [← had]; exact ((hs.at hw1 MM).el i x hi).2)) (sf_one ls) (by omega) rfl (fun v230 ho230 => ?_)
        refine sq_nil ?_
        refine sx_xp SR ?_
        exact xj_sub rfl (by kernel_rfl) SU SR (Eq.mp (hJ _ _ _ _) (hS25_11 b228 v230 ho230 b232 b37))
      ·
        refine sq_alloc Try.zeroValue24 rfl (fun b38 => ?_)
        refine sq_nil ?_
        refine sx_xp SR ?_
        exact xj_sub rfl (by kernel_rfl) SU SR (Eq.mp (hJ _ _ _ _) (hS25_14 b228 b232 b37 b38))
    have hS25_19 : ∀ (b228 : Nat) (b232 : Nat) (b38 : Nat), J 11 #[true, true, false, true, true, false, false, false, false, false, false, false, true, false, false, false] [(228, .slice (some ⟨b228, 0, none⟩) 0 0), (229, .slice ah ls.length ch), (232, .slice (some ⟨b232, 0, none⟩) 1 1), (38, .pointer (some ⟨b38, 0, none⟩)), (3, .slice ah ls.length ch), (6, .int .i64 sheets), (7, .int .u8 b), (12, .pointer (some ⟨b12, 0, none⟩)), (13, .pointer (some ⟨b13, 0, none⟩)), (34, .pointer (some ⟨b34, 0, none⟩)), (35, .pointer (some ⟨b35, 0, none⟩)), (36, .int .i64 (fringeV ls).2.2)] [.blk b34 (.cells (spRow (fringeV ls).1).toArray 24 (0, 0)), .blk b35 (.cells (spRow (fringeV ls).2.1).toArray 24 (0, 0)), .blk b12 (.cells (sfRow kk).toArray 51 (0, 0)), .blk b13 (.cells (spRow q).toArray 24 (0, 0)), .reg 0 w, .own (.slice (some ⟨b228, 0, none⟩) 0 0) 51 4 0 [], .blk b232 (.cells (sfRow kk).toArray 51 (0, 0)), .blk b38 (.cells (Value.agg #[.int .i64 0, .int .i64 0]).cells 24 (0, 0))] := by
      intro b228 b232 b38
      refine Eq.mpr (hJ _ _ _ _) ?_
      refine xj_all (l := [2, 11]) (by kernel_rfl) (by simp) (Each.cons ⟨_, rfl, ?_⟩ (Each.cons ⟨_, rfl, ?_⟩ Each.nil))
      ·
        refine sq_append_rows (news := ls.flatMap sfRow) Try.underlying22 ei51 Try.sizeOf51 rfl (by decide) RF RM RF hs.noa (flat_len sfRow_len ls) (fun ad had w1 hw1 => rows_cells sfRow_len (by decide) (fun i x hi => by rw [← had]; exact ((hs.at hw1 MM).el i x hi).2)) (sf_one ls) (by omega) rfl (fun v230 ho230 => ?_)
        refine sq_nil ?_
        refine sx_xp SR ?_
        exact xj_sub rfl (by kernel_rfl) SU SR (Eq.mp (hJ _ _ _ _) (hS25_12 b228 v230 ho230 b232 b38))
      ·
        refine sq_alloc Try.zeroValue24 rfl (fun b37 => ?_)
        refine sq_nil ?_
        refine sx_xp SR ?_
        exact xj_sub rfl (by kernel_rfl) SU SR (Eq.mp (hJ _ _ _ _) (hS25_14 b228 b232 b37 b38))
    have hS25_20 : ∀ (b228 : Nat) (b37 : Nat) (b38 : Nat), J 11 #[true, true, false, true, false, false, false, false, false, false, false, true, true, false, false, false] [(228, .slice (some ⟨b228, 0, none⟩) 0 0), (229, .slice ah ls.length ch), (231, .agg (sfRow kk).toArray), (37, .pointer (some ⟨b37, 0, none⟩)), (38, .pointer (some ⟨b38, 0, none⟩)), (3, .slice ah ls.length ch), (6, .int .i64 sheets), (7, .int .u8 b), (12, .pointer (some ⟨b12, 0, none⟩)), (13, .pointer (some ⟨b13, 0, none⟩)), (34, .pointer (some ⟨b34, 0, none⟩)), (35, .pointer (some ⟨b35, 0, none⟩)), (36, .int .i64 (fringeV ls).2.2)] [.blk b34 (.cells (spRow (fringeV ls).1).toArray 24 (0, 0)), .blk b35 (.cells (spRow (fringeV ls).2.1).toArray 24 (0, 0)), .blk b12 (.cells (sfRow kk).toArray 51 (0, 0)), .blk b13 (.cells (spRow q).toArray 24 (0, 0)), .reg 0 w, .own (.slice (some ⟨b228, 0, none⟩) 0 0) 51 4 0 [], .blk b37 (.cells (Value.agg #[.int .i64 0, .int .i64 0]).cells 24 (0, 0)), .blk b38 (.cells (Value.agg #[.int .i64 0, .int .i64 0]).cells 24 (0, 0))] := by
      intro b228 b37 b38
      refine Eq.mpr (hJ _ _ _ _) ?_
      refine xj_all (l := [2, 4]) (by kernel_rfl) (by simp) (Each.cons ⟨_, rfl, ?_⟩ (Each.cons ⟨_, rfl, ?_⟩ Each.nil))
      ·
        refine sq_append_rows (news := ls.flatMap sfRow) Try.underlying22 ei51 Try.sizeOf51 rfl (by decide) RF RM RF hs.noa (flat_len sfRow_len ls) (fun ad had w1 hw1 => rows_cells sfRow_len (by decide) (fun i x hi => by rw [← had]; exact ((hs.at hw1 MM).el i x hi).2)) (sf_one ls) (by omega) rfl (fun v230 ho230 => ?_)
        refine sq_nil ?_
        refine sx_xp SR ?_
        exact xj_sub rfl (by kernel_rfl) SU SR (Eq.mp (hJ _ _ _ _) (hS25_13 b228 v230 ho230 b37 b38))
      ·
        refine sq_bs Try.underlying22 ei51 (EvI.cons RF EvI.nil) (by first | (simp [Value.cells]; done) | (simp [Value.cells]; rfl) | (simp [Value.cells]; and_intros <;> rfl)) rfl rfl rfl (fun b232 => ?_)
        refine sq_nil ?_
        refine sx_xp SR ?_
        exact xj_sub rfl (by kernel_rfl) SU SR (Eq.mp (hJ _ _ _ _) (hS25_14 b228 b232 b37 b38))
    have hS25_21 : ∀ (b232 : Nat) (b37 : Nat) (b38 : Nat), J 11 #[false, true, false, true, true, false, false, false, false, false, false, true, true, false, false, false] [(229, .slice ah ls.length ch), (232, .slice (some ⟨b232, 0, none⟩) 1 1), (37, .pointer (some ⟨b37, 0, none⟩)), (38, .pointer (some ⟨b38, 0, none⟩)), (3, .slice ah ls.length ch), (6, .int .i64 sheets), (7, .int .u8 b), (12, .pointer (some ⟨b12, 0, none⟩)), (13, .pointer (some ⟨b13, 0, none⟩)), (34, .pointer (some ⟨b34, 0, none⟩)), (35, .pointer (some ⟨b35, 0, none⟩)), (36, .int .i64 (fringeV ls).2.2)] [.blk b34 (.cells (spRow (fringeV ls).1).toArray 24 (0, 0)), .blk b35 (.cells (spRow (fringeV ls).2.1).toArray 24 (0, 0)), .blk b12 (.cells (sfRow kk).toArray 51 (0, 0)), .blk b13 (.cells (spRow q).toArray 24 (0, 0)), .reg 0 w, .blk b232 (.cells (sfRow kk).toArray 51 (0, 0)), .blk b37 (.cells (Value.agg #[.int .i64 0, .int .i64 0]).cells 24 (0, 0)), .blk b38 (.cells (Value.agg #[.int .i64 0, .int .i64 0]).cells 24 (0, 0))] := by
      intro b232 b37 b38
      refine Eq.mpr (hJ _ _ _ _) ?_
      refine xj_one 0 RF (by kernel_rfl) ?_
      refine sq_bs Try.underlying22 ei51 (EvI.nil) (by simp) rfl rfl rfl (fun b228 => ?_)
      refine sq_blk_own0 (sz := 4) (c := 0) RM rfl (Nat.zero_le _) ?_
      refine sq_nil ?_
      refine sx_xp SR ?_
      exact xj_sub rfl (by kernel_rfl) SU SR (Eq.mp (hJ _ _ _ _) (hS25_14 b228 b232 b37 b38))
    have hS25_22 : ∀ (b228 : Nat) (v230 : Value) (ho230 : v230.oneCell' = true), J 12 #[true, true, true, true, false, false, false, false, false, false, false, false, false, false, false, false] [(230, v230), (231, .agg (sfRow kk).toArray), (3, .slice ah ls.length ch), (6, .int .i64 sheets), (7, .int .u8 b), (12, .pointer (some ⟨b12, 0, none⟩)), (13, .pointer (some ⟨b13, 0, none⟩)), (34, .pointer (some ⟨b34, 0, none⟩)), (35, .pointer (some ⟨b35, 0, none⟩)), (36, .int .i64 (fringeV ls).2.2)] [.blk b34 (.cells (spRow (fringeV ls).1).toArray 24 (0, 0)), .blk b35 (.cells (spRow (fringeV ls).2.1).toArray 24 (0, 0)), .blk b12 (.cells (sfRow kk).toArray 51 (0, 0)), .blk b13 (.cells (spRow q).toArray 24 (0, 0)), .reg 0 w, .own v230 51 4 (0 + ls.length) ([] ++ ls.flatMap sfRow)] := by
      intro b228 v230 ho230
      refine Eq.mpr (hJ _ _ _ _) ?_
      refine xj_all (l := [4, 11, 12]) (by kernel_rfl) (by simp) (Each.cons ⟨_, rfl, ?_⟩ (Each.cons ⟨_, rfl, ?_⟩ (Each.cons ⟨_, rfl, ?_⟩ Each.nil)))
      ·
        refine sq_bs Try.underlying22 ei51 (EvI.cons RF EvI.nil) (by first | (simp [Value.cells]; done) | (simp [Value.cells]; rfl) | (simp [Value.cells]; and_intros <;> rfl)) rfl rfl rfl (fun b232 => ?_)
        refine sq_nil ?_
        refine sx_xp SR ?_
        exact xj_sub rfl (by kernel_rfl) SU SR (Eq.mp (hJ _ _ _ _) (hS25_15 b228 v230 ho230 b232))
      ·
        refine sq_alloc Try.zeroValue24 rfl (fun b37 => ?_)
        refine sq_nil ?_
        refine sx_xp SR ?_
        exact xj_sub rfl (by kernel_rfl) SU SR (Eq.mp (hJ _ _ _ _) (hS25_16 b228 v230 ho230 b37))
      ·
        refine sq_alloc Try.zeroValue24 rfl (fun b38 => ?_)
        refine sq_nil ?_
        refine sx_xp SR ?_
        exact xj_sub rfl (by kernel_rfl) SU SR (Eq.mp (hJ _ _ _ _) (hS25_17 b228 v230 ho230 b38))
    have hS25_23 : ∀ (b228 : Nat) (b232 : Nat), J 12 #[true, true, false, true, true, false, false, false, false, false, false, false, false, false, false, false] [(228, .slice (some ⟨b228, 0, none⟩) 0 0), (229, .slice ah ls.length ch), (232, .slice (some ⟨b232, 0, none⟩) 1 1), (3, .slice ah ls.length ch), (6, .int .i64 sheets), (7, .int .u8 b), (12, .pointer (some ⟨b12, 0, none⟩)), (13, .pointer (some ⟨b13, 0, none⟩)), (34, .pointer (some ⟨b34, 0, none⟩)), (35, .pointer (some ⟨b35, 0, none⟩)), (36, .int .i64 (fringeV ls).2.2)] [.blk b34 (.cells (spRow (fringeV ls).1).toArray 24 (0, 0)), .blk b35 (.cells (spRow (fringeV ls).2.1).toArray 24 (0, 0)), .blk b12 (.cells (sfRow kk).toArray 51 (0, 0)), .blk b13 (.cells (spRow q).toArray 24 (0, 0)), .reg 0 w, .own (.slice (some ⟨b228, 0, none⟩) 0 0) 51 4 0 [], .blk b232 (.cells (sfRow kk).toArray 51 (0, 0))] := by
      intro b228 b232
      refine Eq.mpr (hJ _ _ _ _) ?_
      refine xj_all (l := [2, 11, 12]) (by kernel_rfl) (by simp) (Each.cons ⟨_, rfl, ?_⟩ (Each.cons ⟨_, rfl, ?_⟩ (Each.cons ⟨_, rfl, ?_⟩ Each.nil)))
      ·
        refine sq_append_rows (news := ls.flatMap sfRow) Try.underlying22 ei51 Try.sizeOf51 rfl (by decide) RF RM RF hs.noa (flat_len sfRow_len ls) (fun ad had w1 hw1 => rows_cells sfRow_len (by decide) (fun i x hi => by rw [← had]; exact ((hs.at hw1 MM).el i x hi).2)) (sf_one ls) (by omega) rfl (fun v230 ho230 => ?_)
        refine sq_nil ?_
        refine sx_xp SR ?_
        exact xj_sub rfl (by kernel_rfl) SU SR (Eq.mp (hJ _ _ _ _) (hS25_15 b228 v230 ho230 b232))
      ·
        refine sq_alloc Try.zeroValue24 rfl (fun b37 => ?_)
        refine sq_nil ?_
        refine sx_xp SR ?_
        exact xj_sub rfl (by kernel_rfl) SU SR (Eq.mp (hJ _ _ _ _) (hS25_18 b228 b232 b37))
      ·
        refine sq_alloc Try.zeroValue24 rfl (fun b38 => ?_)
        refine sq_nil ?_
        refine sx_xp SR ?_
        exact xj_sub rfl (by kernel_rfl) SU SR (Eq.mp (hJ _ _ _ _) (hS25_19 b228 b232 b38))
    have hS25_24 : ∀ (b228 : Nat) (b37 : Nat), J 12 #[true, true, false, true, false, false, false, false, false, false, false, true, false, false, false, false] [(228, .slice (some ⟨b228, 0, none⟩) 0 0), (229, .slice ah ls.length ch), (231, .agg (sfRow kk).toArray), (37, .pointer (some ⟨b37, 0, none⟩)), (3, .slice ah ls.length ch), (6, .int .i64 sheets), (7, .int .u8 b), (12, .pointer (some ⟨b12, 0, none⟩)), (13, .pointer (some ⟨b13, 0, none⟩)), (34, .pointer (some ⟨b34, 0, none⟩)), (35, .pointer (some ⟨b35, 0, none⟩)), (36, .int .i64 (fringeV ls).2.2)] [.blk b34 (.cells (spRow (fringeV ls).1).toArray 24 (0, 0)), .blk b35 (.cells (spRow (fringeV ls).2.1).toArray 24 (0, 0)), .blk b12 (.cells (sfRow kk).toArray 51 (0, 0)), .blk b13 (.cells (spRow q).toArray 24 (0, 0)), .reg 0 w, .own (.slice (some ⟨b228, 0, none⟩) 0 0) 51 4 0 [], .blk b37 (.cells (Value.agg #[.int .i64 0, .int .i64 0]).cells 24 (0, 0))] := by
      intro b228 b37
      refine Eq.mpr (hJ _ _ _ _) ?_
      refine xj_all (l := [2, 4, 12]) (by kernel_rfl) (by simp) (Each.cons ⟨_, rfl, ?_⟩ (Each.cons ⟨_, rfl, ?_⟩ (Each.cons ⟨_, rfl, ?_⟩ Each.nil)))
      ·
        refine sq_append_rows (news := ls.flatMap sfRow) Try.underlying22 ei51 Try.sizeOf51 rfl (by decide) RF RM RF hs.noa (flat_len sfRow_len ls) (fun ad had w1 hw1 => rows_cells sfRow_len (by decide) (fun i x hi => by rw [← had]; exact ((hs.at hw1 MM).el i x hi).2)) (sf_one ls) (by omega) rfl (fun v230 ho230 => ?_)
        refine sq_nil ?_
        refine sx_xp SR ?_
        exact xj_sub rfl (by kernel_rfl) SU SR (Eq.mp (hJ _ _ _ _) (hS25_16 b228 v230 ho230 b37))
      ·
        refine sq_bs Try.underlying22 ei51 (EvI.cons RF EvI.nil) (by first | (simp [Value.cells]; done) | (simp [Value.cells]; rfl) | (simp [Value.cells]; and_intros <;> rfl)) rfl rfl rfl (fun b232 => ?_)
        refine sq_nil ?_
        refine sx_xp SR ?_
        exact xj_sub rfl (by kernel_rfl) SU SR (Eq.mp (hJ _ _ _ _) (hS25_18 b228 b232 b37))
      ·
        refine sq_alloc Try.zeroValue24 rfl (fun b38 => ?_)
        refine sq_nil ?_
        refine sx_xp SR ?_
        exact xj_sub rfl (by kernel_rfl) SU SR (Eq.mp (hJ _ _ _ _) (hS25_20 b228 b37 b38))
    have hS25_25 : ∀ (b228 : Nat) (b38 : Nat), J 12 #[true, true, false, true, false, false, false, false, false, false, false, false, true, false, false, false] [(228, .slice (some ⟨b228, 0, none⟩) 0 0), (229, .slice ah ls.length ch), (231, .agg (sfRow kk).toArray), (38, .pointer (some ⟨b38, 0, none⟩)), (3, .slice ah ls.length ch), (6, .int .i64 sheets), (7, .int .u8 b), (12, .pointer (some ⟨b12, 0, none⟩)), (13, .pointer (some ⟨b13, 0, none⟩)), (34, .pointer (some ⟨b34, 0, none⟩)), (35, .pointer (some ⟨b35, 0, none⟩)), (36, .int .i64 (fringeV ls).2.2)] [.blk b34 (.cells (spRow (fringeV ls).1).toArray 24 (0, 0)), .blk b35 (.cells (spRow (fringeV ls).2.1).toArray 24 (0, 0)), .blk b12 (.cells (sfRow kk).toArray 51 (0, 0)), .blk b13 (.cells (spRow q).toArray 24 (0, 0)), .reg 0 w, .own (.slice (some ⟨b228, 0, none⟩) 0 0) 51 4 0 [], .blk b38 (.cells (Value.agg #[.int .i64 0, .int .i64 0]).cells 24 (0, 0))] := by
      intro b228 b38
      refine Eq.mpr (hJ _ _ _ _) ?_
      refine xj_all (l := [2, 4, 11]) (by kernel_rfl) (by simp) (Each.cons ⟨_, rfl, ?_⟩ (Each.cons ⟨_, rfl, ?_⟩ (Each.cons ⟨_, rfl, ?_⟩ Each.nil)))
      ·
        refine sq_append_rows (news := ls.flatMap sfRow) Try.underlying22 ei51 Try.sizeOf51 rfl (by decide) RF RM RF hs.noa (flat_len sfRow_len ls) (fun ad had w1 hw1 => rows_cells sfRow_len (by decide) (fun i x hi => by rw [← had]; exact ((hs.at hw1 MM).el i x hi).2)) (sf_one ls) (by omega) rfl (fun v230 ho230 => ?_)
        refine sq_nil ?_
        refine sx_xp SR ?_
        exact xj_sub rfl (by kernel_rfl) SU SR (Eq.mp (hJ _ _ _ _) (hS25_17 b228 v230 ho230 b38))
      ·
        refine sq_bs Try.underlying22 ei51 (EvI.cons RF EvI.nil) (by first | (simp [Value.cells]; done) | (simp [Value.cells]; rfl) | (simp [Value.cells]; and_intros <;> rfl)) rfl rfl rfl (fun b232 => ?_)
        refine sq_nil ?_
        refine sx_xp SR ?_
        exact xj_sub rfl (by kernel_rfl) SU SR (Eq.mp (hJ _ _ _ _) (hS25_19 b228 b232 b38))
      ·
        refine sq_alloc Try.zeroValue24 rfl (fun b37 => ?_)
        refine sq_nil ?_
        refine sx_xp SR ?_
        exact xj_sub rfl (by kernel_rfl) SU SR (Eq.mp (hJ _ _ _ _) (hS25_20 b228 b37 b38))
    have hS25_26 : ∀ (b232 : Nat) (b37 : Nat), J 12 #[false, true, false, true, true, false, false, false, false, false, false, true, false, false, false, false] [(229, .slice ah ls.length ch), (232, .slice (some ⟨b232, 0, none⟩) 1 1), (37, .pointer (some ⟨b37, 0, none⟩)), (3, .slice ah ls.length ch), (6, .int .i64 sheets), (7, .int .u8 b), (12, .pointer (some ⟨b12, 0, none⟩)), (13, .pointer (some ⟨b13, 0, none⟩)), (34, .pointer (some ⟨b34, 0, none⟩)), (35, .pointer (some ⟨b35, 0, none⟩)), (36, .int .i64 (fringeV ls).2.2)] [.blk b34 (.cells (spRow (fringeV ls).1).toArray 24 (0, 0)), .blk b35 (.cells (spRow (fringeV ls).2.1).toArray 24 (0, 0)), .blk b12 (.cells (sfRow kk).toArray 51 (0, 0)), .blk b13 (.cells (spRow q).toArray 24 (0, 0)), .reg 0 w, .blk b232 (.cells (sfRow kk).toArray 51 (0, 0)), .blk b37 (.cells (Value.agg #[.int .i64 0, .int .i64 0]).cells 24 (0, 0))] := by
      intro b232 b37
      refine Eq.mpr (hJ _ _ _ _) ?_
      refine xj_all (l := [0, 12]) (by kernel_rfl) (by simp) (Each.cons ⟨_, rfl, ?_⟩ (Each.cons ⟨_, rfl, ?_⟩ Each.nil))
      ·
        refine sq_bs Try.underlying22 ei51 (EvI.nil) (by simp) rfl rfl rfl (fun b228 => ?_)
        refine sq_blk_own0 (sz := 4) (c := 0) RM rfl (Nat.zero_le _) ?_
        refine sq_nil ?_
        refine sx_xp SR ?_
        exact xj_sub rfl (by kernel_rfl) SU SR (Eq.mp (hJ _ _ _ _) (hS25_18 b228 b232 b37))
      ·
        refine sq_alloc Try.zeroValue24 rfl (fun b38 => ?_)
        refine sq_nil ?_
        refine sx_xp SR ?_
        exact xj_sub rfl (by kernel_rfl) SU SR (Eq.mp (hJ _ _ _ _) (hS25_21 b232 b37 b38))
    have hS25_27 : ∀ (b232 : Nat) (b38 : Nat), J 12 #[false, true, false, true, true, false, false, false, false, false, false, false, true, false, false, false] [(229, .slice ah ls.length ch), (232, .slice (some ⟨b232, 0, none⟩) 1 1), (38, .pointer (some ⟨b38, 0, none⟩)), (3, .slice ah ls.length ch), (6, .int .i64 sheets), (7, .int .u8 b), (12, .pointer (some ⟨b12, 0, none⟩)), (13, .pointer (some ⟨b13, 0, none⟩)), (34, .pointer (some ⟨b34, 0, none⟩)), (35, .pointer (some ⟨b35, 0, none⟩)), (36, .int .i64 (fringeV ls).2.2)] [.blk b34 (.cells (spRow (fringeV ls).1).toArray 24 (0, 0)), .blk b35 (.cells (spRow (fringeV ls).2.1).toArray 24 (0, 0)), .blk b12 (.cells (sfRow kk).toArray 51 (0, 0)), .blk b13 (.cells (spRow q).toArray 24 (0, 0)), .reg 0 w, .blk b232 (.cells (sfRow kk).toArray 51 (0, 0)), .blk b38 (.cells (Value.agg #[.int .i64 0, .int .i64 0]).cells 24 (0, 0))] := by
      intro b232 b38
      refine Eq.mpr (hJ _ _ _ _) ?_
      refine xj_all (l := [0, 11]) (by kernel_rfl) (by simp) (Each.cons ⟨_, rfl, ?_⟩ (Each.cons ⟨_, rfl, ?_⟩ Each.nil))
      ·
        refine sq_bs Try.underlying22 ei51 (EvI.nil) (by simp) rfl rfl rfl (fun b228 => ?_)
        refine sq_blk_own0 (sz := 4) (c := 0) RM rfl (Nat.zero_le _) ?_
        refine sq_nil ?_
        refine sx_xp SR ?_
        exact xj_sub rfl (by kernel_rfl) SU SR (Eq.mp (hJ _ _ _ _) (hS25_19 b228 b232 b38))
      ·
        refine sq_alloc Try.zeroValue24 rfl (fun b37 => ?_)
        refine sq_nil ?_
        refine sx_xp SR ?_
        exact xj_sub rfl (by kernel_rfl) SU SR (Eq.mp (hJ _ _ _ _) (hS25_21 b232 b37 b38))
    have hS25_28 : ∀ (b37 : Nat) (b38 : Nat), J 12 #[false, true, false, true, false, false, false, false, false, false, false, true, true, false, false, false] [(229, .slice ah ls.length ch), (231, .agg (sfRow kk).toArray), (37, .pointer (some ⟨b37, 0, none⟩)), (38, .pointer (some ⟨b38, 0, none⟩)), (3, .slice ah ls.length ch), (6, .int .i64 sheets), (7, .int .u8 b), (12, .pointer (some ⟨b12, 0, none⟩)), (13, .pointer (some ⟨b13, 0, none⟩)), (34, .pointer (some ⟨b34, 0, none⟩)), (35, .pointer (some ⟨b35, 0, none⟩)), (36, .int .i64 (fringeV ls).2.2)] [.blk b34 (.cells (spRow (fringeV ls).1).toArray 24 (0, 0)), .blk b35 (.cells (spRow (fringeV ls).2.1).toArray 24 (0, 0)), .blk b12 (.cells (sfRow kk).toArray 51 (0, 0)), .blk b13 (.cells (spRow q).toArray 24 (0, 0)), .reg 0 w, .blk b37 (.cells (Value.agg #[.int .i64 0, .int .i64 0]).cells 24 (0, 0)), .blk b38 (.cells (Value.agg #[.int .i64 0, .int .i64 0]).cells 24 (0, 0))] := by
      intro b37 b38
      refine Eq.mpr (hJ _ _ _ _) ?_
      refine xj_all (l := [0, 4]) (by kernel_rfl) (by simp) (Each.cons ⟨_, rfl, ?_⟩ (Each.cons ⟨_, rfl, ?_⟩ Each.nil))
      ·
        refine sq_bs Try.underlying22 ei51 (EvI.nil) (by simp) rfl rfl rfl (fun b228 => ?_)
        refine sq_blk_own0 (sz := 4) (c := 0) RM rfl (Nat.zero_le _) ?_
        refine sq_nil ?_
        refine sx_xp SR ?_
        exact xj_sub rfl (by kernel_rfl) SU SR (Eq.mp (hJ _ _ _ _) (hS25_20 b228 b37 b38))
      ·
        refine sq_bs Try.underlying22 ei51 (EvI.cons RF EvI.nil) (by first | (simp [Value.cells]; done) | (simp [Value.cells]; rfl) | (simp [Value.cells]; and_intros <;> rfl)) rfl rfl rfl (fun b232 => ?_)
        refine sq_nil ?_
        refine sx_xp SR ?_
        exact xj_sub rfl (by kernel_rfl) SU SR (Eq.mp (hJ _ _ _ _) (hS25_21 b232 b37 b38))
    have hS25_29 : ∀ (b228 : Nat), J 13 #[true, true, false, true, false, false, false, false, false, false, false, false, false, false, false, false] [(228, .slice (some ⟨b228, 0, none⟩) 0 0), (229, .slice ah ls.length ch), (231, .agg (sfRow kk).toArray), (3, .slice ah ls.length ch), (6, .int .i64 sheets), (7, .int .u8 b), (12, .pointer (some ⟨b12, 0, none⟩)), (13, .pointer (some ⟨b13, 0, none⟩)), (34, .pointer (some ⟨b34, 0, none⟩)), (35, .pointer (some ⟨b35, 0, none⟩)), (36, .int .i64 (fringeV ls).2.2)] [.blk b34 (.cells (spRow (fringeV ls).1).toArray 24 (0, 0)), .blk b35 (.cells (spRow (fringeV ls).2.1).toArray 24 (0, 0)), .blk b12 (.cells (sfRow kk).toArray 51 (0, 0)), .blk b13 (.cells (spRow q).toArray 24 (0, 0)), .reg 0 w, .own (.slice (some ⟨b228, 0, none⟩) 0 0) 51 4 0 []] := by
      intro b228
      refine Eq.mpr (hJ _ _ _ _) ?_
      refine xj_all (l := [2, 4, 11, 12]) (by kernel_rfl) (by simp) (Each.cons ⟨_, rfl, ?_⟩ (Each.cons ⟨_, rfl, ?_⟩ (Each.cons ⟨_, rfl, ?_⟩ (Each.cons ⟨_, rfl, ?_⟩ Each.nil))))
      ·
        refine sq_append_rows (news := ls.flatMap sfRow) Try.underlying22 ei51 Try.sizeOf51 rfl (by decide) RF RM RF hs.noa (flat_len sfRow_len ls) (fun ad had w1 hw1 => rows_cells sfRow_len (by decide) (fun i x hi => by rw [← had]; exact ((hs.at hw1 MM).el i x hi).2)) (sf_one ls) (by omega) rfl (fun v230 ho230 => ?_)
        refine sq_nil ?_
        refine sx_xp SR ?_
        exact xj_sub rfl (by kernel_rfl) SU SR (Eq.mp (hJ _ _ _ _) (hS25_22 b228 v230 ho230))
      ·
        refine sq_bs Try.underlying22 ei51 (EvI.cons RF EvI.nil) (by first | (simp [Value.cells]; done) | (simp [Value.cells]; rfl) | (simp [Value.cells]; and_intros <;> rfl)) rfl rfl rfl (fun b232 => ?_)
        refine sq_nil ?_
        refine sx_xp SR ?_
        exact xj_sub rfl (by kernel_rfl) SU SR (Eq.mp (hJ _ _ _ _) (hS25_23 b228 b232))
      ·
        refine sq_alloc Try.zeroValue24 rfl (fun b37 => ?_)
        refine sq_nil ?_
        refine sx_xp SR ?_
        exact xj_sub rfl (by kernel_rfl) SU SR (Eq.mp (hJ _ _ _ _) (hS25_24 b228 b37))
      ·
        refine sq_alloc Try.zeroValue24 rfl (fun b38 => ?_)
        refine sq_nil ?_
        refine sx_xp SR ?_
        exact xj_sub rfl (by kernel_rfl) SU SR (Eq.mp (hJ _ _ _ _) (hS25_25 b228 b38))
    have hS25_30 : ∀ (b232 : Nat), J 13 #[false, true, false, true, true, false, false, false, false, false, false, false, false, false, false, false] [(229, .slice ah ls.length ch), (232, .slice (some ⟨b232, 0, none⟩) 1 1), (3, .slice ah ls.length ch), (6, .int .i64 sheets), (7, .int .u8 b), (12, .pointer (some ⟨b12, 0, none⟩)), (13, .pointer (some ⟨b13, 0, none⟩)), (34, .pointer (some ⟨b34, 0, none⟩)), (35, .pointer (some ⟨b35, 0, none⟩)), (36, .int .i64 (fringeV ls).2.2)] [.blk b34 (.cells (spRow (fringeV ls).1).toArray 24 (0, 0)), .blk b35 (.cells (spRow (fringeV ls).2.1).toArray 24 (0, 0)), .blk b12 (.cells (sfRow kk).toArray 51 (0, 0)), .blk b13 (.cells (spRow q).toArray 24 (0, 0)), .reg 0 w, .blk b232 (.cells (sfRow kk).toArray 51 (0, 0))] := by
      intro b232
      refine Eq.mpr (hJ _ _ _ _) ?_
      refine xj_all (l := [0, 11, 12]) (by kernel_rfl) (by simp) (Each.cons ⟨_, rfl, ?_⟩ (Each.cons ⟨_, rfl, ?_⟩ (Each.cons ⟨_, rfl, ?_⟩ Each.nil)))
      ·
        refine sq_bs Try.underlying22 ei51 (EvI.nil) (by simp) rfl rfl rfl (fun b228 => ?_)
        refine sq_blk_own0 (sz := 4) (c := 0) RM rfl (Nat.zero_le _) ?_
        refine sq_nil ?_
        refine sx_xp SR ?_
        exact xj_sub rfl (by kernel_rfl) SU SR (Eq.mp (hJ _ _ _ _) (hS25_23 b228 b232))
      ·
        refine sq_alloc Try.zeroValue24 rfl (fun b37 => ?_)
        refine sq_nil ?_
        refine sx_xp SR ?_
        exact xj_sub rfl (by kernel_rfl) SU SR (Eq.mp (hJ _ _ _ _) (hS25_26 b232 b37))
      ·
        refine sq_alloc Try.zeroValue24 rfl (fun b38 => ?_)
        refine sq_nil ?_
        refine sx_xp SR ?_
        exact xj_sub rfl (by kernel_rfl) SU SR (Eq.mp (hJ _ _ _ _) (hS25_27 b232 b38))
    have hS25_31 : ∀ (b37 : Nat), J 13 #[false, true, false, true, false, false, false, false, false, false, false, true, false, false, false, false] [(229, .slice ah ls.length ch), (231, .agg (sfRow kk).toArray), (37, .pointer (some ⟨b37, 0, none⟩)), (3, .slice ah ls.length ch), (6, .int .i64 sheets), (7, .int .u8 b), (12, .pointer (some ⟨b12, 0, none⟩)), (13, .pointer (some ⟨b13, 0, none⟩)), (34, .pointer (some ⟨b34, 0, none⟩)), (35, .pointer (some ⟨b35, 0, none⟩)), (36, .int .i64 (fringeV ls).2.2)] [.blk b34 (.cells (spRow (fringeV ls).1).toArray 24 (0, 0)), .blk b35 (.cells (spRow (fringeV ls).2.1).toArray 24 (0, 0)), .blk b12 (.cells (sfRow kk).toArray 51 (0, 0)), .blk b13 (.cells (spRow q).toArray 24 (0, 0)), .reg 0 w, .blk b37 (.cells (Value.agg #[.int .i64 0, .int .i64 0]).cells 24 (0, 0))] := by
      intro b37
      refine Eq.mpr (hJ _ _ _ _) ?_
      refine xj_all (l := [0, 4, 12]) (by kernel_rfl) (by simp) (Each.cons ⟨_, rfl, ?_⟩ (Each.cons ⟨_, rfl, ?_⟩ (Each.cons ⟨_, rfl, ?_⟩ Each.nil)))
      ·
        refine sq_bs Try.underlying22 ei51 (EvI.nil) (by simp) rfl rfl rfl (fun b228 => ?_)
        refine sq_blk_own0 (sz := 4) (c := 0) RM rfl (Nat.zero_le _) ?_
        refine sq_nil ?_
        refine sx_xp SR ?_
        exact xj_sub rfl (by kernel_rfl) SU SR (Eq.mp (hJ _ _ _ _) (hS25_24 b228 b37))
      ·
        refine sq_bs Try.underlying22 ei51 (EvI.cons RF EvI.nil) (by first | (simp [Value.cells]; done) | (simp [Value.cells]; rfl) | (simp [Value.cells]; and_intros <;> rfl)) rfl rfl rfl (fun b232 => ?_)
        refine sq_nil ?_
        refine sx_xp SR ?_
        exact xj_sub rfl (by kernel_rfl) SU SR (Eq.mp (hJ _ _ _ _) (hS25_26 b232 b37))
      ·
        refine sq_alloc Try.zeroValue24 rfl (fun b38 => ?_)
        refine sq_nil ?_
        refine sx_xp SR ?_
        exact xj_sub rfl (by kernel_rfl) SU SR (Eq.mp (hJ _ _ _ _) (hS25_28 b37 b38))
    have hS25_32 : ∀ (b38 : Nat), J 13 #[false, true, false, true, false, false, false, false, false, false, false, false, true, false, false, false] [(229, .slice ah ls.length ch), (231, .agg (sfRow kk).toArray), (38, .pointer (some ⟨b38, 0, none⟩)), (3, .slice ah ls.length ch), (6, .int .i64 sheets), (7, .int .u8 b), (12, .pointer (some ⟨b12, 0, none⟩)), (13, .pointer (some ⟨b13, 0, none⟩)), (34, .pointer (some ⟨b34, 0, none⟩)), (35, .pointer (some ⟨b35, 0, none⟩)), (36, .int .i64 (fringeV ls).2.2)] [.blk b34 (.cells (spRow (fringeV ls).1).toArray 24 (0, 0)), .blk b35 (.cells (spRow (fringeV ls).2.1).toArray 24 (0, 0)), .blk b12 (.cells (sfRow kk).toArray 51 (0, 0)), .blk b13 (.cells (spRow q).toArray 24 (0, 0)), .reg 0 w, .blk b38 (.cells (Value.agg #[.int .i64 0, .int .i64 0]).cells 24 (0, 0))] := by
      intro b38
      refine Eq.mpr (hJ _ _ _ _) ?_
      refine xj_all (l := [0, 4, 11]) (by kernel_rfl) (by simp) (Each.cons ⟨_, rfl, ?_⟩ (Each.cons ⟨_, rfl, ?_⟩ (Each.cons ⟨_, rfl, ?_⟩ Each.nil)))
      ·
        refine sq_bs Try.underlying22 ei51 (EvI.nil) (by simp) rfl rfl rfl (fun b228 => ?_)
        refine sq_blk_own0 (sz := 4) (c := 0) RM rfl (Nat.zero_le _) ?_
        refine sq_nil ?_
        refine sx_xp SR ?_
        exact xj_sub rfl (by kernel_rfl) SU SR (Eq.mp (hJ _ _ _ _) (hS25_25 b228 b38))
      ·
        refine sq_bs Try.underlying22 ei51 (EvI.cons RF EvI.nil) (by first | (simp [Value.cells]; done) | (simp [Value.cells]; rfl) | (simp [Value.cells]; and_intros <;> rfl)) rfl rfl rfl (fun b232 => ?_)
        refine sq_nil ?_
        refine sx_xp SR ?_
        exact xj_sub rfl (by kernel_rfl) SU SR (Eq.mp (hJ _ _ _ _) (hS25_27 b232 b38))
      ·
        refine sq_alloc Try.zeroValue24 rfl (fun b37 => ?_)
        refine sq_nil ?_
        refine sx_xp SR ?_
        exact xj_sub rfl (by kernel_rfl) SU SR (Eq.mp (hJ _ _ _ _) (hS25_28 b37 b38))
    refine Eq.mpr (hJ _ _ _ _) ?_
    refine xj_s 1 RF (by kernel_rfl) SR (y_move RF) rfl ?_
    refine xj_s 3 RF (by kernel_rfl) SR LD51 rfl ?_
    refine xj_all (l := [0, 4, 11, 12]) (by kernel_rfl) (by simp) (Each.cons ⟨_, rfl, ?_⟩ (Each.cons ⟨_, rfl, ?_⟩ (Each.cons ⟨_, rfl, ?_⟩ (Each.cons ⟨_, rfl, ?_⟩ Each.nil))))
    ·
      refine sq_bs Try.underlying22 ei51 (EvI.nil) (by simp) rfl rfl rfl (fun b228 => ?_)
      refine sq_blk_own0 (sz := 4) (c := 0) RM rfl (Nat.zero_le _) ?_
      refine sq_nil ?_
      refine sx_xp SR ?_
      exact xj_sub rfl (by kernel_rfl) SU SR (Eq.mp (hJ _ _ _ _) (hS25_29 b228))
    ·
      refine sq_bs Try.underlying22 ei51 (EvI.cons RF EvI.nil) (by first | (simp [Value.cells]; done) | (simp [Value.cells]; rfl) | (simp [Value.cells]; and_intros <;> rfl)) rfl rfl rfl (fun b232 => ?_)
      refine sq_nil ?_
      refine sx_xp SR ?_
      exact xj_sub rfl (by kernel_rfl) SU SR (Eq.mp (hJ _ _ _ _) (hS25_30 b232))
    ·
      refine sq_alloc Try.zeroValue24 rfl (fun b37 => ?_)
      refine sq_nil ?_
      refine sx_xp SR ?_
      exact xj_sub rfl (by kernel_rfl) SU SR (Eq.mp (hJ _ _ _ _) (hS25_31 b37))
    ·
      refine sq_alloc Try.zeroValue24 rfl (fun b38 => ?_)
      refine sq_nil ?_
      refine sx_xp SR ?_
      exact xj_sub rfl (by kernel_rfl) SU SR (Eq.mp (hJ _ _ _ _) (hS25_32 b38))
end Go.Proofs.Ytjlbpmcacopbpaa
