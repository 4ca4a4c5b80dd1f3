/- The walks of the document's rings. -/
import Derived.Test.YtpijahglojichaaDoorWalk9
namespace Go.Proofs.YtpijahglojichaaDoor
open Go Go.Eng Go.RowKit Go.Proofs
set_option maxRecDepth 100000
theorem rl_per (g : Nat → Nat) (n i : Nat) : rl g i (per g n i) = cycI g n i := rfl
theorem least_take {l : List Int} {k : Nat} (h : k < l.length) : (l.take (k + 1)).foldl min (l.getD 0 0) = min ((l.take k).foldl min (l.getD 0 0)) (l.getD k 0) := by
  rw [List.take_add_one, get_of_lt 0 h, List.foldl_append]; rfl
theorem ring_dec1 {g : Nat → Nat} {n i : Nat} (h : 1 < (cycI g n i).length) : decide (leastC g n i = (i : Int)) = decide (1 < (ringAt g n i).length) := by
  unfold ringAt
  split
  · rename_i h1; rw [decide_eq_true h1, decide_eq_true h]
  · rename_i h1; rw [decide_eq_false h1]; rfl
theorem ring_dec2 {g : Nat → Nat} {n i : Nat} (h : ¬ 1 < (cycI g n i).length) : false = decide (1 < (ringAt g n i).length) := by
  unfold ringAt
  split
  · rw [decide_eq_false h]
  · rfl
def longN (g : Nat → Nat) (n : Nat) : Nat → Int
  | 0 => 0
  | k + 1 => max (longN g n k) (per g n k)

theorem ringOf44 (w : World) (a : Option Addr) (c : Nat) (o : List Int) (ho : RowsA iRow 1 0 w a o) (hord : ordB o o.length = true) (h1000 : o.length ≤ 1000) (i : Nat) (hi : i < o.length) : Calls Tryd.prog 44 #[.slice a o.length c, .int .i64 i] w fun e w' => ∃ y : Option Addr × Nat, e = .returned (.slice y.1 (cycI (getN o) o.length i).length y.2) ∧ Below w.heap.size w w' ∧ RowsA iRow 1 w.heap.size w' y.1 (cycI (getN o) o.length i) := by
  have hlen := ho.len
  have hpm := ord_pm hord
  have hper := hpm.perF hi
  have hpl := hper.le
  have hpp := hper.pos
  have hs0 := (ho.get 0 hi).1
  have hc0' := (ho.get 0 hi).2
  rw [(ord_get hord hi).1] at hc0'
  refine calls_of_SC (args := [.slice a o.length c, .int .i64 i]) Tryd.func44 rfl Tryd.ntmps44 rfl ?_
  simp only [argL, Nat.zero_add]
  refine sc_seq ?_
  refine sc_region ?_
  refine qs (y_assign RF) ?_
  refine sq_nil ?_
  refine sx_then ?_
  refine sc_seq ?_
  refine sc_region ?_
  refine qs (y_move RF) ?_
  refine sq_bs Tryd.underlying25 ei3 (EvI.cons RF EvI.nil) (by first | (simp [Value.cells]; done) | (simp [Value.cells]; rfl)) rfl rfl rfl (fun b8 => ?_)
  refine sq_blk_own (n := 1) (sz := 1) (xs := [Value.int .i64 (i : Int)]) RM rfl (by decide) ?_
  rw [show [Value.int .i64 (i : Int)] = (rl (getN o) i 1).flatMap iRow from rfl]
  refine qs (y_assign RF) ?_
  refine sq_nil ?_
  refine sx_then ?_
  refine sc_seq ?_
  refine sc_seq ?_
  refine sc_region ?_
  refine qs (y_move RF) ?_
  refine qs (y_move RF) ?_
  refine qs IA25 ?_
  refine qs (by first | exact y_load_ca0 Tryd.underlying3 rfl RF MM hc0' rfl | exact LD3) ?_
  refine qs (y_assign RF) ?_
  refine sq_nil ?_
  refine sx_then ?_
  refine sc_block ?_
  refine sc_loop (σ := Nat × Value)
    (fun s => [(0, .slice a o.length c), (1, .int .i64 i), (5, s.2), (6, .int .i64 ((it (getN o) s.1 i : Nat) : Int))])
    (fun s => [.own s.2 3 1 s.1 ((rl (getN o) i s.1).flatMap iRow), .reg 0 w])
    (fun s => 1 ≤ s.1 ∧ s.1 ≤ per (getN o) o.length i ∧ s.2.oneCell' = true)
    (fun s => per (getN o) o.length i - s.1)
    ((1, .slice (some ⟨b8, 0, none⟩) 1 1)) ?_ SU SR ?_
  · exact ⟨Nat.le_refl _, hpp, rfl⟩
  rintro ⟨j, v⟩ ⟨hj1, hj, hv1⟩
  dsimp only at hj1 hj hv1 ⊢
  have hk7 : it (getN o) j i < o.length := hpm.it_lt j hi
  have hso := (ho.get 0 hk7).1
  have hco := (ho.get 0 hk7).2
  rw [(ord_get hord hk7).1] at hco
  refine sc_seq ?_
  refine sc_seq ?_
  refine sc_region ?_
  refine qs (y_move RF) ?_
  refine qs (y_move RF) ?_
  refine qs (y_neq RF RF) ?_
  refine sq_nil ?_
  refine sx_then ?_
  refine scp (fun hc0 => ?_) (fun hc0 => ?_)
  ·
    have hjp : j < per (getN o) o.length i := by
      rcases Nat.lt_or_eq_of_le hj with h | h
      · exact h
      · rw [h, hper.back] at hc0; exact absurd rfl hc0
    refine sc_skip ?_
    refine sx_then ?_
    refine sc_seq ?_
    refine sc_block ?_
    refine sc_region ?_
    refine qs (y_move RF) ?_
    refine qs (y_move RF) ?_
    refine sq_bs Tryd.underlying25 ei3 (EvI.cons RF EvI.nil) (by first | (simp [Value.cells]; done) | (simp [Value.cells]; rfl) | (simp [Value.cells]; and_intros <;> rfl)) rfl rfl rfl (fun b22 => ?_)
    refine sq_append (news := [Value.int .i64 ((it (getN o) j i : Nat) : Int)]) Tryd.underlying25 ei3 rfl (by decide) RF RM RF rfl (fun _ hw => news_blk hw MM) (by simp [Value.oneCell']) (by omega) rfl (fun v23 ho23 => ?_)
    rw [show (rl (getN o) i j).flatMap iRow ++ [Value.int .i64 ((it (getN o) j i : Nat) : Int)] = (rl (getN o) i (j + 1)).flatMap iRow from by rw [rl_succ, List.flatMap_append]; rfl]
    refine qs (y_assign RF) ?_
    refine sq_nil ?_
    refine sx_blk ?_
    refine sx_then ?_
    refine sc_region ?_
    refine qs (y_move RF) ?_
    refine qs (y_move RF) ?_
    refine qs IA25 ?_
    refine qs (by first | exact y_load_ca0 Tryd.underlying3 rfl RF MM hco rfl | exact LD3) ?_
    refine qs (y_assign RF) ?_
    refine sq_nil ?_
    refine sx_round ((j + 1, v23)) ?_ ?_ SU SR
    · exact ⟨by dsimp only; omega, by dsimp only; omega, ho23⟩
    · dsimp only; omega
  ·
    have hjp : j = per (getN o) o.length i := by
      rcases Nat.lt_or_eq_of_le hj with h | h
      · exact absurd (show it (getN o) j i = i by omega) (hper.first j hj1 h)
      · exact h
    subst hjp
    rw [rl_per]
    refine sc_exit ?_
    refine sx_then_exit ?_
    refine sx_round_exit ?_
    refine sx_blk_hit ?_
    refine sx_then ?_
    refine sc_seq ?_
    refine sc_region ?_
    refine qs (y_move RF) ?_
    refine qs (y_assign RF) ?_
    refine sq_nil ?_
    refine sx_then ?_
    refine sc_ret ?_
    refine sx_ret1 (.inl rfl) rfl Tryd.results44 RF ?_
    intro w' hw'
    have hoo := own_new_mem hw' (.head _) MM
    obtain ⟨a2, c2, hv2, _, hr⟩ := own_rowsA (row := iRow) (l := cycI (getN o) o.length i) iRow_len hoo (cyc_len _ _ _) (by omega)
    exact ⟨(a2, c2), by rw [hv2, cyc_len], hw'.below MM, hr⟩
theorem least45 (w : World) (a : Option Addr) (c : Nat) (l : List Int) (hl : RowsA iRow 1 0 w a l) (h0 : 0 < l.length) : Calls Tryd.prog 45 #[.slice a l.length c] w fun e w' => e = .returned (.int .i64 (leastL l)) ∧ Below w.heap.size w w' := by
  have hlen := hl.len
  have hs0 := (hl.get 0 h0).1
  have hc0' := (hl.get 0 h0).2
  refine calls_of_SC (args := [.slice a l.length c]) Tryd.func45 rfl Tryd.ntmps45 rfl ?_
  simp only [argL]
  refine sc_seq ?_
  refine sc_region ?_
  refine qs (y_assign RF) ?_
  refine sq_nil ?_
  refine sx_then ?_
  refine sc_seq ?_
  refine sc_region ?_
  refine qs (y_move RF) ?_
  refine qs (y_ia_el (i := 0) Tryd.underlying25 Tryd.sizeOf3 RF (by exact rfl) h0 hs0) ?_
  refine qs (by first | exact y_load_ca0 Tryd.underlying3 rfl RF MM hc0' rfl | exact LD3) ?_
  refine qs (y_assign RF) ?_
  refine sq_nil ?_
  refine sx_then ?_
  refine sc_seq ?_
  refine sc_seq ?_
  refine sc_region ?_
  refine qs (y_assign RF) ?_
  refine sq_nil ?_
  refine sx_then ?_
  refine sc_block ?_
  refine sc_loop (σ := Nat)
    (fun s => [(0, .slice a l.length c), (3, .int .i64 ((l.take s).foldl min (l.getD 0 0))), (4, .int .i64 s)])
    (fun s => [.reg 0 w])
    (fun s => s ≤ l.length)
    (fun s => l.length - s)
    (0) ?_ SU SR ?_
  · exact Nat.zero_le _
  rintro k hk
  refine sc_seq ?_
  refine sc_seq ?_
  refine sc_region ?_
  refine qs (y_move RF) ?_
  refine qs (y_move RF) ?_
  refine qs (y_len Tryd.underlying25 RF) ?_
  refine qs (y_lss RF RF) ?_
  refine sq_nil ?_
  refine sx_then ?_
  refine scp (fun hc0 => ?_) (fun hc0 => ?_)
  ·
    have hk' : k < l.length := by omega
    have hsm := (hl.get 0 hk').1
    have hca := (hl.get 0 hk').2
    refine sc_skip ?_
    refine sx_then ?_
    refine sc_seq ?_
    refine sc_block ?_
    refine sc_region ?_
    refine qs (y_move RF) ?_
    refine qs (y_move RF) ?_
    refine qs (y_move RF) ?_
    refine qs IA25 ?_
    refine qs (by first | exact y_load_ca0 Tryd.underlying3 rfl RF MM hca rfl | exact LD3) ?_
    refine qs (y_min RF RF) ?_
    rw [← least_take hk']
    refine qs (y_assign RF) ?_
    refine sq_nil ?_
    refine sx_blk ?_
    refine sx_then ?_
    refine sc_region ?_
    refine qs (y_move RF) ?_
    refine qs (y_add RF RF (by omega)) ?_
    refine qs (y_assign RF) ?_
    refine sq_nil ?_
    refine sx_round (k + 1) ?_ ?_ SU SR
    · omega
    · omega
  ·
    have hkn : k = l.length := by omega
    subst hkn
    rw [List.take_length]
    refine sc_exit ?_
    refine sx_then_exit ?_
    refine sx_round_exit ?_
    refine sx_blk_hit ?_
    refine sx_then ?_
    refine sc_seq ?_
    refine sc_region ?_
    refine qs (y_move RF) ?_
    refine qs (y_assign RF) ?_
    refine sq_nil ?_
    refine sx_then ?_
    refine sc_ret ?_
    refine sx_ret1 (.inl rfl) rfl Tryd.results45 RF ?_
    intro w' hw'
    exact ⟨rfl, hw'.below MM⟩
theorem longest82 (w : World) (a : Option Addr) (c : Nat) (o : List Int) (ho : RowsA iRow 1 0 w a o) (hord : ordB o o.length = true) (h1000 : o.length ≤ 1000) : Calls Tryd.prog 82 #[.slice a o.length c] w fun e w' => e = .returned (.int .i64 (longN (getN o) o.length o.length)) ∧ Below w.heap.size w w' := by
  have hlen := ho.len
  have hpm := ord_pm hord
  refine calls_of_SC (args := [.slice a o.length c]) Tryd.func82 rfl Tryd.ntmps82 rfl ?_
  simp only [argL]
  refine sc_seq ?_
  refine sc_region ?_
  refine qs (y_assign RF) ?_
  refine sq_nil ?_
  refine sx_then ?_
  refine sc_seq ?_
  refine sc_region ?_
  refine qs (y_assign RF) ?_
  refine sq_nil ?_
  refine sx_then ?_
  refine sc_seq ?_
  refine sc_seq ?_
  refine sc_region ?_
  refine qs (y_assign RF) ?_
  refine sq_nil ?_
  refine sx_then ?_
  refine sc_block ?_
  refine sc_loop (σ := Nat)
    (fun s => [(0, .slice a o.length c), (3, .int .i64 (longN (getN o) o.length s)), (4, .int .i64 s)])
    (fun s => [.reg 0 w])
    (fun s => s ≤ o.length)
    (fun s => o.length - s)
    (0) ?_ SU SR ?_
  · exact Nat.zero_le _
  rintro k hk
  refine sc_seq ?_
  refine sc_seq ?_
  refine sc_region ?_
  refine qs (y_move RF) ?_
  refine qs (y_move RF) ?_
  refine qs (y_len Tryd.underlying25 RF) ?_
  refine qs (y_lss RF RF) ?_
  refine sq_nil ?_
  refine sx_then ?_
  refine scp (fun hc0 => ?_) (fun hc0 => ?_)
  ·
    have hk' : k < o.length := by omega
    refine sc_skip ?_
    refine sx_then ?_
    refine sc_seq ?_
    refine sc_block ?_
    refine sc_region ?_
    refine qs (y_move RF) ?_
    refine qs (y_move RF) ?_
    refine qs (y_move RF) ?_
    refine sq_call_new (first := []) (caps := []) (Z := Option Addr × Nat) (fun y => .slice y.1 (cycI (getN o) o.length k).length y.2) (fun lo w' y => RowsA iRow 1 lo w' y.1 (cycI (getN o) o.length k)) RF Tryd.call44 (EvL.cons RF (EvL.cons RF EvL.nil)) (fun w1 hw1 => ringOf44 w1 a c o (ho.at hw1 MM) hord h1000 k hk') rfl (fun lo wr y hy => ?_)
    refine qs (y_len Tryd.underlying25 RF) ?_
    rw [cyc_len]
    refine qs (y_max RF RF) ?_
    refine qs (y_assign RF) ?_
    refine sq_nil ?_
    refine sx_blk ?_
    refine sx_then ?_
    refine sc_region ?_
    refine qs (y_move RF) ?_
    refine qs (y_add RF RF (by omega)) ?_
    refine qs (y_assign RF) ?_
    refine sq_nil ?_
    refine sx_round (k + 1) ?_ ?_ SU SR
    · omega
    · omega
  ·
    have hkn : k = o.length := by omega
    subst hkn
    refine sc_exit ?_
    refine sx_then_exit ?_
    refine sx_round_exit ?_
    refine sx_blk_hit ?_
    refine sx_then ?_
    refine sc_seq ?_
    refine sc_region ?_
    refine qs (y_move RF) ?_
    refine qs (y_assign RF) ?_
    refine sq_nil ?_
    refine sx_then ?_
    refine sc_ret ?_
    refine sx_ret1 (.inl rfl) rfl Tryd.results82 RF ?_
    intro w' hw'
    exact ⟨rfl, hw'.below MM⟩
theorem Rings19 (w : World) (a : Option Addr) (c : Nat) (o : List Int) (ho : RowsA iRow 1 0 w a o) : Calls Tryd.prog 19 #[.slice a o.length c] w fun e w' => ∃ q : (Option Addr × Nat) × (Nat → Option Addr) × (Nat → Nat), e = .returned (.tuple #[.slice q.1.1 (ringsR o).1.length q.1.2, .int .i64 (ringsR o).2]) ∧ Below w.heap.size w w' ∧ LsA w.heap.size w' q.1.1 q.2.1 q.2.2 (ringsR o).1 := by
  have hlen := ho.len
  refine calls_of_SC (args := [.slice a o.length c]) Tryd.func19 rfl Tryd.ntmps19 rfl ?_
  simp only [argL]
  refine sc_seq ?_
  refine sc_region ?_
  refine qs (y_assign RF) ?_
  refine qs (y_assign RF) ?_
  refine sq_nil ?_
  refine sx_then ?_
  refine sc_seq ?_
  refine sc_seq ?_
  refine sc_midE (Z := {v : Bool // (o.length ≤ 7 ∧ ordB o o.length = true → v = false) ∧ (v = false → o.length ≤ 7 ∧ ordB o o.length = true)}) (fun v => [(0, .slice a o.length c), (2, .slice none 0 0), (3, .int .i64 0), (16, .bool v.1)]) (fun _ => [.reg 0 w]) ?_ ?_
  ·
    refine sc_region ?_
    refine qs (y_move RF) ?_
    refine qs (y_len Tryd.underlying25 RF) ?_
    refine qs (y_gtr RF RF) ?_
    refine qs (y_move RF) ?_
    refine sp 10 (fun hg1_3 => ?_) (fun hg1_3 => ?_)
    ·
      refine qf ?_
      refine qf ?_
      refine qf ?_
      refine qf ?_
      refine qf ?_
      refine qs (y_pick_t RF RF) ?_
      refine sq_nil ?_
      exact sx_midE (⟨true, (fun h => by omega), (fun h => by cases h)⟩) SU SR
    ·
      refine qg (y_move RF) ?_
      refine qg (y_move RF) ?_
      refine qg (y_len Tryd.underlying25 RF) ?_
      refine sq_gt RF RF (y_call (first := []) (caps := []) RF Tryd.call31 (EvL.cons RF (EvL.cons RF EvL.nil)) (fun w1 hw1 => exchange31 w1 a c o (ho.at hw1 MM) o.length (by omega))) rfl ?_
      refine qg (y_not RF) ?_
      refine qs (y_pick_f RF RF) ?_
      refine sq_nil ?_
      exact sx_midE (⟨!ordB o o.length, (fun h => by rw [h.2]; rfl), (fun h => ⟨by omega, by simpa using h⟩)⟩) SU SR
  rintro ⟨vb, hvb, hvb2⟩
  try dsimp only
  refine sx_then ?_
  refine scp (fun hc0 => ?_) (fun hc0 => ?_)
  ·
    refine sc_seq ?_
    refine sc_region ?_
    refine qs (y_assign RF) ?_
    refine qs (y_assign RF) ?_
    refine sq_nil ?_
    refine sx_then ?_
    refine sc_ret ?_
    refine sx_then_ret ?_
    refine sx_ret2 (.inl rfl) rfl Tryd.results19 RF RF ?_
    intro w' hw'
    have hbad : ringsR o = ([], 2) := by
      unfold ringsR
      exact if_neg (fun h => by have := hvb h; rw [this] at hc0; cases hc0)
    rw [hbad]
    exact ⟨((none, 0), (fun _ => none), fun _ => 0), rfl, hw'.below MM, ⟨fun i r hi => by simp at hi, by simp⟩⟩
  ·
    have hgood : o.length ≤ 7 ∧ ordB o o.length = true := hvb2 hc0
    obtain ⟨ho7, hord⟩ := hgood
    have hpm := ord_pm hord
    refine sc_skip ?_
    refine sx_then ?_
    refine sc_seq ?_
    refine sc_region ?_
    refine qs (y_assign RF) ?_
    refine sq_nil ?_
    refine sx_then ?_
    refine sc_seq ?_
    refine sc_seq ?_
    refine sc_nil_own 25 1 ?_
    refine sc_set0 (fun wS0 => ?_)
    refine sc_region ?_
    refine qs (y_assign RF) ?_
    refine sq_nil ?_
    refine sx_then ?_
    refine sc_block ?_
    refine sc_loop (σ := Nat × Value × Iv × (Nat → Prop) × World)
      (fun s_ => [(0, .slice a o.length c), (2, .slice none 0 0), (3, .int .i64 0), (4, s_.2.1), (5, .int .i64 s_.1)])
      (fun s_ => [.own s_.2.1 25 1 s_.2.2.1.length (s_.2.2.1.map slV), .set s_.2.2.2.1 s_.2.2.2.2, .reg 0 w])
      (fun s_ => s_.1 ≤ o.length ∧ s_.2.1.oneCell' = true ∧ s_.2.2.1.map (·.2) = ringsN (getN o) o.length s_.1 ∧ s_.2.2.1.length ≤ s_.1 ∧ ∀ q, q ∈ s_.2.2.1 → RowsS iRow 1 s_.2.2.2.1 s_.2.2.2.2 q.1.1 q.2)
      (fun s_ => o.length - s_.1)
      ((0, .slice none 0 0, [], (fun _ => False), wS0)) ?_ SU SR ?_
    · exact ⟨Nat.zero_le _, rfl, rfl, Nat.le_refl _, fun q hq => by cases hq⟩
    rintro ⟨i, vO, iv, Dd, wS⟩ ⟨hi, hvO, hiv, hil, hI⟩
    dsimp only at hi hvO hiv hil hI ⊢
    refine sc_seq ?_
    refine sc_seq ?_
    refine sc_region ?_
    refine qs (y_move RF) ?_
    refine qs (y_move RF) ?_
    refine qs (y_len Tryd.underlying25 RF) ?_
    refine qs (y_lss RF RF) ?_
    refine sq_nil ?_
    refine sx_then ?_
    refine scp (fun hc1 => ?_) (fun hc1 => ?_)
    ·
      have hi' : i < o.length := by omega
      have hcl := cyc_len (getN o) o.length i
      have hper := hpm.perF hi'
      have hple := hper.le
      refine sc_skip ?_
      refine sx_then ?_
      refine sc_seq ?_
      refine sc_block ?_
      refine sc_seq ?_
      refine sc_region ?_
      refine qs (y_move RF) ?_
      refine qs (y_move RF) ?_
      refine sq_call_new (first := []) (caps := []) (Z := Option Addr × Nat) (fun y => .slice y.1 (cycI (getN o) o.length i).length y.2) (fun lo w' y => RowsA iRow 1 lo w' y.1 (cycI (getN o) o.length i)) RF Tryd.call44 (EvL.cons RF (EvL.cons RF EvL.nil)) (fun w1 hw1 => ringOf44 w1 a c o (ho.at hw1 MM) hord (by omega) i hi') rfl (fun lo wr y hy => ?_)
      refine qs (y_assign RF) ?_
      refine sq_nil ?_
      refine sx_then ?_
      refine sc_seq ?_
      refine sc_midE (Z := {v : Bool // v = decide (1 < (ringAt (getN o) o.length i).length)}) (fun v => [(0, .slice a o.length c), (2, .slice none 0 0), (3, .int .i64 0), (4, vO), (5, .int .i64 i), (6, .slice y.1 (cycI (getN o) o.length i).length y.2), (34, .bool v.1)]) (fun _ => [.reg lo wr, .own vO 25 1 iv.length (iv.map slV), .set Dd wS, .reg 0 w]) ?_ ?_
      ·
        refine sc_region ?_
        refine qs (y_move RF) ?_
        refine qs (y_len Tryd.underlying25 RF) ?_
        refine qs (y_gtr RF RF) ?_
        refine qs (y_move RF) ?_
        refine sp 29 (fun hg8_3 => ?_) (fun hg8_3 => ?_)
        ·
          refine qg (y_move RF) ?_
          refine sq_gt RF RF (y_call (first := []) (caps := []) RF Tryd.call45 (EvL.cons RF EvL.nil) (fun w1 hw1 => least45 w1 y.1 y.2 (cycI (getN o) o.length i) (hy.at hw1 MM) (by omega))) rfl ?_
          refine qg (y_move RF) ?_
          refine qg (y_eql RF RF) ?_
          refine qs (y_pick_t RF RF) ?_
          refine sq_nil ?_
          exact sx_midE (⟨decide (leastC (getN o) o.length i = (i : Int)), ring_dec1 (by omega)⟩) SU SR
        ·
          refine qf ?_
          refine qf ?_
          refine qf ?_
          refine qf ?_
          refine qs (y_pick_f RF RF) ?_
          refine sq_nil ?_
          exact sx_midE (⟨false, ring_dec2 (by omega)⟩) SU SR
      rintro ⟨vk, hvk⟩
      try dsimp only
      refine sx_then ?_
      refine scp (fun hc2 => ?_) (fun hc2 => ?_)
      ·
        have hra : 1 < (ringAt (getN o) o.length i).length := by
          have hv2 : vk = true := hc2
          rw [hvk] at hv2; exact of_decide_eq_true hv2
        have hrc : (ringAt (getN o) o.length i) = (cycI (getN o) o.length i) := by
          unfold ringAt at hra ⊢
          split at hra
          · rename_i h; rw [if_pos h]
          · exact absurd hra (by decide)
        refine sc_join (r := .reg lo wr) RMS1 (fun wj hgj hoj => ?_)
        have hrj := reg_rowsS Dd hy hoj
        refine sc_region ?_
        refine qs (y_move RF) ?_
        refine qs (y_move RF) ?_
        refine sq_bs Tryd.underlying22 ei25 (EvI.cons RF EvI.nil) (by first | (simp [Value.cells]; done) | (simp [Value.cells]; rfl) | (simp [Value.cells]; and_intros <;> rfl)) rfl rfl rfl (fun b37 => ?_)
        refine sq_append (news := [slV (y, (cycI (getN o) o.length i))]) Tryd.underlying22 ei25 rfl (by decide) RF RM RF rfl (fun _ hw => news_blk hw MM) (by simp [slV, Value.oneCell']) (by omega) rfl (fun v38 ho38 => ?_)
        rw [show iv.map slV ++ [slV (y, (cycI (getN o) o.length i))] = (iv ++ [(y, (cycI (getN o) o.length i))]).map slV from by simp, show iv.length + 1 = (iv ++ [(y, (cycI (getN o) o.length i))]).length from by simp]
        refine qs (y_assign RF) ?_
        refine sq_nil ?_
        refine sx_blk ?_
        refine sx_then ?_
        refine sc_region ?_
        refine qs (y_move RF) ?_
        refine qs (y_add RF RF (by omega)) ?_
        refine qs (y_assign RF) ?_
        refine sq_nil ?_
        refine sx_round ((i + 1, v38, iv ++ [(y, (cycI (getN o) o.length i))], _, wj)) ?_ ?_ SU SR
        · refine ⟨by dsimp only; omega, ho38, ?_, by simp; omega, fun q hq => ?_⟩
          · dsimp only
            conv => { rhs; unfold ringsN }
            rw [if_pos hra, List.map_append, hiv, hrc]; rfl
          · rcases List.mem_append.1 hq with hq | hq
            · exact (hI q hq).grow hgj
            · simp at hq; subst hq; exact hrj
        · dsimp only; omega
      ·
        refine sc_skip ?_
        refine sx_blk ?_
        refine sx_then ?_
        refine sc_region ?_
        refine qs (y_move RF) ?_
        refine qs (y_add RF RF (by omega)) ?_
        refine qs (y_assign RF) ?_
        refine sq_nil ?_
        refine sx_round ((i + 1, vO, iv, Dd, wS)) ?_ ?_ SU SR
        · refine ⟨by dsimp only; omega, hvO, ?_, by dsimp only; omega, hI⟩
          dsimp only
          conv => { rhs; unfold ringsN }
          have hv2 : vk = false := hc2
          rw [hvk] at hv2
          rw [if_neg (of_decide_eq_false hv2), hiv]
        · dsimp only; omega
    ·
      have hin : i = o.length := by omega
      subst hin
      refine sc_exit ?_
      refine sx_then_exit ?_
      refine sx_round_exit ?_
      refine sx_blk_hit ?_
      refine sx_then ?_
      refine sc_seq ?_
      refine sc_region ?_
      refine qs (y_move RF) ?_
      refine qs (y_assign RF) ?_
      refine qs (y_assign RF) ?_
      refine sq_nil ?_
      refine sx_then ?_
      refine sc_ret ?_
      refine sx_ret2 (.inl rfl) rfl Tryd.results19 RF RF ?_
      intro w' hw'
      have hgr : ringsR o = (ringsN (getN o) o.length o.length, 0) := if_pos ⟨ho7, hord⟩
      obtain ⟨q, hvq, hq⟩ := iv_lsA hw' (v := vO) (e := 25) (iv := iv) (D := Dd) (wr := wS) MM MM MM hI (by omega)
      rw [hiv] at hq
      rw [hgr]
      exact ⟨q, by rw [hvq, ← hiv]; simp, hw'.below MM, hq⟩
end Go.Proofs.YtpijahglojichaaDoor
