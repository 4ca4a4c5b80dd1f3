/- The walks of what looks whether a tale is valid, and of when a piece can have been lost. -/
import Derived.Test.YtpijahglojichaaDoorLDat
namespace Go.Proofs.YtpijahglojichaaDoor
open Go Go.Eng Go.RowKit Go.Proofs
set_option maxRecDepth 100000
def lnRow (l : Ln) : List Value := [.int .i64 (l.p : Int), .int .i64 (l.f : Int), .int .i64 (l.t : Int)]
def sgRow (s : Sg) : List Value := [.int .i64 (s.h : Int), .int .i64 (s.th : Int), .int .i64 (s.g : Int)]
theorem lnRow_len (l : Ln) : (lnRow l).length = 3 := rfl
theorem sgRow_len (s : Sg) : (sgRow s).length = 3 := rfl
structure TlA where
  la : Option Addr
  lc : Nat
  sa : Option Addr
  sc : Nat
  aa : Option Addr
  ac : Nat
def tlV (z : TlA) (t : Tl) : List Value := [.int .i64 (t.pieces : Int), .slice z.la t.loans.length z.lc, .slice z.sa t.looks.length z.sc, .slice z.aa t.admits.length z.ac]
structure TlAt (lo : Nat) (w : World) (z : TlA) (t : Tl) : Prop where
  ln : RowsA lnRow 3 lo w z.la t.loans
  sg : RowsA sgRow 3 lo w z.sa t.looks
  ad : RowsA iRow 1 lo w z.aa t.admits
theorem TlAt.at {w0 rs w lo wr z t} (h : TlAt lo wr z t) (hw : Hp w0 rs w) (hm : Res.reg lo wr ∈ rs) : TlAt 0 w z t := ⟨h.ln.at hw hm, h.sg.at hw hm, h.ad.at hw hm⟩
theorem ei57 : EI Tryd.prog 57 (.agg #[.int .i64 0, .int .i64 0, .int .i64 0]) 3 24 := by unfold EI; kernel_rfl
theorem ei58 : EI Tryd.prog 58 (.slice none 0 0) 1 24 := by unfold EI; kernel_rfl
theorem ei59 : EI Tryd.prog 59 (.slice none 0 0) 1 24 := by unfold EI; kernel_rfl
theorem ei63 : EI Tryd.prog 63 (.agg #[.int .i64 0, .int .i64 0, .int .i64 0]) 3 24 := by unfold EI; kernel_rfl
theorem bt57 : BT Tryd.prog 57 [(0, 1), (1, 1), (2, 1)] (.agg #[.int .i64 0, .int .i64 0, .int .i64 0]) := BT.of Tryd.underlying57 (by kernel_rfl) (by kernel_rfl)
theorem bt61 : BT Tryd.prog 61 [(0, 1), (1, 1), (2, 1), (3, 1)] (.agg #[.int .i64 0, .slice none 0 0, .slice none 0 0, .slice none 0 0]) := BT.of Tryd.underlying61 (by kernel_rfl) (by kernel_rfl)
theorem bt63 : BT Tryd.prog 63 [(0, 1), (1, 1), (2, 1)] (.agg #[.int .i64 0, .int .i64 0, .int .i64 0]) := BT.of Tryd.underlying63 (by kernel_rfl) (by kernel_rfl)
theorem bt68 : BT Tryd.prog 68 [(0, 1), (1, 1)] (.agg #[.int .i64 0, .int .i64 0]) := BT.of Tryd.underlying68 (by kernel_rfl) (by kernel_rfl)
theorem bt113 : BT Tryd.prog 113 [(0, 1), (1, 1)] (.agg #[.int .i64 0, .int .i64 0]) := BT.of Tryd.underlying113 (by kernel_rfl) (by kernel_rfl)
theorem within63 (n l h : Int) (w : World) : Calls Tryd.prog 63 #[.int .i64 n, .int .i64 l, .int .i64 h] w fun e w' => e = .returned (.bool (decide (l ≤ n ∧ n ≤ h))) ∧ Below w.heap.size w w' := by
  refine calls_of_SC (args := [.int .i64 n, .int .i64 l, .int .i64 h]) Tryd.func63 rfl Tryd.ntmps63 rfl ?_
  simp only [argL, Nat.reduceAdd, Nat.zero_add]
  refine sc_seq ?_
  refine sc_region ?_
  refine qs (y_assign RF) ?_
  refine sq_nil ?_
  refine sx_then ?_
  refine sc_seq ?_
  refine sc_region ?_
  refine qs (y_move RF) ?_
  refine qs (y_move RF) ?_
  refine qs (y_leq RF RF) ?_
  refine qs (y_move RF) ?_
  refine sp 10 (fun hg1_3 => ?_) (fun hg1_3 => ?_)
  ·
    refine qg (y_move RF) ?_
    refine qg (y_move RF) ?_
    refine qg (y_leq RF RF) ?_
    refine qs (y_pick_t RF RF) ?_
    refine qs (y_assign RF) ?_
    refine sq_nil ?_
    refine sx_then ?_
    refine sc_ret ?_
    refine sx_ret1 (.inl rfl) rfl Tryd.results63 RF ?_
    intro w' hw'
    exact ⟨by simp [*], hw'.below MM⟩
  ·
    refine qf ?_
    refine qf ?_
    refine qf ?_
    refine qs (y_pick_f RF RF) ?_
    refine qs (y_assign RF) ?_
    refine sq_nil ?_
    refine sx_then ?_
    refine sc_ret ?_
    refine sx_ret1 (.inl rfl) rfl Tryd.results63 RF ?_
    intro w' hw'
    exact ⟨by simp [*], hw'.below MM⟩
theorem isIn64 (w : World) (at_ : Int) (l : Ln) : Calls Tryd.prog 64 #[.int .i64 at_, .agg (lnRow l).toArray] w fun e w' => e = .returned (.bool (decide ((l.f : Int) ≤ at_ ∧ at_ < (l.t : Int)))) ∧ Below w.heap.size w w' := by
  unfold lnRow
  refine calls_of_SC (args := [.int .i64 at_, .agg #[.int .i64 l.p, .int .i64 l.f, .int .i64 l.t]]) Tryd.func64 rfl Tryd.ntmps64 rfl ?_
  simp only [argL, Nat.zero_add]
  refine sc_seq ?_
  refine sc_region ?_
  refine sq_box RF rfl (fun b3 => ?_)
  refine qs (y_assign RF) ?_
  refine sq_nil ?_
  refine sx_then ?_
  refine sc_seq ?_
  refine sc_region ?_
  refine qs FA63_3 ?_
  refine qs LD3 ?_
  refine qs (y_move RF) ?_
  refine qs (y_leq RF RF) ?_
  refine qs (y_move RF) ?_
  refine sp 9 (fun hg1_4 => ?_) (fun hg1_4 => ?_)
  ·
    refine qg (y_move RF) ?_
    refine qg FA63_3 ?_
    refine qg LD3 ?_
    refine qg (y_lss RF RF) ?_
    refine qs (y_pick_t RF RF) ?_
    refine qs (y_assign RF) ?_
    refine sq_nil ?_
    refine sx_then ?_
    refine sc_ret ?_
    refine sx_ret1 (.inl rfl) rfl Tryd.results64 RF ?_
    intro w' hw'
    exact ⟨by simp [*], hw'.below MM⟩
  ·
    refine qf ?_
    refine qf ?_
    refine qf ?_
    refine qf ?_
    refine qs (y_pick_f RF RF) ?_
    refine qs (y_assign RF) ?_
    refine sq_nil ?_
    refine sx_then ?_
    refine sc_ret ?_
    refine sx_ret1 (.inl rfl) rfl Tryd.results64 RF ?_
    intro w' hw'
    exact ⟨by simp [*], hw'.below MM⟩
theorem indexLn (g : FuncId) (caps : List Value) (p : Nat → Bool) (w : World) (a : Option Addr) (n c : Nat) (row : Nat → List Value) (hn : n ≤ 9223372036854775807) (hel : ∀ i, i < n → a.isSome = true ∧ (row i).length = 3 ∧ CA 0 w (elt a i 3) (row i))
    (hcg : ∀ args w, (callFunc g args).run Tryd.prog w = .ok (.enter g args) w) (hp : ∀ i, i < n → ∀ w1, Below w.heap.size w w1 → Calls Tryd.prog g (.agg (row i).toArray :: caps).toArray w1 fun e w' => e = .returned (.bool (p i)) ∧ Below w1.heap.size w1 w') :
    Calls Tryd.prog 65 #[.slice a n c, .func (.func g) #[] caps.toArray] w fun e w' => (∃ z : Int, e = .returned (.int .i64 z) ∧ (0 ≤ z ↔ (List.range n).any p = true)) ∧ Below w.heap.size w w' := by
  refine calls_of_SC (args := [.slice a n c, .func (.func g) #[] caps.toArray]) Tryd.func65 rfl Tryd.ntmps65 rfl ?_
  simp only [argL, Nat.zero_add]
  refine sc_seq ?_
  refine sc_region ?_
  refine qs (y_assign RF) ?_
  refine sq_nil ?_
  refine sx_then ?_
  refine sc_seq ?_
  refine sc_seq ?_
  refine sc_region ?_
  refine qs (y_move RF) ?_
  refine qs (y_len Tryd.underlying59 RF) ?_
  refine qs (y_move RF) ?_
  refine sq_nil ?_
  refine sx_then ?_
  refine sc_block ?_
  refine sc_loop (σ := Nat)
    (fun s => [(0, .slice a n c), (1, .func (.func g) #[] caps.toArray), (7, .int .i64 n), (8, .int .i64 s)])
    (fun s => [.reg 0 w])
    (fun s => s ≤ n ∧ ∀ j, j < s → p j = false)
    (fun s => n - s)
    (0) ?_ SU SE ?_
  · exact ⟨Nat.zero_le _, fun j hj => absurd hj (Nat.not_lt_zero j)⟩
  rintro k ⟨hk, hno⟩
  refine sc_seq ?_
  refine sc_region ?_
  refine qs (y_lss RF RF) ?_
  refine sq_nil ?_
  refine sx_then ?_
  refine sc_seq ?_
  refine scp (fun hc0 => ?_) (fun hc0 => ?_)
  ·
    have hk' : k < n := by omega
    have hsome := (hel k hk').1
    have hrow := (hel k hk').2.1
    have hca := (hel k hk').2.2
    refine sc_skip ?_
    refine sx_then ?_
    refine sc_seq ?_
    refine sc_block ?_
    refine sc_seq ?_
    refine sc_region ?_
    refine qs (y_move RF) ?_
    refine qs (y_assign RF) ?_
    refine sq_nil ?_
    refine sx_then ?_
    refine sc_seq ?_
    refine sc_region ?_
    refine qs (y_move RF) ?_
    refine qs (y_move RF) ?_
    refine qs (y_move RF) ?_
    refine qs IA59 ?_
    refine qs (by first | exact y_load_ca Tryd.underlying63 rfl Tryd.sizeOf63 RF MM hca hrow | exact LD63) ?_
    refine qy (y_call (first := []) (caps := caps) (by exact rfl) hcg (EvL.cons RF EvL.nil) (fun w1 hw1 => hp k hk' w1 (hw1.below MM))) ?_
    refine sq_nil ?_
    refine sx_then ?_
    refine scp (fun hc1 => ?_) (fun hc1 => ?_)
    ·
      have hpk : p k = true := hc1
      refine sc_seq ?_
      refine sc_region ?_
      refine qs (y_move RF) ?_
      refine qs (y_assign RF) ?_
      refine sq_nil ?_
      refine sx_then ?_
      refine sc_ret ?_
      refine sx_blk_ret ?_
      refine sx_then_ret ?_
      refine sx_round_ret ?_
      refine sx_blk_ret ?_
      refine sx_then_ret ?_
      refine sx_ret1 (.inl rfl) rfl Tryd.results65 RF ?_
      intro w' hw'
      exact ⟨⟨_, rfl, fun _ => List.any_eq_true.2 ⟨k, List.mem_range.2 hk', hpk⟩, fun _ => by omega⟩, hw'.below MM⟩
    ·
      refine sc_skip ?_
      refine sx_blk ?_
      refine sx_then ?_
      refine sc_region ?_
      refine qs (y_add RF RF (by omega)) ?_
      refine qs (y_move RF) ?_
      refine sq_nil ?_
      refine sx_round (k + 1) ?_ ?_ SU SE
      · refine ⟨by omega, fun j hj => ?_⟩
        rcases Nat.lt_succ_iff_lt_or_eq.1 hj with h | rfl
        · exact hno j h
        · simpa using hc1
      · omega
  ·
    refine sc_exit ?_
    refine sx_then_exit ?_
    refine sx_round_exit ?_
    refine sx_blk_hit ?_
    refine sx_then ?_
    refine sc_seq ?_
    refine sc_region ?_
    refine qs (y_assign RF) ?_
    refine sq_nil ?_
    refine sx_then ?_
    refine sc_ret ?_
    refine sx_ret1 (.inl rfl) rfl Tryd.results65 RF ?_
    intro w' hw'
    refine ⟨⟨_, rfl, ?_⟩, hw'.below MM⟩
    have hkn : k = n := by omega
    subst hkn
    constructor
    · intro h; omega
    · intro h
      obtain ⟨j, hj, hpj⟩ := List.any_eq_true.1 h
      rw [hno j (List.mem_range.1 hj)] at hpj; cases hpj
theorem containsLn (g : FuncId) (caps : List Value) (p : Nat → Bool) (w : World) (a : Option Addr) (n c : Nat) (row : Nat → List Value) (hn : n ≤ 9223372036854775807) (hel : ∀ i, i < n → a.isSome = true ∧ (row i).length = 3 ∧ CA 0 w (elt a i 3) (row i))
    (hcg : ∀ args w, (callFunc g args).run Tryd.prog w = .ok (.enter g args) w) (hp : ∀ i, i < n → ∀ w1, Below w.heap.size w w1 → Calls Tryd.prog g (.agg (row i).toArray :: caps).toArray w1 fun e w' => e = .returned (.bool (p i)) ∧ Below w1.heap.size w1 w') :
    Calls Tryd.prog 90 #[.slice a n c, .func (.func g) #[] caps.toArray] w fun e w' => e = .returned (.bool ((List.range n).any p)) ∧ Below w.heap.size w w' := by
  refine calls_of_SC (args := [.slice a n c, .func (.func g) #[] caps.toArray]) Tryd.func90 rfl Tryd.ntmps90 rfl ?_
  simp only [argL, Nat.zero_add]
  refine sc_seq ?_
  refine sc_region ?_
  refine qs (y_assign RF) ?_
  refine sq_nil ?_
  refine sx_then ?_
  refine sc_seq ?_
  refine sc_region ?_
  refine qs (y_move RF) ?_
  refine qs (y_move RF) ?_
  refine sq_call (first := []) (caps := []) (vs := [.slice a n c, .func (.func g) #[] caps.toArray]) (Z := Int) (fun z => .int .i64 z) (fun _ => [.reg 0 w]) (fun z => 0 ≤ z ↔ (List.range n).any p = true) RF Tryd.call65 (EvL.cons RF (EvL.cons RF EvL.nil)) (fun w1 hw1 => (indexLn g caps p w1 a n c row hn (fun i hi => ⟨(hel i hi).1, (hel i hi).2.1, CA.at (hel i hi).2.2 hw1 MM⟩) hcg (fun i hi w2 hb => hp i hi w2 ((hw1.below MM).trans (hb.mono (hw1.below MM).size)))).mono (fun e w2 ⟨⟨z, he, hz⟩, hb⟩ => ⟨z, hz, he, hw1.ext hb⟩)) rfl (fun z hz => ?_)
  refine qs (y_geq RF RF) ?_
  refine qs (y_assign RF) ?_
  refine sq_nil ?_
  refine sx_then ?_
  refine sc_ret ?_
  refine sx_ret1 (.inl rfl) rfl Tryd.results90 RF ?_
  intro w' hw'
  refine ⟨?_, hw'.below MM⟩
  congr 2
  rw [Bool.eq_iff_iff]; simpa using hz
theorem indexSg (g : FuncId) (caps : List Value) (p : Nat → Bool) (w : World) (a : Option Addr) (n c : Nat) (row : Nat → List Value) (hn : n ≤ 9223372036854775807) (hel : ∀ i, i < n → a.isSome = true ∧ (row i).length = 3 ∧ CA 0 w (elt a i 3) (row i))
    (hcg : ∀ args w, (callFunc g args).run Tryd.prog w = .ok (.enter g args) w) (hp : ∀ i, i < n → ∀ w1, Below w.heap.size w w1 → Calls Tryd.prog g (.agg (row i).toArray :: caps).toArray w1 fun e w' => e = .returned (.bool (p i)) ∧ Below w1.heap.size w1 w') :
    Calls Tryd.prog 105 #[.slice a n c, .func (.func g) #[] caps.toArray] w fun e w' => (∃ z : Int, e = .returned (.int .i64 z) ∧ (0 ≤ z ↔ (List.range n).any p = true)) ∧ Below w.heap.size w w' := by
  refine calls_of_SC (args := [.slice a n c, .func (.func g) #[] caps.toArray]) Tryd.func105 rfl Tryd.ntmps105 rfl ?_
  simp only [argL, Nat.zero_add]
  refine sc_seq ?_
  refine sc_region ?_
  refine qs (y_assign RF) ?_
  refine sq_nil ?_
  refine sx_then ?_
  refine sc_seq ?_
  refine sc_seq ?_
  refine sc_region ?_
  refine qs (y_move RF) ?_
  refine qs (y_len Tryd.underlying58 RF) ?_
  refine qs (y_move RF) ?_
  refine sq_nil ?_
  refine sx_then ?_
  refine sc_block ?_
  refine sc_loop (σ := Nat)
    (fun s => [(0, .slice a n c), (1, .func (.func g) #[] caps.toArray), (7, .int .i64 n), (8, .int .i64 s)])
    (fun s => [.reg 0 w])
    (fun s => s ≤ n ∧ ∀ j, j < s → p j = false)
    (fun s => n - s)
    (0) ?_ SU SE ?_
  · exact ⟨Nat.zero_le _, fun j hj => absurd hj (Nat.not_lt_zero j)⟩
  rintro k ⟨hk, hno⟩
  refine sc_seq ?_
  refine sc_region ?_
  refine qs (y_lss RF RF) ?_
  refine sq_nil ?_
  refine sx_then ?_
  refine sc_seq ?_
  refine scp (fun hc0 => ?_) (fun hc0 => ?_)
  ·
    have hk' : k < n := by omega
    have hsome := (hel k hk').1
    have hrow := (hel k hk').2.1
    have hca := (hel k hk').2.2
    refine sc_skip ?_
    refine sx_then ?_
    refine sc_seq ?_
    refine sc_block ?_
    refine sc_seq ?_
    refine sc_region ?_
    refine qs (y_move RF) ?_
    refine qs (y_assign RF) ?_
    refine sq_nil ?_
    refine sx_then ?_
    refine sc_seq ?_
    refine sc_region ?_
    refine qs (y_move RF) ?_
    refine qs (y_move RF) ?_
    refine qs (y_move RF) ?_
    refine qs IA58 ?_
    refine qs (by first | exact y_load_ca Tryd.underlying57 rfl Tryd.sizeOf57 RF MM hca hrow | exact LD57) ?_
    refine qy (y_call (first := []) (caps := caps) (by exact rfl) hcg (EvL.cons RF EvL.nil) (fun w1 hw1 => hp k hk' w1 (hw1.below MM))) ?_
    refine sq_nil ?_
    refine sx_then ?_
    refine scp (fun hc1 => ?_) (fun hc1 => ?_)
    ·
      have hpk : p k = true := hc1
      refine sc_seq ?_
      refine sc_region ?_
      refine qs (y_move RF) ?_
      refine qs (y_assign RF) ?_
      refine sq_nil ?_
      refine sx_then ?_
      refine sc_ret ?_
      refine sx_blk_ret ?_
      refine sx_then_ret ?_
      refine sx_round_ret ?_
      refine sx_blk_ret ?_
      refine sx_then_ret ?_
      refine sx_ret1 (.inl rfl) rfl Tryd.results105 RF ?_
      intro w' hw'
      exact ⟨⟨_, rfl, fun _ => List.any_eq_true.2 ⟨k, List.mem_range.2 hk', hpk⟩, fun _ => by omega⟩, hw'.below MM⟩
    ·
      refine sc_skip ?_
      refine sx_blk ?_
      refine sx_then ?_
      refine sc_region ?_
      refine qs (y_add RF RF (by omega)) ?_
      refine qs (y_move RF) ?_
      refine sq_nil ?_
      refine sx_round (k + 1) ?_ ?_ SU SE
      · refine ⟨by omega, fun j hj => ?_⟩
        rcases Nat.lt_succ_iff_lt_or_eq.1 hj with h | rfl
        · exact hno j h
        · simpa using hc1
      · omega
  ·
    refine sc_exit ?_
    refine sx_then_exit ?_
    refine sx_round_exit ?_
    refine sx_blk_hit ?_
    refine sx_then ?_
    refine sc_seq ?_
    refine sc_region ?_
    refine qs (y_assign RF) ?_
    refine sq_nil ?_
    refine sx_then ?_
    refine sc_ret ?_
    refine sx_ret1 (.inl rfl) rfl Tryd.results105 RF ?_
    intro w' hw'
    refine ⟨⟨_, rfl, ?_⟩, hw'.below MM⟩
    have hkn : k = n := by omega
    subst hkn
    constructor
    · intro h; omega
    · intro h
      obtain ⟨j, hj, hpj⟩ := List.any_eq_true.1 h
      rw [hno j (List.mem_range.1 hj)] at hpj; cases hpj
theorem containsSg (g : FuncId) (caps : List Value) (p : Nat → Bool) (w : World) (a : Option Addr) (n c : Nat) (row : Nat → List Value) (hn : n ≤ 9223372036854775807) (hel : ∀ i, i < n → a.isSome = true ∧ (row i).length = 3 ∧ CA 0 w (elt a i 3) (row i))
    (hcg : ∀ args w, (callFunc g args).run Tryd.prog w = .ok (.enter g args) w) (hp : ∀ i, i < n → ∀ w1, Below w.heap.size w w1 → Calls Tryd.prog g (.agg (row i).toArray :: caps).toArray w1 fun e w' => e = .returned (.bool (p i)) ∧ Below w1.heap.size w1 w') :
    Calls Tryd.prog 93 #[.slice a n c, .func (.func g) #[] caps.toArray] w fun e w' => e = .returned (.bool ((List.range n).any p)) ∧ Below w.heap.size w w' := by
  refine calls_of_SC (args := [.slice a n c, .func (.func g) #[] caps.toArray]) Tryd.func93 rfl Tryd.ntmps93 rfl ?_
  simp only [argL, Nat.zero_add]
  refine sc_seq ?_
  refine sc_region ?_
  refine qs (y_assign RF) ?_
  refine sq_nil ?_
  refine sx_then ?_
  refine sc_seq ?_
  refine sc_region ?_
  refine qs (y_move RF) ?_
  refine qs (y_move RF) ?_
  refine sq_call (first := []) (caps := []) (vs := [.slice a n c, .func (.func g) #[] caps.toArray]) (Z := Int) (fun z => .int .i64 z) (fun _ => [.reg 0 w]) (fun z => 0 ≤ z ↔ (List.range n).any p = true) RF Tryd.call105 (EvL.cons RF (EvL.cons RF EvL.nil)) (fun w1 hw1 => (indexSg g caps p w1 a n c row hn (fun i hi => ⟨(hel i hi).1, (hel i hi).2.1, CA.at (hel i hi).2.2 hw1 MM⟩) hcg (fun i hi w2 hb => hp i hi w2 ((hw1.below MM).trans (hb.mono (hw1.below MM).size)))).mono (fun e w2 ⟨⟨z, he, hz⟩, hb⟩ => ⟨z, hz, he, hw1.ext hb⟩)) rfl (fun z hz => ?_)
  refine qs (y_geq RF RF) ?_
  refine qs (y_assign RF) ?_
  refine sq_nil ?_
  refine sx_then ?_
  refine sc_ret ?_
  refine sx_ret1 (.inl rfl) rfl Tryd.results93 RF ?_
  intro w' hw'
  refine ⟨?_, hw'.below MM⟩
  congr 2
  rw [Bool.eq_iff_iff]; simpa using hz
theorem overlaps92 (w : World) (a b : Ln) : Calls Tryd.prog 92 #[.agg (lnRow a).toArray, .agg (lnRow b).toArray] w fun e w' => ∃ r : Bool, e = .returned (.bool r) ∧ Below w.heap.size w w' := by
  unfold lnRow
  refine calls_of_SC (args := [.agg #[.int .i64 a.p, .int .i64 a.f, .int .i64 a.t], .agg #[.int .i64 b.p, .int .i64 b.f, .int .i64 b.t]]) Tryd.func92 rfl Tryd.ntmps92 rfl ?_
  simp only [argL, Nat.zero_add]
  refine sc_seq ?_
  refine sc_region ?_
  refine sq_box RF rfl (fun b2 => ?_)
  refine sq_box RF rfl (fun b3 => ?_)
  refine qs (y_assign RF) ?_
  refine sq_nil ?_
  refine sx_then ?_
  refine sc_seq ?_
  refine sc_region ?_
  refine qs FA63_3 ?_
  refine qs LD3 ?_
  refine qs FA63_3 ?_
  refine qs LD3 ?_
  refine qs (y_lss RF RF) ?_
  refine qs (y_move RF) ?_
  refine sp 10 (fun hg1_5 => ?_) (fun hg1_5 => ?_)
  ·
    refine qg FA63_3 ?_
    refine qg LD3 ?_
    refine qg FA63_3 ?_
    refine qg LD3 ?_
    refine qg (y_lss RF RF) ?_
    refine qs (y_pick_t RF RF) ?_
    refine qs (y_assign RF) ?_
    refine sq_nil ?_
    refine sx_then ?_
    refine sc_ret ?_
    refine sx_ret1 (.inl rfl) rfl Tryd.results92 RF ?_
    intro w' hw'
    exact ⟨_, rfl, hw'.below MM⟩
  ·
    refine qf ?_
    refine qf ?_
    refine qf ?_
    refine qf ?_
    refine qf ?_
    refine qs (y_pick_f RF RF) ?_
    refine qs (y_assign RF) ?_
    refine sq_nil ?_
    refine sx_then ?_
    refine sc_ret ?_
    refine sx_ret1 (.inl rfl) rfl Tryd.results92 RF ?_
    intro w' hw'
    exact ⟨_, rfl, hw'.below MM⟩
theorem badAdmit89 (w : World) (n : Int) : Calls Tryd.prog 89 #[.int .i64 n] w fun e w' => e = .returned (.bool (!decide (-1 ≤ n ∧ n ≤ 16))) ∧ Below w.heap.size w w' := by
  refine calls_of_SC (args := [.int .i64 n]) Tryd.func89 rfl Tryd.ntmps89 rfl ?_
  simp only [argL]
  refine sc_seq ?_
  refine sc_region ?_
  refine qs (y_assign RF) ?_
  refine sq_nil ?_
  refine sx_then ?_
  refine sc_seq ?_
  refine sc_region ?_
  refine qs (y_move RF) ?_
  refine qy (yc Tryd.call63 E3 (fun w1 hw1 => within63 n (-1) 16 w1)) ?_
  refine qs (y_not RF) ?_
  refine qs (y_assign RF) ?_
  refine sq_nil ?_
  refine sx_then ?_
  refine sc_ret ?_
  refine sx_ret1 (.inl rfl) rfl Tryd.results89 RF ?_
  intro w' hw'
  exact ⟨rfl, hw'.below MM⟩
theorem badLook88 (w : World) (s : Sg) (p : Nat) (hp : p ≤ 16) (pa : Addr) (h1 : CA 0 w pa [.int .i64 ((pw2 p - 1 : Nat) : Int)]) (ok : s.h ≤ 1048576 ∧ s.th < pw2 p ∧ s.g < pw2 p ∧ s.th &&& s.g = 0) : Calls Tryd.prog 88 #[.agg (sgRow s).toArray, .pointer (some pa)] w fun e w' => e = .returned (.bool false) ∧ Below w.heap.size w w' := by
  unfold sgRow
  have hpw := pow16 hp
  refine calls_of_SC (args := [.agg #[.int .i64 s.h, .int .i64 s.th, .int .i64 s.g], .pointer (some pa)]) Tryd.func88 rfl Tryd.ntmps88 rfl ?_
  simp only [argL, Nat.zero_add]
  refine sc_seq ?_
  refine sc_region ?_
  refine sq_box RF rfl (fun b2 => ?_)
  refine qs (y_assign RF) ?_
  refine sq_nil ?_
  refine sx_then ?_
  refine sc_seq ?_
  refine sc_region ?_
  refine qs FA57_3 ?_
  refine qs LD3 ?_
  refine qy (yc Tryd.call63 E3 (fun w1 hw1 => within63 s.h 0 1048576 w1)) ?_
  refine qs (y_not RF) ?_
  refine qs (y_move RF) ?_
  refine sq_known (tt := 8) (b' := false) RF (by rw [decide_eq_true (by omega)]; rfl) ?_
  refine qg FA57_3 ?_
  refine qg LD3 ?_
  refine qg (by first | exact y_load_ca0 Tryd.underlying3 rfl RF MM h1 rfl | exact LD3) ?_
  refine sq_gt RF RF (y_call (first := []) (caps := []) RF Tryd.call63 (EvL.cons RF (EvL.cons RF (EvL.cons RF EvL.nil))) (fun w1 hw1 => within63 s.th 0 ((pw2 p - 1 : Nat) : Int) w1)) rfl ?_
  refine qg (y_not RF) ?_
  refine qs (y_pick_f RF RF) ?_
  refine qs (y_move RF) ?_
  refine sq_known (tt := 15) (b' := false) RF (by rw [decide_eq_true (by omega)]; rfl) ?_
  refine qg FA57_3 ?_
  refine qg LD3 ?_
  refine qg (by first | exact y_load_ca0 Tryd.underlying3 rfl RF MM h1 rfl | exact LD3) ?_
  refine sq_gt RF RF (y_call (first := []) (caps := []) RF Tryd.call63 (EvL.cons RF (EvL.cons RF (EvL.cons RF EvL.nil))) (fun w1 hw1 => within63 s.g 0 ((pw2 p - 1 : Nat) : Int) w1)) rfl ?_
  refine qg (y_not RF) ?_
  refine qs (y_pick_f RF RF) ?_
  refine qs (y_move RF) ?_
  refine sq_known (tt := 22) (b' := false) RF (by rw [decide_eq_true (by omega)]; rfl) ?_
  refine qg FA57_3 ?_
  refine qg LD3 ?_
  refine qg FA57_3 ?_
  refine qg LD3 ?_
  refine qg (y_and RF RF (by omega) (by omega)) ?_
  refine qg (y_neq RF RF) ?_
  refine qs (y_pick_f RF RF) ?_
  refine qs (y_assign RF) ?_
  refine sq_nil ?_
  refine sx_then ?_
  refine sc_ret ?_
  refine sx_ret1 (.inl rfl) rfl Tryd.results88 RF ?_
  intro w' hw'
  refine ⟨?_, hw'.below MM⟩
  congr 2
  rw [Int.toNat_natCast, Int.toNat_natCast, ok.2.2.2]; rfl
theorem isEmpty67 (w : World) (a b : Nat) : Calls Tryd.prog 67 #[.agg #[.int .i64 (a : Int), .int .i64 (b : Int)]] w fun e w' => e = .returned (.bool (decide (b ≤ a))) ∧ Below w.heap.size w w' := by
  refine calls_of_SC (args := [.agg #[.int .i64 a, .int .i64 b]]) Tryd.func67 rfl Tryd.ntmps67 rfl ?_
  simp only [argL]
  refine sc_seq ?_
  refine sc_region ?_
  refine sq_box RF rfl (fun b1 => ?_)
  refine qs (y_assign RF) ?_
  refine sq_nil ?_
  refine sx_then ?_
  refine sc_seq ?_
  refine sc_region ?_
  refine qs FA113_3 ?_
  refine qs LD3 ?_
  refine qs FA113_3 ?_
  refine qs LD3 ?_
  refine qs (y_geq RF RF) ?_
  refine qs (y_assign RF) ?_
  refine sq_nil ?_
  refine sx_then ?_
  refine sc_ret ?_
  refine sx_ret1 (.inl rfl) rfl Tryd.results67 RF ?_
  intro w' hw'
  refine ⟨?_, hw'.below MM⟩
  congr 2
  exact decide_eq_decide.2 (by omega)
theorem windowOf66 (w : World) (a : Option Addr) (c : Nat) (l : List Sg) (hl : RowsA sgRow 3 0 w a l) (hs : ∀ s, s ∈ l → s.h ≤ 1048576 ∧ s.th < 65536 ∧ s.g < 65536) (k : Nat) (hk : k < 16) : Calls Tryd.prog 66 #[.slice a l.length c, .int .i64 (k : Int)] w fun e w' => e = .returned (.agg #[.int .i64 ((winW l k).1 : Int), .int .i64 ((winW l k).2 : Int)]) ∧ Below w.heap.size w w' := by
  have hlen := hl.len
  refine calls_of_SC (args := [.slice a l.length c, .int .i64 (k : Int)]) Tryd.func66 rfl Tryd.ntmps66 rfl ?_
  simp only [argL, Nat.zero_add]
  refine sc_seq ?_
  refine sc_region ?_
  refine sq_alloc Tryd.zeroValue113 rfl (fun b4 => ?_)
  refine sq_nil ?_
  refine sx_then ?_
  refine sc_seq ?_
  refine sc_region ?_
  refine qs (y_build bt113 (EvP.cons RF (EvP.cons RF EvP.nil)) RF) ?_
  refine sq_alloc Tryd.zeroValue113 rfl (fun b5 => ?_)
  refine sq_store_all Tryd.sizeOf113 RF RF rfl RM rfl rfl ?_
  refine sq_nil ?_
  refine sx_then ?_
  refine sc_seq ?_
  refine sc_seq ?_
  refine sc_region ?_
  refine qs (y_move RF) ?_
  refine qs (y_len Tryd.underlying58 RF) ?_
  refine qs (y_move RF) ?_
  refine sq_nil ?_
  refine sx_then ?_
  refine sc_block ?_
  refine sc_loop (σ := Nat)
    (fun s_ => [(0, .slice a l.length c), (1, .int .i64 (k : Int)), (4, .pointer (some ⟨b4, 0, none⟩)), (5, .pointer (some ⟨b5, 0, none⟩)), (9, .slice a l.length c), (10, .int .i64 l.length), (11, .int .i64 s_)])
    (fun s_ => [.blk b5 (.cells #[.int .i64 ((winW (l.take s_) k).1 : Int), .int .i64 ((winW (l.take s_) k).2 : Int)] 113 (0, 0)), .blk b4 (.cells #[.int .i64 0, .int .i64 0] 113 (0, 0)), .reg 0 w])
    (fun s_ => s_ ≤ l.length)
    (fun s_ => l.length - s_)
    (0) ?_ SU SR ?_
  · exact Nat.zero_le _
  rintro i hi
  refine sc_seq ?_
  refine sc_region ?_
  refine qs (y_lss RF RF) ?_
  refine sq_nil ?_
  refine sx_then ?_
  refine sc_seq ?_
  refine scp (fun hc0 => ?_) (fun hc0 => ?_)
  ·
    have hi' : i < l.length := by omega
    have hsi := (hl.get sg0 hi').1
    have hci := (hl.get sg0 hi').2
    have hb := hs _ (getD_mem (d := sg0) hi')
    have hwb := winW_bd (fun s h => (hs s h).1) k i (Nat.le_of_lt hi')
    refine sc_skip ?_
    refine sx_then ?_
    refine sc_seq ?_
    refine sc_block ?_
    refine sc_seq ?_
    refine sc_region ?_
    refine qs IA58 ?_
    refine qs (by first | exact y_load_ca Tryd.underlying57 rfl Tryd.sizeOf57 RF MM hci (sgRow_len _) | exact LD57) ?_
    refine sq_alloc Tryd.zeroValue57 rfl (fun b7 => ?_)
    refine sq_store_all Tryd.sizeOf57 RF RF rfl RM rfl rfl ?_
    refine sq_nil ?_
    refine sx_then ?_
    refine sc_seq ?_
    refine sc_seq ?_
    refine sc_region ?_
    refine qs FA57_3 ?_
    refine qs LD3 ?_
    refine qs (y_move RF) ?_
    refine qs (y_shr RF RF (by first | omega | (simp [IntKind.bits]; omega))) ?_
    refine qs (y_and RF RF (by have : (0:Int) ≤ ((l.getD i sg0).th : Int) / 2 ^ ((k : Int)).toNat := Int.ediv_nonneg (by omega) (Int.le_of_lt (Int.pow_pos (by decide))); have h2 : ((l.getD i sg0).th : Int) / 2 ^ ((k : Int)).toNat ≤ ((l.getD i sg0).th : Int) := Int.ediv_le_self _ (by omega); omega) (by decide)) ?_
    refine qs (y_eql RF RF) ?_
    obtain ⟨bt, hbt⟩ : ∃ b : Bool, b = (l.getD i sg0).th.testBit k := ⟨_, rfl⟩
    rw [bit_at, ← hbt]
    refine sq_nil ?_
    refine sx_then ?_
    refine sc_midE (Z := {v : Nat // v = if (l.getD i sg0).th.testBit k = true then max (winW (l.take i) k).1 (l.getD i sg0).h else (winW (l.take i) k).1}) (fun v => [(0, .slice a l.length c), (1, .int .i64 (k : Int)), (4, .pointer (some ⟨b4, 0, none⟩)), (5, .pointer (some ⟨b5, 0, none⟩)), (7, .pointer (some ⟨b7, 0, none⟩)), (10, .int .i64 l.length), (11, .int .i64 i), (9, .slice a l.length c)]) (fun v => [.blk b5 (.cells #[.int .i64 (v.1 : Int), .int .i64 ((winW (l.take i) k).2 : Int)] 113 (0, 0)), .blk b7 (.cells (sgRow (l.getD i sg0)).toArray 57 (0, 0)), .blk b4 (.cells #[.int .i64 0, .int .i64 0] 113 (0, 0)), .reg 0 w]) ?_ ?_
    ·
      refine scp (fun hc1 => ?_) (fun hc1 => ?_)
      ·
        refine sc_region ?_
        refine qs FA113_3 ?_
        refine qs LD3 ?_
        refine qs FA57_3 ?_
        refine qs LD3 ?_
        refine qs (y_max RF RF) ?_
        rw [show max ((winW (l.take i) k).1 : Int) ((l.getD i sg0).h : Int) = ((max (winW (l.take i) k).1 (l.getD i sg0).h : Nat) : Int) by omega]
        refine qs FA113_3 ?_
        refine sq_store Tryd.sizeOf3 RF RF (by first | rfl | assumption) RM (by first | exact Nat.le_of_ble_eq_true rfl | simp | omega) ?_
        refine sq_nil ?_
        exact sx_midE (⟨_, (if_pos (by rw [← hbt]; exact hc1)).symm⟩) SU SR
      ·
        refine sc_skip ?_
        exact sx_midE (⟨_, (if_neg (by rw [← hbt, hc1]; decide)).symm⟩) SU SR
    rintro ⟨v1, hv1⟩
    try dsimp only
    refine sx_then ?_
    refine sc_seq ?_
    refine sc_region ?_
    refine qs FA57_3 ?_
    refine qs LD3 ?_
    refine qs (y_move RF) ?_
    refine qs (y_shr RF RF (by first | omega | (simp [IntKind.bits]; omega))) ?_
    refine qs (y_and RF RF (by have : (0:Int) ≤ ((l.getD i sg0).g : Int) / 2 ^ ((k : Int)).toNat := Int.ediv_nonneg (by omega) (Int.le_of_lt (Int.pow_pos (by decide))); have h2 : ((l.getD i sg0).g : Int) / 2 ^ ((k : Int)).toNat ≤ ((l.getD i sg0).g : Int) := Int.ediv_le_self _ (by omega); omega) (by decide)) ?_
    refine qs (y_eql RF RF) ?_
    obtain ⟨bg, hbg⟩ : ∃ b : Bool, b = (l.getD i sg0).g.testBit k := ⟨_, rfl⟩
    rw [bit_at, ← hbg]
    refine sq_nil ?_
    refine sx_then ?_
    refine sc_midE (Z := {v : Nat // v = if (l.getD i sg0).g.testBit k = true then min (winW (l.take i) k).2 (l.getD i sg0).h else (winW (l.take i) k).2}) (fun v => [(0, .slice a l.length c), (1, .int .i64 (k : Int)), (4, .pointer (some ⟨b4, 0, none⟩)), (5, .pointer (some ⟨b5, 0, none⟩)), (10, .int .i64 l.length), (11, .int .i64 i), (9, .slice a l.length c)]) (fun v => [.blk b5 (.cells #[.int .i64 (v1 : Int), .int .i64 (v.1 : Int)] 113 (0, 0)), .blk b4 (.cells #[.int .i64 0, .int .i64 0] 113 (0, 0)), .reg 0 w]) ?_ ?_
    ·
      refine scp (fun hc2 => ?_) (fun hc2 => ?_)
      ·
        refine sc_region ?_
        refine qs FA113_3 ?_
        refine qs LD3 ?_
        refine qs FA57_3 ?_
        refine qs LD3 ?_
        refine qs (y_min RF RF) ?_
        rw [show min ((winW (l.take i) k).2 : Int) ((l.getD i sg0).h : Int) = ((min (winW (l.take i) k).2 (l.getD i sg0).h : Nat) : Int) by omega]
        refine qs FA113_3 ?_
        refine sq_store Tryd.sizeOf3 RF RF (by first | rfl | assumption) RM (by first | exact Nat.le_of_ble_eq_true rfl | simp | omega) ?_
        refine sq_nil ?_
        exact sx_midE (⟨_, (if_pos (by rw [← hbg]; exact hc2)).symm⟩) SU SR
      ·
        refine sc_skip ?_
        exact sx_midE (⟨_, (if_neg (by rw [← hbg, hc2]; decide)).symm⟩) SU SR
    rintro ⟨v2, hv2⟩
    try dsimp only
    refine sx_blk ?_
    refine sx_then ?_
    refine sc_region ?_
    refine qs (y_add RF RF (by omega)) ?_
    refine qs (y_move RF) ?_
    refine sq_nil ?_
    refine sx_sub (rs' := [.blk b5 (.cells #[.int .i64 ((winW (l.take (i + 1)) k).1 : Int), .int .i64 ((winW (l.take (i + 1)) k).2 : Int)] 113 (0, 0)), .blk b4 (.cells #[.int .i64 0, .int .i64 0] 113 (0, 0)), .reg 0 w]) (SubL.refl _) (by rw [winW_take l k hi']; unfold winF; (try dsimp only); rw [← hv1, ← hv2]; exact SR) ?_
    exact sx_round (i + 1) (by omega) (by omega) SU SR
  ·
    have hin : i = l.length := by omega
    subst hin
    rw [List.take_length]
    refine sc_exit ?_
    refine sx_then_exit ?_
    refine sx_round_exit ?_
    refine sx_blk_hit ?_
    refine sx_then ?_
    refine sc_seq ?_
    refine sc_region ?_
    refine qs LD113 ?_
    refine sq_store_all Tryd.sizeOf113 RF RF rfl RM rfl rfl ?_
    refine sq_nil ?_
    refine sx_then ?_
    refine sc_ret ?_
    refine sx_retc (.inl rfl) rfl Tryd.results66 Tryd.underlying113 rfl Tryd.sizeOf113 RF MM rfl ?_
    intro w' hw'
    exact ⟨rfl, hw'.below MM⟩
end Go.Proofs.YtpijahglojichaaDoor
