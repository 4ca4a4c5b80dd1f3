/- The walks of whether sides fit. -/
import Derived.Test.YtfceajkofpafpaaFW3
namespace Go.Proofs.Ytfceajkofpafpaa
open Go Go.Eng Go.RowKit Go.Proofs
open Go.Proofs.Ytfceajkofpafpaa.Sc (iRow spRow sp0 Sp spB plusV getD_of get_of_lt any_range_get all_not_any all_getD)
set_option maxRecDepth 100000
/-- whether a difference is allowed, always or perhaps -/
def qV (p : Pl) (t h : Eg) (i j : Nat) : Bool := if i = 0 then allB (byD j p t h) (lowD j p) (highD j p) p.damp else mayB (byD j p t h) (lowD j p) (highD j p) p.damp
def qAll (p : Pl) (t h : Eg) (i : Nat) : Bool := qV p t h i 0 && qV p t h i 1 && qV p t h i 2
theorem verd_q (p : Pl) (t h : Eg) : verdV p t h = if qAll p t h 0 = true then 2 else if qAll p t h 1 = true then 1 else 0 := rfl
theorem q_any (p : Pl) (t h : Eg) (i : Nat) : ((List.range 3).any fun j => !qV p t h i j) = !qAll p t h i := by
  show ((!qV p t h i 0) || ((!qV p t h i 1) || ((!qV p t h i 2) || false))) = _
  unfold qAll
  cases qV p t h i 0 <;> cases qV p t h i 1 <;> cases qV p t h i 2 <;> rfl
theorem call_f {i : Nat} (hi : i < 2) : ∀ args w, (callFunc (134 + i) args).run Try.prog w = .ok (.enter (134 + i) args) w := by
  rcases (by omega : i = 0 ∨ i = 1) with rfl | rfl
  · exact Try.call134
  · exact Try.call135
theorem test_f (w : World) (p : Pl) (t h : Eg) (hp : Vp p) (ht : Vg t) (hh : Vg h) {i : Nat} (hi : i < 2) (j : Nat) (hj : j < 3) : Calls Try.prog (134 + i) #[.agg (cpRow p t h).toArray, difV j p t h] w fun e w' => e = .returned (.bool (qV p t h i j)) ∧ Below w.heap.size w w' := by
  rcases (by omega : i = 0 ∨ i = 1) with rfl | rfl
  · exact always134 w p t h hp ht hh j hj
  · exact perhaps135 w p t h hp ht hh j hj
theorem fn_at {i : Nat} (hi : i < 2) : (#[.func (.func 134) #[] #[], .func (.func 135) #[] #[]] : Array Value)[0 + i * 1]? = some (.func (.func (134 + i)) #[] #[]) := by
  rcases (by omega : i = 0 ∨ i = 1) with rfl | rfl <;> rfl
theorem ei243 : EI Try.prog 243 (.nilFunc) 1 8 := by unfold EI; kernel_rfl
theorem bad136 (w : World) (p : Pl) (t h : Eg) (hp : Vp p) (ht : Vg t) (hh : Vg h) {i : Nat} (hi : i < 2) (j : Nat) (hj : j < 3) (pf px : Addr) (hf : CA 0 w pf [.func (.func (134 + i)) #[] #[]]) (hx : CA 0 w px (cpRow p t h)) : Calls Try.prog 136 #[difV j p t h, .pointer (some pf), .pointer (some px)] w fun e w' => e = .returned (.bool (!qV p t h i j)) ∧ Below w.heap.size w w' := by
  refine calls_of_SC (args := [difV j p t h, .pointer (some pf), .pointer (some px)]) Try.func136 rfl Try.ntmps136 rfl ?_
  simp only [argL, Nat.reduceAdd, Nat.zero_add]
  refine sc_seq ?_
  refine sc_region ?_
  refine qs (y_assign RF) ?_
  refine sq_nil ?_
  refine sx_then ?_
  refine sc_seq ?_
  refine sc_region ?_
  refine qs (by first | exact y_load_ca0 Try.underlying243 rfl RF MM hf rfl | exact LD243) ?_
  refine qs (by first | exact y_load_ca Try.underlying232 rfl Try.sizeOf232 RF MM hx rfl | exact LD232) ?_
  refine qs (y_move RF) ?_
  refine qy (y_call (first := []) (caps := []) (by exact rfl) (call_f hi) E2 (fun w1 hw1 => test_f w1 p t h hp ht hh hi j hj)) ?_
  refine qs (y_not RF) ?_
  refine qs (y_assign RF) ?_
  refine sq_nil ?_
  refine sx_then ?_
  refine sc_ret ?_
  refine sx_ret1 (.inl rfl) rfl Try.results136 RF ?_
  intro w' hw'
  exact ⟨rfl, hw'.below MM⟩
theorem indexDf (g : FuncId) (caps : List Value) (p : Nat → Bool) (w : World) (a : Option Addr) (n c : Nat) (row : Nat → Value) (hn : n ≤ 9223372036854775807) (hel : ∀ i, i < n → a.isSome = true ∧ CA 0 w (elt a i 1) ([row i]))
    (hcg : ∀ args w, (callFunc g args).run Try.prog w = .ok (.enter g args) w) (hp : ∀ i, i < n → ∀ w1, Below w.heap.size w w1 → Calls Try.prog g (row i :: caps).toArray w1 fun e w' => e = .returned (.bool (p i)) ∧ Below w1.heap.size w1 w') :
    Calls Try.prog 139 #[.slice a n c, .func (.func g) #[] caps.toArray] w fun e w' => (∃ z : Int, e = .returned (.int .i64 z) ∧ (0 ≤ z ↔ (List.range n).any p = true)) ∧ Below w.heap.size w w' := by
  refine calls_of_SC (args := [.slice a n c, .func (.func g) #[] caps.toArray]) Try.func139 rfl Try.ntmps139 rfl ?_
  simp only [argL, Nat.zero_add]
  refine sc_seq ?_
  refine sc_region ?_
  refine qs (y_assign RF) ?_
  refine sq_nil ?_
  refine sx_then ?_
  refine sc_seq ?_
  refine sc_seq ?_
  refine sc_region ?_
  refine qs (y_move RF) ?_
  refine qs (y_len Try.underlying251 RF) ?_
  refine qs (y_move RF) ?_
  refine sq_nil ?_
  refine sx_then ?_
  refine sc_block ?_
  refine sc_loop (σ := Nat)
    (fun s => [(0, .slice a n c), (1, .func (.func g) #[] caps.toArray), (7, .int .i64 n), (8, .int .i64 s)])
    (fun s => [.reg 0 w])
    (fun s => s ≤ n ∧ ∀ j, j < s → p j = false)
    (fun s => n - s)
    (0) ?_ SU SE ?_
  · exact ⟨Nat.zero_le _, fun j hj => absurd hj (Nat.not_lt_zero j)⟩
  rintro k ⟨hk, hno⟩
  refine sc_seq ?_
  refine sc_region ?_
  refine qs (y_lss RF RF) ?_
  refine sq_nil ?_
  refine sx_then ?_
  refine sc_seq ?_
  refine scp (fun hc0 => ?_) (fun hc0 => ?_)
  ·
    have hk' : k < n := by omega
    have hsome := (hel k hk').1
    have hrow := (hel k hk').2
    refine sc_skip ?_
    refine sx_then ?_
    refine sc_seq ?_
    refine sc_block ?_
    refine sc_seq ?_
    refine sc_region ?_
    refine qs (y_move RF) ?_
    refine qs (y_assign RF) ?_
    refine sq_nil ?_
    refine sx_then ?_
    refine sc_seq ?_
    refine sc_region ?_
    refine qs (y_move RF) ?_
    refine qs (y_move RF) ?_
    refine qs (y_move RF) ?_
    refine qs IA251 ?_
    refine qs (by first | exact y_load_ca0 Try.underlying247 rfl RF MM hrow rfl | exact LD247) ?_
    refine qy (y_call (first := []) (caps := caps) (by exact rfl) hcg (EvL.cons RF EvL.nil) (fun w1 hw1 => hp k hk' w1 (hw1.below MM))) ?_
    refine sq_nil ?_
    refine sx_then ?_
    refine scp (fun hc1 => ?_) (fun hc1 => ?_)
    ·
      have hpk : p k = true := hc1
      refine sc_seq ?_
      refine sc_region ?_
      refine qs (y_move RF) ?_
      refine qs (y_assign RF) ?_
      refine sq_nil ?_
      refine sx_then ?_
      refine sc_ret ?_
      refine sx_blk_ret ?_
      refine sx_then_ret ?_
      refine sx_round_ret ?_
      refine sx_blk_ret ?_
      refine sx_then_ret ?_
      refine sx_ret1 (.inl rfl) rfl Try.results139 RF ?_
      intro w' hw'
      exact ⟨⟨_, rfl, fun _ => List.any_eq_true.2 ⟨k, List.mem_range.2 hk', hpk⟩, fun _ => by omega⟩, hw'.below MM⟩
    ·
      refine sc_skip ?_
      refine sx_blk ?_
      refine sx_then ?_
      refine sc_region ?_
      refine qs (y_add RF RF (by omega)) ?_
      refine qs (y_move RF) ?_
      refine sq_nil ?_
      refine sx_round (k + 1) ?_ ?_ SU SE
      · refine ⟨by omega, fun j hj => ?_⟩
        rcases Nat.lt_succ_iff_lt_or_eq.1 hj with h | rfl
        · exact hno j h
        · simpa using hc1
      · omega
  ·
    refine sc_exit ?_
    refine sx_then_exit ?_
    refine sx_round_exit ?_
    refine sx_blk_hit ?_
    refine sx_then ?_
    refine sc_seq ?_
    refine sc_region ?_
    refine qs (y_assign RF) ?_
    refine sq_nil ?_
    refine sx_then ?_
    refine sc_ret ?_
    refine sx_ret1 (.inl rfl) rfl Try.results139 RF ?_
    intro w' hw'
    refine ⟨⟨_, rfl, ?_⟩, hw'.below MM⟩
    have hkn : k = n := by omega
    subst hkn
    constructor
    · intro h; omega
    · intro h
      obtain ⟨j, hj, hpj⟩ := List.any_eq_true.1 h
      rw [hno j (List.mem_range.1 hj)] at hpj; cases hpj
theorem containsDf (g : FuncId) (caps : List Value) (p : Nat → Bool) (w : World) (a : Option Addr) (n c : Nat) (row : Nat → Value) (hn : n ≤ 9223372036854775807) (hel : ∀ i, i < n → a.isSome = true ∧ CA 0 w (elt a i 1) ([row i]))
    (hcg : ∀ args w, (callFunc g args).run Try.prog w = .ok (.enter g args) w) (hp : ∀ i, i < n → ∀ w1, Below w.heap.size w w1 → Calls Try.prog g (row i :: caps).toArray w1 fun e w' => e = .returned (.bool (p i)) ∧ Below w1.heap.size w1 w') :
    Calls Try.prog 138 #[.slice a n c, .func (.func g) #[] caps.toArray] w fun e w' => e = .returned (.bool ((List.range n).any p)) ∧ Below w.heap.size w w' := by
  refine calls_of_SC (args := [.slice a n c, .func (.func g) #[] caps.toArray]) Try.func138 rfl Try.ntmps138 rfl ?_
  simp only [argL, Nat.zero_add]
  refine sc_seq ?_
  refine sc_region ?_
  refine qs (y_assign RF) ?_
  refine sq_nil ?_
  refine sx_then ?_
  refine sc_seq ?_
  refine sc_region ?_
  refine qs (y_move RF) ?_
  refine qs (y_move RF) ?_
  refine sq_call (first := []) (caps := []) (vs := [.slice a n c, .func (.func g) #[] caps.toArray]) (Z := Int) (fun z => .int .i64 z) (fun _ => [.reg 0 w]) (fun z => 0 ≤ z ↔ (List.range n).any p = true) RF Try.call139 (EvL.cons RF (EvL.cons RF EvL.nil)) (fun w1 hw1 => (indexDf g caps p w1 a n c row hn (fun i hi => ⟨(hel i hi).1, CA.at (hel i hi).2 hw1 MM⟩) hcg (fun i hi w2 hb => hp i hi w2 ((hw1.below MM).trans (hb.mono (hw1.below MM).size)))).mono (fun e w2 ⟨⟨z, he, hz⟩, hb⟩ => ⟨z, hz, he, hw1.ext hb⟩)) rfl (fun z hz => ?_)
  refine qs (y_geq RF RF) ?_
  refine qs (y_assign RF) ?_
  refine sq_nil ?_
  refine sx_then ?_
  refine sc_ret ?_
  refine sx_ret1 (.inl rfl) rfl Try.results138 RF ?_
  intro w' hw'
  refine ⟨?_, hw'.below MM⟩
  congr 2
  rw [Bool.eq_iff_iff]; simpa using hz
theorem differences137 (w : World) (p : Pl) (t h : Eg) : Calls Try.prog 137 #[.agg (cpRow p t h).toArray] w fun e w' => e = .returned (.agg #[difV 0 p t h, difV 1 p t h, difV 2 p t h]) ∧ Below w.heap.size w w' := by
  unfold cpRow
  refine calls_of_SC (args := [.agg #[.int .i64 p.len, .int .i64 p.slack, .int .i64 p.loose, .int .i64 p.damp.lo, .int .i64 p.damp.hi, .int .i64 t.kind, .int .i64 t.at_.lo, .int .i64 t.at_.hi, .int .i64 t.wd.lo, .int .i64 t.wd.hi, .int .i64 t.dp.lo, .int .i64 t.dp.hi, .int .i64 h.kind, .int .i64 h.at_.lo, .int .i64 h.at_.hi, .int .i64 h.wd.lo, .int .i64 h.wd.hi, .int .i64 h.dp.lo, .int .i64 h.dp.hi]]) Try.func137 rfl Try.ntmps137 rfl ?_
  simp only [argL]
  refine sc_seq ?_
  refine sc_region ?_
  refine sq_box RF rfl (fun b1 => ?_)
  refine sq_alloc Try.zeroValue248 rfl (fun b2 => ?_)
  refine sq_nil ?_
  refine sx_then ?_
  refine sc_seq ?_
  refine sc_region ?_
  refine qs LD232 ?_
  refine qs (y_makeIface Try.underlying255 (fun _ h => by cases h) RF) ?_
  refine qs LD232 ?_
  refine qs (y_makeIface Try.underlying256 (fun _ h => by cases h) RF) ?_
  refine qs LD232 ?_
  refine qs (y_makeIface Try.underlying257 (fun _ h => by cases h) RF) ?_
  refine qs (y_build_arr Try.underlying248 Try.zeroValue248 Try.sizeOf247 (EvP.cons RF (EvP.cons RF (EvP.cons RF EvP.nil))) RF) ?_
  refine sq_store_all Try.sizeOf248 RF RF rfl RM rfl rfl ?_
  refine sq_nil ?_
  refine sx_then ?_
  refine sc_ret ?_
  refine sx_retc (.inl rfl) rfl Try.results137 Try.underlying248 rfl Try.sizeOf248 RF MM rfl ?_
  intro w' hw'
  exact ⟨rfl, hw'.below MM⟩
theorem dif_at {w0 w : World} {rs : List Res} (hw : Hp w0 rs w) {b : Nat} {p : Pl} {t h : Eg} (hm : Res.blk b (.cells #[difV 0 p t h, difV 1 p t h, difV 2 p t h] 248 (0, 0)) ∈ rs) {j : Nat} (hj : j < 3) : CA 0 w (elt (some ⟨b, 0, none⟩) j 1) [difV j p t h] := by
  have h1 : RowsA (fun v => [v]) 1 0 w (some ⟨b, 0, none⟩) [difV 0 p t h, difV 1 p t h, difV 2 p t h] := lit_rowsA (row := fun v => [v]) (fun _ => rfl) hw hm rfl (by simp)
  rcases (by omega : j = 0 ∨ j = 1 ∨ j = 2) with rfl | rfl | rfl
  · exact (h1.el 0 _ rfl).2
  · exact (h1.el 1 _ rfl).2
  · exact (h1.el 2 _ rfl).2
theorem verdict128 (w : World) (p : Pl) (t h : Eg) (hp : Vp p) (ht : Vg t) (hh : Vg h) : Calls Try.prog 128 #[.agg (cpRow p t h).toArray] w fun e w' => e = .returned (.int .i64 (verdV p t h)) ∧ Below w.heap.size w w' := by
  unfold cpRow
  refine calls_of_SC (args := [.agg #[.int .i64 p.len, .int .i64 p.slack, .int .i64 p.loose, .int .i64 p.damp.lo, .int .i64 p.damp.hi, .int .i64 t.kind, .int .i64 t.at_.lo, .int .i64 t.at_.hi, .int .i64 t.wd.lo, .int .i64 t.wd.hi, .int .i64 t.dp.lo, .int .i64 t.dp.hi, .int .i64 h.kind, .int .i64 h.at_.lo, .int .i64 h.at_.hi, .int .i64 h.wd.lo, .int .i64 h.wd.hi, .int .i64 h.dp.lo, .int .i64 h.dp.hi]]) Try.func128 rfl Try.ntmps128 rfl ?_
  simp only [argL]
  refine sc_seq ?_
  refine sc_region ?_
  refine sq_box RF rfl (fun b1 => ?_)
  refine qs (y_assign RF) ?_
  refine sq_nil ?_
  refine sx_then ?_
  refine sc_seq ?_
  refine sc_seq ?_
  refine sc_region ?_
  refine sq_bs Try.underlying245 ei243 (EvI.cons RF (EvI.cons RF EvI.nil)) (by first | (simp [Value.cells]; done) | (simp [Value.cells]; rfl) | (simp [Value.cells]; and_intros <;> rfl)) rfl rfl rfl (fun b7 => ?_)
  refine qs (y_len Try.underlying245 RF) ?_
  refine qs (y_move RF) ?_
  refine sq_nil ?_
  refine sx_then ?_
  refine sc_block ?_
  refine sc_loop (σ := Nat)
    (fun s => [(1, .pointer (some ⟨b1, 0, none⟩)), (7, .slice (some ⟨b7, 0, none⟩) 2 2), (8, .int .i64 2), (9, .int .i64 s)])
    (fun s => [.blk b1 (.cells (cpRow p t h).toArray 232 (0, 0)), .blk b7 (.cells #[.func (.func 134) #[] #[], .func (.func 135) #[] #[]] 243 (0, 0)), .reg 0 w])
    (fun s => s ≤ 2 ∧ ∀ j, j < s → qAll p t h j = false)
    (fun s => 2 - s)
    (0) ?_ SU SR ?_
  · exact ⟨Nat.zero_le _, fun j hj => absurd hj (Nat.not_lt_zero j)⟩
  rintro i ⟨hi, hno⟩
  refine sc_seq ?_
  refine sc_region ?_
  refine qs (y_lss RF RF) ?_
  refine sq_nil ?_
  refine sx_then ?_
  refine sc_seq ?_
  refine scp (fun hc0 => ?_) (fun hc0 => ?_)
  ·
    have hi' : i < 2 := by omega
    refine sc_skip ?_
    refine sx_then ?_
    refine sc_seq ?_
    refine sc_block ?_
    refine sc_seq ?_
    refine sc_region ?_
    refine qs (y_move RF) ?_
    refine qs (y_ia_blk (i := i) Try.underlying245 Try.sizeOf243 RF RF hi') ?_
    refine qs (by first | exact y_load_blk Try.underlying243 rfl RF MM (fn_at hi') | exact LD243) ?_
    refine sq_alloc Try.zeroValue243 rfl (fun b4 => ?_)
    refine qs (y_assign RF) ?_
    refine sq_store Try.sizeOf243 RF RF (by first | rfl | assumption) RM (by first | exact Nat.le_of_ble_eq_true rfl | simp | omega) ?_
    refine sq_nil ?_
    refine sx_then ?_
    refine sc_seq ?_
    refine sc_region ?_
    refine qs (y_makeFunc EvL.nil (EvL.cons RF (EvL.cons RF EvL.nil))) ?_
    refine qs (y_assign RF) ?_
    refine sq_nil ?_
    refine sx_then ?_
    refine sc_seq ?_
    refine sc_region ?_
    refine qs LD232 ?_
    refine qy (yc Try.call137 E1 (fun w1 _ => differences137 w1 p t h)) ?_
    refine sq_alloc Try.zeroValue248 rfl (fun b6 => ?_)
    refine sq_store_all Try.sizeOf248 RF RF rfl RM rfl rfl ?_
    refine sq_nil ?_
    refine sx_then ?_
    refine sc_seq ?_
    refine sc_region ?_
    refine qs (y_slice_full Try.underlying248 Try.sizeOf247 RF) ?_
    refine qs (y_move RF) ?_
    refine qy (yc Try.call138 E2 (fun w1 hw1 => (containsDf 136 [.pointer (some ⟨b4, 0, none⟩), .pointer (some ⟨b1, 0, none⟩)] (fun j => !qV p t h i j) w1 (some ⟨b6, 0, none⟩) 3 3 (fun j => difV j p t h) (by decide) (fun j hj => ⟨rfl, dif_at hw1 MM hj⟩) Try.call136 (fun j hj w2 hb2 => bad136 w2 p t h hp ht hh hi' j hj ⟨b4, 0, none⟩ ⟨b1, 0, none⟩ ((CA.blk (vs := [.func (.func (134 + i)) #[] #[]]) hw1 MM).below hb2) ((CA.blk (vs := cpRow p t h) hw1 MM).below hb2))).mono (fun e w' hq => ⟨hq.1.trans (by rw [q_any]), hq.2⟩))) ?_
    refine qs (y_not RF) ?_
    refine sq_nil ?_
    refine sx_then ?_
    refine scp (fun hc1 => ?_) (fun hc1 => ?_)
    ·
      refine sc_seq ?_
      refine sc_region ?_
      refine qs (y_move RF) ?_
      refine qs (y_sub RF RF (by omega)) ?_
      refine qs (y_assign RF) ?_
      refine sq_nil ?_
      refine sx_then ?_
      refine sc_ret ?_
      refine sx_blk_ret ?_
      refine sx_then_ret ?_
      refine sx_round_ret ?_
      refine sx_blk_ret ?_
      refine sx_then_ret ?_
      refine sx_ret1 (.inl rfl) rfl Try.results128 RF ?_
      intro w' hw'
      refine ⟨?_, hw'.below MM⟩
      have hq : qAll p t h i = true := by simpa using hc1
      rw [verd_q]
      rcases (by omega : i = 0 ∨ i = 1) with rfl | rfl
      · rw [if_pos hq]; rfl
      · rw [if_neg (by rw [hno 0 (by decide)]; decide), if_pos hq]; rfl
    ·
      refine sc_skip ?_
      refine sx_blk ?_
      refine sx_then ?_
      refine sc_region ?_
      refine qs (y_add RF RF (by omega)) ?_
      refine qs (y_move RF) ?_
      refine sq_nil ?_
      refine sx_round (i + 1) ?_ ?_ SU SR
      · refine ⟨by omega, fun j hj => ?_⟩
        rcases Nat.lt_succ_iff_lt_or_eq.1 hj with h9 | rfl
        · exact hno j h9
        · simpa using hc1
      · omega
  ·
    refine sc_exit ?_
    refine sx_then_exit ?_
    refine sx_round_exit ?_
    refine sx_blk_hit ?_
    refine sx_then ?_
    refine sc_seq ?_
    refine sc_region ?_
    refine qs (y_assign RF) ?_
    refine sq_nil ?_
    refine sx_then ?_
    refine sc_ret ?_
    refine sx_ret1 (.inl rfl) rfl Try.results128 RF ?_
    intro w' hw'
    refine ⟨?_, hw'.below MM⟩
    rw [verd_q, if_neg (by rw [hno 0 (by omega)]; decide), if_neg (by rw [hno 1 (by omega)]; decide)]
end Go.Proofs.Ytfceajkofpafpaa
