/- The walk of the look whether a store is valid. -/
import Derived.Test.YtpodaihifdlkkaaDoorWalk3
namespace Go.Proofs.YtpodaihifdlkkaaDoor
open Go Go.Eng Go.RowKit Go.Proofs
set_option maxRecDepth 100000
theorem any_range_get {α : Type} (l : List α) (d : α) (p : α → Bool) : (List.range l.length).any (fun i => p (l.getD i d)) = l.any p := by
  rw [Bool.eq_iff_iff]
  simp only [List.any_eq_true, List.mem_range]
  constructor
  · rintro ⟨i, hi, h⟩
    exact ⟨l.getD i d, getD_mem hi, h⟩
  · rintro ⟨x, hx, h⟩
    obtain ⟨i, hi, rfl⟩ := List.getElem_of_mem hx
    refine ⟨i, hi, ?_⟩
    rw [List.getD_eq_getElem?_getD, List.getElem?_eq_getElem hi]; exact h
theorem all_not_any {α : Type} (l : List α) (p : α → Bool) : (l.any fun x => !p x) = !l.all p := by
  rw [Bool.eq_iff_iff, List.any_eq_true]
  simp [List.all_eq_false]
theorem any_all {α : Type} (l : List α) (d : α) (p : α → Bool) : ((List.range l.length).any fun i => !p (l.getD i d)) = !l.all p := by rw [any_range_get l d (fun x => !p x), all_not_any]
section
variable {p1 p2 p3 a e f g h : Bool}
theorem c31 (h : (!p1) = true) : true = !(p1 && p2 && p3) := by cases p1 <;> simp at h ⊢
theorem c32 (h1 : (!p1) = false) (h : (!p2) = true) : true = !(p1 && p2 && p3) := by cases p1 <;> cases p2 <;> simp at h1 h ⊢
theorem c33 (h1 : (!p1) = false) (h2 : (!p2) = false) : (!p3) = !(p1 && p2 && p3) := by cases p1 <;> cases p2 <;> simp at h1 h2 ⊢
theorem k1 (h1 : a = false) : false = (a && e && f && g && h) := by rw [h1]; rfl
theorem k2 (_ : a = true) (h2 : (!!e) = false) : false = (a && e && f && g && h) := by cases e <;> simp at h2 ⊢
theorem k3 (_ : a = true) (h2 : (!!e) = true) (h3 : (!!f) = false) : false = (a && e && f && g && h) := by cases e <;> cases f <;> simp at h2 h3 ⊢
theorem k4 (_ : a = true) (h2 : (!!e) = true) (h3 : (!!f) = true) (h4 : (!!g) = false) : false = (a && e && f && g && h) := by cases e <;> cases f <;> cases g <;> simp at h2 h3 h4 ⊢
theorem k5 (h1 : a = true) (h2 : (!!e) = true) (h3 : (!!f) = true) (h4 : (!!g) = true) : (!!h) = (a && e && f && g && h) := by rw [h1]; cases e <;> cases f <;> cases g <;> simp at h2 h3 h4 ⊢
end
def szB (s : So) : Bool := inB (s.sh.length : Int) 1 4 && inB (s.li.length : Int) 1 5 && inB (s.mks.length : Int) 1 6 && decide (s.wi.length ≤ 9)
theorem stB_sz (s : So) : stB s = (szB s && s.sh.all shB && s.li.all liB && s.mks.all (mkB s) && s.wi.all (wiB s)) := rfl
theorem mkB_3 (s : So) (x : Mk) : mkB s x = (inB x.pic 0 ((s.li.length : Int) - 1) && decide ((x.tk.length : Int) = (s.sh.length : Int)) && x.tk.all tkB) := mkB_eq s x

theorem indexTk (g : FuncId) (caps : List Value) (p : Nat → Bool) (w : World) (a : Option Addr) (n c : Nat) (row : Nat → Value) (hn : n ≤ 9223372036854775807) (hel : ∀ i, i < n → a.isSome = true ∧ CA 0 w (elt a i 1) ([row i]))
    (hcg : ∀ args w, (callFunc g args).run Tryd.prog w = .ok (.enter g args) w) (hp : ∀ i, i < n → ∀ w1, Below w.heap.size w w1 → Calls Tryd.prog g (row i :: caps).toArray w1 fun e w' => e = .returned (.bool (p i)) ∧ Below w1.heap.size w1 w') :
    Calls Tryd.prog 56 #[.slice a n c, .func (.func g) #[] caps.toArray] w fun e w' => (∃ z : Int, e = .returned (.int .i64 z) ∧ (0 ≤ z ↔ (List.range n).any p = true)) ∧ Below w.heap.size w w' := by
  refine calls_of_SC (args := [.slice a n c, .func (.func g) #[] caps.toArray]) Tryd.func56 rfl Tryd.ntmps56 rfl ?_
  simp only [argL, Nat.zero_add]
  refine sc_seq ?_
  refine sc_region ?_
  refine qs (y_assign RF) ?_
  refine sq_nil ?_
  refine sx_then ?_
  refine sc_seq ?_
  refine sc_seq ?_
  refine sc_region ?_
  refine qs (y_move RF) ?_
  refine qs (y_len Tryd.underlying35 RF) ?_
  refine qs (y_move RF) ?_
  refine sq_nil ?_
  refine sx_then ?_
  refine sc_block ?_
  refine sc_loop (σ := Nat)
    (fun s => [(0, .slice a n c), (1, .func (.func g) #[] caps.toArray), (7, .int .i64 n), (8, .int .i64 s)])
    (fun s => [.reg 0 w])
    (fun s => s ≤ n ∧ ∀ j, j < s → p j = false)
    (fun s => n - s)
    (0) ?_ SU SE ?_
  · exact ⟨Nat.zero_le _, fun j hj => absurd hj (Nat.not_lt_zero j)⟩
  rintro k ⟨hk, hno⟩
  refine sc_seq ?_
  refine sc_region ?_
  refine qs (y_lss RF RF) ?_
  refine sq_nil ?_
  refine sx_then ?_
  refine sc_seq ?_
  refine scp (fun hc0 => ?_) (fun hc0 => ?_)
  ·
    have hk' : k < n := by omega
    have hsome := (hel k hk').1
    have hrow := (hel k hk').2
    refine sc_skip ?_
    refine sx_then ?_
    refine sc_seq ?_
    refine sc_block ?_
    refine sc_seq ?_
    refine sc_region ?_
    refine qs (y_move RF) ?_
    refine qs (y_assign RF) ?_
    refine sq_nil ?_
    refine sx_then ?_
    refine sc_seq ?_
    refine sc_region ?_
    refine qs (y_move RF) ?_
    refine qs (y_move RF) ?_
    refine qs (y_move RF) ?_
    refine qs IA35 ?_
    refine qs (by first | exact y_load_ca0 Tryd.underlying3 rfl RF MM hrow rfl | exact LD3) ?_
    refine qy (y_call (first := []) (caps := caps) (by exact rfl) hcg (EvL.cons RF EvL.nil) (fun w1 hw1 => hp k hk' w1 (hw1.below MM))) ?_
    refine sq_nil ?_
    refine sx_then ?_
    refine scp (fun hc1 => ?_) (fun hc1 => ?_)
    ·
      have hpk : p k = true := hc1
      refine sc_seq ?_
      refine sc_region ?_
      refine qs (y_move RF) ?_
      refine qs (y_assign RF) ?_
      refine sq_nil ?_
      refine sx_then ?_
      refine sc_ret ?_
      refine sx_blk_ret ?_
      refine sx_then_ret ?_
      refine sx_round_ret ?_
      refine sx_blk_ret ?_
      refine sx_then_ret ?_
      refine sx_ret1 (.inl rfl) rfl Tryd.results56 RF ?_
      intro w' hw'
      exact ⟨⟨_, rfl, fun _ => List.any_eq_true.2 ⟨k, List.mem_range.2 hk', hpk⟩, fun _ => by omega⟩, hw'.below MM⟩
    ·
      refine sc_skip ?_
      refine sx_blk ?_
      refine sx_then ?_
      refine sc_region ?_
      refine qs (y_add RF RF (by omega)) ?_
      refine qs (y_move RF) ?_
      refine sq_nil ?_
      refine sx_round (k + 1) ?_ ?_ SU SE
      · refine ⟨by omega, fun j hj => ?_⟩
        rcases Nat.lt_succ_iff_lt_or_eq.1 hj with h | rfl
        · exact hno j h
        · simpa using hc1
      · omega
  ·
    refine sc_exit ?_
    refine sx_then_exit ?_
    refine sx_round_exit ?_
    refine sx_blk_hit ?_
    refine sx_then ?_
    refine sc_seq ?_
    refine sc_region ?_
    refine qs (y_assign RF) ?_
    refine sq_nil ?_
    refine sx_then ?_
    refine sc_ret ?_
    refine sx_ret1 (.inl rfl) rfl Tryd.results56 RF ?_
    intro w' hw'
    refine ⟨⟨_, rfl, ?_⟩, hw'.below MM⟩
    have hkn : k = n := by omega
    subst hkn
    constructor
    · intro h; omega
    · intro h
      obtain ⟨j, hj, hpj⟩ := List.any_eq_true.1 h
      rw [hno j (List.mem_range.1 hj)] at hpj; cases hpj
theorem containsTk (g : FuncId) (caps : List Value) (p : Nat → Bool) (w : World) (a : Option Addr) (n c : Nat) (row : Nat → Value) (hn : n ≤ 9223372036854775807) (hel : ∀ i, i < n → a.isSome = true ∧ CA 0 w (elt a i 1) ([row i]))
    (hcg : ∀ args w, (callFunc g args).run Tryd.prog w = .ok (.enter g args) w) (hp : ∀ i, i < n → ∀ w1, Below w.heap.size w w1 → Calls Tryd.prog g (row i :: caps).toArray w1 fun e w' => e = .returned (.bool (p i)) ∧ Below w1.heap.size w1 w') :
    Calls Tryd.prog 47 #[.slice a n c, .func (.func g) #[] caps.toArray] w fun e w' => e = .returned (.bool ((List.range n).any p)) ∧ Below w.heap.size w w' := by
  refine calls_of_SC (args := [.slice a n c, .func (.func g) #[] caps.toArray]) Tryd.func47 rfl Tryd.ntmps47 rfl ?_
  simp only [argL, Nat.zero_add]
  refine sc_seq ?_
  refine sc_region ?_
  refine qs (y_assign RF) ?_
  refine sq_nil ?_
  refine sx_then ?_
  refine sc_seq ?_
  refine sc_region ?_
  refine qs (y_move RF) ?_
  refine qs (y_move RF) ?_
  refine sq_call (first := []) (caps := []) (vs := [.slice a n c, .func (.func g) #[] caps.toArray]) (Z := Int) (fun z => .int .i64 z) (fun _ => [.reg 0 w]) (fun z => 0 ≤ z ↔ (List.range n).any p = true) RF Tryd.call56 (EvL.cons RF (EvL.cons RF EvL.nil)) (fun w1 hw1 => (indexTk g caps p w1 a n c row hn (fun i hi => ⟨(hel i hi).1, CA.at (hel i hi).2 hw1 MM⟩) hcg (fun i hi w2 hb => hp i hi w2 ((hw1.below MM).trans (hb.mono (hw1.below MM).size)))).mono (fun e w2 ⟨⟨z, he, hz⟩, hb⟩ => ⟨z, hz, he, hw1.ext hb⟩)) rfl (fun z hz => ?_)
  refine qs (y_geq RF RF) ?_
  refine qs (y_assign RF) ?_
  refine sq_nil ?_
  refine sx_then ?_
  refine sc_ret ?_
  refine sx_ret1 (.inl rfl) rfl Tryd.results47 RF ?_
  intro w' hw'
  refine ⟨?_, hw'.below MM⟩
  congr 2
  rw [Bool.eq_iff_iff]; simpa using hz
theorem indexSh (g : FuncId) (caps : List Value) (p : Nat → Bool) (w : World) (a : Option Addr) (n c : Nat) (row : Nat → List Value) (hn : n ≤ 9223372036854775807) (hel : ∀ i, i < n → a.isSome = true ∧ (row i).length = 3 ∧ CA 0 w (elt a i 3) (row i))
    (hcg : ∀ args w, (callFunc g args).run Tryd.prog w = .ok (.enter g args) w) (hp : ∀ i, i < n → ∀ w1, Below w.heap.size w w1 → Calls Tryd.prog g (.agg (row i).toArray :: caps).toArray w1 fun e w' => e = .returned (.bool (p i)) ∧ Below w1.heap.size w1 w') :
    Calls Tryd.prog 57 #[.slice a n c, .func (.func g) #[] caps.toArray] w fun e w' => (∃ z : Int, e = .returned (.int .i64 z) ∧ (0 ≤ z ↔ (List.range n).any p = true)) ∧ Below w.heap.size w w' := by
  refine calls_of_SC (args := [.slice a n c, .func (.func g) #[] caps.toArray]) Tryd.func57 rfl Tryd.ntmps57 rfl ?_
  simp only [argL, Nat.zero_add]
  refine sc_seq ?_
  refine sc_region ?_
  refine qs (y_assign RF) ?_
  refine sq_nil ?_
  refine sx_then ?_
  refine sc_seq ?_
  refine sc_seq ?_
  refine sc_region ?_
  refine qs (y_move RF) ?_
  refine qs (y_len Tryd.underlying22 RF) ?_
  refine qs (y_move RF) ?_
  refine sq_nil ?_
  refine sx_then ?_
  refine sc_block ?_
  refine sc_loop (σ := Nat)
    (fun s => [(0, .slice a n c), (1, .func (.func g) #[] caps.toArray), (7, .int .i64 n), (8, .int .i64 s)])
    (fun s => [.reg 0 w])
    (fun s => s ≤ n ∧ ∀ j, j < s → p j = false)
    (fun s => n - s)
    (0) ?_ SU SE ?_
  · exact ⟨Nat.zero_le _, fun j hj => absurd hj (Nat.not_lt_zero j)⟩
  rintro k ⟨hk, hno⟩
  refine sc_seq ?_
  refine sc_region ?_
  refine qs (y_lss RF RF) ?_
  refine sq_nil ?_
  refine sx_then ?_
  refine sc_seq ?_
  refine scp (fun hc0 => ?_) (fun hc0 => ?_)
  ·
    have hk' : k < n := by omega
    have hsome := (hel k hk').1
    have hrow := (hel k hk').2.1
    have hca := (hel k hk').2.2
    refine sc_skip ?_
    refine sx_then ?_
    refine sc_seq ?_
    refine sc_block ?_
    refine sc_seq ?_
    refine sc_region ?_
    refine qs (y_move RF) ?_
    refine qs (y_assign RF) ?_
    refine sq_nil ?_
    refine sx_then ?_
    refine sc_seq ?_
    refine sc_region ?_
    refine qs (y_move RF) ?_
    refine qs (y_move RF) ?_
    refine qs (y_move RF) ?_
    refine qs IA22 ?_
    refine qs (by first | exact y_load_ca Tryd.underlying42 rfl Tryd.sizeOf42 RF MM hca hrow | exact LD42) ?_
    refine qy (y_call (first := []) (caps := caps) (by exact rfl) hcg (EvL.cons RF EvL.nil) (fun w1 hw1 => hp k hk' w1 (hw1.below MM))) ?_
    refine sq_nil ?_
    refine sx_then ?_
    refine scp (fun hc1 => ?_) (fun hc1 => ?_)
    ·
      have hpk : p k = true := hc1
      refine sc_seq ?_
      refine sc_region ?_
      refine qs (y_move RF) ?_
      refine qs (y_assign RF) ?_
      refine sq_nil ?_
      refine sx_then ?_
      refine sc_ret ?_
      refine sx_blk_ret ?_
      refine sx_then_ret ?_
      refine sx_round_ret ?_
      refine sx_blk_ret ?_
      refine sx_then_ret ?_
      refine sx_ret1 (.inl rfl) rfl Tryd.results57 RF ?_
      intro w' hw'
      exact ⟨⟨_, rfl, fun _ => List.any_eq_true.2 ⟨k, List.mem_range.2 hk', hpk⟩, fun _ => by omega⟩, hw'.below MM⟩
    ·
      refine sc_skip ?_
      refine sx_blk ?_
      refine sx_then ?_
      refine sc_region ?_
      refine qs (y_add RF RF (by omega)) ?_
      refine qs (y_move RF) ?_
      refine sq_nil ?_
      refine sx_round (k + 1) ?_ ?_ SU SE
      · refine ⟨by omega, fun j hj => ?_⟩
        rcases Nat.lt_succ_iff_lt_or_eq.1 hj with h | rfl
        · exact hno j h
        · simpa using hc1
      · omega
  ·
    refine sc_exit ?_
    refine sx_then_exit ?_
    refine sx_round_exit ?_
    refine sx_blk_hit ?_
    refine sx_then ?_
    refine sc_seq ?_
    refine sc_region ?_
    refine qs (y_assign RF) ?_
    refine sq_nil ?_
    refine sx_then ?_
    refine sc_ret ?_
    refine sx_ret1 (.inl rfl) rfl Tryd.results57 RF ?_
    intro w' hw'
    refine ⟨⟨_, rfl, ?_⟩, hw'.below MM⟩
    have hkn : k = n := by omega
    subst hkn
    constructor
    · intro h; omega
    · intro h
      obtain ⟨j, hj, hpj⟩ := List.any_eq_true.1 h
      rw [hno j (List.mem_range.1 hj)] at hpj; cases hpj
theorem containsSh (g : FuncId) (caps : List Value) (p : Nat → Bool) (w : World) (a : Option Addr) (n c : Nat) (row : Nat → List Value) (hn : n ≤ 9223372036854775807) (hel : ∀ i, i < n → a.isSome = true ∧ (row i).length = 3 ∧ CA 0 w (elt a i 3) (row i))
    (hcg : ∀ args w, (callFunc g args).run Tryd.prog w = .ok (.enter g args) w) (hp : ∀ i, i < n → ∀ w1, Below w.heap.size w w1 → Calls Tryd.prog g (.agg (row i).toArray :: caps).toArray w1 fun e w' => e = .returned (.bool (p i)) ∧ Below w1.heap.size w1 w') :
    Calls Tryd.prog 49 #[.slice a n c, .func (.func g) #[] caps.toArray] w fun e w' => e = .returned (.bool ((List.range n).any p)) ∧ Below w.heap.size w w' := by
  refine calls_of_SC (args := [.slice a n c, .func (.func g) #[] caps.toArray]) Tryd.func49 rfl Tryd.ntmps49 rfl ?_
  simp only [argL, Nat.zero_add]
  refine sc_seq ?_
  refine sc_region ?_
  refine qs (y_assign RF) ?_
  refine sq_nil ?_
  refine sx_then ?_
  refine sc_seq ?_
  refine sc_region ?_
  refine qs (y_move RF) ?_
  refine qs (y_move RF) ?_
  refine sq_call (first := []) (caps := []) (vs := [.slice a n c, .func (.func g) #[] caps.toArray]) (Z := Int) (fun z => .int .i64 z) (fun _ => [.reg 0 w]) (fun z => 0 ≤ z ↔ (List.range n).any p = true) RF Tryd.call57 (EvL.cons RF (EvL.cons RF EvL.nil)) (fun w1 hw1 => (indexSh g caps p w1 a n c row hn (fun i hi => ⟨(hel i hi).1, (hel i hi).2.1, CA.at (hel i hi).2.2 hw1 MM⟩) hcg (fun i hi w2 hb => hp i hi w2 ((hw1.below MM).trans (hb.mono (hw1.below MM).size)))).mono (fun e w2 ⟨⟨z, he, hz⟩, hb⟩ => ⟨z, hz, he, hw1.ext hb⟩)) rfl (fun z hz => ?_)
  refine qs (y_geq RF RF) ?_
  refine qs (y_assign RF) ?_
  refine sq_nil ?_
  refine sx_then ?_
  refine sc_ret ?_
  refine sx_ret1 (.inl rfl) rfl Tryd.results49 RF ?_
  intro w' hw'
  refine ⟨?_, hw'.below MM⟩
  congr 2
  rw [Bool.eq_iff_iff]; simpa using hz
theorem indexLi (g : FuncId) (caps : List Value) (p : Nat → Bool) (w : World) (a : Option Addr) (n c : Nat) (row : Nat → List Value) (hn : n ≤ 9223372036854775807) (hel : ∀ i, i < n → a.isSome = true ∧ (row i).length = 4 ∧ CA 0 w (elt a i 4) (row i))
    (hcg : ∀ args w, (callFunc g args).run Tryd.prog w = .ok (.enter g args) w) (hp : ∀ i, i < n → ∀ w1, Below w.heap.size w w1 → Calls Tryd.prog g (.agg (row i).toArray :: caps).toArray w1 fun e w' => e = .returned (.bool (p i)) ∧ Below w1.heap.size w1 w') :
    Calls Tryd.prog 58 #[.slice a n c, .func (.func g) #[] caps.toArray] w fun e w' => (∃ z : Int, e = .returned (.int .i64 z) ∧ (0 ≤ z ↔ (List.range n).any p = true)) ∧ Below w.heap.size w w' := by
  refine calls_of_SC (args := [.slice a n c, .func (.func g) #[] caps.toArray]) Tryd.func58 rfl Tryd.ntmps58 rfl ?_
  simp only [argL, Nat.zero_add]
  refine sc_seq ?_
  refine sc_region ?_
  refine qs (y_assign RF) ?_
  refine sq_nil ?_
  refine sx_then ?_
  refine sc_seq ?_
  refine sc_seq ?_
  refine sc_region ?_
  refine qs (y_move RF) ?_
  refine qs (y_len Tryd.underlying23 RF) ?_
  refine qs (y_move RF) ?_
  refine sq_nil ?_
  refine sx_then ?_
  refine sc_block ?_
  refine sc_loop (σ := Nat)
    (fun s => [(0, .slice a n c), (1, .func (.func g) #[] caps.toArray), (7, .int .i64 n), (8, .int .i64 s)])
    (fun s => [.reg 0 w])
    (fun s => s ≤ n ∧ ∀ j, j < s → p j = false)
    (fun s => n - s)
    (0) ?_ SU SE ?_
  · exact ⟨Nat.zero_le _, fun j hj => absurd hj (Nat.not_lt_zero j)⟩
  rintro k ⟨hk, hno⟩
  refine sc_seq ?_
  refine sc_region ?_
  refine qs (y_lss RF RF) ?_
  refine sq_nil ?_
  refine sx_then ?_
  refine sc_seq ?_
  refine scp (fun hc0 => ?_) (fun hc0 => ?_)
  ·
    have hk' : k < n := by omega
    have hsome := (hel k hk').1
    have hrow := (hel k hk').2.1
    have hca := (hel k hk').2.2
    refine sc_skip ?_
    refine sx_then ?_
    refine sc_seq ?_
    refine sc_block ?_
    refine sc_seq ?_
    refine sc_region ?_
    refine qs (y_move RF) ?_
    refine qs (y_assign RF) ?_
    refine sq_nil ?_
    refine sx_then ?_
    refine sc_seq ?_
    refine sc_region ?_
    refine qs (y_move RF) ?_
    refine qs (y_move RF) ?_
    refine qs (y_move RF) ?_
    refine qs IA23 ?_
    refine qs (by first | exact y_load_ca Tryd.underlying55 rfl Tryd.sizeOf55 RF MM hca hrow | exact LD55) ?_
    refine qy (y_call (first := []) (caps := caps) (by exact rfl) hcg (EvL.cons RF EvL.nil) (fun w1 hw1 => hp k hk' w1 (hw1.below MM))) ?_
    refine sq_nil ?_
    refine sx_then ?_
    refine scp (fun hc1 => ?_) (fun hc1 => ?_)
    ·
      have hpk : p k = true := hc1
      refine sc_seq ?_
      refine sc_region ?_
      refine qs (y_move RF) ?_
      refine qs (y_assign RF) ?_
      refine sq_nil ?_
      refine sx_then ?_
      refine sc_ret ?_
      refine sx_blk_ret ?_
      refine sx_then_ret ?_
      refine sx_round_ret ?_
      refine sx_blk_ret ?_
      refine sx_then_ret ?_
      refine sx_ret1 (.inl rfl) rfl Tryd.results58 RF ?_
      intro w' hw'
      exact ⟨⟨_, rfl, fun _ => List.any_eq_true.2 ⟨k, List.mem_range.2 hk', hpk⟩, fun _ => by omega⟩, hw'.below MM⟩
    ·
      refine sc_skip ?_
      refine sx_blk ?_
      refine sx_then ?_
      refine sc_region ?_
      refine qs (y_add RF RF (by omega)) ?_
      refine qs (y_move RF) ?_
      refine sq_nil ?_
      refine sx_round (k + 1) ?_ ?_ SU SE
      · refine ⟨by omega, fun j hj => ?_⟩
        rcases Nat.lt_succ_iff_lt_or_eq.1 hj with h | rfl
        · exact hno j h
        · simpa using hc1
      · omega
  ·
    refine sc_exit ?_
    refine sx_then_exit ?_
    refine sx_round_exit ?_
    refine sx_blk_hit ?_
    refine sx_then ?_
    refine sc_seq ?_
    refine sc_region ?_
    refine qs (y_assign RF) ?_
    refine sq_nil ?_
    refine sx_then ?_
    refine sc_ret ?_
    refine sx_ret1 (.inl rfl) rfl Tryd.results58 RF ?_
    intro w' hw'
    refine ⟨⟨_, rfl, ?_⟩, hw'.below MM⟩
    have hkn : k = n := by omega
    subst hkn
    constructor
    · intro h; omega
    · intro h
      obtain ⟨j, hj, hpj⟩ := List.any_eq_true.1 h
      rw [hno j (List.mem_range.1 hj)] at hpj; cases hpj
theorem containsLi (g : FuncId) (caps : List Value) (p : Nat → Bool) (w : World) (a : Option Addr) (n c : Nat) (row : Nat → List Value) (hn : n ≤ 9223372036854775807) (hel : ∀ i, i < n → a.isSome = true ∧ (row i).length = 4 ∧ CA 0 w (elt a i 4) (row i))
    (hcg : ∀ args w, (callFunc g args).run Tryd.prog w = .ok (.enter g args) w) (hp : ∀ i, i < n → ∀ w1, Below w.heap.size w w1 → Calls Tryd.prog g (.agg (row i).toArray :: caps).toArray w1 fun e w' => e = .returned (.bool (p i)) ∧ Below w1.heap.size w1 w') :
    Calls Tryd.prog 50 #[.slice a n c, .func (.func g) #[] caps.toArray] w fun e w' => e = .returned (.bool ((List.range n).any p)) ∧ Below w.heap.size w w' := by
  refine calls_of_SC (args := [.slice a n c, .func (.func g) #[] caps.toArray]) Tryd.func50 rfl Tryd.ntmps50 rfl ?_
  simp only [argL, Nat.zero_add]
  refine sc_seq ?_
  refine sc_region ?_
  refine qs (y_assign RF) ?_
  refine sq_nil ?_
  refine sx_then ?_
  refine sc_seq ?_
  refine sc_region ?_
  refine qs (y_move RF) ?_
  refine qs (y_move RF) ?_
  refine sq_call (first := []) (caps := []) (vs := [.slice a n c, .func (.func g) #[] caps.toArray]) (Z := Int) (fun z => .int .i64 z) (fun _ => [.reg 0 w]) (fun z => 0 ≤ z ↔ (List.range n).any p = true) RF Tryd.call58 (EvL.cons RF (EvL.cons RF EvL.nil)) (fun w1 hw1 => (indexLi g caps p w1 a n c row hn (fun i hi => ⟨(hel i hi).1, (hel i hi).2.1, CA.at (hel i hi).2.2 hw1 MM⟩) hcg (fun i hi w2 hb => hp i hi w2 ((hw1.below MM).trans (hb.mono (hw1.below MM).size)))).mono (fun e w2 ⟨⟨z, he, hz⟩, hb⟩ => ⟨z, hz, he, hw1.ext hb⟩)) rfl (fun z hz => ?_)
  refine qs (y_geq RF RF) ?_
  refine qs (y_assign RF) ?_
  refine sq_nil ?_
  refine sx_then ?_
  refine sc_ret ?_
  refine sx_ret1 (.inl rfl) rfl Tryd.results50 RF ?_
  intro w' hw'
  refine ⟨?_, hw'.below MM⟩
  congr 2
  rw [Bool.eq_iff_iff]; simpa using hz
theorem indexMk (g : FuncId) (caps : List Value) (p : Nat → Bool) (w : World) (a : Option Addr) (n c : Nat) (row : Nat → List Value) (hn : n ≤ 9223372036854775807) (hel : ∀ i, i < n → a.isSome = true ∧ (row i).length = 2 ∧ CA 0 w (elt a i 2) (row i))
    (hcg : ∀ args w, (callFunc g args).run Tryd.prog w = .ok (.enter g args) w) (hp : ∀ i, i < n → ∀ w1, Below w.heap.size w w1 → Calls Tryd.prog g (.agg (row i).toArray :: caps).toArray w1 fun e w' => e = .returned (.bool (p i)) ∧ Below w1.heap.size w1 w') :
    Calls Tryd.prog 59 #[.slice a n c, .func (.func g) #[] caps.toArray] w fun e w' => (∃ z : Int, e = .returned (.int .i64 z) ∧ (0 ≤ z ↔ (List.range n).any p = true)) ∧ Below w.heap.size w w' := by
  refine calls_of_SC (args := [.slice a n c, .func (.func g) #[] caps.toArray]) Tryd.func59 rfl Tryd.ntmps59 rfl ?_
  simp only [argL, Nat.zero_add]
  refine sc_seq ?_
  refine sc_region ?_
  refine qs (y_assign RF) ?_
  refine sq_nil ?_
  refine sx_then ?_
  refine sc_seq ?_
  refine sc_seq ?_
  refine sc_region ?_
  refine qs (y_move RF) ?_
  refine qs (y_len Tryd.underlying24 RF) ?_
  refine qs (y_move RF) ?_
  refine sq_nil ?_
  refine sx_then ?_
  refine sc_block ?_
  refine sc_loop (σ := Nat)
    (fun s => [(0, .slice a n c), (1, .func (.func g) #[] caps.toArray), (7, .int .i64 n), (8, .int .i64 s)])
    (fun s => [.reg 0 w])
    (fun s => s ≤ n ∧ ∀ j, j < s → p j = false)
    (fun s => n - s)
    (0) ?_ SU SE ?_
  · exact ⟨Nat.zero_le _, fun j hj => absurd hj (Nat.not_lt_zero j)⟩
  rintro k ⟨hk, hno⟩
  refine sc_seq ?_
  refine sc_region ?_
  refine qs (y_lss RF RF) ?_
  refine sq_nil ?_
  refine sx_then ?_
  refine sc_seq ?_
  refine scp (fun hc0 => ?_) (fun hc0 => ?_)
  ·
    have hk' : k < n := by omega
    have hsome := (hel k hk').1
    have hrow := (hel k hk').2.1
    have hca := (hel k hk').2.2
    refine sc_skip ?_
    refine sx_then ?_
    refine sc_seq ?_
    refine sc_block ?_
    refine sc_seq ?_
    refine sc_region ?_
    refine qs (y_move RF) ?_
    refine qs (y_assign RF) ?_
    refine sq_nil ?_
    refine sx_then ?_
    refine sc_seq ?_
    refine sc_region ?_
    refine qs (y_move RF) ?_
    refine qs (y_move RF) ?_
    refine qs (y_move RF) ?_
    refine qs IA24 ?_
    refine qs (by first | exact y_load_ca Tryd.underlying57 rfl Tryd.sizeOf57 RF MM hca hrow | exact LD57) ?_
    refine qy (y_call (first := []) (caps := caps) (by exact rfl) hcg (EvL.cons RF EvL.nil) (fun w1 hw1 => hp k hk' w1 (hw1.below MM))) ?_
    refine sq_nil ?_
    refine sx_then ?_
    refine scp (fun hc1 => ?_) (fun hc1 => ?_)
    ·
      have hpk : p k = true := hc1
      refine sc_seq ?_
      refine sc_region ?_
      refine qs (y_move RF) ?_
      refine qs (y_assign RF) ?_
      refine sq_nil ?_
      refine sx_then ?_
      refine sc_ret ?_
      refine sx_blk_ret ?_
      refine sx_then_ret ?_
      refine sx_round_ret ?_
      refine sx_blk_ret ?_
      refine sx_then_ret ?_
      refine sx_ret1 (.inl rfl) rfl Tryd.results59 RF ?_
      intro w' hw'
      exact ⟨⟨_, rfl, fun _ => List.any_eq_true.2 ⟨k, List.mem_range.2 hk', hpk⟩, fun _ => by omega⟩, hw'.below MM⟩
    ·
      refine sc_skip ?_
      refine sx_blk ?_
      refine sx_then ?_
      refine sc_region ?_
      refine qs (y_add RF RF (by omega)) ?_
      refine qs (y_move RF) ?_
      refine sq_nil ?_
      refine sx_round (k + 1) ?_ ?_ SU SE
      · refine ⟨by omega, fun j hj => ?_⟩
        rcases Nat.lt_succ_iff_lt_or_eq.1 hj with h | rfl
        · exact hno j h
        · simpa using hc1
      · omega
  ·
    refine sc_exit ?_
    refine sx_then_exit ?_
    refine sx_round_exit ?_
    refine sx_blk_hit ?_
    refine sx_then ?_
    refine sc_seq ?_
    refine sc_region ?_
    refine qs (y_assign RF) ?_
    refine sq_nil ?_
    refine sx_then ?_
    refine sc_ret ?_
    refine sx_ret1 (.inl rfl) rfl Tryd.results59 RF ?_
    intro w' hw'
    refine ⟨⟨_, rfl, ?_⟩, hw'.below MM⟩
    have hkn : k = n := by omega
    subst hkn
    constructor
    · intro h; omega
    · intro h
      obtain ⟨j, hj, hpj⟩ := List.any_eq_true.1 h
      rw [hno j (List.mem_range.1 hj)] at hpj; cases hpj
theorem containsMk (g : FuncId) (caps : List Value) (p : Nat → Bool) (w : World) (a : Option Addr) (n c : Nat) (row : Nat → List Value) (hn : n ≤ 9223372036854775807) (hel : ∀ i, i < n → a.isSome = true ∧ (row i).length = 2 ∧ CA 0 w (elt a i 2) (row i))
    (hcg : ∀ args w, (callFunc g args).run Tryd.prog w = .ok (.enter g args) w) (hp : ∀ i, i < n → ∀ w1, Below w.heap.size w w1 → Calls Tryd.prog g (.agg (row i).toArray :: caps).toArray w1 fun e w' => e = .returned (.bool (p i)) ∧ Below w1.heap.size w1 w') :
    Calls Tryd.prog 51 #[.slice a n c, .func (.func g) #[] caps.toArray] w fun e w' => e = .returned (.bool ((List.range n).any p)) ∧ Below w.heap.size w w' := by
  refine calls_of_SC (args := [.slice a n c, .func (.func g) #[] caps.toArray]) Tryd.func51 rfl Tryd.ntmps51 rfl ?_
  simp only [argL, Nat.zero_add]
  refine sc_seq ?_
  refine sc_region ?_
  refine qs (y_assign RF) ?_
  refine sq_nil ?_
  refine sx_then ?_
  refine sc_seq ?_
  refine sc_region ?_
  refine qs (y_move RF) ?_
  refine qs (y_move RF) ?_
  refine sq_call (first := []) (caps := []) (vs := [.slice a n c, .func (.func g) #[] caps.toArray]) (Z := Int) (fun z => .int .i64 z) (fun _ => [.reg 0 w]) (fun z => 0 ≤ z ↔ (List.range n).any p = true) RF Tryd.call59 (EvL.cons RF (EvL.cons RF EvL.nil)) (fun w1 hw1 => (indexMk g caps p w1 a n c row hn (fun i hi => ⟨(hel i hi).1, (hel i hi).2.1, CA.at (hel i hi).2.2 hw1 MM⟩) hcg (fun i hi w2 hb => hp i hi w2 ((hw1.below MM).trans (hb.mono (hw1.below MM).size)))).mono (fun e w2 ⟨⟨z, he, hz⟩, hb⟩ => ⟨z, hz, he, hw1.ext hb⟩)) rfl (fun z hz => ?_)
  refine qs (y_geq RF RF) ?_
  refine qs (y_assign RF) ?_
  refine sq_nil ?_
  refine sx_then ?_
  refine sc_ret ?_
  refine sx_ret1 (.inl rfl) rfl Tryd.results51 RF ?_
  intro w' hw'
  refine ⟨?_, hw'.below MM⟩
  congr 2
  rw [Bool.eq_iff_iff]; simpa using hz
theorem indexWi (g : FuncId) (caps : List Value) (p : Nat → Bool) (w : World) (a : Option Addr) (n c : Nat) (row : Nat → List Value) (hn : n ≤ 9223372036854775807) (hel : ∀ i, i < n → a.isSome = true ∧ (row i).length = 5 ∧ CA 0 w (elt a i 5) (row i))
    (hcg : ∀ args w, (callFunc g args).run Tryd.prog w = .ok (.enter g args) w) (hp : ∀ i, i < n → ∀ w1, Below w.heap.size w w1 → Calls Tryd.prog g (.agg (row i).toArray :: caps).toArray w1 fun e w' => e = .returned (.bool (p i)) ∧ Below w1.heap.size w1 w') :
    Calls Tryd.prog 60 #[.slice a n c, .func (.func g) #[] caps.toArray] w fun e w' => (∃ z : Int, e = .returned (.int .i64 z) ∧ (0 ≤ z ↔ (List.range n).any p = true)) ∧ Below w.heap.size w w' := by
  refine calls_of_SC (args := [.slice a n c, .func (.func g) #[] caps.toArray]) Tryd.func60 rfl Tryd.ntmps60 rfl ?_
  simp only [argL, Nat.zero_add]
  refine sc_seq ?_
  refine sc_region ?_
  refine qs (y_assign RF) ?_
  refine sq_nil ?_
  refine sx_then ?_
  refine sc_seq ?_
  refine sc_seq ?_
  refine sc_region ?_
  refine qs (y_move RF) ?_
  refine qs (y_len Tryd.underlying25 RF) ?_
  refine qs (y_move RF) ?_
  refine sq_nil ?_
  refine sx_then ?_
  refine sc_block ?_
  refine sc_loop (σ := Nat)
    (fun s => [(0, .slice a n c), (1, .func (.func g) #[] caps.toArray), (7, .int .i64 n), (8, .int .i64 s)])
    (fun s => [.reg 0 w])
    (fun s => s ≤ n ∧ ∀ j, j < s → p j = false)
    (fun s => n - s)
    (0) ?_ SU SE ?_
  · exact ⟨Nat.zero_le _, fun j hj => absurd hj (Nat.not_lt_zero j)⟩
  rintro k ⟨hk, hno⟩
  refine sc_seq ?_
  refine sc_region ?_
  refine qs (y_lss RF RF) ?_
  refine sq_nil ?_
  refine sx_then ?_
  refine sc_seq ?_
  refine scp (fun hc0 => ?_) (fun hc0 => ?_)
  ·
    have hk' : k < n := by omega
    have hsome := (hel k hk').1
    have hrow := (hel k hk').2.1
    have hca := (hel k hk').2.2
    refine sc_skip ?_
    refine sx_then ?_
    refine sc_seq ?_
    refine sc_block ?_
    refine sc_seq ?_
    refine sc_region ?_
    refine qs (y_move RF) ?_
    refine qs (y_assign RF) ?_
    refine sq_nil ?_
    refine sx_then ?_
    refine sc_seq ?_
    refine sc_region ?_
    refine qs (y_move RF) ?_
    refine qs (y_move RF) ?_
    refine qs (y_move RF) ?_
    refine qs IA25 ?_
    refine qs (by first | exact y_load_ca Tryd.underlying50 rfl Tryd.sizeOf50 RF MM hca hrow | exact LD50) ?_
    refine qy (y_call (first := []) (caps := caps) (by exact rfl) hcg (EvL.cons RF EvL.nil) (fun w1 hw1 => hp k hk' w1 (hw1.below MM))) ?_
    refine sq_nil ?_
    refine sx_then ?_
    refine scp (fun hc1 => ?_) (fun hc1 => ?_)
    ·
      have hpk : p k = true := hc1
      refine sc_seq ?_
      refine sc_region ?_
      refine qs (y_move RF) ?_
      refine qs (y_assign RF) ?_
      refine sq_nil ?_
      refine sx_then ?_
      refine sc_ret ?_
      refine sx_blk_ret ?_
      refine sx_then_ret ?_
      refine sx_round_ret ?_
      refine sx_blk_ret ?_
      refine sx_then_ret ?_
      refine sx_ret1 (.inl rfl) rfl Tryd.results60 RF ?_
      intro w' hw'
      exact ⟨⟨_, rfl, fun _ => List.any_eq_true.2 ⟨k, List.mem_range.2 hk', hpk⟩, fun _ => by omega⟩, hw'.below MM⟩
    ·
      refine sc_skip ?_
      refine sx_blk ?_
      refine sx_then ?_
      refine sc_region ?_
      refine qs (y_add RF RF (by omega)) ?_
      refine qs (y_move RF) ?_
      refine sq_nil ?_
      refine sx_round (k + 1) ?_ ?_ SU SE
      · refine ⟨by omega, fun j hj => ?_⟩
        rcases Nat.lt_succ_iff_lt_or_eq.1 hj with h | rfl
        · exact hno j h
        · simpa using hc1
      · omega
  ·
    refine sc_exit ?_
    refine sx_then_exit ?_
    refine sx_round_exit ?_
    refine sx_blk_hit ?_
    refine sx_then ?_
    refine sc_seq ?_
    refine sc_region ?_
    refine qs (y_assign RF) ?_
    refine sq_nil ?_
    refine sx_then ?_
    refine sc_ret ?_
    refine sx_ret1 (.inl rfl) rfl Tryd.results60 RF ?_
    intro w' hw'
    refine ⟨⟨_, rfl, ?_⟩, hw'.below MM⟩
    have hkn : k = n := by omega
    subst hkn
    constructor
    · intro h; omega
    · intro h
      obtain ⟨j, hj, hpj⟩ := List.any_eq_true.1 h
      rw [hno j (List.mem_range.1 hj)] at hpj; cases hpj
theorem containsWi (g : FuncId) (caps : List Value) (p : Nat → Bool) (w : World) (a : Option Addr) (n c : Nat) (row : Nat → List Value) (hn : n ≤ 9223372036854775807) (hel : ∀ i, i < n → a.isSome = true ∧ (row i).length = 5 ∧ CA 0 w (elt a i 5) (row i))
    (hcg : ∀ args w, (callFunc g args).run Tryd.prog w = .ok (.enter g args) w) (hp : ∀ i, i < n → ∀ w1, Below w.heap.size w w1 → Calls Tryd.prog g (.agg (row i).toArray :: caps).toArray w1 fun e w' => e = .returned (.bool (p i)) ∧ Below w1.heap.size w1 w') :
    Calls Tryd.prog 52 #[.slice a n c, .func (.func g) #[] caps.toArray] w fun e w' => e = .returned (.bool ((List.range n).any p)) ∧ Below w.heap.size w w' := by
  refine calls_of_SC (args := [.slice a n c, .func (.func g) #[] caps.toArray]) Tryd.func52 rfl Tryd.ntmps52 rfl ?_
  simp only [argL, Nat.zero_add]
  refine sc_seq ?_
  refine sc_region ?_
  refine qs (y_assign RF) ?_
  refine sq_nil ?_
  refine sx_then ?_
  refine sc_seq ?_
  refine sc_region ?_
  refine qs (y_move RF) ?_
  refine qs (y_move RF) ?_
  refine sq_call (first := []) (caps := []) (vs := [.slice a n c, .func (.func g) #[] caps.toArray]) (Z := Int) (fun z => .int .i64 z) (fun _ => [.reg 0 w]) (fun z => 0 ≤ z ↔ (List.range n).any p = true) RF Tryd.call60 (EvL.cons RF (EvL.cons RF EvL.nil)) (fun w1 hw1 => (indexWi g caps p w1 a n c row hn (fun i hi => ⟨(hel i hi).1, (hel i hi).2.1, CA.at (hel i hi).2.2 hw1 MM⟩) hcg (fun i hi w2 hb => hp i hi w2 ((hw1.below MM).trans (hb.mono (hw1.below MM).size)))).mono (fun e w2 ⟨⟨z, he, hz⟩, hb⟩ => ⟨z, hz, he, hw1.ext hb⟩)) rfl (fun z hz => ?_)
  refine qs (y_geq RF RF) ?_
  refine qs (y_assign RF) ?_
  refine sq_nil ?_
  refine sx_then ?_
  refine sc_ret ?_
  refine sx_ret1 (.inl rfl) rfl Tryd.results52 RF ?_
  intro w' hw'
  refine ⟨?_, hw'.below MM⟩
  congr 2
  rw [Bool.eq_iff_iff]; simpa using hz
theorem bad42 (w : World) (x : Sh) : Calls Tryd.prog 42 #[.agg (shRow x).toArray] w fun e w' => e = .returned (.bool (!shB x)) ∧ Below w.heap.size w w' := by
  refine calls_of_SC (args := [.agg (shRow x).toArray]) Tryd.func42 rfl Tryd.ntmps42 rfl ?_
  simp only [argL]
  refine sc_seq ?_
  refine sc_region ?_
  refine sq_box RF rfl (fun b1 => ?_)
  refine qs (y_assign RF) ?_
  refine sq_nil ?_
  refine sx_then ?_
  refine sc_seq ?_
  refine sc_region ?_
  refine qs FA42_29 ?_
  refine qs (by first | exact y_load_part (vs := spRow x.many) Tryd.underlying29 rfl Tryd.sizeOf29 RF MM rfl | exact LD29) ?_
  refine qy (yc Tryd.call43 E3 (fun w1 _ => isSpan43 _ _ _ w1)) ?_
  refine qs (y_not RF) ?_
  refine qs (y_move RF) ?_
  refine spb 7 (fun hg1_4 => ?_) (fun hg1_4 => ?_)
  ·
    refine qf ?_
    refine qf ?_
    refine qf ?_
    refine qf ?_
    refine qs (y_pick_t RF RF) ?_
    refine qs (y_assign RF) ?_
    refine sq_nil ?_
    refine sx_then ?_
    refine sc_ret ?_
    refine sx_ret1 (.inl rfl) rfl Tryd.results42 RF ?_
    intro w' hw'
    refine ⟨?_, hw'.below MM⟩
    exact congrArg (fun b => Ending.returned (Value.bool b)) (bad1 hg1_4)
  ·
    refine qg FA42_3 ?_
    refine qg LD3 ?_
    refine sq_gt RF RF (y_call (first := []) (caps := []) RF Tryd.call34 (EvL.cons RF (EvL.cons RF (EvL.cons RF EvL.nil))) (fun w1 _ => within34 _ _ _ w1)) rfl ?_
    refine qg (y_not RF) ?_
    refine qs (y_pick_f RF RF) ?_
    refine qs (y_assign RF) ?_
    refine sq_nil ?_
    refine sx_then ?_
    refine sc_ret ?_
    refine sx_ret1 (.inl rfl) rfl Tryd.results42 RF ?_
    intro w' hw'
    refine ⟨?_, hw'.below MM⟩
    exact congrArg (fun b => Ending.returned (Value.bool b)) (bad2 hg1_4)
theorem bad44 (w : World) (x : Li) : Calls Tryd.prog 44 #[.agg (liRow x).toArray] w fun e w' => e = .returned (.bool (!liB x)) ∧ Below w.heap.size w w' := by
  refine calls_of_SC (args := [.agg (liRow x).toArray]) Tryd.func44 rfl Tryd.ntmps44 rfl ?_
  simp only [argL]
  refine sc_seq ?_
  refine sc_region ?_
  refine sq_box RF rfl (fun b1 => ?_)
  refine qs (y_assign RF) ?_
  refine sq_nil ?_
  refine sx_then ?_
  refine sc_seq ?_
  refine sc_region ?_
  refine qs FA55_3 ?_
  refine qs LD3 ?_
  refine qy (yc Tryd.call34 E3 (fun w1 _ => within34 _ _ _ w1)) ?_
  refine qs (y_not RF) ?_
  refine qs (y_move RF) ?_
  refine spb 7 (fun hg1_4 => ?_) (fun hg1_4 => ?_)
  ·
    refine qf ?_
    refine qf ?_
    refine qf ?_
    refine qf ?_
    refine qf ?_
    refine qf ?_
    refine qf ?_
    refine qs (y_pick_t RF RF) ?_
    refine qs (y_move RF) ?_
    refine qf ?_
    refine qf ?_
    refine qf ?_
    refine qf ?_
    refine qs (y_pick_t RF RF) ?_
    refine qs (y_assign RF) ?_
    refine sq_nil ?_
    refine sx_then ?_
    refine sc_ret ?_
    refine sx_ret1 (.inl rfl) rfl Tryd.results44 RF ?_
    intro w' hw'
    refine ⟨?_, hw'.below MM⟩
    exact congrArg (fun b => Ending.returned (Value.bool b)) (c31 hg1_4)
  ·
    refine qg FA55_3 ?_
    refine qg LD3 ?_
    refine qg FA55_3 ?_
    refine qg LD3 ?_
    refine qg (y_build bt29 (EvP.cons RF (EvP.cons RF EvP.nil)) RF) ?_
    refine sq_gt RF RF (y_call (first := []) (caps := []) RF Tryd.call43 (EvL.cons RF (EvL.cons RF (EvL.cons RF EvL.nil))) (fun w1 _ => isSpan43 ⟨x.from_, x.to_⟩ _ _ w1)) rfl ?_
    refine qg (y_not RF) ?_
    refine qs (y_pick_f RF RF) ?_
    refine qs (y_move RF) ?_
    refine spb 16 (fun hg1_13 => ?_) (fun hg1_13 => ?_)
    ·
      refine qf ?_
      refine qf ?_
      refine qf ?_
      refine qf ?_
      refine qs (y_pick_t RF RF) ?_
      refine qs (y_assign RF) ?_
      refine sq_nil ?_
      refine sx_then ?_
      refine sc_ret ?_
      refine sx_ret1 (.inl rfl) rfl Tryd.results44 RF ?_
      intro w' hw'
      refine ⟨?_, hw'.below MM⟩
      exact congrArg (fun b => Ending.returned (Value.bool b)) (c32 hg1_4 hg1_13)
    ·
      refine qg FA55_3 ?_
      refine qg LD3 ?_
      refine sq_gt RF RF (y_call (first := []) (caps := []) RF Tryd.call34 (EvL.cons RF (EvL.cons RF (EvL.cons RF EvL.nil))) (fun w1 _ => within34 _ _ _ w1)) rfl ?_
      refine qg (y_not RF) ?_
      refine qs (y_pick_f RF RF) ?_
      refine qs (y_assign RF) ?_
      refine sq_nil ?_
      refine sx_then ?_
      refine sc_ret ?_
      refine sx_ret1 (.inl rfl) rfl Tryd.results44 RF ?_
      intro w' hw'
      refine ⟨?_, hw'.below MM⟩
      exact congrArg (fun b => Ending.returned (Value.bool b)) (c33 hg1_4 hg1_13)
theorem bad45 (w : World) (n : Int) : Calls Tryd.prog 45 #[.int .i64 n] w fun e w' => e = .returned (.bool (!tkB n)) ∧ Below w.heap.size w w' := by
  refine calls_of_SC (args := [.int .i64 n]) Tryd.func45 rfl Tryd.ntmps45 rfl ?_
  simp only [argL]
  refine sc_seq ?_
  refine sc_region ?_
  refine qs (y_assign RF) ?_
  refine sq_nil ?_
  refine sx_then ?_
  refine sc_seq ?_
  refine sc_region ?_
  refine qs (y_move RF) ?_
  refine qy (yc Tryd.call34 E3 (fun w1 _ => within34 _ _ _ w1)) ?_
  refine qs (y_not RF) ?_
  refine qs (y_assign RF) ?_
  refine sq_nil ?_
  refine sx_then ?_
  refine sc_ret ?_
  refine sx_ret1 (.inl rfl) rfl Tryd.results45 RF ?_
  intro w' hw'
  exact ⟨rfl, hw'.below MM⟩
theorem bad46 (w : World) (z : SA) (s : So) (hl : s.sh.length ≤ 9223372036854775807 ∧ s.li.length ≤ 9223372036854775807 ∧ s.mks.length ≤ 9223372036854775807) (p1 : Addr) (hp1 : CA 0 w p1 (stV z s)) (p2 : Addr) (hp2 : CA 0 w p2 [.func (.func 45) #[] #[]]) (x : Mk) (ax : Option Addr) (cx : Nat) (hx : RowsA iRow 1 0 w ax x.tk) : Calls Tryd.prog 46 #[.agg #[.int .i64 x.pic, .slice ax x.tk.length cx], .pointer (some p1), .pointer (some p2)] w fun e w' => e = .returned (.bool (!mkB s x)) ∧ Below w.heap.size w w' := by
  have hlen := hx.len
  rw [mkB_3]
  refine calls_of_SC (args := [.agg #[.int .i64 x.pic, .slice ax x.tk.length cx], .pointer (some p1), .pointer (some p2)]) Tryd.func46 rfl Tryd.ntmps46 rfl ?_
  simp only [argL, Nat.reduceAdd, Nat.zero_add]
  refine sc_seq ?_
  refine sc_region ?_
  refine sq_box RF rfl (fun b3 => ?_)
  refine qs (y_assign RF) ?_
  refine sq_nil ?_
  refine sx_then ?_
  refine sc_seq ?_
  refine sc_region ?_
  refine qs FA57_3 ?_
  refine qs LD3 ?_
  refine qs FA27_23 ?_
  refine qs (by first | exact y_load_caj Tryd.underlying23 rfl RF MM hp1 rfl | exact LD23) ?_
  refine qs (y_len Tryd.underlying23 RF) ?_
  refine qs (y_sub RF RF (by omega)) ?_
  refine qy (yc Tryd.call34 E3 (fun w1 _ => within34 _ _ _ w1)) ?_
  refine qs (y_not RF) ?_
  refine qs (y_move RF) ?_
  refine spb 13 (fun hg1_8 => ?_) (fun hg1_8 => ?_)
  ·
    refine qf ?_
    refine qf ?_
    refine qf ?_
    refine qf ?_
    refine qf ?_
    refine qf ?_
    refine qf ?_
    refine qs (y_pick_t RF RF) ?_
    refine qs (y_move RF) ?_
    refine qf ?_
    refine qf ?_
    refine qf ?_
    refine qf ?_
    refine qs (y_pick_t RF RF) ?_
    refine qs (y_assign RF) ?_
    refine sq_nil ?_
    refine sx_then ?_
    refine sc_ret ?_
    refine sx_ret1 (.inl rfl) rfl Tryd.results46 RF ?_
    intro w' hw'
    refine ⟨?_, hw'.below MM⟩
    exact congrArg (fun b => Ending.returned (Value.bool b)) (c31 hg1_8)
  ·
    refine qg FA57_35 ?_
    refine qg LD35 ?_
    refine qg (y_len Tryd.underlying35 RF) ?_
    refine qg FA27_22 ?_
    refine qg (by first | exact y_load_caj Tryd.underlying22 rfl RF MM hp1 rfl | exact LD22) ?_
    refine qg (y_len Tryd.underlying22 RF) ?_
    refine qg (y_neq RF RF) ?_
    refine qs (y_pick_f RF RF) ?_
    refine qs (y_move RF) ?_
    refine spb 22 (fun hg1_17 => ?_) (fun hg1_17 => ?_)
    ·
      refine qf ?_
      refine qf ?_
      refine qf ?_
      refine qf ?_
      refine qs (y_pick_t RF RF) ?_
      refine qs (y_assign RF) ?_
      refine sq_nil ?_
      refine sx_then ?_
      refine sc_ret ?_
      refine sx_ret1 (.inl rfl) rfl Tryd.results46 RF ?_
      intro w' hw'
      refine ⟨?_, hw'.below MM⟩
      exact congrArg (fun b => Ending.returned (Value.bool b)) (c32 hg1_8 hg1_17)
    ·
      refine qg FA57_35 ?_
      refine qg LD35 ?_
      refine qg (by first | exact y_load_ca0 Tryd.underlying68 rfl RF MM hp2 rfl | exact LD68) ?_
      refine sq_gt RF RF (y_call (first := []) (caps := []) RF Tryd.call47 (EvL.cons RF (EvL.cons RF EvL.nil)) (fun w1 hw1 => (containsTk 45 [] (fun i => !tkB (x.tk.getD i 0)) w1 ax _ cx (fun i => .int .i64 (x.tk.getD i 0)) hlen (fun i hi => ⟨(hx.get 0 hi).1, CA.at (hx.get 0 hi).2 hw1 MM⟩) Tryd.call45 (fun i _ w2 _ => bad45 w2 _)).mono (fun e w' h => ⟨h.1.trans (by rw [any_all]), h.2⟩))) rfl ?_
      refine qs (y_pick_f RF RF) ?_
      refine qs (y_assign RF) ?_
      refine sq_nil ?_
      refine sx_then ?_
      refine sc_ret ?_
      refine sx_ret1 (.inl rfl) rfl Tryd.results46 RF ?_
      intro w' hw'
      refine ⟨?_, hw'.below MM⟩
      exact congrArg (fun b => Ending.returned (Value.bool b)) (c33 hg1_8 hg1_17)
theorem bad48 (w : World) (z : SA) (s : So) (hl : s.sh.length ≤ 9223372036854775807 ∧ s.li.length ≤ 9223372036854775807 ∧ s.mks.length ≤ 9223372036854775807) (p1 : Addr) (hp1 : CA 0 w p1 (stV z s)) (x : Wi) : Calls Tryd.prog 48 #[.agg (wiRow x).toArray, .pointer (some p1)] w fun e w' => e = .returned (.bool (!wiB s x)) ∧ Below w.heap.size w w' := by
  refine calls_of_SC (args := [.agg (wiRow x).toArray, .pointer (some p1)]) Tryd.func48 rfl Tryd.ntmps48 rfl ?_
  simp only [argL, Nat.zero_add]
  refine sc_seq ?_
  refine sc_region ?_
  refine sq_box RF rfl (fun b2 => ?_)
  refine qs (y_assign RF) ?_
  refine sq_nil ?_
  refine sx_then ?_
  refine sc_seq ?_
  refine sc_region ?_
  refine qs FA50_3 ?_
  refine qs LD3 ?_
  refine qs FA27_24 ?_
  refine qs (by first | exact y_load_caj Tryd.underlying24 rfl RF MM hp1 rfl | exact LD24) ?_
  refine qs (y_len Tryd.underlying24 RF) ?_
  refine qs (y_sub RF RF (by omega)) ?_
  refine qy (yc Tryd.call34 E3 (fun w1 _ => within34 _ _ _ w1)) ?_
  refine qs (y_not RF) ?_
  refine qs (y_move RF) ?_
  refine spb 12 (fun hg1_8 => ?_) (fun hg1_8 => ?_)
  ·
    refine qf ?_
    refine qf ?_
    refine qf ?_
    refine qf ?_
    refine qs (y_pick_t RF RF) ?_
    refine qs (y_move RF) ?_
    refine qf ?_
    refine qf ?_
    refine qf ?_
    refine qf ?_
    refine qs (y_pick_t RF RF) ?_
    refine qs (y_move RF) ?_
    refine qf ?_
    refine qf ?_
    refine qf ?_
    refine qf ?_
    refine qs (y_pick_t RF RF) ?_
    refine qs (y_move RF) ?_
    refine qf ?_
    refine qf ?_
    refine qf ?_
    refine qf ?_
    refine qs (y_pick_t RF RF) ?_
    refine qs (y_assign RF) ?_
    refine sq_nil ?_
    refine sx_then ?_
    refine sc_ret ?_
    refine sx_ret1 (.inl rfl) rfl Tryd.results48 RF ?_
    intro w' hw'
    refine ⟨?_, hw'.below MM⟩
    exact congrArg (fun b => Ending.returned (Value.bool b)) (ch1 hg1_8)
  ·
    refine qg FA50_3 ?_
    refine qg LD3 ?_
    refine sq_gt RF RF (y_call (first := []) (caps := []) RF Tryd.call34 (EvL.cons RF (EvL.cons RF (EvL.cons RF EvL.nil))) (fun w1 _ => within34 _ _ _ w1)) rfl ?_
    refine qg (y_not RF) ?_
    refine qs (y_pick_f RF RF) ?_
    refine qs (y_move RF) ?_
    refine spb 18 (fun hg1_14 => ?_) (fun hg1_14 => ?_)
    ·
      refine qf ?_
      refine qf ?_
      refine qf ?_
      refine qf ?_
      refine qs (y_pick_t RF RF) ?_
      refine qs (y_move RF) ?_
      refine qf ?_
      refine qf ?_
      refine qf ?_
      refine qf ?_
      refine qs (y_pick_t RF RF) ?_
      refine qs (y_move RF) ?_
      refine qf ?_
      refine qf ?_
      refine qf ?_
      refine qf ?_
      refine qs (y_pick_t RF RF) ?_
      refine qs (y_assign RF) ?_
      refine sq_nil ?_
      refine sx_then ?_
      refine sc_ret ?_
      refine sx_ret1 (.inl rfl) rfl Tryd.results48 RF ?_
      intro w' hw'
      refine ⟨?_, hw'.below MM⟩
      exact congrArg (fun b => Ending.returned (Value.bool b)) (ch2 hg1_8 hg1_14)
    ·
      refine qg FA50_3 ?_
      refine qg LD3 ?_
      refine sq_gt RF RF (y_call (first := []) (caps := []) RF Tryd.call34 (EvL.cons RF (EvL.cons RF (EvL.cons RF EvL.nil))) (fun w1 _ => within34 _ _ _ w1)) rfl ?_
      refine qg (y_not RF) ?_
      refine qs (y_pick_f RF RF) ?_
      refine qs (y_move RF) ?_
      refine spb 24 (fun hg1_20 => ?_) (fun hg1_20 => ?_)
      ·
        refine qf ?_
        refine qf ?_
        refine qf ?_
        refine qf ?_
        refine qs (y_pick_t RF RF) ?_
        refine qs (y_move RF) ?_
        refine qf ?_
        refine qf ?_
        refine qf ?_
        refine qf ?_
        refine qs (y_pick_t RF RF) ?_
        refine qs (y_assign RF) ?_
        refine sq_nil ?_
        refine sx_then ?_
        refine sc_ret ?_
        refine sx_ret1 (.inl rfl) rfl Tryd.results48 RF ?_
        intro w' hw'
        refine ⟨?_, hw'.below MM⟩
        exact congrArg (fun b => Ending.returned (Value.bool b)) (ch3 hg1_8 hg1_14 hg1_20)
      ·
        refine qg FA50_3 ?_
        refine qg LD3 ?_
        refine sq_gt RF RF (y_call (first := []) (caps := []) RF Tryd.call34 (EvL.cons RF (EvL.cons RF (EvL.cons RF EvL.nil))) (fun w1 _ => within34 _ _ _ w1)) rfl ?_
        refine qg (y_not RF) ?_
        refine qs (y_pick_f RF RF) ?_
        refine qs (y_move RF) ?_
        refine spb 30 (fun hg1_26 => ?_) (fun hg1_26 => ?_)
        ·
          refine qf ?_
          refine qf ?_
          refine qf ?_
          refine qf ?_
          refine qs (y_pick_t RF RF) ?_
          refine qs (y_assign RF) ?_
          refine sq_nil ?_
          refine sx_then ?_
          refine sc_ret ?_
          refine sx_ret1 (.inl rfl) rfl Tryd.results48 RF ?_
          intro w' hw'
          refine ⟨?_, hw'.below MM⟩
          exact congrArg (fun b => Ending.returned (Value.bool b)) (ch4 hg1_8 hg1_14 hg1_20 hg1_26)
        ·
          refine qg FA50_3 ?_
          refine qg LD3 ?_
          refine sq_gt RF RF (y_call (first := []) (caps := []) RF Tryd.call34 (EvL.cons RF (EvL.cons RF (EvL.cons RF EvL.nil))) (fun w1 _ => within34 _ _ _ w1)) rfl ?_
          refine qg (y_not RF) ?_
          refine qs (y_pick_f RF RF) ?_
          refine qs (y_assign RF) ?_
          refine sq_nil ?_
          refine sx_then ?_
          refine sc_ret ?_
          refine sx_ret1 (.inl rfl) rfl Tryd.results48 RF ?_
          intro w' hw'
          refine ⟨?_, hw'.below MM⟩
          exact congrArg (fun b => Ending.returned (Value.bool b)) (ch5 hg1_8 hg1_14 hg1_20 hg1_26)
theorem isStore33 (w : World) (z : SA) (s : So) (hz : SoA 0 w z s) : Calls Tryd.prog 33 #[.agg (stV z s).toArray] w fun e w' => e = .returned (.bool (stB s)) ∧ Below w.heap.size w w' := by
  have hl1 := hz.sh.len
  have hl2 := hz.li.len
  have hl3 := hz.mks.len
  have hl4 := hz.wi.len
  have hle : s.sh.length ≤ 9223372036854775807 ∧ s.li.length ≤ 9223372036854775807 ∧ s.mks.length ≤ 9223372036854775807 := ⟨hl1, hl2, hl3⟩
  refine calls_of_SC (args := [.agg (stV z s).toArray]) Tryd.func33 rfl Tryd.ntmps33 rfl ?_
  simp only [argL]
  refine sc_seq ?_
  refine sc_region ?_
  refine sq_box RF rfl (fun b1 => ?_)
  refine qs (y_assign RF) ?_
  refine sq_nil ?_
  refine sx_then ?_
  refine sc_seq ?_
  refine sc_region ?_
  refine qs (y_assign RF) ?_
  refine sq_nil ?_
  refine sx_then ?_
  refine sc_seq ?_
  refine sc_region ?_
  refine qs (y_assign RF) ?_
  refine sq_nil ?_
  refine sx_then ?_
  refine sc_seq ?_
  refine sc_region ?_
  refine sq_alloc Tryd.zeroValue68 rfl (fun b5 => ?_)
  refine sq_store Tryd.sizeOf68 RF RF (by first | rfl | assumption) RM (by first | exact Nat.le_of_ble_eq_true rfl | simp | omega) ?_
  refine sq_nil ?_
  refine sx_then ?_
  refine sc_seq ?_
  refine sc_region ?_
  refine qs (y_makeFunc EvL.nil (EvL.cons RF (EvL.cons RF EvL.nil))) ?_
  refine qs (y_assign RF) ?_
  refine sq_nil ?_
  refine sx_then ?_
  refine sc_seq ?_
  refine sc_region ?_
  refine qs (y_makeFunc EvL.nil (EvL.cons RF EvL.nil)) ?_
  refine qs (y_assign RF) ?_
  refine sq_nil ?_
  refine sx_then ?_
  refine sc_seq ?_
  refine sc_midE (Z := {v : Bool // v = szB s}) (fun v => [(1, .pointer (some ⟨b1, 0, none⟩)), (3, .func (.func 42) #[] #[]), (4, .func (.func 44) #[] #[]), (6, .func (.func 46) #[] #[.pointer (some ⟨b1, 0, none⟩), .pointer (some ⟨b5, 0, none⟩)]), (7, .func (.func 48) #[] #[.pointer (some ⟨b1, 0, none⟩)]), (8, .bool v.1)]) (fun _ => [.blk b5 (.cells [Value.func (.func 45) #[] #[]].toArray 68 (0, 0)), .blk b1 (.cells (stV z s).toArray 27 (0, 0)), .reg 0 w]) ?_ ?_
  ·
    refine sc_region ?_
    refine qs FA27_22 ?_
    refine qs LD22 ?_
    refine qs (y_len Tryd.underlying22 RF) ?_
    refine qy (yc Tryd.call34 E3 (fun w1 _ => within34 _ _ _ w1)) ?_
    refine qs (y_move RF) ?_
    refine spb 15 (fun hg6_4 => ?_) (fun hg6_4 => ?_)
    ·
      refine qg FA27_23 ?_
      refine qg LD23 ?_
      refine qg (y_len Tryd.underlying23 RF) ?_
      refine sq_gt RF RF (y_call (first := []) (caps := []) RF Tryd.call34 (EvL.cons RF (EvL.cons RF (EvL.cons RF EvL.nil))) (fun w1 _ => within34 _ _ _ w1)) rfl ?_
      refine qs (y_pick_t RF RF) ?_
      refine qs (y_move RF) ?_
      refine spb 21 (fun hg6_10 => ?_) (fun hg6_10 => ?_)
      ·
        refine qg FA27_24 ?_
        refine qg LD24 ?_
        refine qg (y_len Tryd.underlying24 RF) ?_
        refine sq_gt RF RF (y_call (first := []) (caps := []) RF Tryd.call34 (EvL.cons RF (EvL.cons RF (EvL.cons RF EvL.nil))) (fun w1 _ => within34 _ _ _ w1)) rfl ?_
        refine qs (y_pick_t RF RF) ?_
        refine qs (y_move RF) ?_
        refine spb 27 (fun hg6_16 => ?_) (fun hg6_16 => ?_)
        ·
          refine qg FA27_25 ?_
          refine qg LD25 ?_
          refine qg (y_len Tryd.underlying25 RF) ?_
          refine qg (y_leq RF RF) ?_
          refine qs (y_pick_t RF RF) ?_
          refine qs (y_assign RF) ?_
          refine sq_nil ?_
          exact sx_midE (⟨decide ((s.wi.length : Int) ≤ 9), by unfold szB; rw [show inB (s.sh.length : Int) 1 4 = true from hg6_4, show inB (s.li.length : Int) 1 5 = true from hg6_10, show inB (s.mks.length : Int) 1 6 = true from hg6_16, Bool.true_and, Bool.true_and, Bool.true_and, decide_eq_decide]; omega⟩) SU SR
        ·
          refine qf ?_
          refine qf ?_
          refine qf ?_
          refine qf ?_
          refine qs (y_pick_f RF RF) ?_
          refine qs (y_assign RF) ?_
          refine sq_nil ?_
          exact sx_midE (⟨false, by unfold szB; rw [show inB (s.mks.length : Int) 1 6 = false from hg6_16]; simp⟩) SU SR
      ·
        refine qf ?_
        refine qf ?_
        refine qf ?_
        refine qf ?_
        refine qs (y_pick_f RF RF) ?_
        refine qs (y_move RF) ?_
        refine qf ?_
        refine qf ?_
        refine qf ?_
        refine qf ?_
        refine qs (y_pick_f RF RF) ?_
        refine qs (y_assign RF) ?_
        refine sq_nil ?_
        exact sx_midE (⟨false, by unfold szB; rw [show inB (s.li.length : Int) 1 5 = false from hg6_10]; simp⟩) SU SR
    ·
      refine qf ?_
      refine qf ?_
      refine qf ?_
      refine qf ?_
      refine qs (y_pick_f RF RF) ?_
      refine qs (y_move RF) ?_
      refine qf ?_
      refine qf ?_
      refine qf ?_
      refine qf ?_
      refine qs (y_pick_f RF RF) ?_
      refine qs (y_move RF) ?_
      refine qf ?_
      refine qf ?_
      refine qf ?_
      refine qf ?_
      refine qs (y_pick_f RF RF) ?_
      refine qs (y_assign RF) ?_
      refine sq_nil ?_
      exact sx_midE (⟨false, by unfold szB; rw [show inB (s.sh.length : Int) 1 4 = false from hg6_4]; simp⟩) SU SR
  rintro ⟨_, rfl⟩
  try dsimp only
  refine sx_then ?_
  refine sc_seq ?_
  refine sc_midE (Z := {v : Bool // v = stB s}) (fun v => [(2, .bool v.1)]) (fun _ => [.reg 0 w]) ?_ ?_
  ·
    refine sc_region ?_
    refine qs (y_move RF) ?_
    refine qs (y_move RF) ?_
    refine spb 34 (fun hg7_1 => ?_) (fun hg7_1 => ?_)
    ·
      refine qg FA27_22 ?_
      refine qg LD22 ?_
      refine qg (y_move RF) ?_
      refine sq_gt RF RF (y_call (first := []) (caps := []) RF Tryd.call49 (EvL.cons RF (EvL.cons RF EvL.nil)) (fun w1 hw1 => (containsSh 42 [] (fun i => !shB (s.sh.getD i sh0)) w1 _ _ _ (fun i => shRow (s.sh.getD i sh0)) hz.sh.len (fun i hi => ⟨(hz.sh.get sh0 hi).1, rfl, CA.at (hz.sh.get sh0 hi).2 hw1 MM⟩) Tryd.call42 (fun i _ w2 _ => bad42 w2 _)).mono (fun e w' h => ⟨h.1.trans (by rw [any_all]), h.2⟩))) rfl ?_
      refine qg (y_not RF) ?_
      refine qs (y_pick_t RF RF) ?_
      refine qs (y_move RF) ?_
      refine spb 41 (fun hg7_8 => ?_) (fun hg7_8 => ?_)
      ·
        refine qg FA27_23 ?_
        refine qg LD23 ?_
        refine qg (y_move RF) ?_
        refine sq_gt RF RF (y_call (first := []) (caps := []) RF Tryd.call50 (EvL.cons RF (EvL.cons RF EvL.nil)) (fun w1 hw1 => (containsLi 44 [] (fun i => !liB (s.li.getD i li0)) w1 _ _ _ (fun i => liRow (s.li.getD i li0)) hz.li.len (fun i hi => ⟨(hz.li.get li0 hi).1, rfl, CA.at (hz.li.get li0 hi).2 hw1 MM⟩) Tryd.call44 (fun i _ w2 _ => bad44 w2 _)).mono (fun e w' h => ⟨h.1.trans (by rw [any_all]), h.2⟩))) rfl ?_
        refine qg (y_not RF) ?_
        refine qs (y_pick_t RF RF) ?_
        refine qs (y_move RF) ?_
        refine spb 48 (fun hg7_15 => ?_) (fun hg7_15 => ?_)
        ·
          refine qg FA27_24 ?_
          refine qg LD24 ?_
          refine qg (y_move RF) ?_
          refine sq_gt RF RF (y_call (first := []) (caps := []) RF Tryd.call51 (EvL.cons RF (EvL.cons RF EvL.nil)) (fun w1 hw1 => (containsMk 46 [.pointer (some ⟨b1, 0, none⟩), .pointer (some ⟨b5, 0, none⟩)] (fun i => !mkB s (s.mks.getD i mk0)) w1 _ _ _ (fun i => [.int .i64 (s.mks.getD i mk0).pic, .slice (z.f i) (s.mks.getD i mk0).tk.length (z.cf i)]) hz.mks.len (fun i hi => ⟨(hz.mks.get hi).1, rfl, CA.at (hz.mks.get hi).2.1 hw1 MM⟩) Tryd.call46 (fun i hi w2 hb => bad46 w2 z s hle ⟨b1, 0, none⟩ (CA.below (CA.blk hw1 MM) hb) ⟨b5, 0, none⟩ (CA.below (CA.blk (vs := [Value.func (.func 45) #[] #[]]) hw1 MM) hb) _ _ _ (((hz.mks.get hi).2.2.at hw1 MM).below hb))).mono (fun e w' h => ⟨h.1.trans (by rw [any_all]), h.2⟩))) rfl ?_
          refine qg (y_not RF) ?_
          refine qs (y_pick_t RF RF) ?_
          refine qs (y_move RF) ?_
          refine spb 55 (fun hg7_22 => ?_) (fun hg7_22 => ?_)
          ·
            refine qg FA27_25 ?_
            refine qg LD25 ?_
            refine qg (y_move RF) ?_
            refine sq_gt RF RF (y_call (first := []) (caps := []) RF Tryd.call52 (EvL.cons RF (EvL.cons RF EvL.nil)) (fun w1 hw1 => (containsWi 48 [.pointer (some ⟨b1, 0, none⟩)] (fun i => !wiB s (s.wi.getD i wi0)) w1 _ _ _ (fun i => wiRow (s.wi.getD i wi0)) hz.wi.len (fun i hi => ⟨(hz.wi.get wi0 hi).1, rfl, CA.at (hz.wi.get wi0 hi).2 hw1 MM⟩) Tryd.call48 (fun i hi w2 hb => bad48 w2 z s hle ⟨b1, 0, none⟩ (CA.below (CA.blk hw1 MM) hb) _)).mono (fun e w' h => ⟨h.1.trans (by rw [any_all]), h.2⟩))) rfl ?_
            refine qg (y_not RF) ?_
            refine qs (y_pick_t RF RF) ?_
            refine qs (y_assign RF) ?_
            refine sq_nil ?_
            exact sx_midE (⟨!!s.wi.all (wiB s), k5 hg7_1 hg7_8 hg7_15 hg7_22⟩) SU SR
          ·
            refine qf ?_
            refine qf ?_
            refine qf ?_
            refine qf ?_
            refine qf ?_
            refine qs (y_pick_f RF RF) ?_
            refine qs (y_assign RF) ?_
            refine sq_nil ?_
            exact sx_midE (⟨false, k4 hg7_1 hg7_8 hg7_15 hg7_22⟩) SU SR
        ·
          refine qf ?_
          refine qf ?_
          refine qf ?_
          refine qf ?_
          refine qf ?_
          refine qs (y_pick_f RF RF) ?_
          refine qs (y_move RF) ?_
          refine qf ?_
          refine qf ?_
          refine qf ?_
          refine qf ?_
          refine qf ?_
          refine qs (y_pick_f RF RF) ?_
          refine qs (y_assign RF) ?_
          refine sq_nil ?_
          exact sx_midE (⟨false, k3 hg7_1 hg7_8 hg7_15⟩) SU SR
      ·
        refine qf ?_
        refine qf ?_
        refine qf ?_
        refine qf ?_
        refine qf ?_
        refine qs (y_pick_f RF RF) ?_
        refine qs (y_move RF) ?_
        refine qf ?_
        refine qf ?_
        refine qf ?_
        refine qf ?_
        refine qf ?_
        refine qs (y_pick_f RF RF) ?_
        refine qs (y_move RF) ?_
        refine qf ?_
        refine qf ?_
        refine qf ?_
        refine qf ?_
        refine qf ?_
        refine qs (y_pick_f RF RF) ?_
        refine qs (y_assign RF) ?_
        refine sq_nil ?_
        exact sx_midE (⟨false, k2 hg7_1 hg7_8⟩) SU SR
    ·
      refine qf ?_
      refine qf ?_
      refine qf ?_
      refine qf ?_
      refine qf ?_
      refine qs (y_pick_f RF RF) ?_
      refine qs (y_move RF) ?_
      refine qf ?_
      refine qf ?_
      refine qf ?_
      refine qf ?_
      refine qf ?_
      refine qs (y_pick_f RF RF) ?_
      refine qs (y_move RF) ?_
      refine qf ?_
      refine qf ?_
      refine qf ?_
      refine qf ?_
      refine qf ?_
      refine qs (y_pick_f RF RF) ?_
      refine qs (y_move RF) ?_
      refine qf ?_
      refine qf ?_
      refine qf ?_
      refine qf ?_
      refine qf ?_
      refine qs (y_pick_f RF RF) ?_
      refine qs (y_assign RF) ?_
      refine sq_nil ?_
      exact sx_midE (⟨false, k1 hg7_1⟩) SU SR
  rintro ⟨_, rfl⟩
  try dsimp only
  refine sx_then ?_
  refine sc_ret ?_
  refine sx_ret1 (.inl rfl) rfl Tryd.results33 RF ?_
  intro w' hw'
  exact ⟨rfl, hw'.below MM⟩
end Go.Proofs.YtpodaihifdlkkaaDoor
