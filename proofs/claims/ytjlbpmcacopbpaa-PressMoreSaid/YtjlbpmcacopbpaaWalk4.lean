/- The walks of Sheets. -/
import Derived.Test.YtjlbpmcacopbpaaWalk1
import Derived.Test.YtjlbpmcacopbpaaLawF
namespace Go.Proofs.Ytjlbpmcacopbpaa
open Go Go.Eng Go.RowKit Go.Proofs
set_option maxRecDepth 100000
def seekN (q : Nat → Bool) : Nat → Nat → Nat
  | 0, k => k
  | f + 1, k => if q k = true then k else seekN q f (k + 1)
theorem seekN_eq (q : Nat → Bool) (n : Nat) (hn : q n = true) : ∀ (f k : Nat), k ≤ n → n - k ≤ f → (∀ j, k ≤ j → j < n → q j = false) → seekN q f k = n
  | 0, k, h1, h2, _ => by unfold seekN; omega
  | f + 1, k, h1, h2, h3 => by
    unfold seekN
    split
    · rename_i h
      rcases Nat.lt_or_eq_of_le h1 with h4 | h4
      · rw [h3 k (Nat.le_refl _) h4] at h; cases h
      · exact h4
    · rename_i h
      have : k ≠ n := fun e => h (e ▸ hn)
      exact seekN_eq q n hn f (k + 1) (by omega) (by omega) fun j hj hjn => h3 j (by omega) hjn
def enoughQ (s : Sp) (need : Int) (n : Nat) : Bool := decide (need ≤ (goodV s n).lo)
def sheetsV (s : Sp) (need : Int) : Nat := seekN (enoughQ s need) 1048576 0
def sheetsR (s : Sp) (need : Int) : Int × Int := if spB s 0 900 = false then (0, 1) else if inB need 0 50000 = false then (0, 2) else (sheetsV s need, 0)
theorem sheetsV_eq {s : Sp} {need : Int} {n : Nat} (hn : enoughQ s need n = true) (h6 : n ≤ 600000) (hno : ∀ j, j < n → enoughQ s need j = false) : sheetsV s need = n := seekN_eq _ n hn 1048576 0 (Nat.zero_le _) (by omega) fun j _ hj => hno j hj
theorem enough_big {s : Sp} {need : Int} (hs : spB s 0 900 = true) (hd : need ≤ 50000) {n : Nat} (h : 500010 ≤ n) : enoughQ s need n = true := by
  have h1 := spB_parts hs
  have h2 := good_enough (s := s) h1.2.2 (n := (n : Int)) (by omega)
  exact decide_eq_true (by omega)

theorem search55 (w : World) (g : FuncId) (caps : List Value) (n : Nat) (q : Nat → Bool) (hn : n ≤ 2000000) (hmono : ∀ i j, i ≤ j → j < n → q i = true → q j = true) (hcg : ∀ args w, (callFunc g args).run Try.prog w = .ok (.enter g args) w)
    (hq : ∀ i, i < n → ∀ w1, Below w.heap.size w w1 → Calls Try.prog g (.int .i64 (i : Int) :: caps).toArray w1 fun e w' => e = .returned (.bool (q i)) ∧ Below w1.heap.size w1 w') :
    Calls Try.prog 55 #[.int .i64 n, .func (.func g) #[] caps.toArray] w fun e w' => (∃ s : Nat, e = .returned (.int .i64 (s : Int)) ∧ s ≤ n ∧ (∀ k, k < s → q k = false) ∧ ∀ k, s ≤ k → k < n → q k = true) ∧ Below w.heap.size w w' := by
  refine calls_of_SC (args := [.int .i64 n, .func (.func g) #[] caps.toArray]) Try.func55 rfl Try.ntmps55 rfl ?_
  simp only [argL, Nat.zero_add]
  refine sc_seq ?_
  refine sc_region ?_
  refine qs (y_assign RF) ?_
  refine sq_nil ?_
  refine sx_then ?_
  refine sc_seq ?_
  refine sc_region ?_
  refine qs (y_move RF) ?_
  refine qs (y_assign RF) ?_
  refine qs (y_assign RF) ?_
  refine sq_nil ?_
  refine sx_then ?_
  refine sc_seq ?_
  refine sc_block ?_
  refine sc_loop (σ := Nat × Nat)
    (fun s => [(1, .func (.func g) #[] caps.toArray), (5, .int .i64 s.1), (6, .int .i64 s.2)])
    (fun s => [.reg 0 w])
    (fun s => s.1 ≤ s.2 ∧ s.2 ≤ n ∧ (∀ k, k < s.1 → q k = false) ∧ (∀ k, s.2 ≤ k → k < n → q k = true))
    (fun s => s.2 - s.1)
    ((0, n)) ?_ SU SE ?_
  · exact ⟨Nat.zero_le _, Nat.le_refl _, fun k hk => absurd hk (Nat.not_lt_zero k), fun k h1 h2 => absurd h2 (by omega)⟩
  rintro ⟨i, j⟩ ⟨hij, hjn, hlo, hhi⟩
  dsimp only at hij hjn hlo hhi ⊢
  refine sc_seq ?_
  refine sc_seq ?_
  refine sc_region ?_
  refine qs (y_move RF) ?_
  refine qs (y_move RF) ?_
  refine qs (y_lss RF RF) ?_
  refine sq_nil ?_
  refine sx_then ?_
  refine scp (fun hc0 => ?_) (fun hc0 => ?_)
  ·
    have hmid : ((i : Int) + (j : Int)) / 2 ^ (1 : Int).toNat = (((i + j) / 2 : Nat) : Int) := by simp
    have hmn : (i + j) / 2 < n := by omega
    refine sc_skip ?_
    refine sx_then ?_
    refine sc_block ?_
    refine sc_seq ?_
    refine sc_region ?_
    refine qs (y_move RF) ?_
    refine qs (y_move RF) ?_
    refine qs (y_add RF RF (by omega)) ?_
    refine qs (y_conv Try.underlying3 Try.underlying104 RF (IntKind.wrap_u64 _ ▸ Int.emod_eq_of_lt (by omega) (by omega))) ?_
    refine qs (y_shr RF RF (by first | decide | (simp [IntKind.bits]; omega))) ?_
    rw [hmid]
    refine qs (y_conv Try.underlying104 Try.underlying3 RF (by simp only [IntKind.wrap_i64]; omega)) ?_
    refine qs (y_assign RF) ?_
    refine sq_nil ?_
    refine sx_then ?_
    refine sc_seq ?_
    refine sc_region ?_
    refine qs (y_move RF) ?_
    refine qs (y_move RF) ?_
    refine qy (y_call (first := []) (caps := caps) RF hcg E1 (fun w1 hw1 => hq _ hmn w1 (hw1.below MM))) ?_
    refine qs (y_not RF) ?_
    refine sq_nil ?_
    refine sx_then ?_
    refine scp (fun hc1 => ?_) (fun hc1 => ?_)
    ·
      refine sc_region ?_
      refine qs (y_move RF) ?_
      refine qs (y_add RF RF (by omega)) ?_
      refine qs (y_assign RF) ?_
      refine sq_nil ?_
      refine sx_blk ?_
      refine sx_round (((i + j) / 2 + 1, j)) ?_ ?_ SU SE
      · refine ⟨by dsimp only; omega, hjn, fun k hk => ?_, hhi⟩
        cases hqk : q k
        · rfl
        · have := hmono k ((i + j) / 2) (by dsimp only at hk; omega) (by omega) hqk
          rw [this] at hc1; simp at hc1
      · dsimp only; omega
    ·
      refine sc_region ?_
      refine qs (y_move RF) ?_
      refine qs (y_assign RF) ?_
      refine sq_nil ?_
      refine sx_blk ?_
      refine sx_round ((i, (i + j) / 2)) ?_ ?_ SU SE
      · refine ⟨by dsimp only; omega, by dsimp only; omega, hlo, fun k h1 h2 => ?_⟩
        exact hmono ((i + j) / 2) k h1 h2 (by simpa using hc1)
      · dsimp only; omega
  ·
    refine sc_exit ?_
    refine sx_then_exit ?_
    refine sx_round_exit ?_
    refine sx_blk_hit ?_
    refine sx_then ?_
    refine sc_seq ?_
    refine sc_region ?_
    refine qs (y_move RF) ?_
    refine qs (y_assign RF) ?_
    refine sq_nil ?_
    refine sx_then ?_
    refine sc_ret ?_
    refine sx_ret1 (.inl rfl) rfl Try.results55 RF ?_
    intro w' hw'
    exact ⟨⟨i, rfl, by omega, hlo, fun k h1 h2 => hhi k (by omega) h2⟩, hw'.below MM⟩
theorem enough56 (w : World) (s : Sp) (need : Int) (hs : spB s 0 900 = true) (n : Nat) (hn : n ≤ 1048576) (p1 p2 : Addr) (hp1 : CA 0 w p1 (spRow s)) (hp2 : CA 0 w p2 [.int .i64 need]) : Calls Try.prog 56 #[.int .i64 n, .pointer (some p1), .pointer (some p2)] w fun e w' => e = .returned (.bool (enoughQ s need n)) ∧ Below w.heap.size w w' := by
  refine calls_of_SC (args := [.int .i64 n, .pointer (some p1), .pointer (some p2)]) Try.func56 rfl Try.ntmps56 rfl ?_
  simp only [argL, Nat.reduceAdd, Nat.zero_add]
  refine sc_seq ?_
  refine sc_region ?_
  refine qs (y_assign RF) ?_
  refine sq_nil ?_
  refine sx_then ?_
  refine sc_seq ?_
  refine sc_drawR (by kernel_rfl) ?_
  refine xj_s 0 RF (by kernel_rfl) SE (by first | exact y_load_ca Try.underlying24 rfl Try.sizeOf24 RF MM hp1 rfl | exact LD24) rfl ?_
  refine xj_s 1 RF (by kernel_rfl) SE (y_move RF) rfl ?_
  refine xj_s 4 RF (by kernel_rfl) SE (by first | exact y_load_ca0 Try.underlying3 rfl RF MM hp2 rfl | exact LD3) rfl ?_
  refine xj_one 2 RF (by kernel_rfl) ?_
  refine qy (yc Try.call52 E2 (fun w1 _ => good52 w1 s n hs (by omega))) ?_
  refine sq_nil ?_
  refine sx_xp SE ?_
  refine xj_s 3 RF (by kernel_rfl) SE (y_field Try.underlying24 RF Try.underlying3 rfl RF RF) rfl ?_
  refine xj_s 5 RF (by kernel_rfl) SE (y_geq RF RF) rfl ?_
  refine xj_s 6 RF (by kernel_rfl) SE (y_assign RF) rfl ?_
  refine xj_done (by kernel_rfl) ?_
  refine sx_then ?_
  refine sc_ret ?_
  refine sx_ret1 (.inl rfl) rfl Try.results56 RF ?_
  intro w' hw'
  exact ⟨rfl, hw'.below MM⟩
theorem sheets18 (w : World) (s : Sp) (need : Int) : Calls Try.prog 18 #[.agg (spRow s).toArray, .int .i64 need] w fun e w' => e = .returned (.tuple #[.int .i64 (sheetsR s need).1, .int .i64 (sheetsR s need).2]) ∧ Below w.heap.size w w' := by
  refine calls_of_SC (args := [.agg (spRow s).toArray, .int .i64 need]) Try.func18 rfl Try.ntmps18 rfl ?_
  simp only [argL, Nat.zero_add]
  refine sc_seq ?_
  refine sc_region ?_
  refine sq_box RF rfl (fun b2 => ?_)
  refine sq_box RF rfl (fun b3 => ?_)
  refine qs (y_assign RF) ?_
  refine qs (y_assign RF) ?_
  refine sq_nil ?_
  refine sx_then ?_
  refine sc_seq ?_
  refine sc_block ?_
  refine sc_seq ?_
  refine sc_region ?_
  refine qs LD24 ?_
  refine qy (yc Try.call50 E3 (fun w1 _ => isSpan50 s _ _ w1)) ?_
  refine qs (y_not RF) ?_
  refine qs (y_assign RF) ?_
  refine sq_nil ?_
  refine sx_then ?_
  refine scp (fun hc0 => ?_) (fun hc0 => ?_)
  ·
    refine sc_seq ?_
    refine sc_region ?_
    refine qs (y_assign RF) ?_
    refine qs (y_assign RF) ?_
    refine sq_nil ?_
    refine sx_then ?_
    refine sc_ret ?_
    refine sx_blk_ret ?_
    refine sx_then_ret ?_
    refine sx_ret2 (.inl rfl) rfl Try.results18 RF RF ?_
    intro w' hw'
    refine ⟨?_, hw'.below MM⟩
    have hs : spB s 0 900 = false := by simpa [spB] using hc0
    unfold sheetsR; rw [if_pos hs]
  ·
    refine sc_seq ?_
    refine sc_region ?_
    refine qs LD3 ?_
    refine qy (yc Try.call51 E3 (fun w1 _ => within51 _ _ _ w1)) ?_
    refine qs (y_not RF) ?_
    refine qs (y_assign RF) ?_
    refine sq_nil ?_
    refine sx_then ?_
    refine scp (fun hc1 => ?_) (fun hc1 => ?_)
    ·
      refine sc_seq ?_
      refine sc_region ?_
      refine qs (y_assign RF) ?_
      refine qs (y_assign RF) ?_
      refine sq_nil ?_
      refine sx_then ?_
      refine sc_ret ?_
      refine sx_blk_ret ?_
      refine sx_then_ret ?_
      refine sx_ret2 (.inl rfl) rfl Try.results18 RF RF ?_
      intro w' hw'
      refine ⟨?_, hw'.below MM⟩
      have hs : spB s 0 900 = true := by simpa [spB] using hc0
      unfold sheetsR inB; rw [if_neg (by simp [hs]), if_pos (by simpa using hc1)]
    ·
      refine sc_skip ?_
      refine sx_blk ?_
      refine sx_then ?_
      refine sc_seq ?_
      have hs : spB s 0 900 = true := by simpa [spB] using hc0
      have hsp : (0 ≤ s.hi) ∧ s.hi ≤ 900 ∧ s.hi ≤ 900 := by have := spB_parts hs; omega
      refine sc_region ?_
      refine qs (y_makeFunc EvL.nil (EvL.cons RF (EvL.cons RF EvL.nil))) ?_
      refine sq_call_new (first := []) (caps := []) (vs := [.int .i64 ((1048576 : Nat) : Int), .func (.func 56) #[] #[.pointer (some ⟨b2, 0, none⟩), .pointer (some ⟨b3, 0, none⟩)]]) (Z := Nat) (fun z => .int .i64 (z : Int)) (fun _ _ z => z ≤ 1048576 ∧ (∀ k, k < z → enoughQ s need k = false) ∧ ∀ k, z ≤ k → k < 1048576 → enoughQ s need k = true) RF Try.call55 (EvL.cons RF (EvL.cons RF EvL.nil)) (fun w1 hw1 => (search55 w1 56 [.pointer (some ⟨b2, 0, none⟩), .pointer (some ⟨b3, 0, none⟩)] 1048576 (enoughQ s need) (by omega) (fun i j hij _ hq => decide_eq_true (Int.le_trans (of_decide_eq_true hq) (good_mono (s := s) hsp.1 hsp.2.1 (by omega)))) Try.call56 (fun i hi w2 hb => enough56 w2 s need hs i (by omega) _ _ (CA.below (CA.blk hw1 MM) hb) (CA.below (CA.blk (vs := [.int .i64 need]) hw1 MM) hb))).mono (fun e w' ⟨⟨z, he, hz⟩, hb⟩ => ⟨z, he, hb, hz⟩)) rfl (fun lo wr z hz => ?_)
      refine qs (y_assign RF) ?_
      refine qs (y_assign RF) ?_
      refine sq_nil ?_
      refine sx_then ?_
      refine sc_ret ?_
      refine sx_ret2 (.inl rfl) rfl Try.results18 RF RF ?_
      have h6 : z ≤ 600000 := by
        rcases Nat.lt_or_ge 600000 z with h | h
        · have h2 := hz.2.1 600000 h
          rw [enough_big hs (by omega) (by omega)] at h2; cases h2
        · exact h
      have hv : sheetsV s need = z := sheetsV_eq (hz.2.2 z (Nat.le_refl _) (by omega)) h6 hz.2.1
      intro w' hw'
      refine ⟨?_, hw'.below MM⟩
      unfold sheetsR inB; rw [if_neg (by simp [hs]), if_neg (by simpa using hc1), hv]
theorem sheets19 (w : World) (s : Sp) (need : Int) : Calls Try.prog 19 #[.agg (spRow s).toArray, .int .i64 need] w fun e w' => e = .returned (.tuple #[.int .i64 (sheetsR s need).1, .int .i64 (sheetsR s need).2]) ∧ Below w.heap.size w w' := by
  refine calls_of_SC (args := [.agg (spRow s).toArray, .int .i64 need]) Try.func19 rfl Try.ntmps19 rfl ?_
  simp only [argL, Nat.zero_add]
  refine sc_seq ?_
  refine sc_region ?_
  refine sq_box RF rfl (fun b2 => ?_)
  refine qs (y_assign RF) ?_
  refine qs (y_assign RF) ?_
  refine sq_nil ?_
  refine sx_then ?_
  refine sc_seq ?_
  refine sc_seq ?_
  refine sc_region ?_
  refine qs LD24 ?_
  refine qy (yc Try.call34 E1 (fun w1 _ => spoil34 w1 s)) ?_
  refine qs (y_not RF) ?_
  refine sq_nil ?_
  refine sx_then ?_
  refine scp (fun hc0 => ?_) (fun hc0 => ?_)
  ·
    refine sc_seq ?_
    refine sc_region ?_
    refine qs (y_assign RF) ?_
    refine qs (y_assign RF) ?_
    refine sq_nil ?_
    refine sx_then ?_
    refine sc_ret ?_
    refine sx_then_ret ?_
    refine sx_ret2 (.inl rfl) rfl Try.results19 RF RF ?_
    intro w' hw'
    refine ⟨?_, hw'.below MM⟩
    have hs : spB s 0 900 = false := by simpa [spB] using hc0
    unfold sheetsR; rw [if_pos hs]
  ·
    refine sc_skip ?_
    refine sx_then ?_
    refine sc_seq ?_
    refine sc_seq ?_
    refine sc_region ?_
    refine qs (y_move RF) ?_
    refine qy (yc Try.call53 E3 (fun w1 _ => in53 _ _ _ w1)) ?_
    refine qs (y_not RF) ?_
    refine sq_nil ?_
    refine sx_then ?_
    refine scp (fun hc1 => ?_) (fun hc1 => ?_)
    ·
      refine sc_seq ?_
      refine sc_region ?_
      refine qs (y_assign RF) ?_
      refine qs (y_assign RF) ?_
      refine sq_nil ?_
      refine sx_then ?_
      refine sc_ret ?_
      refine sx_then_ret ?_
      refine sx_ret2 (.inl rfl) rfl Try.results19 RF RF ?_
      intro w' hw'
      refine ⟨?_, hw'.below MM⟩
      have hs : spB s 0 900 = true := by simpa [spB] using hc0
      unfold sheetsR inB; rw [if_neg (by simp [hs]), if_pos (by simpa using hc1)]
    ·
      refine sc_skip ?_
      refine sx_then ?_
      refine sc_seq ?_
      have hs : spB s 0 900 = true := by simpa [spB] using hc0
      refine sc_region ?_
      refine qs (y_assign RF) ?_
      refine sq_nil ?_
      refine sx_then ?_
      refine sc_seq ?_
      refine sc_block ?_
      refine sc_loop (σ := Nat)
        (fun s_ => [(1, .int .i64 need), (2, .pointer (some ⟨b2, 0, none⟩)), (6, .int .i64 s_)])
        (fun s_ => [.blk b2 (.cells (spRow s).toArray 24 (0, 0)), .reg 0 w])
        (fun s_ => s_ ≤ 600000 ∧ ∀ k, k < s_ → enoughQ s need k = false)
        (fun s_ => 600000 - s_)
        (0) ?_ SU SE ?_
      · exact ⟨Nat.zero_le _, fun k hk => absurd hk (Nat.not_lt_zero k)⟩
      rintro n ⟨hn6, hno⟩
      refine sc_seq ?_
      refine sc_seq ?_
      refine sc_region ?_
      refine qs LD24 ?_
      refine qs (y_move RF) ?_
      refine qy (yc Try.call54 E2 (fun w1 _ => good54 w1 s n hs (by omega))) ?_
      refine qs (y_field Try.underlying24 RF Try.underlying3 rfl RF RF) ?_
      refine qs (y_move RF) ?_
      refine qs (y_lss RF RF) ?_
      refine sq_nil ?_
      refine sx_then ?_
      refine scp (fun hc2 => ?_) (fun hc2 => ?_)
      ·
        have hq : enoughQ s need n = false := decide_eq_false (by have h2 := hc2; omega)
        have h5 : n < 500010 := by
          rcases Nat.lt_or_ge n 500010 with h | h
          · exact h
          · rw [enough_big hs (by omega) h] at hq; cases hq
        refine sc_skip ?_
        refine sx_then ?_
        refine sc_block ?_
        refine sc_region ?_
        refine qs (y_move RF) ?_
        refine qs (y_add RF RF (by omega)) ?_
        refine qs (y_assign RF) ?_
        refine sq_nil ?_
        refine sx_blk ?_
        refine sx_round (n + 1) ?_ ?_ SU SE
        · exact ⟨by omega, fun k hk => by
            rcases Nat.lt_succ_iff_lt_or_eq.1 hk with h | rfl
            · exact hno k h
            · exact hq⟩
        · omega
      ·
        have hq : enoughQ s need n = true := decide_eq_true (by have h2 := hc2; omega)
        have hv : sheetsV s need = n := sheetsV_eq hq hn6 hno
        refine sc_exit ?_
        refine sx_then_exit ?_
        refine sx_round_exit ?_
        refine sx_blk_hit ?_
        refine sx_then ?_
        refine sc_seq ?_
        refine sc_region ?_
        refine qs (y_move RF) ?_
        refine qs (y_assign RF) ?_
        refine qs (y_assign RF) ?_
        refine sq_nil ?_
        refine sx_then ?_
        refine sc_ret ?_
        refine sx_ret2 (.inl rfl) rfl Try.results19 RF RF ?_
        intro w' hw'
        refine ⟨?_, hw'.below MM⟩
        unfold sheetsR inB; rw [if_neg (by simp [hs]), if_neg (by simpa using hc1), hv]
end Go.Proofs.Ytjlbpmcacopbpaa
