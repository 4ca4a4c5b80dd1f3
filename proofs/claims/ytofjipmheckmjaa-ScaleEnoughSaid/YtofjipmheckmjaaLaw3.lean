/- The cheapest sets of tests: plain. -/
import Derived.Test.YtofjipmheckmjaaLaw2
import Derived.Test.YtofjipmheckmjaaWalk21
namespace Go.Proofs.Ytofjipmheckmjaa
open Go Go.Eng Go.RowKit Go.Proofs
/-- the tests of a set, of the first -/
def someL (ts : List Te) (s : Nat) : Nat → List Te
  | 0 => []
  | k + 1 => if inS s k = true then someL ts s k ++ [ts.getD k te0] else someL ts s k
theorem someL_succ (ts : List Te) (s k : Nat) : someL ts s (k + 1) = if inS s k = true then someL ts s k ++ [ts.getD k te0] else someL ts s k := rfl
theorem someL_len (ts : List Te) (s : Nat) : ∀ k, (someL ts s k).length ≤ k
  | 0 => Nat.le_refl _
  | k + 1 => by
    have := someL_len ts s k
    rw [someL_succ]
    split
    · simp; omega
    · omega
theorem someL_mem {ts : List Te} {s : Nat} : ∀ {k : Nat} {t : Te}, k ≤ ts.length → t ∈ someL ts s k → t ∈ ts
  | 0, _, _, h => by cases h
  | k + 1, t, hk, h => by
    rw [someL_succ] at h
    split at h
    · rcases List.mem_append.1 h with h | h
      · exact someL_mem (by omega) h
      · simp at h; subst h; exact List.mem_of_getElem? (by rw [get_of_lt te0 (show k < ts.length by omega)]; simp)
    · exact someL_mem (by omega) h
theorem someL_all (ts : List Te) (s : Nat) (p : Te → Bool) : ∀ k, (someL ts s k).all p = (List.range k).all fun t => !inS s t || p (ts.getD t te0)
  | 0 => rfl
  | k + 1 => by
    rw [someL_succ, List.range_succ, List.all_append, ← someL_all ts s p k]
    cases h : inS s k
    · rw [if_neg (by decide)]; simp [h]
    · rw [if_pos rfl]; simp [h]
theorem okAll_all (b : Bx) (ts : List Te) (h : List Int) : okAll b ts h = ts.all fun t => passV b t h := by
  unfold okAll
  rw [Bool.eq_iff_iff, List.all_eq_true, List.all_eq_true]
  constructor
  · intro h1 t ht
    obtain ⟨i, hi⟩ := List.getElem?_of_mem ht
    have := h1 i (List.mem_range.2 (List.getElem?_eq_some_iff.1 hi).1)
    rwa [getD_of hi] at this
  · intro h1 i hi
    exact h1 _ (List.mem_of_getElem? (get_of_lt te0 (List.mem_range.1 hi)))
theorem okAll_some (b : Bx) (ts : List Te) (s : Nat) (h : List Int) : okAll b (someL ts s ts.length) h = okSet b ts s h := by
  rw [okAll_all, someL_all]; rfl
theorem slipP_some (b : Bx) (ts : List Te) (s : Nat) : slipP b (someL ts s ts.length) = slipF b ts s := by
  unfold slipP
  rw [slipF_inc]
  congr 1
  funext h
  exact okAll_some b ts s h
theorem chk_some {b : Bx} {ts : List Te} (h : chk b [] ts = 0) (s : Nat) : chk b [] (someL ts s ts.length) = 0 := by
  obtain ⟨h1, _, h3, _, h5⟩ := chk_zero h
  have := someL_len ts s ts.length
  unfold chk
  rw [if_neg (by simp [h1]), if_neg (by simp; omega), if_neg]
  simp only [Bool.or_eq_true, List.any_eq_true, not_or, not_exists, not_and]
  exact ⟨fun t h => (by cases h), fun t ht => by rw [h5 t (someL_mem (Nat.le_refl _) ht)]; decide⟩
theorem slipR_some {b : Bx} {ts : List Te} (h : chk b [] ts = 0) (s : Nat) : (slipR b (someL ts s ts.length)).2 = if goodS b ts s = true then 4 else 0 := by
  unfold slipR goodS
  rw [if_neg (by rw [chk_some h]; simp), slipP_some]
  cases slipF b ts s <;> rfl
/-- the best of the first sets is good, and none is better -/
theorem best_min (b : Bx) (ts : List Te) : ∀ K, (gL b ts K).length = 0 ∧ (∀ j, j < K → goodS b ts j = false) ∨ ∃ k, k < K ∧ goodS b ts k = true ∧ bestC (gL b ts K) = ⟨k, costK ts k ts.length⟩ ∧ (gL b ts K).length ≠ 0 ∧
    ∀ j, j < K → goodS b ts j = true → costK ts k ts.length < costK ts j ts.length ∨ costK ts k ts.length = costK ts j ts.length ∧ k ≤ j
  | 0 => .inl ⟨rfl, fun j h => absurd h (Nat.not_lt_zero j)⟩
  | K + 1 => by
    have ih := best_min b ts K
    by_cases hg : goodS b ts K = true
    · right
      have h1 : gL b ts (K + 1) = gL b ts K ++ [⟨K, costK ts K ts.length⟩] := by rw [gL_succ, if_pos hg]
      have hne : (gL b ts (K + 1)).length ≠ 0 := by rw [h1]; simp
      rcases ih with ⟨h0, hno⟩ | ⟨k, hk, hgk, hb, hl, hmin⟩
      · refine ⟨K, by omega, hg, by rw [h1, bestC_snoc, if_pos h0], hne, fun j hj hgj => ?_⟩
        rcases Nat.lt_succ_iff_lt_or_eq.1 hj with h2 | rfl
        · rw [hno j h2] at hgj; cases hgj
        · exact .inr ⟨rfl, Nat.le_refl _⟩
      · by_cases hc : costK ts K ts.length < costK ts k ts.length
        · refine ⟨K, by omega, hg, by rw [h1, bestC_snoc, if_neg hl, hb, if_pos hc], hne, fun j hj hgj => ?_⟩
          rcases Nat.lt_succ_iff_lt_or_eq.1 hj with h2 | rfl
          · have := hmin j h2 hgj; omega
          · exact .inr ⟨rfl, Nat.le_refl _⟩
        · refine ⟨k, by omega, hgk, by rw [h1, bestC_snoc, if_neg hl, hb, if_neg hc], hne, fun j hj hgj => ?_⟩
          rcases Nat.lt_succ_iff_lt_or_eq.1 hj with h2 | rfl
          · exact hmin j h2 hgj
          · omega
    · have h1 : gL b ts (K + 1) = gL b ts K := by rw [gL_succ, if_neg hg]
      rw [h1]
      have hg' : goodS b ts K = false := by simpa using hg
      rcases ih with ⟨h0, hno⟩ | ⟨k, hk, hgk, hb, hl, hmin⟩
      · refine .inl ⟨h0, fun j hj => ?_⟩
        rcases Nat.lt_succ_iff_lt_or_eq.1 hj with h2 | rfl
        · exact hno j h2
        · exact hg'
      · refine .inr ⟨k, by omega, hgk, hb, hl, fun j hj hgj => ?_⟩
        rcases Nat.lt_succ_iff_lt_or_eq.1 hj with h2 | rfl
        · exact hmin j h2 hgj
        · rw [hg'] at hgj; cases hgj
theorem good_full (b : Bx) (ts : List Te) : goodS b ts (pw2 ts.length - 1) = (slipP b ts).isNone := by
  have := pw2_pos ts.length
  unfold goodS
  rw [show ((pw2 ts.length - 1 : Nat) : Int) = ((pw2 ts.length : Nat) : Int) - 1 by omega, slipF_full]
theorem slipR_full {b : Bx} {ts : List Te} (h : chk b [] ts = 0) : (slipR b ts).2 = if goodS b ts (pw2 ts.length - 1) = true then 4 else 0 := by
  rw [good_full]
  unfold slipR
  rw [if_neg (by rw [h]; simp)]
  cases slipP b ts <;> rfl
theorem okSet_of_all {b : Bx} {ts : List Te} {s : Int} {h : List Int} (ha : okAll b ts h = true) : okSet b ts s h = true := by
  unfold okAll at ha
  unfold okSet
  rw [List.all_eq_true] at ha ⊢
  intro t ht
  rw [ha t ht]; simp
/-- a set that is good makes all tests good -/
theorem good_up {b : Bx} {ts : List Te} {k : Nat} (h : goodS b ts k = true) : goodS b ts (pw2 ts.length - 1) = true := by
  rw [good_full]
  unfold goodS at h
  rw [slipF_inc] at h
  unfold slipP
  cases hp : (incL b).find? (okAll b ts) with
  | none => rfl
  | some K =>
    exfalso
    have h1 := List.find?_eq_none.1 (Option.isNone_iff_eq_none.1 h) K (List.mem_of_find?_eq_some hp)
    exact h1 (okSet_of_all (List.find?_some hp))
theorem chk_vals (b : Bx) (ls : List Rd) (ts : List Te) : chk b ls ts = 0 ∨ chk b ls ts = 1 ∨ chk b ls ts = 3 := by
  unfold chk
  split
  · exact .inr (.inl rfl)
  · split
    · exact .inr (.inr rfl)
    · split
      · exact .inr (.inl rfl)
      · exact .inl rfl
theorem slipR_err {b : Bx} {ts : List Te} (h : chk b [] ts ≠ 0) : (slipR b ts).2 = chk b [] ts := by unfold slipR; rw [if_pos h]
/-- what Enough returns -/
theorem enough_cases (b : Bx) (ts : List Te) {z1 z2 z3 : Int} (h : enoughR b ts = (z1, z2, z3)) :
    (z3 ≠ 0 ∧ z1 = 0 ∧ z2 = 0 ∧ (z3 = 4 ∧ (slipR b ts).2 = 0 ∨ z3 ≠ 4 ∧ (slipR b ts).2 = z3)) ∨
    (z3 = 0 ∧ chk b [] ts = 0 ∧ (slipR b ts).2 = 4 ∧ ∃ k : Nat, z1 = k ∧ z2 = costK ts k ts.length ∧ k < pw2 ts.length ∧ goodS b ts k = true ∧ ∀ j, j < pw2 ts.length → goodS b ts j = true → costK ts k ts.length < costK ts j ts.length ∨ costK ts k ts.length = costK ts j ts.length ∧ k ≤ j) := by
  have hp := pw2_pos ts.length
  unfold enoughR at h
  by_cases hc : chk b [] ts = 0
  · rw [if_neg (by simpa using hc)] at h
    rcases best_min b ts (pw2 ts.length) with ⟨h0, hno⟩ | ⟨k, hk, hg, hb, hl, hmin⟩
    · rw [if_pos h0] at h
      injection h with e1 h; injection h with e2 e3
      left
      refine ⟨by omega, by omega, by omega, .inl ⟨by omega, ?_⟩⟩
      rw [slipR_full hc, if_neg (by rw [hno _ (by omega)]; decide)]
    · rw [if_neg hl, hb] at h
      injection h with e1 h; injection h with e2 e3
      right
      refine ⟨by omega, hc, ?_, k, e1.symm, e2.symm, hk, hg, hmin⟩
      rw [slipR_full hc, if_pos (good_up hg)]
  · rw [if_pos hc] at h
    injection h with e1 h; injection h with e2 e3
    left
    have hv := chk_vals b [] ts
    refine ⟨by omega, by omega, by omega, .inr ⟨by omega, ?_⟩⟩
    rw [slipR_err hc]; exact e3
theorem inS_less (k i j : Nat) : inS (andNotN k (pw2 i) : Nat) j = (inS k j && !decide (i = j)) := by
  rw [inS_bit, inS_bit]
  unfold andNotN pw2
  rw [Nat.testBit_and, Nat.testBit_xor, Nat.testBit_two_pow]
  cases k.testBit j <;> by_cases h : i = j <;> simp [h]
theorem less_lt {k i : Nat} (h : inS k i = true) : andNotN k (pw2 i) < k := by
  have h1 : andNotN k (pw2 i) ≤ k := Nat.and_le_left
  rcases Nat.lt_or_eq_of_le h1 with h2 | h2
  · exact h2
  · have h3 := inS_less k i i
    rw [h2, h] at h3; simp at h3
theorem cost_less {b : Bx} {ts : List Te} (h : ∀ t, t ∈ ts → teB b t = true) (k i : Nat) : ∀ n, n ≤ ts.length → costK ts (andNotN k (pw2 i)) n ≤ costK ts k n
  | 0, _ => Int.le_refl _
  | n + 1, hn => by
    have ih := cost_less h k i n (by omega)
    have ht := (teB_parts (h _ (List.mem_of_getElem? (get_of_lt te0 (show n < ts.length by omega))))).2.2.2
    show costK ts (andNotN k (pw2 i)) n + (if _ then _ else _) ≤ costK ts k n + (if _ then _ else _)
    rw [inS_less]
    cases inS k n
    · rw [if_neg (by simp), if_neg (by decide)]; omega
    · by_cases hi : i = n
      · rw [if_neg (by simp [hi]), if_pos rfl]; omega
      · rw [if_pos (by simp [hi]), if_pos rfl]; omega
end Go.Proofs.Ytofjipmheckmjaa
