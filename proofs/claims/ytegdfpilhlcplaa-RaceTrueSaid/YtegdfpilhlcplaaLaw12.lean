/- The order of words, and a word more: plain laws. -/
import Derived.Test.YtegdfpilhlcplaaLaw11
import Derived.Test.YtegdfpilhlcplaaWalk20
namespace Go.Proofs.Ytegdfpilhlcplaa
open Go Go.Eng Go.RowKit
theorem chk_same {r : Rc} {l l' : List Wd} (hm : ∀ d, d ∈ l ↔ d ∈ l') (h1 : l.length ≤ 40) (h2 : l'.length ≤ 40) : chk r l = chk r l' := by
  unfold chk
  rw [if_neg (show ¬ 40 < (l.length : Int) by omega), if_neg (show ¬ 40 < (l'.length : Int) by omega)]
  have : l.any (fun d => !wdB r d) = l'.any (fun d => !wdB r d) := by
    rw [Bool.eq_iff_iff, List.any_eq_true, List.any_eq_true]
    exact ⟨fun ⟨x, h, k⟩ => ⟨x, (hm x).1 h, k⟩, fun ⟨x, h, k⟩ => ⟨x, (hm x).2 h, k⟩⟩
  rw [this]
theorem lowC_same {r : Rc} {t : Nat} {l l' : List Wd} (hm : ∀ d, d ∈ l ↔ d ∈ l') (rate m : Int) : lowC (allW r t l) rate m = lowC (allW r t l') rate m :=
  Int.le_antisymm (lowC_sub (allW_sub fun d => (hm d).1)) (lowC_sub (allW_sub fun d => (hm d).2))
theorem highC_same {r : Rc} {t : Nat} {l l' : List Wd} (hm : ∀ d, d ∈ l ↔ d ∈ l') (p rate m : Int) : highC p (allW r t l) rate m = highC p (allW r t l') rate m :=
  Int.le_antisymm (highC_sub (allW_sub fun d => (hm d).2)) (highC_sub (allW_sub fun d => (hm d).1))
theorem trT_same {r : Rc} {t : Nat} {l l' : List Wd} (hm : ∀ d, d ∈ l ↔ d ∈ l') : trT r l t = trT r l' t := by
  rw [Bool.eq_iff_iff]
  exact ⟨trT_sub fun d => (hm d).2, trT_sub fun d => (hm d).1⟩
theorem openE_same {r : Rc} {l l' : List Wd} (hm : ∀ d, d ∈ l ↔ d ∈ l') (h1 : l.length ≤ 40) (h2 : l'.length ≤ 40) (vb : Bool) : openE r l vb = openE r l' vb := by
  unfold openE
  rw [chk_same hm h1 h2, show trT r l = trT r l' from funext fun t => trT_same hm]
theorem ptsP_same {r : Rc} {t k : Nat} {l l' : List Wd} (hm : ∀ d, d ∈ l ↔ d ∈ l') : ptsP r l t k = ptsP r l' t k := by
  unfold ptsP ptsLo ptsHi
  simp only [lowC_same hm, highC_same hm]
theorem ranksL_same {r : Rc} {l l' : List Wd} (hm : ∀ d, d ∈ l ↔ d ∈ l') (h1 : l.length ≤ 40) (h2 : l'.length ≤ 40) (mz : Int) : ranksL r l mz = ranksL r l' mz := by
  unfold ranksL scoreL
  rw [openE_same hm h1 h2]
  simp only [ptsP_same hm]
theorem winAns_same {r : Rc} {l l' : List Wd} (hm : ∀ d, d ∈ l ↔ d ∈ l') (h1 : l.length ≤ 40) (h2 : l'.length ≤ 40) : winAns r l = winAns r l' := by
  unfold winAns winS winC winL scoreL
  rw [openE_same hm h1 h2]
  simp only [ptsP_same hm]
/-- the words, begun elsewhere; the first of them is there twice -/
def turnA (l : List Wd) (tz : Nat) (k : Nat) : List Wd := (List.range k).map fun i => l.getD ((i + tz) % l.length) wd0
def turnL (l : List Wd) (tz : Nat) : List Wd := turnA l tz l.length ++ (turnA l tz l.length).take 1
theorem turnA_len (l : List Wd) (tz k : Nat) : (turnA l tz k).length = k := by simp [turnA]
theorem turnA_succ (l : List Wd) (tz k : Nat) : turnA l tz (k + 1) = turnA l tz k ++ [l.getD ((k + tz) % l.length) wd0] := by
  unfold turnA; rw [List.range_succ, List.map_append]; rfl
theorem mem_turnA {l : List Wd} {tz : Nat} {d : Wd} : d ∈ turnA l tz l.length ↔ d ∈ l := by
  unfold turnA
  constructor
  · intro h
    obtain ⟨i, hi, rfl⟩ := List.mem_map.1 h
    have hi := List.mem_range.1 hi
    exact List.mem_of_getElem? (get_of_lt wd0 (Nat.mod_lt _ (by omega)))
  · intro h
    obtain ⟨j, hj, rfl⟩ := List.getElem_of_mem h
    have hn : 0 < l.length := by omega
    have ht := Nat.mod_lt tz hn
    refine List.mem_map.2 ⟨(j + (l.length - tz % l.length)) % l.length, List.mem_range.2 (Nat.mod_lt _ hn), ?_⟩
    have e : ((j + (l.length - tz % l.length)) % l.length + tz) % l.length = j := by
      rw [Nat.mod_add_mod, ← Nat.add_mod_mod]
      rw [show j + (l.length - tz % l.length) + tz % l.length = j + l.length by omega, Nat.add_mod_right, Nat.mod_eq_of_lt hj]
    rw [e, List.getD_eq_getElem?_getD, List.getElem?_eq_getElem hj]; rfl
theorem mem_turnL {l : List Wd} {tz : Nat} {d : Wd} : d ∈ turnL l tz ↔ d ∈ l := by
  unfold turnL
  rw [List.mem_append]
  exact ⟨fun h => mem_turnA.1 (h.elim id List.mem_of_mem_take), fun h => .inl (mem_turnA.2 h)⟩
theorem turnL_len (l : List Wd) (tz : Nat) : (turnL l tz).length ≤ l.length + 1 := by
  unfold turnL; simp [turnA_len, List.length_take]; omega
theorem turnL_nil (l : List Wd) (tz : Nat) (h : l.length = 0) : turnL l tz = turnA l tz l.length := by
  unfold turnL; rw [h]; rfl
theorem turnL_pos (l : List Wd) (tz : Nat) (h : 0 < l.length) : turnL l tz = turnA l tz l.length ++ [(turnA l tz l.length).getD 0 wd0] := by
  unfold turnL
  congr 1
  have : 0 < (turnA l tz l.length).length := by rw [turnA_len]; exact h
  generalize turnA l tz l.length = xs at this ⊢
  cases xs with
  | nil => simp at this
  | cons a xs => rfl
/-! ### ranks, with narrower spans -/
theorem rk_narrow {sc sc' : List Sp} (hl : sc.length = sc'.length) (hn : ∀ i, i < sc.length → (sc.getD i sp0).lo ≤ (sc'.getD i sp0).lo ∧ (sc'.getD i sp0).hi ≤ (sc.getD i sp0).hi) {i : Nat} (hi : i < sc.length) :
    rkA sc i sc.length ≤ rkA sc' i sc'.length ∧ rkB sc' i sc'.length ≤ rkB sc i sc.length := by
  have h1 := hn i hi
  unfold rkA rkB
  rw [← hl]
  constructor
  · have : (List.range sc.length).countP (fun j => decide (j ≠ i ∧ (sc.getD j sp0).lo > (sc.getD i sp0).hi)) ≤ (List.range sc.length).countP (fun j => decide (j ≠ i ∧ (sc'.getD j sp0).lo > (sc'.getD i sp0).hi)) := by
      refine List.countP_mono_left fun j hj hp => ?_
      have h2 := hn j (List.mem_range.1 hj)
      rw [decide_eq_true_eq] at hp ⊢
      exact ⟨hp.1, by omega⟩
    omega
  · have : (List.range sc.length).countP (fun j => decide (j ≠ i ∧ (sc'.getD j sp0).hi > (sc'.getD i sp0).lo)) ≤ (List.range sc.length).countP (fun j => decide (j ≠ i ∧ (sc.getD j sp0).hi > (sc.getD i sp0).lo)) := by
      refine List.countP_mono_left fun j hj hp => ?_
      have h2 := hn j (List.mem_range.1 hj)
      rw [decide_eq_true_eq] at hp ⊢
      exact ⟨hp.1, by omega⟩
    omega
theorem ptsP_narrow {r : Rc} {l l' : List Wd} (h : ∀ d, d ∈ l → d ∈ l') (t k : Nat) : (ptsP r l t k).lo ≤ (ptsP r l' t k).lo ∧ (ptsP r l' t k).hi ≤ (ptsP r l t k).hi := by
  have hs := allW_sub (r := r) (t := t) h
  unfold ptsP; dsimp only; unfold ptsLo ptsHi
  exact ⟨ptsC_mono fun y _ => lowC_sub hs, ptsC_mono fun y _ => highC_sub hs⟩
theorem cntP_narrow {r : Rc} {l l' : List Wd} (h : ∀ d, d ∈ l → d ∈ l') (t k : Nat) : (cntP r l t k).lo ≤ (cntP r l' t k).lo ∧ (cntP r l' t k).hi ≤ (cntP r l t k).hi := by
  have hs := allW_sub (r := r) (t := t) h
  exact ⟨lowC_sub hs, highC_sub hs⟩
theorem scoreL_len (r : Rc) (l : List Wd) (m : Nat → Nat) : (scoreL r l m).length = r.teams.length := by simp [scoreL]
theorem scoreL_getD {r : Rc} {l : List Wd} {m : Nat → Nat} {i : Nat} (hi : i < r.teams.length) : (scoreL r l m).getD i sp0 = ptsP r l i (m i) := by
  refine getD_of ?_
  unfold scoreL; rw [List.getElem?_map, List.getElem?_range hi]; rfl
theorem rankL_getD {sc : List Sp} {i : Nat} (hi : i < sc.length) : (rankL sc).getD i sp0 = rkS sc i := by
  refine getD_of ?_
  unfold rankL; rw [List.getElem?_map, List.getElem?_range hi]; rfl
theorem rank_narrow {r : Rc} {l l' : List Wd} {m : Nat → Nat} (h : ∀ d, d ∈ l → d ∈ l') {i : Nat} (hi : i < r.teams.length) :
    ((rankL (scoreL r l m)).getD i sp0).lo ≤ ((rankL (scoreL r l' m)).getD i sp0).lo ∧ ((rankL (scoreL r l' m)).getD i sp0).hi ≤ ((rankL (scoreL r l m)).getD i sp0).hi := by
  rw [rankL_getD (by rw [scoreL_len]; exact hi), rankL_getD (by rw [scoreL_len]; exact hi)]
  unfold rkS
  refine rk_narrow (by rw [scoreL_len, scoreL_len]) (fun j hj => ?_) (by rw [scoreL_len]; exact hi)
  rw [scoreL_len] at hj
  rw [scoreL_getD hj, scoreL_getD hj]
  exact ptsP_narrow h j (m j)
theorem openE_sub {r : Rc} {l l' : List Wd} (h : ∀ d, d ∈ l → d ∈ l') (hl : l.length ≤ 40) {vb : Bool} (h0 : openE r l' vb = 0) : openE r l vb = 0 := by
  obtain ⟨h1, rfl, h3⟩ := openE_zero h0
  obtain ⟨hok, _, hwd⟩ := chk_zero h1
  exact (openE_iff (chk_of hok hl fun d hd => hwd d (h d hd))).2 fun t ht => trT_sub h (h3 t ht)
theorem maskN_bit (q : Nat → Bool) : ∀ n i, (maskN q n).testBit i = (decide (i < n) && q i)
  | 0, i => by simp [maskN]
  | n + 1, i => by
    have hlt := maskN_lt q n
    rw [maskN]
    cases hq : q n with
    | false =>
      rw [if_neg (by simp), Nat.add_zero, maskN_bit q n i]
      by_cases e : i = n
      · subst e; simp [hq]
      · have : (i < n + 1) = (i < n) := by rw [eq_iff_iff]; omega
        simp only [this]
    | true =>
      rw [if_pos rfl]
      rcases Nat.lt_trichotomy i n with h | h | h
      · rw [Nat.add_comm, Nat.testBit_two_pow_add_gt h, maskN_bit q n i]
        simp [h, show i < n + 1 by omega]
      · subst h
        rw [Nat.add_comm, Nat.testBit_two_pow_add_eq, maskN_bit q i i]
        simp [hq]
      · have : maskN q n + 2 ^ n < 2 ^ i := by
          have : 2 ^ (n + 1) ≤ 2 ^ i := Nat.pow_le_pow_right (by omega) h
          rw [Nat.pow_succ] at this; omega
        rw [Nat.testBit_lt_two_pow this]
        simp; omega
theorem andNotN_bit (m j i : Nat) : (andNotN m j).testBit i = (m.testBit i && !j.testBit i) := by
  unfold andNotN; simp
  cases m.testBit i <;> cases j.testBit i <;> rfl
theorem maskN_sub {q q' : Nat → Bool} {n : Nat} (h : ∀ i, i < n → q i = true → q' i = true) : andNotN (maskN q n) (maskN q' n) = 0 := by
  refine Nat.eq_of_testBit_eq fun i => ?_
  rw [andNotN_bit, maskN_bit, maskN_bit, Nat.zero_testBit]
  by_cases hi : i < n
  · have := h i hi
    cases hq : q i
    · simp
    · simp [hi, this hq]
  · simp [hi]
theorem sure_more {r : Rc} {l l' : List Wd} (h : ∀ d, d ∈ l → d ∈ l') : andNotN (winS r l) (winS r l') = 0 := maskN_sub fun i hi hq => by
  unfold sureQ winL at *
  have h1 := rank_narrow (m := fun _ => r.lim.toNat) h hi
  have h2 := rkB_bd (scoreL r l' fun _ => r.lim.toNat) i (scoreL r l' fun _ => r.lim.toNat).length
  have hq := of_decide_eq_true hq
  simp only [rankL_getD (sc := scoreL r l fun _ => r.lim.toNat) (show i < (scoreL r l fun _ => r.lim.toNat).length by rw [scoreL_len]; exact hi), rankL_getD (sc := scoreL r l' fun _ => r.lim.toNat) (show i < (scoreL r l' fun _ => r.lim.toNat).length by rw [scoreL_len]; exact hi), rkS] at h1 hq ⊢
  exact decide_eq_true (by omega)
theorem can_more {r : Rc} {l l' : List Wd} (h : ∀ d, d ∈ l → d ∈ l') : andNotN (winC r l') (winC r l) = 0 := maskN_sub fun i hi hq => by
  unfold canQ winL at *
  have h1 := rank_narrow (m := fun _ => r.lim.toNat) h hi
  have h2 := rkA_bd (scoreL r l fun _ => r.lim.toNat) i (scoreL r l fun _ => r.lim.toNat).length
  have hq := of_decide_eq_true hq
  simp only [rankL_getD (sc := scoreL r l fun _ => r.lim.toNat) (show i < (scoreL r l fun _ => r.lim.toNat).length by rw [scoreL_len]; exact hi), rankL_getD (sc := scoreL r l' fun _ => r.lim.toNat) (show i < (scoreL r l' fun _ => r.lim.toNat).length by rw [scoreL_len]; exact hi), rkS] at h1 hq ⊢
  exact decide_eq_true (by omega)
end Go.Proofs.Ytegdfpilhlcplaa
