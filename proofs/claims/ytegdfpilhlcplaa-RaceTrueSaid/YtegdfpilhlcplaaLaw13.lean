/- Who wins: plain laws. -/
import Derived.Test.YtegdfpilhlcplaaLaw12
namespace Go.Proofs.Ytegdfpilhlcplaa
open Go Go.Eng Go.RowKit
/-- the points when all have worked -/
def winP (r : Rc) (l : List Wd) : List Sp := scoreL r l fun _ => r.lim.toNat
theorem winP_len (r : Rc) (l : List Wd) : (winP r l).length = r.teams.length := scoreL_len ..
theorem winP_get {r : Rc} {l : List Wd} {i : Nat} (hi : i < r.teams.length) : (winP r l).getD i sp0 = ptsP r l i r.lim.toNat := scoreL_getD hi
theorem winL_get {r : Rc} {l : List Wd} {i : Nat} (hi : i < r.teams.length) : (winL r l).getD i sp0 = rkS (winP r l) i := rankL_getD (by rw [scoreL_len]; exact hi)
theorem can_iff {r : Rc} {l : List Wd} {i : Nat} (hi : i < r.teams.length) : ((winL r l).getD i sp0).lo = 1 ↔ ∀ j, j < r.teams.length → j ≠ i → ((winP r l).getD j sp0).lo ≤ ((winP r l).getD i sp0).hi := by
  rw [winL_get hi]
  unfold rkS rkA; dsimp only
  rw [winP_len]
  constructor
  · intro h j hj hne
    have h0 : (List.range r.teams.length).countP (fun j => decide (j ≠ i ∧ ((winP r l).getD j sp0).lo > ((winP r l).getD i sp0).hi)) = 0 := by omega
    have := List.countP_eq_zero.1 h0 j (List.mem_range.2 hj)
    simp only [decide_eq_true_eq] at this
    have h2 := fun e => this ⟨hne, e⟩
    omega
  · intro h
    have h0 : (List.range r.teams.length).countP (fun j => decide (j ≠ i ∧ ((winP r l).getD j sp0).lo > ((winP r l).getD i sp0).hi)) = 0 := by
      rw [List.countP_eq_zero]
      intro j hj
      simp only [decide_eq_true_eq]
      rintro ⟨h1, h2⟩
      have := h j (List.mem_range.1 hj) h1
      omega
    omega
theorem sure_iff {r : Rc} {l : List Wd} {i : Nat} (hi : i < r.teams.length) : ((winL r l).getD i sp0).hi = 1 ↔ ∀ j, j < r.teams.length → j ≠ i → ((winP r l).getD j sp0).hi ≤ ((winP r l).getD i sp0).lo := by
  rw [winL_get hi]
  unfold rkS rkB; dsimp only
  rw [winP_len]
  constructor
  · intro h j hj hne
    have h0 : (List.range r.teams.length).countP (fun j => decide (j ≠ i ∧ ((winP r l).getD j sp0).hi > ((winP r l).getD i sp0).lo)) = 0 := by omega
    have := List.countP_eq_zero.1 h0 j (List.mem_range.2 hj)
    simp only [decide_eq_true_eq] at this
    have h2 := fun e => this ⟨hne, e⟩
    omega
  · intro h
    have h0 : (List.range r.teams.length).countP (fun j => decide (j ≠ i ∧ ((winP r l).getD j sp0).hi > ((winP r l).getD i sp0).lo)) = 0 := by
      rw [List.countP_eq_zero]
      intro j hj
      simp only [decide_eq_true_eq]
      rintro ⟨h1, h2⟩
      have := h j (List.mem_range.1 hj) h1
      omega
    omega
theorem pts_le {r : Rc} {l : List Wd} (hE : openE r l true = 0) {t : Nat} (ht : t < r.teams.length) (k : Nat) : (ptsP r l t k).lo ≤ (ptsP r l t k).hi := by
  obtain ⟨h1, _, h3⟩ := openE_zero hE
  obtain ⟨hok, _, hwd⟩ := chk_zero h1
  unfold ptsP; dsimp only; unfold ptsLo ptsHi
  exact ptsC_mono fun y _ => trueC_all hok hwd (h3 t ht) y
theorem winP_le {r : Rc} {l : List Wd} (hE : openE r l true = 0) {i : Nat} (hi : i < r.teams.length) : ((winP r l).getD i sp0).lo ≤ ((winP r l).getD i sp0).hi := by
  rw [winP_get hi]; exact pts_le hE hi _
theorem exists_max (g : Nat → Int) : ∀ n, 1 ≤ n → ∃ k, k < n ∧ ∀ j, j < n → g j ≤ g k
  | 0, h => by omega
  | 1, _ => ⟨0, by omega, fun j hj => by rw [show j = 0 by omega]; exact Int.le_refl _⟩
  | n + 2, _ => by
    obtain ⟨k, hk, hm⟩ := exists_max g (n + 1) (by omega)
    by_cases h : g (n + 1) ≤ g k
    · exact ⟨k, by omega, fun j hj => by
        rcases Nat.lt_or_ge j (n + 1) with h1 | h1
        · exact hm j h1
        · rw [show j = n + 1 by omega]; exact h⟩
    · exact ⟨n + 1, by omega, fun j hj => by
        rcases Nat.lt_or_ge j (n + 1) with h1 | h1
        · have := hm j h1; omega
        · rw [show j = n + 1 by omega]; exact Int.le_refl _⟩
theorem winC_bit {r : Rc} {l : List Wd} {i : Nat} (hi : i < r.teams.length) : (winC r l).testBit i = decide (((winL r l).getD i sp0).lo = 1) := by
  unfold winC canQ; rw [maskN_bit]; simp [hi]
theorem winS_bit {r : Rc} {l : List Wd} {i : Nat} (hi : i < r.teams.length) : (winS r l).testBit i = decide (((winL r l).getD i sp0).hi = 1) := by
  unfold winS sureQ; rw [maskN_bit]; simp [hi]
theorem some_can {r : Rc} {l : List Wd} (hE : openE r l true = 0) : 1 ≤ winC r l := by
  have hn := rcB_nums (chk_zero (openE_zero hE).1).1
  obtain ⟨k, hk, hm⟩ := exists_max (fun j => ((winP r l).getD j sp0).hi) r.teams.length (by omega)
  have h1 : (winC r l).testBit k = true := by
    rw [winC_bit hk, decide_eq_true_eq, can_iff hk]
    intro j hj _
    have := hm j hj
    have := winP_le hE hj
    omega
  rcases Nat.eq_zero_or_pos (winC r l) with h0 | h0
  · rw [h0, Nat.zero_testBit] at h1; cases h1
  · exact h0
theorem sure_can {r : Rc} {l : List Wd} (hE : openE r l true = 0) : andNotN (winS r l) (winC r l) = 0 := maskN_sub fun i hi hq => by
  unfold sureQ at hq
  unfold canQ
  have hq := (sure_iff hi).1 (of_decide_eq_true hq)
  refine decide_eq_true ((can_iff hi).2 fun j hj hne => ?_)
  have h1 := hq j hj hne
  have h2 := winP_le hE hi
  have h3 := winP_le hE hj
  omega
theorem bit_one (x t : Nat) : decide (((((x : Int) / 2 ^ ((t : Nat) : Int).toNat).toNat &&& ((1 : Int)).toNat : Nat) : Int) = 1) = x.testBit t := by
  have h1 : ((x : Int) / 2 ^ ((t : Nat) : Int).toNat).toNat = x / 2 ^ t := by
    rw [Int.toNat_natCast, show ((2 : Int) ^ t) = ((2 ^ t : Nat) : Int) by simp, ← Int.natCast_ediv, Int.toNat_natCast]
  rw [h1, show ((1 : Int)).toNat = 1 from rfl, Nat.testBit_eq_decide_div_mod_eq, Nat.and_one_is_mod]
  congr 1
  rw [eq_iff_iff]; omega
theorem shr_bd {x : Nat} (h : (x : Int) ≤ 1048576) (t : Nat) : 0 ≤ (x : Int) / 2 ^ ((t : Nat) : Int).toNat ∧ (x : Int) / 2 ^ ((t : Nat) : Int).toNat ≤ 9223372036854775807 := by
  rw [Int.toNat_natCast, show ((2 : Int) ^ t) = ((2 ^ t : Nat) : Int) by simp]
  have h1 : 0 ≤ (x : Int) / ((2 ^ t : Nat) : Int) := Int.ediv_nonneg (by omega) (Int.natCast_nonneg _)
  have h2 : (x : Int) / ((2 ^ t : Nat) : Int) ≤ x := Int.ediv_le_self _ (by omega)
  omega
/-! ### time -/
theorem cntW_mono (bs : List Sp) {m m' : Nat} (h : m ≤ m') : cntW bs m ≤ cntW bs m' := by
  induction h with
  | refl => exact Nat.le_refl _
  | step _ ih => rw [cntW_succ]; omega
theorem wrk_mono (r : Rc) (t : Nat) {m m' : Nat} (h : m ≤ m') : wrk r t m ≤ wrk r t m' := by
  have := cntW_mono (brkOf r t) h
  unfold wrk; omega
theorem ptsC_time {h : Nat → Int} {p pen : Int} (hm : ∀ a b, a ≤ b → h a ≤ h b) {m m' : Nat} (hmm : m ≤ m') : ptsC h p pen m ≤ ptsC h p pen m' := by
  have h1 : (List.range m).countP (fun w => decide (p ≤ h w)) ≤ (List.range m').countP (fun w => decide (p ≤ h w)) := by
    have e : List.range m' = List.range m ++ (List.range (m' - m)).map (m + ·) := by rw [← List.range_add]; congr 1; omega
    rw [e, List.countP_append]; omega
  have h2 := hm m m' hmm
  unfold ptsC; omega
theorem pts_time {r : Rc} {l : List Wd} (hr : 0 ≤ r.rate) (t : Nat) {m m' : Nat} (hmm : m ≤ m') : (ptsP r l t m).lo ≤ (ptsP r l t m').lo ∧ (ptsP r l t m).hi ≤ (ptsP r l t m').hi := by
  unfold ptsP; dsimp only; unfold ptsLo ptsHi
  exact ⟨ptsC_time (fun a b h => lowC_mono hr (by omega)) hmm, ptsC_time (fun a b h => highC_mono hr (by omega)) hmm⟩
def endB (r : Rc) (k : Nat) : Bool := (List.range k).all fun t => decide ((wrk r t 2000 : Int) = r.lim)
theorem endB_succ (r : Rc) (k : Nat) : endB r (k + 1) = (endB r k && decide ((wrk r k 2000 : Int) = r.lim)) := by
  unfold endB; rw [List.range_succ, List.all_append]; simp
theorem endB_pts {r : Rc} (h : endB r r.teams.length = true) {t : Nat} (ht : t < r.teams.length) : wrk r t 2000 = r.lim.toNat := by
  have := of_decide_eq_true (List.all_eq_true.1 h t (List.mem_range.2 ht))
  omega
theorem endB_last {r : Rc} (l : List Wd) (h : endB r r.teams.length = true) : ((List.range r.teams.length).map fun t => ptsP r l t (wrk r t 2000)) = winP r l := by
  unfold winP scoreL
  exact List.map_congr_left fun t ht => by rw [endB_pts h (List.mem_range.1 ht)]
theorem endB_ranks {r : Rc} {l : List Wd} (hE : openE r l true = 0) (h : endB r r.teams.length = true) : ranksL r l 2000 = winL r l := by
  have e : ((2000 : Int)).toNat = 2000 := rfl
  unfold ranksL
  rw [show minB 2000 = true by decide, if_pos hE, e]
  show rankL (scoreL r l fun t => wrk r t 2000) = rankL (winP r l)
  rw [← endB_last l h]
  rfl
end Go.Proofs.Ytegdfpilhlcplaa
