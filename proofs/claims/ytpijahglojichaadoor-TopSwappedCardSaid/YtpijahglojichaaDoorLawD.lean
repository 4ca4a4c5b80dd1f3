/- The rings of an exchange, once more: what may be looked at from outside. -/
import Derived.Test.YtpijahglojichaaDoorLawR
namespace Go.Proofs.YtpijahglojichaaDoor
section
variable {g : Nat → Nat} {n : Nat}
theorem cyc_get {i t : Nat} (ht : t < per g n i) : (cycI g n i).getD t 0 = ((it g t i : Nat) : Int) := by
  unfold cycI
  rw [List.getD_eq_getElem?_getD, List.getElem?_map, List.getElem?_range ht]; rfl
structure RingsF (g : Nat → Nat) (n i : Nat) (R : List (List Int)) : Prop where
  of : ∀ r, r ∈ R → ∃ l, l < i ∧ leastC g n l = (l : Int) ∧ 1 < per g n l ∧ r = cycI g n l
  inc : R.Pairwise fun a b => a.getD 0 0 < b.getD 0 0
  all : ∀ l, l < i → leastC g n l = (l : Int) → 1 < per g n l → cycI g n l ∈ R
theorem Pm.ringsF (h : Pm g n) : ∀ i, i ≤ n → RingsF g n i (ringsN g n i)
  | 0, _ => ⟨fun _ h => (by cases h), List.Pairwise.nil, fun _ h => (by omega)⟩
  | i + 1, hi => by
    have ih := h.ringsF i (by omega)
    unfold ringsN
    by_cases hr : 1 < (ringAt g n i).length
    · have hl : leastC g n i = (i : Int) := by
        apply Classical.byContradiction
        intro e
        unfold ringAt at hr
        rw [if_neg e] at hr
        simp at hr
      have ha : ringAt g n i = cycI g n i := by unfold ringAt; rw [if_pos hl]
      rw [if_pos hr]
      rw [ha] at hr ⊢
      rw [cyc_len] at hr
      refine ⟨fun r hm => ?_, ?_, fun l h1 h2 h3 => ?_⟩
      · rcases List.mem_append.1 hm with h1 | h1
        · obtain ⟨l, h2, h3⟩ := ih.of r h1
          exact ⟨l, by omega, h3⟩
        · obtain rfl := List.mem_singleton.1 h1
          exact ⟨i, by omega, hl, hr, rfl⟩
      · rw [List.pairwise_append]
        refine ⟨ih.inc, List.pairwise_singleton .., fun a ha' b hb => ?_⟩
        obtain rfl := List.mem_singleton.1 hb
        obtain ⟨l, h2, _, h4, rfl⟩ := ih.of a ha'
        rw [cyc_get (by omega), cyc_get (by omega)]
        show ((l : Nat) : Int) < (i : Int)
        omega
      · rcases Nat.lt_or_ge l i with h4 | h4
        · exact List.mem_append_left _ (ih.all l h4 h2 h3)
        · have : l = i := by omega
          subst this
          exact List.mem_append_right _ (List.mem_singleton.2 rfl)
    · rw [if_neg hr]
      refine ⟨fun r hm => ?_, ih.inc, fun l h1 h2 h3 => ?_⟩
      · obtain ⟨l, h2, h3⟩ := ih.of r hm
        exact ⟨l, by omega, h3⟩
      · rcases Nat.lt_or_ge l i with h4 | h4
        · exact ih.all l h4 h2 h3
        · have : l = i := by omega
          subst this
          refine absurd ?_ hr
          unfold ringAt
          rw [if_pos h2, cyc_len]; exact h3
theorem Same.least (h : Pm g n) {l x : Nat} (hl : l < n) (hle : leastC g n l = (l : Int)) (e : Same g l x) : leastC g n x = (l : Int) := by rw [h.least_same hl e, hle]
end
/-- what has been met, when ring j has been followed so far -/
def seenV (R : List (List Int)) (j t : Nat) (x : Nat) : Bool := (R.take j).any (fun r => r.contains (x : Int)) || ((R.getD j []).take t).contains (x : Int)
theorem seenV_ring (R : List (List Int)) {j : Nat} (hj : j < R.length) (x : Nat) : seenV R j (R.getD j []).length x = seenV R (j + 1) 0 x := by
  unfold seenV
  rw [List.take_length, List.take_zero, List.take_add_one, get_of_lt [] hj, List.any_append]
  simp
theorem seenV_step (R : List (List Int)) {j t k : Nat} (ht : t < (R.getD j []).length) (hk : (R.getD j []).getD t 0 = (k : Int)) : (fun x => seenV R j t x || (k == x)) = seenV R j (t + 1) := by
  funext x
  unfold seenV
  rw [List.take_add_one, get_of_lt 0 ht, hk]
  by_cases h : k = x
  · subst h; simp
  · have : ¬ ((x : Int) = (k : Int)) := by omega
    simp [h, this]
/-- what a round of a ring bears -/
structure RoundF (o : List Int) (R : List (List Int)) (j t k : Nat) : Prop where
  at' : (R.getD j []).getD t 0 = (k : Int)
  ge : (R.getD j []).getD 0 0 ≤ (k : Int)
  lt : k < o.length
  new : seenV R j t k = false
  next : o.getD k 0 = (R.getD j []).getD ((t + 1) % (R.getD j []).length) 0
theorem round_len {o : List Int} (ho : ordB o o.length = true) {j : Nat} (hj : j < (ringsN (getN o) o.length o.length).length) : 2 ≤ ((ringsN (getN o) o.length o.length).getD j []).length ∧ ((ringsN (getN o) o.length o.length).getD j []).length ≤ o.length := by
  have h := ord_pm ho
  obtain ⟨l, h1, _, h3, h4⟩ := (h.ringsF o.length (Nat.le_refl _)).of _ (getD_mem (d := []) hj)
  rw [h4, cyc_len]
  exact ⟨by omega, (h.perF h1).le⟩
theorem round_inc {o : List Int} (ho : ordB o o.length = true) {j : Nat} (hj : j + 1 < (ringsN (getN o) o.length o.length).length) : ((ringsN (getN o) o.length o.length).getD j []).getD 0 0 < ((ringsN (getN o) o.length o.length).getD (j + 1) []).getD 0 0 := by
  have h := ((ord_pm ho).ringsF o.length (Nat.le_refl _)).inc
  rw [getD_of (List.getElem?_eq_getElem (show j < (ringsN (getN o) o.length o.length).length by omega)), getD_of (List.getElem?_eq_getElem hj)]
  exact List.pairwise_iff_getElem.1 h j (j + 1) (by omega) hj (by omega)
theorem round_first {o : List Int} (ho : ordB o o.length = true) {j : Nat} (hj : j < (ringsN (getN o) o.length o.length).length) : 0 ≤ ((ringsN (getN o) o.length o.length).getD j []).getD 0 0 := by
  have h := ord_pm ho
  obtain ⟨l, h1, _, h3, h4⟩ := (h.ringsF o.length (Nat.le_refl _)).of _ (getD_mem (d := []) hj)
  rw [h4, cyc_get (by omega)]
  omega
theorem round_ok {o : List Int} (ho : ordB o o.length = true) {j t : Nat} (hj : j < (ringsN (getN o) o.length o.length).length) (ht : t < ((ringsN (getN o) o.length o.length).getD j []).length) : ∃ k, RoundF o (ringsN (getN o) o.length o.length) j t k := by
  have h := ord_pm ho
  have hF := h.ringsF o.length (Nat.le_refl _)
  generalize hR : ringsN (getN o) o.length o.length = R at *
  obtain ⟨l, h1, h2, h3, h4⟩ := hF.of _ (getD_mem (d := []) hj)
  rw [h4, cyc_len] at ht
  have hp := h.perF h1
  refine ⟨it (getN o) t l, by rw [h4, cyc_get ht], ?_, h.it_lt t h1, ?_, ?_⟩
  · rw [h4, cyc_get (by omega)]
    have := h.least_le h1 (x := it (getN o) t l) ⟨t, rfl⟩
    rw [h2] at this; exact this
  · unfold seenV
    rw [Bool.or_eq_false_iff]
    constructor
    · rw [Bool.eq_false_iff]
      intro e
      obtain ⟨r, hr, hx⟩ := List.any_eq_true.1 e
      obtain ⟨i, hi, hri⟩ := List.mem_iff_getElem.1 hr
      rw [List.length_take] at hi
      rw [List.getElem_take] at hri
      have hrm : r ∈ R := by rw [← hri]; exact List.getElem_mem ..
      obtain ⟨l', g1, g2, g3, g4⟩ := hF.of r hrm
      rw [g4] at hx
      have hs := (mem_cyc h g1 (it (getN o) t l)).1 (by simpa using hx)
      have e1 := Same.least h g1 g2 hs
      have e2 := Same.least h h1 h2 (x := it (getN o) t l) ⟨t, rfl⟩
      have hll : l = l' := by omega
      have hlt := List.pairwise_iff_getElem.1 hF.inc i j (by omega) hj (by omega)
      have hrj : R[j] = cycI (getN o) o.length l := by
        rw [← h4, List.getD_eq_getElem?_getD, List.getElem?_eq_getElem hj]; rfl
      rw [hri, g4, hrj, hll] at hlt
      omega
    · rw [Bool.eq_false_iff]
      intro e
      rw [h4] at e
      have e : ((it (getN o) t l : Nat) : Int) ∈ (cycI (getN o) o.length l).take t := by simpa using e
      obtain ⟨s, hs, hx⟩ := List.mem_iff_getElem.1 e
      rw [List.length_take, cyc_len] at hs
      rw [List.getElem_take] at hx
      have hx2 : (cycI (getN o) o.length l).getD s 0 = ((it (getN o) t l : Nat) : Int) := by
        rw [List.getD_eq_getElem?_getD, List.getElem?_eq_getElem (by rw [cyc_len]; omega)]; exact hx
      rw [cyc_get (by omega)] at hx2
      have hx3 : it (getN o) s l = it (getN o) t l := by omega
      have hts : t = s + (t - s) := by omega
      rw [hts, it_add] at hx3
      exact hp.first (t - s) (by omega) (by omega) (h.it_inj s h1 (h.it_lt _ h1) hx3).symm
  · rw [(ord_get ho (h.it_lt t h1)).1, h4, cyc_len, cyc_get (Nat.mod_lt _ (by omega)), ← it_mod h h1 (t + 1)]
    rfl
theorem round_all {o : List Int} (ho : ordB o o.length = true) {i : Nat} (hi : i < o.length) : seenV (ringsN (getN o) o.length o.length) (ringsN (getN o) o.length o.length).length 0 i = !decide ((i : Int) = o.getD i 0) := by
  have h := ord_pm ho
  have hF := h.ringsF o.length (Nat.le_refl _)
  generalize hR : ringsN (getN o) o.length o.length = R at *
  unfold seenV
  rw [List.take_length, getD_big (Nat.le_refl _), List.take_nil, (ord_get ho hi).1]
  show (R.any _ || false) = _
  rw [Bool.or_false]
  by_cases e : (i : Int) = ((getN o i : Nat) : Int)
  · rw [decide_eq_true e, Bool.not_true, Bool.eq_false_iff]
    intro hx
    obtain ⟨r, hr, hx⟩ := List.any_eq_true.1 hx
    obtain ⟨l, g1, g2, g3, g4⟩ := hF.of r hr
    rw [g4] at hx
    have hs := (mem_cyc h g1 i).1 (by simpa using hx)
    have hfix : ∀ t, it (getN o) t i = i := fun t => by
      induction t with
      | zero => rfl
      | succ t ih => show getN o (it (getN o) t i) = i; rw [ih]; omega
    obtain ⟨t, ht⟩ := Same.symm h g1 hs
    rw [hfix t] at ht
    subst ht
    exact (h.perF g1).first 1 (Nat.le_refl _) g3 (hfix 1)
  · rw [decide_eq_false e, Bool.not_false]
    obtain ⟨l, h1, h2⟩ := h.least_mem hi
    have hl : l < o.length := h2.lt h hi
    have hs := h2.symm h hi
    have hle : leastC (getN o) o.length l = (l : Int) := by rw [h.least_same hi h2, h1]
    have hp := h.perF hl
    have h1p : 1 < per (getN o) o.length l := by
      apply Classical.byContradiction
      intro hn
      have hp1 : per (getN o) o.length l = 1 := by have := hp.pos; omega
      have hb := hp.back
      rw [hp1] at hb
      have hfix : ∀ t, it (getN o) t l = l := fun t => by
        induction t with
        | zero => rfl
        | succ t ih => show getN o (it (getN o) t l) = l; rw [ih]; exact hb
      obtain ⟨t, ht⟩ := hs
      rw [hfix t] at ht
      subst ht
      apply e
      have : getN o l = l := hb
      omega
    exact List.any_eq_true.2 ⟨_, hF.all l hl hle h1p, by simpa using (mem_cyc h hl i).2 hs⟩
end Go.Proofs.YtpijahglojichaaDoor
