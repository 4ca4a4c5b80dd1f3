/- The document's choice among all orders. -/
import Derived.Test.YtpijahglojichaaDoorLawE
import Derived.Test.YtpijahglojichaaDoorWalk10
namespace Go.Proofs.YtpijahglojichaaDoor
open Go.Eng
def longO (o : List Int) : Int := longN (getN o) o.length o.length
theorem longN_le {g : Nat → Nat} {n : Nat} {c : Int} (hc : 0 ≤ c) : ∀ k, (∀ i, i < k → ((per g n i : Nat) : Int) ≤ c) → longN g n k ≤ c
  | 0, _ => hc
  | k + 1, h => by
    have h1 := longN_le hc k fun i hi => h i (by omega)
    have h2 := h k (by omega)
    unfold longN; omega
theorem long_le {n : Nat} {o : List Int} (ho : ordB o n = true) : longO o ≤ (n : Int) := by
  have hl := ord_len ho
  rw [← hl] at ho
  have hp := ord_pm ho
  unfold longO
  rw [← hl]
  exact longN_le (by omega) _ fun i hi => by have := (hp.perF hi).le; omega
theorem long_id (n : Nat) : longO (rngI n) ≤ 1 := by
  have ho : ordB (rngI n) (rngI n).length = true := by rw [rngI_len]; exact ord_id n
  have hp := ord_pm ho
  unfold longO
  refine longN_le (by decide) _ fun i hi => ?_
  have hF := hp.perF hi
  have hfix : getN (rngI n) i = i := getN_id (by rw [rngI_len] at hi; exact hi)
  have : ¬ 1 < per (getN (rngI n)) (rngI n).length i := fun h => hF.first 1 (Nat.le_refl _) h hfix
  omega
def passB (m : Mt) (long : Int) (o : List Int) : Bool := decide (fairI m o < 0) && decide (longO o ≤ long)
structure Sel (m : Mt) (long : Int) (L : List (List Int)) (i : Nat) (k : Int) : Prop where
  no : k < 0 → k = -1 ∧ ∀ j, j < i → passB m long (L.getD j []) = false
  yes : 0 ≤ k → k.toNat < i ∧ passB m long (L.getD k.toNat []) = true ∧ (∀ j, j < i → passB m long (L.getD j []) = true → worthL m (L.getD j []) ≤ worthL m (L.getD k.toNat [])) ∧ ∀ j, j < k.toNat → passB m long (L.getD j []) = true → worthL m (L.getD j []) < worthL m (L.getD k.toNat [])
def takeB (m : Mt) (long : Int) (L : List (List Int)) (i : Nat) (k : Int) : Bool := passB m long (L.getD i []) && (decide (k < 0) || decide (worthL m (L.getD k.toNat []) < worthL m (L.getD i [])))
theorem Sel.zero (m : Mt) (long : Int) (L : List (List Int)) : Sel m long L 0 (-1) := ⟨fun _ => ⟨rfl, fun j h => absurd h (Nat.not_lt_zero j)⟩, fun h => absurd h (by decide)⟩
theorem Sel.take {m : Mt} {long : Int} {L : List (List Int)} {i : Nat} {k : Int} (h : Sel m long L i k) (ht : takeB m long L i k = true) : Sel m long L (i + 1) (i : Int) := by
  unfold takeB at ht
  rw [Bool.and_eq_true, Bool.or_eq_true, decide_eq_true_eq, decide_eq_true_eq] at ht
  refine ⟨fun hk => absurd hk (by omega), fun _ => ?_⟩
  rw [Int.toNat_natCast]
  have hlt : ∀ j, j < i → passB m long (L.getD j []) = true → worthL m (L.getD j []) < worthL m (L.getD i []) := fun j hj hp => by
    rcases Int.lt_or_le k 0 with hk | hk
    · have := (h.no hk).2 j hj; rw [hp] at this; cases this
    · have h1 := (h.yes hk).2.2.1 j hj hp
      rcases ht.2 with h2 | h2 <;> omega
  refine ⟨by omega, ht.1, fun j hj hp => ?_, hlt⟩
  rcases Nat.lt_or_ge j i with hj2 | hj2
  · exact Int.le_of_lt (hlt j hj2 hp)
  · have : j = i := by omega
    rw [this]; exact Int.le_refl _
theorem Sel.keep {m : Mt} {long : Int} {L : List (List Int)} {i : Nat} {k : Int} (h : Sel m long L i k) (ht : takeB m long L i k = false) : Sel m long L (i + 1) k := by
  unfold takeB at ht
  refine ⟨fun hk => ⟨(h.no hk).1, fun j hj => ?_⟩, fun hk => ?_⟩
  · rcases Nat.lt_or_ge j i with hj2 | hj2
    · exact (h.no hk).2 j hj2
    · have : j = i := by omega
      subst this
      rw [decide_eq_true hk, Bool.true_or, Bool.and_true] at ht; exact ht
  · obtain ⟨h1, h2, h3, h4⟩ := h.yes hk
    refine ⟨by omega, h2, fun j hj hp => ?_, h4⟩
    rcases Nat.lt_or_ge j i with hj2 | hj2
    · exact h3 j hj2 hp
    · have : j = i := by omega
      subst this
      rw [hp, Bool.true_and, Bool.or_eq_false_iff, decide_eq_false_iff_not, decide_eq_false_iff_not] at ht
      omega
/-- the best of those whose rings are short enough -/
structure RefF (m : Mt) (long : Int) (o : List Int) : Prop where
  ord : ordB o m.length = true
  fair : fairI m o < 0
  short : longO o ≤ long
  top : ∀ e, ordB e m.length = true → fairI m e < 0 → longO e ≤ long → Geq ⟨o, worthL m o⟩ ⟨e, worthL m e⟩
theorem Sel.done {m : Mt} {long : Int} (h1 : 1 ≤ long) {k : Int} (h : Sel m long (exO m.length m.length []) (exO m.length m.length []).length k) : 0 ≤ k ∧ k.toNat < (exO m.length m.length []).length ∧ RefF m long ((exO m.length m.length []).getD k.toNat []) := by
  have hs := exO_sorted (n := m.length) m.length [] List.nodup_nil
  have hmem : ∀ o, o ∈ exO m.length m.length [] ↔ ordB o m.length = true := fun o => ord_exO
  generalize exO m.length m.length [] = L at *
  have hidx : ∀ o, ordB o m.length = true → ∃ j, j < L.length ∧ L.getD j [] = o := fun o ho => by
    obtain ⟨j, hj, e⟩ := List.mem_iff_getElem.1 ((hmem o).2 ho)
    exact ⟨j, hj, by rw [getD_of (List.getElem?_eq_getElem hj)]; exact e⟩
  have hk : 0 ≤ k := by
    apply Classical.byContradiction
    intro hk
    obtain ⟨j, hj, e⟩ := hidx _ (ord_id m.length)
    have := (h.no (by omega)).2 j hj
    rw [e] at this
    unfold passB at this
    rw [decide_eq_true (fair_id m), decide_eq_true (Int.le_trans (long_id m.length) h1)] at this
    cases this
  obtain ⟨h2, h3, h4, h5⟩ := h.yes hk
  have h3' := h3
  unfold passB at h3'
  rw [Bool.and_eq_true, decide_eq_true_eq, decide_eq_true_eq] at h3'
  refine ⟨hk, h2, ⟨(hmem _).1 (getD_mem h2), h3'.1, h3'.2, fun e he hf hl => ?_⟩⟩
  obtain ⟨j, hj, rfl⟩ := hidx e he
  have hp : passB m long (L.getD j []) = true := by unfold passB; rw [decide_eq_true hf, decide_eq_true hl]; rfl
  have h6 := h4 j hj hp
  rcases Int.lt_or_eq_of_le h6 with h7 | h7
  · exact .inr ((better_iff _ _).2 (.inl h7))
  · rcases Nat.lt_trichotomy j k.toNat with h8 | h8 | h8
    · have := h5 j h8 hp; omega
    · rw [h8]; exact .inl rfl
    · refine .inr ((better_iff _ _).2 (.inr ⟨h7.symm, ?_⟩))
      have := List.pairwise_iff_getElem.1 hs k.toNat j h2 hj h8
      dsimp only
      rw [getD_of (List.getElem?_eq_getElem h2), getD_of (List.getElem?_eq_getElem hj)]
      exact this
theorem ref_best {m : Mt} (hm : MkF m) {o : List Int} (h : RefF m 7 o) : o = (bestX m).gets ∧ worthL m o = (bestX m).worth := by
  have hB : BestF m ⟨o, worthL m o⟩ := ⟨h.ord, h.fair, rfl, fun e he hf => h.top e he hf (Int.le_trans (long_le he) (by have := hm.n7; omega))⟩
  have := hB.unique (bestX_F hm)
  rw [← this]; exact ⟨rfl, rfl⟩
end Go.Proofs.YtpijahglojichaaDoor
