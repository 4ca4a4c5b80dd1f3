/- The three ways of a clash. -/
import Derived.Test.YtegdfpilhlcplaaWalk22
namespace Go.Proofs.Ytegdfpilhlcplaa
open Go Go.Eng Go.RowKit
theorem fits_iff {r : Rc} {l : List Wd} (h : chk r l = 0) : fitsB r l = true ↔ ∀ t, t < r.teams.length → trT r l t = true := by
  unfold fitsB
  rw [decide_eq_true_eq]
  exact openE_iff h
theorem fits_sub {r : Rc} {l l' : List Wd} (h : chk r l = 0) (h' : chk r l' = 0) (hs : ∀ d, d ∈ l → d ∈ l') (hf : fitsB r l = false) : fitsB r l' = false := by
  cases h1 : fitsB r l' with
  | false => rfl
  | true =>
    have := (fits_iff h).2 fun t ht => trT_sub hs ((fits_iff h').1 h1 t ht)
    rw [hf] at this; cases this
theorem clashP_take {r : Rc} {l : List Wd} {i k : Nat} (h : k ≤ i) : clashP r (l.take (i + 1)) k = clashP r l k := by
  unfold clashP
  rw [List.take_take, show min (k + 1) (i + 1) = k + 1 by omega]
  congr 3
  rw [List.getD_eq_getElem?_getD, List.getD_eq_getElem?_getD, List.getElem?_take_of_lt (by omega)]
theorem clash_cases (r : Rc) (ls : List Wd) :
    (chk r ls ≠ 0 ∧ chk r ls ≠ 4 ∧ clashN r ls = (0, chk r ls) ∧ openE r ls (minB 0) = chk r ls) ∨
    (clashN r ls = (0, 4) ∧ fitsB r ls = true) ∨
    (∃ i : Nat, i < ls.length ∧ clashN r ls = ((i : Int), 0) ∧ fitsB r (ls.take i) = true ∧ fitsB r (ls.take (i + 1)) = false ∧ fitsB r ls = false ∧ clashN r (ls.take (i + 1)) = ((i : Int), 0)) := by
  by_cases h : chk r ls = 0
  · right
    unfold clashN
    rw [if_neg (fun h2 => h2 h)]
    cases hc : clashI r ls with
    | none =>
      left
      have hno : ∀ j, j < ls.length → clashP r ls j = false := fun j hj => by
        unfold clashI at hc
        rw [List.find?_range_eq_none] at hc
        simpa using hc j hj
      refine ⟨rfl, (fits_iff h).2 ?_⟩
      have := all_prefix h ls.length (Nat.le_refl _) hno
      rwa [List.take_length] at this
    | some i =>
      right
      unfold clashI at hc
      rw [List.find?_range_eq_some] at hc
      obtain ⟨hp, hi, hno⟩ := hc
      have hi := List.mem_range.1 hi
      have hno : ∀ j, j < i → clashP r ls j = false := fun j hj => by simpa using hno j hj
      have hpre := all_prefix h i (by omega) hno
      obtain ⟨d, hd⟩ : ∃ d, ls[i]? = some d := ⟨_, List.getElem?_eq_getElem hi⟩
      have hdp := (wdB_parts ((chk_zero h).2.2 d (List.mem_of_getElem? hd))).1
      have hs := can_step hd (by omega) hpre
      have hf1 : fitsB r (ls.take (i + 1)) = false := by
        cases hf : fitsB r (ls.take (i + 1)) with
        | false => rfl
        | true =>
          have h1 := (fits_iff (chk_take h (i + 1))).1 hf d.team.toNat (by omega)
          unfold clashP at hp
          rw [getD_of hd, h1] at hp; cases hp
      refine ⟨i, hi, rfl, (fits_iff (chk_take h i)).2 hpre, hf1, fits_sub (chk_take h (i + 1)) h (fun d hd => List.mem_of_mem_take hd) hf1, ?_⟩
      rw [if_neg (fun h2 => h2 (chk_take h (i + 1)))]
      have hlen : (ls.take (i + 1)).length = i + 1 := by rw [List.length_take]; omega
      unfold clashI
      rw [hlen, find_range (k := i) (by omega) (by rw [clashP_take (Nat.le_refl _)]; exact hp) (fun j hj => by rw [clashP_take (by omega)]; exact hno j hj)]
  · left
    refine ⟨h, ?_, by unfold clashN; rw [if_pos h], by unfold openE; rw [if_pos h]⟩
    unfold chk
    split
    · decide
    · split
      · decide
      · split <;> decide
end Go.Proofs.Ytegdfpilhlcplaa
