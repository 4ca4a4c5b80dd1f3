/- How long a blade lasts: plain laws. -/
import Derived.Test.YtcgbdecgdddnkaaWalk4
namespace Go.Proofs.Ytcgbdecgdddnkaa
def bP (sl lo da : Int) : Pl := ⟨2000, sl, lo, ⟨0, da⟩⟩
def bA (w : Int) (o : Sp) : Ed := ⟨1, ⟨1000, 1000⟩, ⟨w - o.hi, w - o.lo⟩, ⟨400, 400⟩⟩
def bB (w g : Int) (o : Sp) : Ed := ⟨2, ⟨1000, 1000⟩, ⟨w + g + o.lo, w + g + o.hi⟩, ⟨400, 400⟩⟩
theorem b_ok {sl lo da w g : Int} {o : Sp} (hs : 0 ≤ sl ∧ sl ≤ 500) (hl : 0 ≤ lo ∧ lo ≤ 500) (hd : 0 ≤ da ∧ da ≤ 100) (ho : 0 ≤ o.lo ∧ o.lo ≤ o.hi) (hw : 1 ≤ w - o.hi) (hg : 0 ≤ g) (hh : w + g + o.hi ≤ 3000) : Ok (bP sl lo da) (bA w o) (bB w g o) := by
  refine ⟨?_, ?_, ?_⟩
  · simp only [plB, inB, spB, bP, Bool.and_eq_true]
    exact ⟨⟨⟨decide_eq_true (by omega), decide_eq_true (by omega)⟩, decide_eq_true (by omega)⟩, decide_eq_true (by omega)⟩
  · simp only [edB, spB, bA, Bool.and_eq_true]
    exact ⟨⟨decide_eq_true (by omega), decide_eq_true (by omega)⟩, decide_eq_true (by omega)⟩
  · simp only [edB, spB, bB, Bool.and_eq_true]
    exact ⟨⟨decide_eq_true (by omega), decide_eq_true (by omega)⟩, decide_eq_true (by omega)⟩
theorem b_fits {sl lo da w g : Int} {o : Sp} (hs : 0 ≤ sl ∧ sl ≤ 500) (hl : 0 ≤ lo ∧ lo ≤ 500) (hd : 0 ≤ da ∧ da ≤ 100) (ho : 0 ≤ o.lo ∧ o.lo ≤ o.hi) (hg : 0 ≤ g) :
    fitsV (bP sl lo da) (bA w o) (bB w g o) = 2 ↔ g + 2 * o.hi ≤ 1000 * lo / (1000 + da) := by
  rw [Int.le_ediv_iff_mul_le (by omega)]
  have a0 : alwaysV (bP sl lo da) (bA w o) (bB w g o) 0 = true := by
    have e1 : (byV (bP sl lo da) (bA w o) (bB w g o) 0).lo = 0 := rfl
    have e2 : (byV (bP sl lo da) (bA w o) (bB w g o) 0).hi = 0 := rfl
    have e3 : (boV (bP sl lo da) 0).lo = -sl := rfl
    have e4 : (boV (bP sl lo da) 0).hi = sl := rfl
    unfold alwaysV
    rw [e1, e2, e3, e4, Int.zero_mul]
    simp only [Bool.and_eq_true, decide_eq_true_eq]; omega
  have a2 : alwaysV (bP sl lo da) (bA w o) (bB w g o) 2 = true := by
    have e1 : (byV (bP sl lo da) (bA w o) (bB w g o) 2).lo = 0 := rfl
    have e2 : (byV (bP sl lo da) (bA w o) (bB w g o) 2).hi = 0 := rfl
    have e3 : (boV (bP sl lo da) 2).lo = 0 := rfl
    have e4 : (boV (bP sl lo da) 2).hi = lo := rfl
    unfold alwaysV
    rw [e1, e2, e3, e4, Int.zero_mul]
    simp only [Bool.and_eq_true, decide_eq_true_eq]; omega
  have a1 : alwaysV (bP sl lo da) (bA w o) (bB w g o) 1 = decide ((g + 2 * o.hi) * (1000 + da) ≤ 1000 * lo) := by
    have e1 : (byV (bP sl lo da) (bA w o) (bB w g o) 1).lo = g + 2 * o.lo := by show w + g + o.lo - (w - o.lo) = _; omega
    have e2 : (byV (bP sl lo da) (bA w o) (bB w g o) 1).hi = g + 2 * o.hi := by show w + g + o.hi - (w - o.hi) = _; omega
    have e3 : (boV (bP sl lo da) 1).lo = 0 := rfl
    have e4 : (boV (bP sl lo da) 1).hi = lo := rfl
    have e5 : (bP sl lo da).damp.hi = da := rfl
    unfold alwaysV
    rw [e1, e2, e3, e4, e5]
    have : 0 ≤ (g + 2 * o.lo) * (1000 + da) := Int.mul_nonneg (by omega) (by omega)
    rw [decide_eq_true (show 1000 * 0 ≤ (g + 2 * o.lo) * (1000 + da) by omega), Bool.true_and]
  have hall : (List.range 3).all (alwaysV (bP sl lo da) (bA w o) (bB w g o)) = decide ((g + 2 * o.hi) * (1000 + da) ≤ 1000 * lo) := by
    show (alwaysV _ _ _ 0 && (alwaysV _ _ _ 1 && (alwaysV _ _ _ 2 && true))) = _
    rw [a0, a1, a2]; simp
  unfold fitsV
  rw [hall]
  by_cases h : (g + 2 * o.hi) * (1000 + da) ≤ 1000 * lo
  · simp [h]
  · rw [if_neg (by simp [h])]
    constructor
    · intro h2; split at h2 <;> omega
    · intro h2; exact absurd h2 h
/-- as many strokes as Lasts tells -/
theorem last_iff {f w bo st : Int} (hf : 0 ≤ f ∧ f ≤ bo) (hw : 0 ≤ w) (hs : 0 ≤ st ∧ st ≤ 7000) : f + w * st ≤ bo ↔ st ≤ lastV f w bo := by
  unfold lastV
  by_cases h : w = 0
  · rw [if_pos h, h, Int.zero_mul]; omega
  · rw [if_neg h]
    have h1 := Int.le_ediv_iff_mul_le (a := st) (b := bo - f) (c := w) (by omega)
    rw [Int.mul_comm] at h1
    omega
end Go.Proofs.Ytcgbdecgdddnkaa
