/- Bounds: plain laws. -/
import Derived.Test.YtegdfpilhlcplaaDat
namespace Go.Proofs.Ytegdfpilhlcplaa
theorem foldl_max_le (xs : List Int) : ∀ (x0 y : Int), xs.foldl max x0 ≤ y ↔ x0 ≤ y ∧ ∀ x, x ∈ xs → x ≤ y := by
  induction xs with
  | nil => intro x0 y; simp
  | cons a xs ih =>
    intro x0 y
    simp only [List.foldl_cons, ih, List.mem_cons, forall_eq_or_imp]
    constructor
    · rintro ⟨h1, h2⟩; exact ⟨by omega, by omega, h2⟩
    · rintro ⟨h1, h2, h3⟩; exact ⟨by omega, h3⟩
theorem le_foldl_min (xs : List Int) : ∀ (x0 y : Int), y ≤ xs.foldl min x0 ↔ y ≤ x0 ∧ ∀ x, x ∈ xs → y ≤ x := by
  induction xs with
  | nil => intro x0 y; simp
  | cons a xs ih =>
    intro x0 y
    simp only [List.foldl_cons, ih, List.mem_cons, forall_eq_or_imp]
    constructor
    · rintro ⟨h1, h2⟩; exact ⟨by omega, by omega, h2⟩
    · rintro ⟨h1, h2, h3⟩; exact ⟨by omega, h3⟩
theorem lowC_le {ws : List (Int × Sp)} {rate m y : Int} : lowC ws rate m ≤ y ↔ 0 ≤ y ∧ ∀ x, x ∈ ws → x.2.lo - max 0 (x.1 - m) * rate ≤ y := by
  unfold lowC lowL
  rw [foldl_max_le]; exact and_congr_right fun _ => List.forall_mem_map
theorem le_highC {ws : List (Int × Sp)} {p rate m y : Int} : y ≤ highC p ws rate m ↔ y ≤ p ∧ ∀ x, x ∈ ws → y ≤ x.2.hi + max 0 (m - x.1) * rate := by
  unfold highC highL
  rw [le_foldl_min]; exact and_congr_right fun _ => List.forall_mem_map
theorem max_mul_mono {a b rate : Int} (h : a ≤ b) (hr : 0 ≤ rate) : max 0 a * rate ≤ max 0 b * rate := Int.mul_le_mul_of_nonneg_right (by omega) hr
theorem max_mul_nonneg {a rate : Int} (hr : 0 ≤ rate) : 0 ≤ max 0 a * rate := Int.mul_nonneg (by omega) hr
theorem lowC_mono {ws : List (Int × Sp)} {rate m m' : Int} (hr : 0 ≤ rate) (h : m ≤ m') : lowC ws rate m ≤ lowC ws rate m' := by
  rw [lowC_le]
  have h0 := lowC_le.1 (Int.le_refl (lowC ws rate m'))
  refine ⟨h0.1, fun x hx => ?_⟩
  have h1 := h0.2 x hx
  have h2 := max_mul_mono (a := x.1 - m') (b := x.1 - m) (rate := rate) (by omega) hr
  omega
theorem highC_mono {ws : List (Int × Sp)} {p rate m m' : Int} (hr : 0 ≤ rate) (h : m ≤ m') : highC p ws rate m ≤ highC p ws rate m' := by
  rw [le_highC]
  have h0 := le_highC.1 (Int.le_refl (highC p ws rate m))
  refine ⟨h0.1, fun x hx => ?_⟩
  have h1 := h0.2 x hx
  have h2 := max_mul_mono (a := m - x.1) (b := m' - x.1) (rate := rate) (by omega) hr
  omega
theorem lowC_bd {ws : List (Int × Sp)} {rate m : Int} (hw : WsOk ws) (hr : 0 ≤ rate) : 0 ≤ lowC ws rate m ∧ lowC ws rate m ≤ 10000 := by
  refine ⟨(lowC_le.1 (Int.le_refl _)).1, lowC_le.2 ⟨by omega, fun x hx => ?_⟩⟩
  have h1 := hw x hx
  have h2 := max_mul_nonneg (a := x.1 - m) hr
  omega
theorem highC_bd {ws : List (Int × Sp)} {p rate m : Int} (hw : WsOk ws) (hr : 0 ≤ rate) (hp : 0 ≤ p) : 0 ≤ highC p ws rate m ∧ highC p ws rate m ≤ p := by
  refine ⟨le_highC.2 ⟨hp, fun x hx => ?_⟩, (le_highC.1 (Int.le_refl _)).1⟩
  have h1 := hw x hx
  have h2 := max_mul_nonneg (a := m - x.1) hr
  omega
/-- what a search finds -/
theorem countP_split {p : Nat → Bool} {m s : Nat} (h1 : s ≤ m) (h2 : ∀ k, k < s → p k = false) (h3 : ∀ k, s ≤ k → k < m → p k = true) : (List.range m).countP p = m - s := by
  have key : ∀ n, s ≤ n → n ≤ m → (List.range n).countP p = n - s := by
    intro n
    induction n with
    | zero => intro _ _; simp
    | succ n ih =>
      intro hs hn
      rw [List.range_succ, List.countP_append]
      by_cases e : s ≤ n
      · rw [ih e (by omega)]; simp [h3 n e (by omega)]; omega
      · have : s = n + 1 := by omega
        have h0 : (List.range n).countP p = 0 := by
          rw [List.countP_eq_zero]; intro k hk; simp [h2 k (by have := List.mem_range.1 hk; omega)]
        rw [h0]; simp [h2 n (by omega)]; omega
  exact key m h1 (Nat.le_refl _)
end Go.Proofs.Ytegdfpilhlcplaa
