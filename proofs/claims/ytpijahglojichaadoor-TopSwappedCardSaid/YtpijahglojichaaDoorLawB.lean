/- The best exchange, as it is looked for: plainly. -/
import Derived.Test.YtpijahglojichaaDoorWalk6
namespace Go.Proofs.YtpijahglojichaaDoor
open Go.Eng
def pw2 (k : Nat) : Nat := 2 ^ k
theorem pw2_shl (k : Nat) : (1 : Int) * 2 ^ ((k : Nat) : Int).toNat = (pw2 k : Nat) := by rw [Int.one_mul, Int.toNat_natCast]; simp [pw2]
theorem pw2_le {k : Nat} (h : k ≤ 20) : pw2 k ≤ 1048576 := Nat.pow_le_pow_right (n := 2) (by omega) h
theorem pw2_pos (k : Nat) : 1 ≤ pw2 k := Nat.one_le_two_pow
/-- a set less one of its members -/
def dropN (left k : Nat) : Nat := andNotN left (pw2 k)
theorem dropN_ok : ∀ left, left < 128 → ∀ k, k < 7 → dropN left k < 128 ∧ memL (dropN left k) = (memL left).filter (fun i => i != k) ∧ (left.testBit k = true → dropN left k < left) := by decide +kernel
theorem memL_seven : ∀ left, left < 128 → ∀ k, k ∈ memL left → k < 7 ∧ left.testBit k = true := by decide +kernel
def tdBad : Td := ⟨[], -1⟩
def stepH (m : Mt) (rest : Nat → Td) (p : Nat) (h : Option Td) (k : Nat) : Option Td :=
  if wantsB m p k = true ∧ 0 ≤ (rest k).worth then offer h ⟨(k : Int) :: (rest k).gets, wv m p k + (rest k).worth⟩ else h
def foldH (m : Mt) (rest : Nat → Td) (p : Nat) (ds : List Nat) : Option Td := ds.foldl (stepH m rest p) none
def bestD (m : Mt) : Nat → Nat → Nat → Td
  | 0, _, _ => td0
  | r + 1, p, left => (foldH m (fun k => bestD m r (p + 1) (dropN left k)) p (memL left)).getD tdBad
def bestT (m : Mt) (p left : Nat) : Td := bestD m (m.length - p) p left
theorem bestT_end {m : Mt} {p left : Nat} (h : m.length ≤ p) : bestT m p left = td0 := by
  unfold bestT; rw [Nat.sub_eq_zero_of_le h]; rfl
theorem bestT_step {m : Mt} {p left : Nat} (h : p < m.length) : bestT m p left = (foldH m (fun k => bestT m (p + 1) (dropN left k)) p (memL left)).getD tdBad := by
  have e : m.length - p = (m.length - (p + 1)) + 1 := by omega
  unfold bestT; rw [e]; rfl
theorem foldH_snoc (m : Mt) (rest : Nat → Td) (p : Nat) (ds : List Nat) (k : Nat) : foldH m rest p (ds ++ [k]) = stepH m rest p (foldH m rest p ds) k := by
  unfold foldH; rw [List.foldl_append]; rfl
structure TdF (r : Nat) (t : Td) : Prop where
  lo : -1 ≤ t.worth
  hi : t.worth ≤ 1000 * (r : Int)
  len : t.gets.length ≤ r
theorem offer_cases (h : Option Td) (t : Td) : offer h t = some t ∨ offer h t = h := by
  unfold offer; split
  · exact .inl rfl
  · exact .inr rfl
theorem foldH_bd {m : Mt} (hm : MkF m) {rest : Nat → Td} {p r : Nat} (hr : ∀ k, TdF r (rest k)) (ds : List Nat) : ∀ t, foldH m rest p ds = some t → TdF (r + 1) t := by
  have key : ∀ (ds : List Nat) (h : Option Td), (∀ t, h = some t → TdF (r + 1) t) → ∀ t, ds.foldl (stepH m rest p) h = some t → TdF (r + 1) t := by
    intro ds
    induction ds with
    | nil => intro h hh t ht; exact hh t ht
    | cons k ds ih =>
      intro h hh
      refine ih _ fun t ht => ?_
      unfold stepH at ht
      split at ht
      · rename_i hc
        rcases offer_cases h ⟨(k : Int) :: (rest k).gets, wv m p k + (rest k).worth⟩ with e | e
        · rw [e] at ht
          have ht := (Option.some.inj ht).symm
          subst ht
          have h1 := hr k
          have h2 := hm.bd p k
          have h3 := h1.lo
          have h4 := h1.hi
          have h5 := h1.len
          exact ⟨by dsimp only; omega, by dsimp only; omega, by simp; omega⟩
        · rw [e] at ht; exact hh t ht
      · exact hh t ht
  exact key ds none fun t ht => by cases ht
theorem bestD_bd {m : Mt} (hm : MkF m) : ∀ r p left, TdF r (bestD m r p left)
  | 0, _, _ => ⟨by show (-1 : Int) ≤ 0; decide, by show (0 : Int) ≤ _; omega, Nat.le_refl _⟩
  | r + 1, p, left => by
    unfold bestD
    cases hf : foldH m (fun k => bestD m r (p + 1) (dropN left k)) p (memL left) with
    | none => exact ⟨by decide, by show (-1 : Int) ≤ _; omega, Nat.zero_le _⟩
    | some t => exact foldH_bd hm (fun k => bestD_bd hm r (p + 1) (dropN left k)) (memL left) t hf
theorem bestT_bd {m : Mt} (hm : MkF m) (p left : Nat) : TdF (m.length - p) (bestT m p left) := bestD_bd hm _ _ _
end Go.Proofs.YtpijahglojichaaDoor
