/- What fits what was read as it is: plain. -/
import Derived.Test.YtofjipmheckmjaaWalk15
namespace Go.Proofs.Ytofjipmheckmjaa
open Go Go.Eng Go.RowKit Go.Proofs
theorem fit_mem {b : Bx} {ls : List Rd} {L : List Int} (hok : bxB b = true) (hL : canV b L = true) (hr : ∀ r, r ∈ ls → (readV b r.test L).lo ≤ r.got ∧ r.got ≤ (readV b r.test L).hi) : L ∈ fitL b ls := by
  refine List.mem_filter.2 ⟨(mem_allL hok L).2 hL, List.all_eq_true.2 fun r hm => ?_⟩
  unfold meetsV
  exact decide_eq_true (hr r hm)
theorem chk_ok {b : Bx} {ls : List Rd} (hok : bxB b = true) (hn : ls.length ≤ 16) (ht : ∀ r, r ∈ ls → teB b r.test = true) : chk b ls [] = 0 := by
  unfold chk
  rw [if_neg (by simp [hok]), if_neg (by simp; omega), if_neg]
  simp only [Bool.or_eq_true, List.any_eq_true, not_or, not_exists, not_and]
  exact ⟨fun r hr => by rw [ht r hr]; decide, fun t h => by cases h⟩
theorem open_ok {b : Bx} {ls : List Rd} {L : List Int} (hc : chk b ls [] = 0) (hL : L ∈ fitL b ls) : openE b ls [] = 0 := by
  unfold openE
  rw [if_neg (by simpa using hc), if_neg (by have := List.length_pos_of_mem hL; omega)]
theorem judge_two {ll : List (List Int)} (h : judgeV ll = 2) {L : List Int} (hL : L ∈ ll) : wholeV L = true := by
  unfold judgeV at h
  split at h
  · rename_i h1
    have := List.any_eq_false.1 h1 L hL
    simpa using this
  · split at h <;> cases h
theorem judge_zero {ll : List (List Int)} (h : judgeV ll = 0) {L : List Int} (hL : L ∈ ll) : wholeV L = false := by
  unfold judgeV at h
  split at h
  · cases h
  · split at h
    · rename_i h1
      have := List.any_eq_false.1 h1 L hL
      simpa using this
    · cases h
theorem judge_bd (ll : List (List Int)) : 0 ≤ judgeV ll ∧ judgeV ll ≤ 2 := by
  unfold judgeV
  split
  · decide
  · split <;> decide
theorem leftK_mono (ll : List (List Int)) (k : Nat) : ∀ m j, j < m → (leftK ll k m).lo ≤ (ll.getD j []).getD k 0 ∧ (ll.getD j []).getD k 0 ≤ (leftK ll k m).hi
  | 0, j, h => absurd h (Nat.not_lt_zero j)
  | m + 1, j, h => by
    show min _ _ ≤ _ ∧ _ ≤ max _ _
    rcases Nat.lt_succ_iff_lt_or_eq.1 h with h1 | rfl
    · have := leftK_mono ll k m j h1; omega
    · omega
theorem leftK_bd {ll : List (List Int)} {L : List Int} (hL : L ∈ ll) (k : Nat) : (leftK ll k ll.length).lo ≤ L.getD k 0 ∧ L.getD k 0 ≤ (leftK ll k ll.length).hi := by
  obtain ⟨i, hi, rfl⟩ := List.getElem_of_mem hL
  have h := leftK_mono ll k ll.length i hi
  rwa [getD_of (List.getElem?_eq_getElem hi)] at h
theorem leftS_get (n : Nat) (ll : List (List Int)) {k : Nat} (hk : k < n) : (leftS n ll)[k]? = some (leftK ll k ll.length) := by
  unfold leftS
  rw [List.getElem?_map, List.getElem?_range hk]; rfl
theorem slip_whole {b : Bx} {ts : List Te} {L : List Int} (hok : bxB b = true) (hL : canV b L = true) (hs : (slipR b ts).2 = 4) (hp : ∀ t, t ∈ ts → passV b t L = true) : wholeV L = true := by
  cases hw : wholeV L with
  | true => rfl
  | false =>
    have hin : L ∈ incL b := List.mem_filter.2 ⟨(mem_allL hok L).2 hL, by simp [hw]⟩
    have hall : okAll b ts L = true := List.all_eq_true.2 fun t ht => hp _ (List.mem_of_getElem? (get_of_lt te0 (List.mem_range.1 ht)))
    unfold slipR at hs
    split at hs
    · rename_i hc
      exfalso
      unfold chk at hs
      split at hs
      · cases hs
      · split at hs
        · cases hs
        · split at hs <;> cases hs
    · split at hs
      · cases hs
      · rename_i hn
        exact absurd hall (List.find?_eq_none.1 hn L hin)
end Go.Proofs.Ytofjipmheckmjaa
