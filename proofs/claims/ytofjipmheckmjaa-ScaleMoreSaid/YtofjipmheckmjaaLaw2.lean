/- All lists come in their order; the first that slips comes before the others. Plain. -/
import Derived.Test.YtofjipmheckmjaaLaw1
namespace Go.Proofs.Ytofjipmheckmjaa
open Go Go.Eng Go.RowKit Go.Proofs
def lexLt (x y : List Int) : Prop := ∃ n : Nat, (∀ j, j < n → x.getD j 0 = y.getD j 0) ∧ x.getD n 0 < y.getD n 0
theorem lexLt.cons {n : Int} {x y : List Int} (h : lexLt x y) : lexLt (n :: x) (n :: y) := by
  obtain ⟨m, h1, h2⟩ := h
  refine ⟨m + 1, fun j hj => ?_, by simpa using h2⟩
  cases j with
  | zero => rfl
  | succ j => simpa using h1 j (by omega)
theorem fromTo_lt (lo hi : Int) : (fromTo lo hi).Pairwise (· < ·) := by
  unfold fromTo
  rw [List.pairwise_map]
  exact List.pairwise_lt_range.imp fun h => by omega
theorem genL_sorted : ∀ (ks : List Kd) (l e : Int), (genL ks l e).Pairwise lexLt
  | [], _, _ => by simp [genL]
  | k :: ks, l, e => by
    unfold genL
    rw [List.pairwise_flatMap]
    refine ⟨fun n _ => ?_, (fromTo_lt _ _).imp fun {n1 n2} h x hx y hy => ?_⟩
    · rw [List.pairwise_map]
      exact (genL_sorted ks _ _).imp fun h => h.cons
    · obtain ⟨x', _, rfl⟩ := List.mem_map.1 hx
      obtain ⟨y', _, rfl⟩ := List.mem_map.1 hy
      exact ⟨0, fun j hj => absurd hj (Nat.not_lt_zero j), by simpa using h⟩
theorem slip_first {b : Bx} {ts : List Te} {K M : List Int} (hK : slipP b ts = some K) (hM : M ∈ incL b) (hp : okAll b ts M = true) : K = M ∨ lexLt K M := by
  have hs : (incL b).Pairwise lexLt := (genL_sorted _ _ _).filter _
  unfold slipP at hK
  obtain ⟨_, pre, post, hap, hno⟩ := List.find?_eq_some_iff_append.1 hK
  rw [hap] at hM hs
  rcases List.mem_append.1 hM with h | h
  · have := hno M h; rw [hp] at this; cases this
  · rcases List.mem_cons.1 h with rfl | h
    · exact .inl rfl
    · exact .inr ((List.pairwise_cons.1 (List.pairwise_append.1 hs).2.1).1 M h)
theorem first_lt {K M : List Int} (h : K = M ∨ lexLt K M) {i : Nat} (hs : ∀ j, j < i → K.getD j 0 = M.getD j 0) (hd : ¬ K.getD i 0 = M.getD i 0) : K.getD i 0 < M.getD i 0 := by
  rcases h with rfl | ⟨n, h1, h2⟩
  · exact absurd rfl hd
  · rcases Nat.lt_trichotomy n i with h3 | rfl | h3
    · have := hs n h3; omega
    · exact h2
    · exact absurd (h1 i h3) hd
theorem slip_some {b : Bx} {ts : List Te} (h : (slipR b ts).2 = 0) : chk b [] ts = 0 ∧ slipP b ts = some (slipR b ts).1 := by
  unfold slipR at h ⊢
  split at h
  · rename_i h1; exact absurd h h1
  · rename_i h1
    have h1 : chk b [] ts = 0 := by simpa using h1
    rw [if_neg (by simpa using h1)]
    split at h
    · rename_i K hK; exact ⟨h1, by rw [hK]⟩
    · cases h
theorem slip_none {b : Bx} {ts : List Te} (h : (slipR b ts).2 = 4) : chk b [] ts = 0 ∧ slipP b ts = none ∧ (slipR b ts).1 = [] := by
  unfold slipR at h ⊢
  split at h
  · exfalso
    unfold chk at h
    split at h
    · cases h
    · split at h
      · cases h
      · split at h <;> cases h
  · rename_i h1
    have h1 : chk b [] ts = 0 := by simpa using h1
    rw [if_neg (by simpa using h1)]
    split at h
    · cases h
    · rename_i hn; exact ⟨h1, hn, rfl⟩
theorem slip_err {b : Bx} {ts : List Te} (h : ¬ (slipR b ts).2 = 0) : (slipR b ts).1 = [] := by
  unfold slipR at h ⊢
  split
  · rfl
  · rename_i h1
    rw [if_neg h1] at h
    split
    · rename_i K hK; rw [hK] at h; exact absurd rfl h
    · rfl
theorem slip_in {b : Bx} {ts : List Te} {K : List Int} (h : slipP b ts = some K) : K ∈ incL b ∧ okAll b ts K = true := ⟨List.mem_of_find?_eq_some h, List.find?_some h⟩
theorem inc_can {b : Bx} {K : List Int} (hok : bxB b = true) (h : K ∈ incL b) : canV b K = true ∧ wholeV K = false := by
  obtain ⟨h1, h2⟩ := List.mem_filter.1 h
  exact ⟨(mem_allL hok K).1 h1, by simpa using h2⟩
theorem inc_of {b : Bx} {K : List Int} (hok : bxB b = true) (h : canV b K = true) (hw : wholeV K = false) : K ∈ incL b := List.mem_filter.2 ⟨(mem_allL hok K).2 h, by simp [hw]⟩
theorem none_ok {b : Bx} {ts : List Te} {M : List Int} (h : slipP b ts = none) (hM : M ∈ incL b) : okAll b ts M = false := by
  have := List.find?_eq_none.1 h M hM
  simpa using this
end Go.Proofs.Ytofjipmheckmjaa
