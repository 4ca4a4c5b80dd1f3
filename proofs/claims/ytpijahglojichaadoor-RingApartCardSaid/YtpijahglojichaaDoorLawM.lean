/- One value is raised: what becomes of the best exchange's worth. -/
import Derived.Test.YtpijahglojichaaDoorLawC
import Derived.Test.YtpijahglojichaaDoorWalk8
namespace Go.Proofs.YtpijahglojichaaDoor
open Go.Eng
def raiseM (m : Mt) (x y : Nat) (v : Int) : Mt := m.set x ((m.getD x []).set y v)
theorem raise_len (m : Mt) (x y : Nat) (v : Int) : (raiseM m x y v).length = m.length := List.length_set ..
theorem getD_set {α : Type} (l : List α) (d : α) (x i : Nat) (v : α) (hx : x < l.length) : (l.set x v).getD i d = if i = x then v else l.getD i d := by
  rw [List.getD_eq_getElem?_getD, List.getElem?_set]
  by_cases h : x = i
  · subst h; rw [if_pos rfl, if_pos hx, if_pos rfl]; rfl
  · rw [if_neg h, if_neg (fun e => h e.symm), List.getD_eq_getElem?_getD]
theorem raise_row (m : Mt) {x : Nat} (y : Nat) (v : Int) (hx : x < m.length) (i : Nat) : (raiseM m x y v).getD i [] = if i = x then (m.getD x []).set y v else m.getD i [] := getD_set m [] x i _ hx
theorem raise_wv (m : Mt) {x y : Nat} (v : Int) (hx : x < m.length) (hy : y < (m.getD x []).length) (i k : Nat) : wv (raiseM m x y v) i k = if i = x ∧ k = y then v else wv m i k := by
  unfold wv
  rw [raise_row m y v hx]
  by_cases h : i = x
  · subst h
    rw [if_pos rfl, getD_set _ _ _ _ _ hy]
    by_cases h2 : k = y
    · rw [if_pos h2, if_pos ⟨rfl, h2⟩]
    · rw [if_neg h2, if_neg (fun e => h2 e.2)]
  · rw [if_neg h, if_neg (fun e => h e.1)]
theorem mkB_row {m : Mt} (h : mkB m = true) {i : Nat} (hi : i < m.length) : rowB m i (m.getD i []) = true := by
  unfold mkB rowsB at h
  rw [Bool.and_eq_true] at h
  exact List.all_eq_true.1 h.1 i (List.mem_range.2 hi)
theorem raise_mk {m : Mt} (h : mkB m = true) {x y : Nat} {v : Int} (hx : x < m.length) (hxy : x ≠ y) (hv : 0 ≤ v ∧ v ≤ 1000) : mkB (raiseM m x y v) = true := by
  have h7 : m.length ≤ 7 := (mkF h).n7
  unfold mkB
  rw [Bool.and_eq_true]
  refine ⟨rowsB_yes fun i hi => ?_, by rw [raise_len]; simpa using h7⟩
  rw [raise_len] at hi
  have hr := mkB_row h hi
  rw [raise_row m y v hx]
  by_cases e : i = x
  · subst e
    rw [if_pos rfl]
    unfold rowB at hr ⊢
    rw [Bool.and_eq_true, Bool.and_eq_true] at hr ⊢
    obtain ⟨⟨h1, h2⟩, h3⟩ := hr
    refine ⟨⟨by rw [raise_len, List.length_set]; exact h1, ?_⟩, ?_⟩
    · rw [List.all_eq_true] at h2 ⊢
      intro u hu
      rcases List.mem_or_eq_of_mem_set hu with h4 | h4
      · exact h2 u h4
      · subst h4; unfold inB; simpa using hv
    · rw [List.getD_eq_getElem?_getD, List.getElem?_set, if_neg (fun e => hxy e.symm), ← List.getD_eq_getElem?_getD]; exact h3
  · rw [if_neg e]
    unfold rowB at hr ⊢
    rw [raise_len]; exact hr
theorem raise_worth (m : Mt) {x y : Nat} {v : Int} (hx : x < m.length) (hy : y < (m.getD x []).length) (hv : wv m x y ≤ v) (o : List Int) : ∀ k, worthN m o k ≤ worthN (raiseM m x y v) o k ∧ worthN (raiseM m x y v) o k ≤ worthN m o k + (if x < k then v - wv m x y else 0)
  | 0 => by simp [worthN]
  | k + 1 => by
    have ih := raise_worth m hx hy hv o k
    have e := raise_wv m v hx hy k (getN o k)
    show worthN m o k + wv m k (getN o k) ≤ worthN (raiseM m x y v) o k + wv (raiseM m x y v) k (getN o k) ∧ worthN (raiseM m x y v) o k + wv (raiseM m x y v) k (getN o k) ≤ worthN m o k + wv m k (getN o k) + _
    by_cases h : k = x ∧ getN o k = y
    · rw [if_pos h] at e
      obtain ⟨h1, h2⟩ := h
      subst h1
      rw [if_neg (Nat.lt_irrefl _)] at ih
      rw [e, if_pos (by omega), h2]
      omega
    · rw [if_neg h] at e
      rw [e]
      by_cases h3 : x < k
      · rw [if_pos h3] at ih; rw [if_pos (by omega)]; omega
      · rw [if_neg h3] at ih
        by_cases h4 : x < k + 1
        · rw [if_pos h4]; omega
        · rw [if_neg h4]; omega
theorem more_law {m : Mt} (h : mkB m = true) {x y : Nat} {v : Int} (hx : x < m.length) (hy : y < m.length) (hxy : x ≠ y) (hv : wv m x y ≤ v) (hv2 : v ≤ 1000) : mkB (raiseM m x y v) = true ∧ (bestM m).worth ≤ (bestM (raiseM m x y v)).worth ∧ (wv m x y ≠ 0 → (bestM (raiseM m x y v)).worth - (bestM m).worth ≤ v - wv m x y) := by
  have hm := mkF h
  have hb := hm.bd x y
  have h' := raise_mk h hx hxy (v := v) ⟨by omega, hv2⟩
  have hm' := mkF h'
  have hyl : y < (m.getD x []).length := by
    have := mkB_row h hx
    unfold rowB at this
    simp at this
    rw [← List.getD_eq_getElem?_getD] at this
    omega
  have B : BestF m (bestM m) := bestX_F hm
  have B' : BestF (raiseM m x y v) (bestM (raiseM m x y v)) := bestX_F hm'
  have hl : (raiseM m x y v).length = m.length := raise_len ..
  have lB := ord_len B.ord
  have lB' := ord_len B'.ord
  rw [hl] at lB'
  have w1 := raise_worth m hx hyl hv
  refine ⟨h', ?_, fun h0 => ?_⟩
  · have hf : fairI (raiseM m x y v) (bestM m).gets < 0 := fair_iff.2 fun i hi => by
      have h1 := fair_iff.1 B.fair i hi
      unfold wantsB at h1 ⊢
      rw [raise_wv m v hx hyl]
      by_cases e : i = x ∧ getN (bestM m).gets i = y
      · rw [if_pos e]
        rw [e.1] at h1 ⊢
        rw [e.1] at e
        rw [e.2] at h1 ⊢
        simp [hxy] at h1 ⊢
        omega
      · rw [if_neg e]; exact h1
    have := (B'.top _ (by rw [hl]; exact B.ord) hf).worth
    have e2 := (w1 (bestM m).gets (bestM m).gets.length).1
    rw [B.worth]
    show worthN m _ _ ≤ _
    have e3 : worthN (raiseM m x y v) (bestM m).gets (bestM m).gets.length ≤ (bestM (raiseM m x y v)).worth := this
    omega
  · have hf : fairI m (bestM (raiseM m x y v)).gets < 0 := fair_iff.2 fun i hi => by
      have h1 := fair_iff.1 B'.fair i hi
      unfold wantsB at h1 ⊢
      rw [raise_wv m v hx hyl] at h1
      by_cases e : i = x ∧ getN (bestM (raiseM m x y v)).gets i = y
      · rw [e.2, e.1]
        simp [hxy]
        omega
      · rw [if_neg e] at h1; exact h1
    have := (B.top _ (by rw [← hl]; exact B'.ord) hf).worth
    have e2 := (w1 (bestM (raiseM m x y v)).gets (bestM (raiseM m x y v)).gets.length).2
    rw [if_pos (show x < (bestM (raiseM m x y v)).gets.length by omega)] at e2
    rw [B'.worth]
    have e3 : worthN m (bestM (raiseM m x y v)).gets (bestM (raiseM m x y v)).gets.length ≤ (bestM m).worth := this
    show worthN (raiseM m x y v) _ _ - _ ≤ _
    omega
end Go.Proofs.YtpijahglojichaaDoor
