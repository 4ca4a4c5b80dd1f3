/- The next order, reckoned in place. No program in sight. -/
import Derived.Test.YtjlbpmcacopbpaaLawP
namespace Go.Proofs.Ytjlbpmcacopbpaa
theorem set_at {α : Type} (x : α) (a : α) (R : List α) : ∀ A : List α, (A ++ a :: R).set A.length x = A ++ x :: R
  | [] => rfl
  | b :: A => by simp
theorem getD_at {α : Type} (d : α) (a : α) (R : List α) : ∀ A : List α, (A ++ a :: R).getD A.length d = a
  | [] => rfl
  | b :: A => by simp
theorem split1 {cur : List Nat} {i : Nat} (h : i < cur.length) : ∃ A R, cur = A ++ cur.getD i 0 :: R ∧ A.length = i :=
  ⟨cur.take i, cur.drop (i + 1), by
    rw [List.getD_eq_getElem?_getD, List.getElem?_eq_getElem h]
    simp, by rw [List.length_take]; omega⟩
theorem split3 {cur : List Nat} {i k : Nat} (h : i < k) (hk : k < cur.length) : ∃ A B C, cur = A ++ cur.getD i 0 :: (B ++ cur.getD k 0 :: C) ∧ A.length = i ∧ A.length + 1 + B.length = k := by
  obtain ⟨X, C, hX, hXl⟩ := split1 hk
  have hi : i < X.length := by omega
  obtain ⟨A, B, hA, hAl⟩ := split1 hi
  have hg : X.getD i 0 = cur.getD i 0 := by
    conv => { rhs; rw [hX] }
    rw [List.getD_eq_getElem?_getD, List.getD_eq_getElem?_getD, List.getElem?_append_left hi]
  rw [hg] at hA
  have hl := congrArg List.length hA
  simp only [List.length_append, List.length_cons] at hl
  exact ⟨A, B, C, by
    conv => { lhs; rw [hX, hA] }
    simp, hAl, by omega⟩
/-- the two changed -/
theorem swap_eq (A B C : List Nat) (a b : Nat) : ((A ++ a :: (B ++ b :: C)).set A.length b).set (A.length + 1 + B.length) a = A ++ b :: (B ++ a :: C) := by
  rw [set_at]
  have := set_at a b C (A ++ b :: B)
  simp only [List.length_append, List.length_cons, List.append_assoc, List.cons_append] at this
  rw [show A.length + 1 + B.length = A.length + (B.length + 1) by omega]
  exact this
theorem fall_of {S : List Nat} (h : ∀ p, p + 1 < S.length → S.getD (p + 1) 0 < S.getD p 0) : S.Pairwise (· > ·) := by
  induction S with
  | nil => exact .nil
  | cons x S ih =>
    have ih2 := ih fun p hp => h (p + 1) (by rw [List.length_cons]; omega)
    refine List.pairwise_cons.2 ⟨?_, ih2⟩
    cases S with
    | nil => intro y hy; cases hy
    | cons y S =>
      have h0 : y < x := h 0 (by simp)
      intro z hz
      rcases List.mem_cons.1 hz with rfl | hz
      · exact h0
      · exact Nat.lt_trans ((List.pairwise_cons.1 ih2).1 z hz) h0
/-- what is next after the present one: the steps of the program -/
structure Next (cur nxt : List Nat) : Prop where
  perm : nxt.Perm cur
  lt : lexL cur nxt
  no : ∀ q, q.Perm cur → lexL cur q → nxt = q ∨ lexL nxt q
theorem getD_drop (l : List Nat) (s p : Nat) : (l.drop s).getD p 0 = l.getD (s + p) 0 := by
  rw [List.getD_eq_getElem?_getD, List.getD_eq_getElem?_getD, List.getElem?_drop]
theorem next_of {cur : List Nat} {s k : Nat} (h0 : 0 < s) (hsk : s ≤ k) (hk : k < cur.length) (hfall : ∀ p, s ≤ p → p + 1 < cur.length → cur.getD (p + 1) 0 < cur.getD p 0) (hb : cur.getD (s - 1) 0 < cur.getD k 0) (hC : ∀ p, k < p → p < cur.length → cur.getD p 0 < cur.getD (s - 1) 0) :
    Next cur (((cur.set (s - 1) (cur.getD k 0)).set k (cur.getD (s - 1) 0)).take s ++ (((cur.set (s - 1) (cur.getD k 0)).set k (cur.getD (s - 1) 0)).drop s).reverse) := by
  obtain ⟨A, B, C, hc, hAl, hBl⟩ := split3 (cur := cur) (i := s - 1) (k := k) (by omega) hk
  obtain ⟨a, ha⟩ : ∃ a, cur.getD (s - 1) 0 = a := ⟨_, rfl⟩
  obtain ⟨b, hbb⟩ : ∃ b, cur.getD k 0 = b := ⟨_, rfl⟩
  rw [ha] at hb hC hc ⊢
  rw [hbb] at hb hc ⊢
  have hdrop : cur.drop s = B ++ b :: C := by
    rw [hc, show s = A.length + 1 by omega]; simp
  have hS : (B ++ b :: C).Pairwise (· > ·) := by
    rw [← hdrop]
    refine fall_of fun p hp => ?_
    rw [List.length_drop] at hp
    rw [getD_drop, getD_drop]
    exact hfall (s + p) (by omega) (by omega)
  have hCa : ∀ c, c ∈ C → c < a := fun c hcC => by
    obtain ⟨j, hj, rfl⟩ := List.getElem_of_mem hcC
    have hcl := congrArg List.length hc
    simp only [List.length_append, List.length_cons] at hcl
    have := hC (k + 1 + j) (by omega) (by omega)
    have e : cur.getD (k + 1 + j) 0 = C[j] := by
      have hd : cur.drop (k + 1) = C := by
        rw [hc, show k + 1 = (A ++ a :: (B ++ [b])).length by simp; omega, show A ++ a :: (B ++ b :: C) = (A ++ a :: (B ++ [b])) ++ C by simp, List.drop_left]
      rw [← getD_drop, hd, List.getD_eq_getElem?_getD, List.getElem?_eq_getElem hj]; rfl
    rw [e] at this; exact this
  have hsw : (cur.set (s - 1) b).set k a = A ++ b :: (B ++ a :: C) := by
    conv => { lhs; rw [hc, ← hAl, ← hBl] }
    exact swap_eq A B C a b
  rw [hsw]
  have ht : (A ++ b :: (B ++ a :: C)).take s = A ++ [b] := by
    rw [show A ++ b :: (B ++ a :: C) = (A ++ [b]) ++ (B ++ a :: C) by simp, show s = (A ++ [b]).length by simp; omega, List.take_left]
  have hd : (A ++ b :: (B ++ a :: C)).drop s = B ++ a :: C := by
    rw [show A ++ b :: (B ++ a :: C) = (A ++ [b]) ++ (B ++ a :: C) by simp, show s = (A ++ [b]).length by simp; omega, List.drop_left]
  rw [ht, hd, show A ++ [b] ++ (B ++ a :: C).reverse = A ++ b :: (B ++ a :: C).reverse by simp]
  refine ⟨by rw [hc]; exact next_perm a b A B C, by conv => { lhs; rw [hc] }
                                                    exact next_lt hb _ _ A, fun q hq hl => ?_⟩
  rw [hc] at hq hl
  exact next_lex hS hb hCa A q hq hl
/-- the last one falls -/
theorem last_of {cur : List Nat} (hfall : ∀ p, p + 1 < cur.length → cur.getD (p + 1) 0 < cur.getD p 0) (q : List Nat) (hq : q.Perm cur) : ¬ lexL cur q := max_lex (fall_of hfall) hq
theorem first_of (n : Nat) (q : List Nat) (hq : q.Perm (List.range n)) : List.range n = q ∨ lexL (List.range n) q := min_lex (List.pairwise_lt_range) hq
end Go.Proofs.Ytjlbpmcacopbpaa
