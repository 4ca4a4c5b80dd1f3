/- A good cut whose two neighbours are joined is good, and has a piece less. No program in sight. -/
import Derived.Test.YtfceajkofpafpaaHW9
namespace Go.Proofs.Ytfceajkofpafpaa
open Go Go.Eng
open Go.Proofs.Ytfceajkofpafpaa.Sc (getD_of get_of_lt)
theorem nP_of {x : Ct} (h : CtF x) {m : Nat} (h1 : ∀ p, inC x p → atC x p < (m : Int)) (h2 : ∃ p, inC x p ∧ atC x p + 1 = (m : Int)) : nP x = m := by
  have h3 := nP_eq h
  have hn := h.n0
  obtain ⟨p, hp, he⟩ := h2
  have h4 := nP_all h p hp
  obtain ⟨i, hi, h5⟩ := mxK_in x.piece (x.piece.length - 1)
  have h6 := h1 (cellAt x i) (idx_cell h (by omega)).1
  rw [atC_cell h (by omega), ← h5] at h6
  omega
section
variable {c : Ct} {a b : Int}
theorem jn_lo (k : Int) : jn (min a b) (max a b) k = if k = max a b then min a b else if max a b < k then k - 1 else k := rfl
theorem join_in (p : Int × Int) : inC (joinC c a b) p ↔ inC c p := Iff.rfl
theorem join_at (h : CtF c) {p : Int × Int} (hp : inC c p) : atC (joinC c a b) p = jn (min a b) (max a b) (atC c p) := by
  obtain ⟨h1, _⟩ := cell_idx h hp
  have e1 : atC (joinC c a b) p = (joinC c a b).piece.getD (idx c p) 0 := by unfold atC; rw [if_pos ((join_in p).2 hp)]; rfl
  have e2 : atC c p = c.piece.getD (idx c p) 0 := by unfold atC; rw [if_pos hp]
  rw [e1, e2]
  show (c.piece.map (jn (min a b) (max a b))).getD (idx c p) 0 = _
  rw [List.getD_eq_getElem?_getD, List.getElem?_map, get_of_lt 0 h1]; rfl
theorem join_F (h : CtF c) (ha : 0 ≤ a ∧ a ≤ 39) (hb : 0 ≤ b ∧ b ≤ 39) : CtF (joinC c a b) where
  w1 := h.w1
  w2 := h.w2
  h1 := h.h1
  h2 := h.h2
  len := by show ((c.piece.map _).length : Int) = _; rw [List.length_map]; exact h.len
  bd := fun k hk => by
    obtain ⟨k', hk', rfl⟩ := List.mem_map.1 hk
    have := h.bd k' hk'
    rw [jn_lo]
    split
    · omega
    · split <;> omega
theorem join_conn (h : CtF c) {p q : Int × Int} (k : Conn c p q) (hp : inC c p) : Conn (joinC c a b) p q := by
  have hin : ∀ q, Conn c p q → inC c q := fun q hq => (atC_in h).1 (by rw [hq.at]; exact (atC_in h).2 hp)
  induction k with
  | refl => exact .refl
  | @step q i hi hq he ih =>
    refine .step i hi ih ?_
    rw [join_at h (hin _ (.step i hi hq he)), join_at h (hin _ hq), he]
theorem sum_pos {l : List Nat} (h : l.sum ≠ 0) : ∃ x, x ∈ l ∧ x ≠ 0 := by
  induction l with
  | nil => exact absurd rfl h
  | cons x l ih =>
    by_cases hx : x = 0
    · subst hx
      obtain ⟨y, h1, h2⟩ := ih (by simpa using h)
      exact ⟨y, .tail _ h1, h2⟩
    · exact ⟨x, .head _, hx⟩
theorem e4_pos {p : Int × Int} {a b : Int} : ∀ n, e4 c p n a b ≠ 0 → ∃ j, j < n ∧ atC c (nb p j) = a ∧ atC c p = b
  | 0, h => absurd rfl h
  | n + 1, h => by
    by_cases h1 : e1 c p n a b = 0
    · have h2 : e4 c p n a b ≠ 0 := by
        intro h3
        apply h
        show e4 c p n a b + e1 c p n a b = 0
        omega
      obtain ⟨j, h3, h4⟩ := e4_pos n h2
      exact ⟨j, by omega, h4⟩
    · unfold e1 at h1
      by_cases h2 : atC c (nb p n) = a ∧ atC c p = b ∧ a ≠ b
      · exact ⟨n, by omega, h2.1, h2.2.1⟩
      · rw [if_neg h2] at h1; exact absurd rfl h1
theorem edge_pos (h : CtF c) {a b : Int} (hn : edgeN c a b ≠ 0) : ∃ p j, inC c p ∧ j < 4 ∧ atC c (nb p j) = a ∧ atC c p = b := by
  obtain ⟨x, hx, h0⟩ := sum_pos hn
  obtain ⟨i, hi, rfl⟩ := List.mem_map.1 hx
  obtain ⟨j, h1, h2, h3⟩ := e4_pos 4 h0
  exact ⟨cellAt c i, j, (idx_cell h (List.mem_range.1 hi)).1, h1, h2, h3⟩
theorem join_ok (h : JoinOk c a b) : CutOk (joinC c a b) (nP c - 1) ∧ nP (joinC c a b) = nP c - 1 ∧ 2 ≤ nP c := by
  obtain ⟨⟨ho, ha0, ha1⟩, ⟨hb0, hb1⟩, hne, hedge⟩ := h
  have hF := ho.ok
  have hnP := nP_eq hF
  have hn2 : 2 ≤ nP c := by omega
  have hFx : CtF (joinC c a b) := join_F hF ⟨ha0, by omega⟩ ⟨hb0, by omega⟩
  have hlo : ∀ k : Int, 0 ≤ k → k < (nP c : Nat) → 0 ≤ jn (min a b) (max a b) k ∧ jn (min a b) (max a b) k < ((nP c - 1 : Nat) : Int) := fun k h1 h2 => by
    rw [jn_lo]
    split
    · omega
    · split <;> omega
  have hall : ∀ p, inC (joinC c a b) p → atC (joinC c a b) p < ((nP c - 1 : Nat) : Int) := fun p hp => by
    rw [join_at hF hp]
    exact (hlo _ ((atC_in hF).2 hp) (ho.all p hp)).2
  have hsome : ∀ k : Nat, k < nP c - 1 → ∃ p, inC (joinC c a b) p ∧ atC (joinC c a b) p = (k : Int) := fun k hk => by
    by_cases hkh : (k : Int) < max a b
    · obtain ⟨p, h1, h2⟩ := ho.some k (by omega)
      refine ⟨p, h1, ?_⟩
      rw [join_at hF h1, h2, jn_lo, if_neg (by omega), if_neg (by omega)]
    · obtain ⟨p, h1, h2⟩ := ho.some (k + 1) (by omega)
      refine ⟨p, h1, ?_⟩
      rw [join_at hF h1, h2, jn_lo, if_neg (by omega), if_pos (by omega)]; omega
  -- the cells of a and b hang together
  obtain ⟨p0, j0, hp0, hj0, e1, e2⟩ := edge_pos hF hedge
  have hin : inC c (nb p0 j0) := (atC_in hF).1 (by rw [e1]; exact ha0)
  have hj : ∀ k : Int, k = a ∨ k = b → jn (min a b) (max a b) k = min a b := fun k hk => by
    rw [jn_lo]
    split
    · rfl
    · rw [if_neg (by omega)]; omega
  have hlink : Conn (joinC c a b) p0 (nb p0 j0) := .one hj0 (by rw [join_at hF hin, join_at hF hp0, e1, e2, hj a (.inl rfl), hj b (.inr rfl)])
  have hto : ∀ p, inC c p → atC c p = a ∨ atC c p = b → Conn (joinC c a b) p0 p := fun p hp hk => by
    rcases hk with hk | hk
    · exact hlink.trans (join_conn hF (ho.conn _ _ hin hp (by rw [e1, hk])) hin)
    · exact join_conn hF (ho.conn _ _ hp0 hp (by rw [e2, hk])) hp0
  have hconn : ∀ p q, inC (joinC c a b) p → inC (joinC c a b) q → atC (joinC c a b) p = atC (joinC c a b) q → Conn (joinC c a b) p q := fun p q hp hq he => by
    rw [join_at hF hp, join_at hF hq] at he
    by_cases e : atC c p = atC c q
    · exact join_conn hF (ho.conn p q hp hq e) hp
    · have hab : (atC c p = a ∨ atC c p = b) ∧ (atC c q = a ∨ atC c q = b) := by
        rw [jn_lo, jn_lo] at he
        by_cases h1 : atC c p = max a b <;> by_cases h2 : atC c q = max a b <;> by_cases h3 : max a b < atC c p <;> by_cases h4 : max a b < atC c q <;> simp only [h1, h2, h3, h4, if_true, if_false] at he <;> omega
      exact (hto p hp hab.1).symm.trans (hto q hq hab.2)
  refine ⟨⟨hFx, hsome, hall, hconn⟩, nP_of hFx hall ?_, hn2⟩
  obtain ⟨p, h1, h2⟩ := hsome (nP c - 2) (by omega)
  exact ⟨p, h1, by rw [h2]; omega⟩
end
end Go.Proofs.Ytfceajkofpafpaa
