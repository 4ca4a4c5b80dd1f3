/- Prices: the rounds, and where they end. -/
import Derived.Test.YtpijahglojichaaDoorLawP
namespace Go.Proofs.YtpijahglojichaaDoor
open Go.Eng
theorem rulesN_of {m : Mt} {n : Nat} {x : Nat × Nat} : ∀ {i : Nat}, x.1 < i → x.2 < n → wantsB m x.1 x.2 = true → x ∈ rulesN m n i
  | 0, h, _, _ => absurd h (Nat.not_lt_zero _)
  | i + 1, h, h2, h3 => by
    unfold rulesN
    rcases Nat.lt_or_ge x.1 i with h4 | h4
    · exact List.mem_append_left _ (rulesN_of h4 h2 h3)
    · refine List.mem_append_right _ ?_
      have e : x.1 = i := by omega
      subst e
      unfold rulesI
      exact List.mem_map.2 ⟨x.2, List.mem_filter.2 ⟨List.mem_range.2 h2, h3⟩, rfl⟩
theorem rules_rul {m : Mt} : ∀ x, x ∈ rulesL m → Rul m x := fun _ hx => rulesN_mem hx
theorem rul_rules {m : Mt} {x : Nat × Nat} (h : Rul m x) : x ∈ rulesL m := rulesN_of h.1 h.2.1 h.2.2
theorem price_up (m : Mt) (o : List Int) (r k : Nat) : (priceN m o r).getD k 0 ≤ (priceN m o (r + 1)).getD k 0 := foldl_up o _ _ (priceN_len m o r) rules_rul k
theorem price_lo (m : Mt) (o : List Int) : ∀ r k, 0 ≤ (priceN m o r).getD k 0
  | 0, k => by
    unfold priceN
    rw [List.getD_eq_getElem?_getD, List.getElem?_replicate]
    by_cases h : k < m.length
    · rw [if_pos h]; exact Int.le_refl _
    · rw [if_neg h]; exact Int.le_refl _
  | r + 1, k => Int.le_trans (price_lo m o r k) (price_up m o r k)
theorem price_inv {m : Mt} {t : Td} (B : BestF m t) : ∀ r, Inv m t.gets (priceN m t.gets r)
  | 0 => ⟨priceN_len _ _ _, fun k hk => ⟨[], by
      have h0 : (priceN m t.gets 0).getD k 0 = 0 := by
        unfold priceN
        rw [List.getD_eq_getElem?_getD, List.getElem?_replicate, if_pos hk]; rfl
      rw [h0]
      exact .nil hk (by rw [h0]; exact Int.le_refl _), by simp⟩⟩
  | r + 1 => (price_inv B r).foldl B _ rules_rul
theorem price_reach {m : Mt} {o ps : List Int} {v : Nat} {l : List Nat} {c : Int} (h : Rea m o ps v l c) : ∀ r, l.length ≤ r → c ≤ (priceN m o r).getD v 0 := by
  induction h with
  | nil _ _ => exact fun r _ => price_lo m o r _
  | @cons u v l c d _ h2 _ ih =>
    intro r hr
    obtain ⟨i, g1, g2, g3, g4, g5⟩ := h2
    cases r with
    | zero => simp at hr
    | succ r =>
      have h3 := ih r (by simpa using hr)
      have h4 := foldl_rule o (rulesL m) (priceN m o r) (priceN_len m o r) rules_rul (i, v) (rul_rules ⟨g1, g3, g4⟩)
      show c + d ≤ (roundP m o (priceN m o r)).getD v 0
      refine Int.le_trans ?_ h4
      show c + d ≤ (priceN m o r).getD (getN o i) 0 + wv m i v - wv m i (getN o i)
      rw [g2]
      omega
theorem price_stable {m : Mt} {t : Td} (B : BestF m t) {r : Nat} (hr : m.length ≤ r + 1) : priceN m t.gets (r + 1) = priceN m t.gets r := by
  apply List.ext_getElem?
  intro k
  rcases Nat.lt_or_ge k m.length with hk | hk
  · rw [get_of_lt 0 (by rw [priceN_len]; exact hk), get_of_lt 0 (by rw [priceN_len]; exact hk)]
    obtain ⟨l, h1, h2⟩ := (price_inv B (r + 1)).way k hk
    have hlt := h1.lt
    have hlen := nodup_lt m.length (k :: l) h2 fun x hx => by rcases List.mem_cons.1 hx with rfl | hx; exact hk; exact hlt.2 x hx
    have h3 := price_reach h1 r (by rw [List.length_cons] at hlen; omega)
    have h4 := price_up m t.gets r k
    rw [Int.le_antisymm h3 h4]
  · rw [List.getElem?_eq_none (by rw [priceN_len]; exact hk), List.getElem?_eq_none (by rw [priceN_len]; exact hk)]
theorem price_more {m : Mt} {t : Td} (B : BestF m t) {r s : Nat} (h : m.length ≤ r + 1) : priceN m t.gets (r + s) = priceN m t.gets r := by
  induction s with
  | zero => rfl
  | succ s ih => rw [← Nat.add_assoc, price_stable B (by omega), ih]
/-- a round that changes nothing is the last one -/
theorem price_end {m : Mt} {o : List Int} {r : Nat} (h : priceN m o (r + 1) = priceN m o r) : ∀ s, priceN m o (r + s) = priceN m o r
  | 0 => rfl
  | s + 1 => by
    have ih := price_end h s
    show roundP m o (priceN m o (r + s)) = _
    rw [ih]; exact h
structure PriceF (m : Mt) (o ps : List Int) : Prop where
  len : ps.length = m.length
  lo : ∀ k, 0 ≤ ps.getD k 0
  hi : ∀ k, ps.getD k 0 ≤ 6000
  rule : ∀ x, Rul m x → mustP m o ps x ≤ ps.getD x.2 0
  least : ∀ qs : List Int, (∀ k, 0 ≤ qs.getD k 0) → (∀ x, Rul m x → mustP m o qs x ≤ qs.getD x.2 0) → ∀ k, ps.getD k 0 ≤ qs.getD k 0
theorem price_F {m : Mt} (hm : MkF m) {t : Td} (B : BestF m t) : PriceF m t.gets (priceN m t.gets m.length) := by
  have hn := hm.n7
  refine ⟨priceN_len _ _ _, price_lo _ _ _, fun k => ?_, fun x hx => ?_, fun qs h1 h2 => ?_⟩
  · rcases Nat.lt_or_ge k m.length with hk | hk
    · obtain ⟨l, h1, h2⟩ := (price_inv B m.length).way k hk
      have hlt := h1.lt
      have hlen := nodup_lt m.length (k :: l) h2 fun x hx => by rcases List.mem_cons.1 hx with rfl | hx; exact hk; exact hlt.2 x hx
      have h3 := h1.bd hm
      rw [List.length_cons] at hlen
      omega
    · rw [getD_big (by rw [priceN_len]; exact hk)]; omega
  · have h := foldl_rule t.gets (rulesL m) (priceN m t.gets m.length) (priceN_len _ _ _) rules_rul x (rul_rules hx)
    rw [show (rulesL m).foldl (relaxP m t.gets) (priceN m t.gets m.length) = priceN m t.gets (m.length + 1) from rfl, price_stable B (by omega)] at h
    exact h
  · have key : ∀ r k, (priceN m t.gets r).getD k 0 ≤ qs.getD k 0 := fun r => by
      induction r with
      | zero =>
        intro k
        refine Int.le_trans ?_ (h1 k)
        unfold priceN
        rw [List.getD_eq_getElem?_getD, List.getElem?_replicate]
        by_cases h : k < m.length
        · rw [if_pos h]; exact Int.le_refl _
        · rw [if_neg h]; exact Int.le_refl _
      | succ r ih => exact foldl_least h2 _ _ (priceN_len _ _ _) rules_rul ih
    exact key _
end Go.Proofs.YtpijahglojichaaDoor
