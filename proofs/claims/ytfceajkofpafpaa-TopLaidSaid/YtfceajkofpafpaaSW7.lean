/- The reference's lists are all lists; what fits, of the reference. -/
import Derived.Test.YtfceajkofpafpaaSW6
namespace Go.Proofs.Ytfceajkofpafpaa.Sc
open Go Go.Eng Go.RowKit Go.Proofs
set_option maxRecDepth 100000
theorem lostK_add (done : List Int) (n : Int) : ∀ k, k ≤ done.length → lostK (done ++ [n]) k = lostK done k
  | 0, _ => rfl
  | k + 1, h => by unfold lostK; rw [lostK_add done n k (by omega), getD_append_lt (by omega)]
theorem extraK_add (done : List Int) (n : Int) : ∀ k, k ≤ done.length → extraK (done ++ [n]) k = extraK done k
  | 0, _ => rfl
  | k + 1, h => by unfold extraK; rw [extraK_add done n k (by omega), getD_append_lt (by omega)]
theorem lostK_snoc (done : List Int) (n : Int) : lostK (done ++ [n]) (done.length + 1) = lostK done done.length + max 0 (-n) := by
  unfold lostK; rw [lostK_add done n _ (Nat.le_refl _), getD_append_eq]
  cases done <;> rfl
theorem extraK_snoc (done : List Int) (n : Int) : extraK (done ++ [n]) (done.length + 1) = extraK done done.length + max 0 n := by
  unfold extraK; rw [extraK_add done n _ (Nat.le_refl _), getD_append_eq]
  cases done <;> rfl
theorem okC_add (b : Bx) (done : List Int) (n : Int) {i : Nat} (h : i < done.length) : okC b (done ++ [n]) i = okC b done i := by unfold okC; rw [getD_append_lt h]
def Bad (b : Bx) (p : List Int) : Prop := (∃ i, i < p.length ∧ okC b p i = false) ∨ b.lost < lostK p p.length ∨ b.extra < extraK p p.length
theorem Bad.add {b : Bx} {p : List Int} (h : Bad b p) (n : Int) : Bad b (p ++ [n]) := by
  have hl : (p ++ [n]).length = p.length + 1 := by simp
  rcases h with ⟨i, hi, h⟩ | h | h
  · exact .inl ⟨i, by omega, by rw [okC_add b p n hi]; exact h⟩
  · refine .inr (.inl ?_); rw [hl, lostK_snoc]; omega
  · refine .inr (.inr ?_); rw [hl, extraK_snoc]; omega
theorem refL_bad {b : Bx} : ∀ (k : Nat) {p : List Int}, Bad b p → refL b k p = []
  | 0, p, h => by
    unfold refL
    rw [if_neg]
    intro hc
    simp only [canV, Bool.and_eq_true, decide_eq_true_eq, List.all_eq_true, List.mem_range] at hc
    rcases h with ⟨i, hi, h⟩ | h | h
    · rw [hc.1.2 i hi] at h; cases h
    · omega
    · omega
  | k + 1, p, h => by
    unfold refL
    rw [List.flatMap_eq_nil_iff]
    intro i _
    exact refL_bad k (h.add _)
theorem range8_flat {α : Type} (G : Int → List α) {lo hi : Int} (h1 : -4 ≤ lo ∧ lo ≤ 0) (h2 : 0 ≤ hi ∧ hi ≤ 3) : ((List.range 8).flatMap fun i => if lo ≤ ((i : Nat) : Int) - 4 ∧ ((i : Nat) : Int) - 4 ≤ hi then G (((i : Nat) : Int) - 4) else []) = (fromTo lo hi).flatMap G := by
  have a : lo = -4 ∨ lo = -3 ∨ lo = -2 ∨ lo = -1 ∨ lo = 0 := by omega
  have b : hi = 0 ∨ hi = 1 ∨ hi = 2 ∨ hi = 3 := by omega
  rcases a with rfl | rfl | rfl | rfl | rfl <;> rcases b with rfl | rfl | rfl | rfl <;> rfl
theorem flatMap_congr {α β : Type} {l : List α} {f g : α → List β} (h : ∀ x, x ∈ l → f x = g x) : l.flatMap f = l.flatMap g := by
  induction l with
  | nil => rfl
  | cons a l ih => rw [List.flatMap_cons, List.flatMap_cons, h a (List.mem_cons_self ..), ih fun x hx => h x (List.mem_cons_of_mem _ hx)]
theorem refL_gen {b : Bx} (hok : bxB b = true) : ∀ (ks : List Kd) (done : List Int), b.kinds.drop done.length = ks → done.length ≤ b.kinds.length → (∀ i, i < done.length → okC b done i = true) → (0 ≤ lostK done done.length ∧ lostK done done.length ≤ b.lost) → (0 ≤ extraK done done.length ∧ extraK done done.length ≤ b.extra) →
    refL b ks.length done = (genL ks (b.lost - lostK done done.length) (b.extra - extraK done done.length)).map (done ++ ·) := by
  have hbp := bxB_parts hok
  intro ks
  induction ks with
  | nil =>
    intro done hks hdl hall hl he
    have hdl2 : done.length = b.kinds.length := by have := List.drop_eq_nil_iff.1 hks; omega
    have hc : canV b done = true := by
      simp only [canV, Bool.and_eq_true, decide_eq_true_eq, List.all_eq_true, List.mem_range]
      exact ⟨⟨hdl2, hall⟩, hl.2, he.2⟩
    show refL b 0 done = _
    unfold refL
    rw [if_pos hc]; simp [genL]
  | cons kd ks ih =>
    intro done hks hdl hall hl he
    have hkk : done.length < b.kinds.length := by
      rcases Nat.lt_or_ge done.length b.kinds.length with h | h
      · exact h
      · rw [List.drop_eq_nil_of_le h] at hks; cases hks
    have hkd : b.kinds.getD done.length kd0 = kd ∧ b.kinds.drop (done.length + 1) = ks := by
      rw [List.drop_eq_getElem_cons hkk] at hks
      injection hks with h1 h2
      exact ⟨by rw [List.getD_eq_getElem?_getD, List.getElem?_eq_getElem hkk]; exact h1, h2⟩
    have hbd := kd_bd hok hkk
    rw [hkd.1] at hbd
    show ((List.range 8).flatMap fun i => refL b ks.length (done ++ [((i : Nat) : Int) - 4])) = _
    unfold genL
    rw [List.map_flatMap, ← range8_flat _ (by omega) (by omega)]
    refine flatMap_congr fun i hi => ?_
    have hi8 := List.mem_range.1 hi
    generalize hn : ((i : Nat) : Int) - 4 = n
    have hlen : (done ++ [n]).length = done.length + 1 := by simp
    split
    · have hok2 : okC b (done ++ [n]) done.length = true := by unfold okC; rw [hkd.1, getD_append_eq]; exact decide_eq_true (by omega)
      have h := ih (done ++ [n]) (by rw [hlen]; exact hkd.2) (by omega) (fun i hi => by
        rcases Nat.lt_succ_iff_lt_or_eq.1 (by rw [hlen] at hi; exact hi) with h | rfl
        · rw [okC_add b done n h]; exact hall i h
        · exact hok2) (by rw [hlen, lostK_snoc]; omega) (by rw [hlen, extraK_snoc]; omega)
      rw [h, hlen, lostK_snoc, extraK_snoc, List.map_map]
      have e1 : b.lost - (lostK done done.length + max 0 (-n)) = b.lost - lostK done done.length - max 0 (-n) := by omega
      have e2 : b.extra - (extraK done done.length + max 0 n) = b.extra - extraK done done.length - max 0 n := by omega
      rw [e1, e2]
      refine List.map_congr_left fun x _ => ?_
      simp
    · refine refL_bad _ ?_
      rename_i hno
      by_cases h1 : okC b (done ++ [n]) done.length = true
      · unfold okC at h1
        rw [hkd.1, getD_append_eq] at h1
        have h1 := of_decide_eq_true h1
        by_cases h2 : b.lost < lostK done done.length + max 0 (-n)
        · exact .inr (.inl (by rw [hlen, lostK_snoc]; exact h2))
        · exact .inr (.inr (by rw [hlen, extraK_snoc]; omega))
      · exact .inl ⟨done.length, by omega, by simpa using h1⟩
theorem refL_all {b : Bx} (hok : bxB b = true) : refL b b.kinds.length [] = allL b := by
  have hbp := bxB_parts hok
  have := refL_gen hok b.kinds [] rfl (Nat.zero_le _) (fun i hi => absurd hi (Nat.not_lt_zero i)) ⟨Int.le_refl _, hbp.2.1.1⟩ ⟨Int.le_refl _, hbp.2.2.1.1⟩
  rw [this]
  show List.map (fun x => [] ++ x) (genL b.kinds (b.lost - 0) (b.extra - 0)) = allL b
  simp [allL]

theorem all_range_get {α : Type} (l : List α) (d : α) (p : α → Bool) : (List.range l.length).all (fun i => p (l.getD i d)) = l.all p := by
  have h := any_range_get l d (fun x => !p x)
  have e1 : ((List.range l.length).any fun i => !p (l.getD i d)) = !(List.range l.length).all fun i => p (l.getD i d) := all_not_any _ _
  rw [e1, all_not_any] at h
  exact Bool.not_inj h
theorem genL_ok {b : Bx} (hok : bxB b = true) : ∀ (ks : List Kd) (done : List Int), b.kinds.drop done.length = ks → HasP b done → ∀ lost extra : Int, 0 ≤ lost ∧ lost ≤ 4 → 0 ≤ extra ∧ extra ≤ 3 → ∀ h, h ∈ genL ks lost extra → HasOk b (done ++ h)
  | [], done, hks, hd, _, _, _, _, h, hh => by
    simp only [genL, List.mem_singleton] at hh
    subst hh
    rw [List.append_nil]
    exact hd.ok (by have := List.drop_eq_nil_iff.1 hks; have := hd.len; omega)
  | kd :: ks, done, hks, hd, lost, extra, hlo, hex, h, hh => by
    have hkk : done.length < b.kinds.length := by
      rcases Nat.lt_or_ge done.length b.kinds.length with h | h
      · exact h
      · rw [List.drop_eq_nil_of_le h] at hks; cases hks
    have hkd : b.kinds.getD done.length kd0 = kd ∧ b.kinds.drop (done.length + 1) = ks := by
      rw [List.drop_eq_getElem_cons hkk] at hks
      injection hks with h1 h2
      exact ⟨by rw [List.getD_eq_getElem?_getD, List.getElem?_eq_getElem hkk]; exact h1, h2⟩
    have hbd := kd_bd hok hkk
    rw [hkd.1] at hbd
    unfold genL at hh
    obtain ⟨n, hn, h2⟩ := List.mem_flatMap.1 hh
    obtain ⟨h3, h4, rfl⟩ := List.mem_map.1 h2
    obtain ⟨i, hi, rfl⟩ := List.mem_map.1 hn
    have hi := List.mem_range.1 hi
    have := genL_ok hok ks (done ++ [-min lost kd.many + (i : Nat)]) (by rw [List.length_append]; exact hkd.2) (hd.add hkk (by rw [hkd.1]; omega)) _ _ (by omega) (by omega) h3 h4
    rwa [List.append_assoc] at this
theorem allL_ok {b : Bx} (hok : bxB b = true) (h : List Int) (hh : h ∈ allL b) : HasOk b h := by
  have hbp := bxB_parts hok
  have := genL_ok hok b.kinds [] rfl (HasP.nil b) b.lost b.extra hbp.2.1 hbp.2.2.1 h hh
  rwa [List.nil_append] at this
/-- lists of an own slice, whose rows lie in new memory -/
theorem lists_of {w0 w wr : World} {rs : List Res} (hw : Hp w0 rs w) {lo : Nat} {e : TypeId} {vo : Value} {st : List (Value × List Int)} (ho : Res.own vo e 1 st.length (st.map (·.1)) ∈ rs) (hm : Res.reg 0 w0 ∈ rs) (hr : Res.reg lo wr ∈ rs) (hlo : w0.heap.size ≤ lo) (hst : ∀ p, p ∈ st → ∃ a c, p.1 = .slice a p.2.length c ∧ RowsA iRow 1 lo wr a p.2) (hb : st.length ≤ 100000) :
    ∃ a f c cf, vo = .slice a st.length c ∧ LLA w0.heap.size w a f cf (st.map (·.2)) := by
  have h1 := own_new_mem hw ho hm
  rw [← flat_v (st.map (·.1))] at h1
  obtain ⟨a, c, hv, _, hrr⟩ := own_rowsA (row := vRow) (fun _ => rfl) h1 (by simp) (by omega)
  refine ⟨a, fun i => baseA ((st.map (·.1)).getD i (.slice none 0 0)), c, fun i => capA ((st.map (·.1)).getD i (.slice none 0 0)), hv, ⟨fun i h hih => ?_, by simp; omega⟩⟩
  obtain ⟨p, hp, rfl⟩ : ∃ p, st[i]? = some p ∧ p.2 = h := by
    rw [List.getElem?_map] at hih
    cases hp : st[i]? with
    | none => rw [hp] at hih; cases hih
    | some p => rw [hp] at hih; simp at hih; exact ⟨p, rfl, hih⟩
  have hg : (st.map (·.1))[i]? = some p.1 := by rw [List.getElem?_map, hp]; rfl
  obtain ⟨a2, c2, hv2, hr2⟩ := hst p (List.mem_of_getElem? hp)
  have h3 := hrr.el i p.1 hg
  have hgd : (st.map (·.1)).getD i (.slice none 0 0) = p.1 := by rw [List.getD_eq_getElem?_getD, hg]; rfl
  refine ⟨h3.1, ?_, ?_⟩
  · rw [hgd, hv2]; have := h3.2; rw [hv2] at this; exact this
  · rw [hgd, hv2]
    exact RowsA.low ⟨fun i x hi => ⟨(hr2.el i x hi).1, CA.keep (hr2.el i x hi).2 hw hr⟩, hr2.len⟩ hlo
end Go.Proofs.Ytfceajkofpafpaa.Sc
