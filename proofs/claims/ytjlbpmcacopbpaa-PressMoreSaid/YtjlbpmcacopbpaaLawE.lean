/- Both ends of fringes are reached; one sheet less is not enough. No program in sight. -/
import Derived.Test.YtjlbpmcacopbpaaLawX
namespace Go.Proofs.Ytjlbpmcacopbpaa
def owY (xs : List Sp) (P : Int) (i : Nat) : Int := min (xs.getD i sp0).hi (max (xs.getD i sp0).lo P)
def lowK (xs : List Sp) (P : Int) : Nat → Int
  | 0 => P
  | i + 1 => min (lowK xs P i) (owY xs P i)
theorem lowK_le (xs : List Sp) (P : Int) : ∀ n, lowK xs P n ≤ P ∧ (∀ i, i < n → lowK xs P n ≤ owY xs P i) ∧ (lowK xs P n = P ∨ ∃ i, i < n ∧ lowK xs P n = owY xs P i)
  | 0 => ⟨Int.le_refl _, fun i h => absurd h (Nat.not_lt_zero i), .inl rfl⟩
  | n + 1 => by
    obtain ⟨h1, h2, h3⟩ := lowK_le xs P n
    show min (lowK xs P n) (owY xs P n) ≤ P ∧ (∀ i, _ → min (lowK xs P n) (owY xs P n) ≤ owY xs P i) ∧ (min (lowK xs P n) (owY xs P n) = P ∨ ∃ i, _ ∧ min (lowK xs P n) (owY xs P n) = owY xs P i)
    refine ⟨by omega, fun i hi => ?_, ?_⟩
    · rcases Nat.lt_succ_iff_lt_or_eq.1 hi with h | rfl
      · have := h2 i h; omega
      · omega
    · rcases Int.le_total (lowK xs P n) (owY xs P n) with h | h
      · rw [Int.min_eq_left h]
        rcases h3 with h4 | ⟨i, hi, h4⟩
        · exact .inl h4
        · exact .inr ⟨i, by omega, h4⟩
      · rw [Int.min_eq_right h]; exact .inr ⟨n, by omega, rfl⟩
def placeX (xs : List Sp) : Int := gtV (xs.getD 0 sp0).lo (xs.map (·.lo))
theorem place_ge {xs : List Sp} {i : Nat} (h : i < xs.length) : (xs.getD i sp0).lo ≤ placeX xs := (gtV_ge (xs.map (·.lo)) _).2 _ (List.mem_map.2 ⟨_, List.mem_of_getElem? (get_of_lt sp0 h), rfl⟩)
theorem owY_eq {xs : List Sp} {i : Nat} (h : i < xs.length) : owY xs (placeX xs) i = min (xs.getD i sp0).hi (placeX xs) := by
  have := place_ge h
  unfold owY; omega
theorem ends_near {xs : List Sp} (h : 0 < xs.length) : placeX xs - lowK xs (placeX xs) xs.length = (apartV xs).lo := by
  obtain ⟨h1, h2, h3⟩ := lowK_le xs (placeX xs) xs.length
  show _ = max 0 (placeX xs - ltV (xs.getD 0 sp0).hi (xs.map (·.hi)))
  have hl := ltV_le (xs.map (·.hi)) (xs.getD 0 sp0).hi
  obtain ⟨k, hk, ek⟩ : ∃ k, k < xs.length ∧ ltV (xs.getD 0 sp0).hi (xs.map (·.hi)) = (xs.getD k sp0).hi := by
    rcases ltV_at (xs.map (·.hi)) (xs.getD 0 sp0).hi with e | e
    · exact ⟨0, h, e⟩
    · obtain ⟨s, hs, he⟩ := List.mem_map.1 e
      obtain ⟨i, hi, rfl⟩ := List.getElem_of_mem hs
      exact ⟨i, hi, by rw [← he, List.getD_eq_getElem?_getD, List.getElem?_eq_getElem hi]; rfl⟩
  have h4 := h2 k hk
  rw [owY_eq hk] at h4
  rcases h3 with e | ⟨i, hi, e⟩
  · omega
  · rw [owY_eq hi] at e
    have h5 := hl.2 _ (List.mem_map.2 ⟨_, List.mem_of_getElem? (get_of_lt sp0 hi), rfl⟩)
    omega
structure SheetF (s : Sp) (need : Int) : Prop where
  sp : spB s 0 900 = true
  inn : 0 ≤ need ∧ need ≤ 50000
  le : sheetsV s need ≤ 600000
  val : (sheetsR s need).1 = (sheetsV s need : Int)
  enough : need ≤ (goodV s (sheetsV s need)).lo
  less : ∀ j : Nat, j < sheetsV s need → (goodV s j).lo < need
theorem seekN_le2 (q : Nat → Bool) (n : Nat) (hn : q n = true) : ∀ (f k : Nat), k ≤ n → seekN q f k ≤ n
  | 0, k, h => by unfold seekN; exact h
  | f + 1, k, h => by
    unfold seekN
    cases hq : q k
    · rw [if_neg (by simp)]
      have : k ≠ n := fun e => by rw [e, hn] at hq; cases hq
      exact seekN_le2 q n hn f (k + 1) (by omega)
    · rw [if_pos rfl]; exact h
theorem sheets_ok {s : Sp} {need : Int} (h : (sheetsR s need).2 = 0) : SheetF s need := by
  unfold sheetsR at h
  split at h
  · cases h
  · rename_i h1
    split at h
    · cases h
    · rename_i h2
      have hs : spB s 0 900 = true := by simpa using h1
      have hi : inB need 0 50000 = true := by simpa using h2
      have hin : 0 ≤ need ∧ need ≤ 50000 := by unfold inB at hi; exact of_decide_eq_true hi
      have hbig := enough_big hs hin.2 (n := 500010) (Nat.le_refl _)
      have hle : sheetsV s need ≤ 500010 := seekN_le2 _ _ hbig 1048576 0 (Nat.zero_le _)
      have hf := seekN_first (enoughQ s need) 1048576 0 (by unfold sheetsV at hle; omega)
      refine ⟨hs, hin, by omega, by unfold sheetsR; rw [if_neg h1, if_neg h2], of_decide_eq_true hf.1, fun j hj => ?_⟩
      have := of_decide_eq_false (hf.2 j (Nat.zero_le _) hj)
      omega
theorem good_in {s : Sp} (hs : spB s 0 900 = true) {n : Int} (h0 : 0 ≤ n) (h1 : n ≤ 1048576) : goodR s n = (goodV s n, 0) := by
  unfold goodR inB
  rw [if_neg (by simp [hs]), if_neg (by simp; omega)]
theorem good_zero (s : Sp) : (goodV s 0).lo = 0 := by unfold goodV; simp
theorem chk_one {l : List Jb} {o : List Int} (h : chkV l o ≠ 0) : (chkV l o = 1 ∧ jobsB l = false) ∨ (chkV l o = 2 ∧ jobsB l = true ∧ ordB o l.length = false) := by
  unfold chkV at h ⊢
  by_cases h1 : jobsB l = false
  · exact .inl ⟨by rw [if_pos h1], h1⟩
  · by_cases h2 : ordB o l.length = false
    · exact .inr ⟨by rw [if_neg h1, if_pos h2], by simpa using h1, h2⟩
    · rw [if_neg h1, if_neg h2] at h; exact absurd rfl h
end Go.Proofs.Ytjlbpmcacopbpaa
