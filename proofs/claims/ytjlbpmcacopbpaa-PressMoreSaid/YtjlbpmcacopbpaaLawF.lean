/- How far spans lie apart: plain. -/
import Derived.Test.YtjlbpmcacopbpaaDat
namespace Go.Proofs.Ytjlbpmcacopbpaa
theorem gtV_take {l : List Int} {a : Int} {k : Nat} (h : k < l.length) : gtV a (l.take (k + 1)) = max (gtV a (l.take k)) (l.getD k 0) := by
  unfold gtV
  rw [List.take_add_one, List.getElem?_eq_getElem h, Option.toList_some, List.foldl_append, List.getD_eq_getElem?_getD, List.getElem?_eq_getElem h]
  rfl
theorem ltV_take {l : List Int} {a : Int} {k : Nat} (h : k < l.length) : ltV a (l.take (k + 1)) = min (ltV a (l.take k)) (l.getD k 0) := by
  unfold ltV
  rw [List.take_add_one, List.getElem?_eq_getElem h, Option.toList_some, List.foldl_append, List.getD_eq_getElem?_getD, List.getElem?_eq_getElem h]
  rfl
theorem gtV_ge : ∀ (l : List Int) (a : Int), a ≤ gtV a l ∧ ∀ x, x ∈ l → x ≤ gtV a l
  | [], a => ⟨Int.le_refl _, fun x h => by cases h⟩
  | y :: l, a => by
    obtain ⟨h1, h2⟩ := gtV_ge l (max a y)
    show a ≤ gtV (max a y) l ∧ ∀ x, x ∈ y :: l → x ≤ gtV (max a y) l
    refine ⟨by omega, fun x hx => ?_⟩
    rcases List.mem_cons.1 hx with rfl | hx
    · omega
    · exact h2 x hx
theorem gtV_at : ∀ (l : List Int) (a : Int), gtV a l = a ∨ gtV a l ∈ l
  | [], a => .inl rfl
  | y :: l, a => by
    show gtV (max a y) l = a ∨ gtV (max a y) l ∈ y :: l
    rcases gtV_at l (max a y) with h | h
    · rcases Int.le_total a y with h1 | h1
      · right; rw [h, show max a y = y by omega]; exact List.mem_cons_self ..
      · left; omega
    · right; exact List.mem_cons_of_mem _ h
theorem ltV_le : ∀ (l : List Int) (a : Int), ltV a l ≤ a ∧ ∀ x, x ∈ l → ltV a l ≤ x
  | [], a => ⟨Int.le_refl _, fun x h => by cases h⟩
  | y :: l, a => by
    obtain ⟨h1, h2⟩ := ltV_le l (min a y)
    show ltV (min a y) l ≤ a ∧ ∀ x, x ∈ y :: l → ltV (min a y) l ≤ x
    refine ⟨by omega, fun x hx => ?_⟩
    rcases List.mem_cons.1 hx with rfl | hx
    · omega
    · exact h2 x hx
theorem ltV_at : ∀ (l : List Int) (a : Int), ltV a l = a ∨ ltV a l ∈ l
  | [], a => .inl rfl
  | y :: l, a => by
    show ltV (min a y) l = a ∨ ltV (min a y) l ∈ y :: l
    rcases ltV_at l (min a y) with h | h
    · rcases Int.le_total a y with h1 | h1
      · left; omega
      · right; rw [h, show min a y = y by omega]; exact List.mem_cons_self ..
    · right; exact List.mem_cons_of_mem _ h
/-! ### the specification's way -/
def maxIn (f : Nat → Nat → Int) (i : Nat) : Nat → Int → Int
  | 0, a => a
  | k + 1, a => if i = k then maxIn f i k a else max (maxIn f i k a) (f i k)
def maxOut (f : Nat → Nat → Int) (n : Nat) : Nat → Int
  | 0 => 0
  | i + 1 => maxIn f i n (maxOut f n i)
theorem maxIn_ge (f : Nat → Nat → Int) (i : Nat) : ∀ (n : Nat) (a : Int), a ≤ maxIn f i n a ∧ ∀ k, k < n → i ≠ k → f i k ≤ maxIn f i n a
  | 0, a => ⟨Int.le_refl _, fun k h => absurd h (Nat.not_lt_zero k)⟩
  | n + 1, a => by
    obtain ⟨h1, h2⟩ := maxIn_ge f i n a
    unfold maxIn
    split
    · rename_i e
      refine ⟨h1, fun k hk hik => h2 k (by omega) hik⟩
    · refine ⟨by omega, fun k hk hik => ?_⟩
      rcases Nat.lt_succ_iff_lt_or_eq.1 hk with h3 | rfl
      · have := h2 k h3 hik; omega
      · omega
theorem maxIn_at (f : Nat → Nat → Int) (i : Nat) : ∀ (n : Nat) (a : Int), maxIn f i n a = a ∨ ∃ k, k < n ∧ i ≠ k ∧ maxIn f i n a = f i k
  | 0, a => .inl rfl
  | n + 1, a => by
    unfold maxIn
    split
    · rcases maxIn_at f i n a with h | ⟨k, hk, hik, h⟩
      · exact .inl h
      · exact .inr ⟨k, by omega, hik, h⟩
    · rename_i e
      rcases Int.le_total (maxIn f i n a) (f i n) with h1 | h1
      · exact .inr ⟨n, by omega, e, by omega⟩
      · rcases maxIn_at f i n a with h | ⟨k, hk, hik, h⟩
        · exact .inl (by omega)
        · exact .inr ⟨k, by omega, hik, by omega⟩
theorem maxOut_ge (f : Nat → Nat → Int) (n : Nat) : ∀ m, 0 ≤ maxOut f n m ∧ ∀ i k, i < m → k < n → i ≠ k → f i k ≤ maxOut f n m
  | 0 => ⟨Int.le_refl _, fun i k h => absurd h (Nat.not_lt_zero i)⟩
  | m + 1 => by
    obtain ⟨h1, h2⟩ := maxOut_ge f n m
    obtain ⟨h3, h4⟩ := maxIn_ge f m n (maxOut f n m)
    show 0 ≤ maxIn f m n (maxOut f n m) ∧ ∀ i k, _ → _ → _ → f i k ≤ maxIn f m n (maxOut f n m)
    refine ⟨by omega, fun i k hi hk hik => ?_⟩
    rcases Nat.lt_succ_iff_lt_or_eq.1 hi with h5 | rfl
    · have := h2 i k h5 hk hik; omega
    · exact h4 k hk hik
theorem maxOut_at (f : Nat → Nat → Int) (n : Nat) : ∀ m, maxOut f n m = 0 ∨ ∃ i k, i < m ∧ k < n ∧ i ≠ k ∧ maxOut f n m = f i k
  | 0 => .inl rfl
  | m + 1 => by
    show maxIn f m n (maxOut f n m) = 0 ∨ ∃ i k, _ ∧ _ ∧ _ ∧ maxIn f m n (maxOut f n m) = f i k
    rcases maxIn_at f m n (maxOut f n m) with h | ⟨k, hk, hik, h⟩
    · rcases maxOut_at f n m with h1 | ⟨i, k, hi, hk, hik, h1⟩
      · exact .inl (by omega)
      · exact .inr ⟨i, k, by omega, hk, hik, by omega⟩
    · exact .inr ⟨m, k, by omega, hk, hik, h⟩
def farF (l : List Sp) (i k : Nat) : Int := (l.getD i sp0).hi - (l.getD k sp0).lo
def nearF (l : List Sp) (i k : Nat) : Int := (l.getD i sp0).lo - (l.getD k sp0).hi
theorem farIn_eq (l : List Sp) (i : Nat) : ∀ (k : Nat) (a : Int), farIn l i k a = maxIn (farF l) i k a
  | 0, _ => rfl
  | k + 1, a => by unfold farIn maxIn; rw [farIn_eq l i k a]; rfl
theorem farOut_eq (l : List Sp) : ∀ m, farOut l m = maxOut (farF l) l.length m
  | 0 => rfl
  | m + 1 => by unfold farOut maxOut; rw [farIn_eq, farOut_eq l m]
theorem near_eq {l : List Sp} (hne : 0 < l.length) (hs : ∀ i, i < l.length → (l.getD i sp0).lo ≤ (l.getD i sp0).hi) : maxOut (nearF l) l.length l.length = max 0 (gtV (l.getD 0 sp0).lo (l.map (·.lo)) - ltV (l.getD 0 sp0).hi (l.map (·.hi))) := by
  have hget : ∀ i, i < l.length → l.getD i sp0 ∈ l := fun i hi => by rw [List.getD_eq_getElem?_getD, List.getElem?_eq_getElem hi]; exact List.getElem_mem hi
  have hidx : ∀ s, s ∈ l → ∃ i, i < l.length ∧ l.getD i sp0 = s := fun s hs => by
    obtain ⟨i, hi, rfl⟩ := List.getElem_of_mem hs
    exact ⟨i, hi, by rw [List.getD_eq_getElem?_getD, List.getElem?_eq_getElem hi]; rfl⟩
  have hg := gtV_ge (l.map (·.lo)) (l.getD 0 sp0).lo
  have hl := ltV_le (l.map (·.hi)) (l.getD 0 sp0).hi
  obtain ⟨i0, hi0, e0⟩ : ∃ i, i < l.length ∧ gtV (l.getD 0 sp0).lo (l.map (·.lo)) = (l.getD i sp0).lo := by
    rcases gtV_at (l.map (·.lo)) (l.getD 0 sp0).lo with h | h
    · exact ⟨0, hne, h⟩
    · obtain ⟨s, hs, he⟩ := List.mem_map.1 h
      obtain ⟨i, hi, rfl⟩ := hidx s hs
      exact ⟨i, hi, he.symm⟩
  obtain ⟨k0, hk0, f0⟩ : ∃ i, i < l.length ∧ ltV (l.getD 0 sp0).hi (l.map (·.hi)) = (l.getD i sp0).hi := by
    rcases ltV_at (l.map (·.hi)) (l.getD 0 sp0).hi with h | h
    · exact ⟨0, hne, h⟩
    · obtain ⟨s, hs, he⟩ := List.mem_map.1 h
      obtain ⟨i, hi, rfl⟩ := hidx s hs
      exact ⟨i, hi, he.symm⟩
  have hm := maxOut_ge (nearF l) l.length l.length
  have h1 : gtV (l.getD 0 sp0).lo (l.map (·.lo)) - ltV (l.getD 0 sp0).hi (l.map (·.hi)) ≤ maxOut (nearF l) l.length l.length := by
    by_cases e : i0 = k0
    · subst e; have := hs i0 hi0; omega
    · have := hm.2 i0 k0 hi0 hk0 e
      unfold nearF at this ⊢; omega
  have h2 : maxOut (nearF l) l.length l.length ≤ max 0 (gtV (l.getD 0 sp0).lo (l.map (·.lo)) - ltV (l.getD 0 sp0).hi (l.map (·.hi))) := by
    rcases maxOut_at (nearF l) l.length l.length with h | ⟨i, k, hi, hk, _, h⟩
    · omega
    · have a1 := hg.2 _ (List.mem_map.2 ⟨_, hget i hi, rfl⟩)
      have a2 := hl.2 _ (List.mem_map.2 ⟨_, hget k hk, rfl⟩)
      rw [h]; unfold nearF; omega
  omega
theorem apart_eq {l : List Sp} (hne : 0 < l.length) (hs : ∀ i, i < l.length → (l.getD i sp0).lo ≤ (l.getD i sp0).hi) : (⟨maxOut (nearF l) l.length l.length, maxOut (farF l) l.length l.length⟩ : Sp) = apartV l := by
  unfold apartV
  rw [near_eq hne hs, farOut_eq]
theorem farIn_bd {l : List Sp} (hb : ∀ i, i < l.length → -1000 ≤ (l.getD i sp0).lo ∧ (l.getD i sp0).lo ≤ (l.getD i sp0).hi ∧ (l.getD i sp0).hi ≤ 1000) {i : Nat} (hi : i < l.length) : ∀ k, k ≤ l.length → ∀ a : Int, 0 ≤ a ∧ a ≤ 2000 → 0 ≤ farIn l i k a ∧ farIn l i k a ≤ 2000
  | 0, _, _, h => h
  | k + 1, hk, a, h => by
    have ih := farIn_bd hb hi k (by omega) a h
    have h1 := hb i hi
    have h2 := hb k (by omega)
    unfold farIn
    split
    · exact ih
    · omega
theorem farOut_bd {l : List Sp} (hb : ∀ i, i < l.length → -1000 ≤ (l.getD i sp0).lo ∧ (l.getD i sp0).lo ≤ (l.getD i sp0).hi ∧ (l.getD i sp0).hi ≤ 1000) : ∀ m, m ≤ l.length → 0 ≤ farOut l m ∧ farOut l m ≤ 2000
  | 0, _ => ⟨Int.le_refl _, by show (0 : Int) ≤ 2000; decide⟩
  | m + 1, hm => farIn_bd hb (by omega) l.length (Nat.le_refl _) _ (farOut_bd hb m (by omega))
/-! ### sheets -/
theorem good_mono {s : Sp} (h0 : 0 ≤ s.hi) (h9 : s.hi ≤ 900) {n m : Int} (h : n ≤ m) : (goodV s n).lo ≤ (goodV s m).lo := by
  obtain ⟨k, rfl⟩ : ∃ k : Nat, m = n + k := ⟨(m - n).toNat, by omega⟩
  clear h
  induction k with
  | zero => simp
  | succ k ih =>
    refine Int.le_trans ih ?_
    unfold goodV
    dsimp only
    rw [show n + ((k + 1 : Nat) : Int) = (n + (k : Int)) + 1 by omega, Int.add_mul (n + (k : Int)) 1 s.hi, Int.one_mul]
    generalize (n + (k : Int)) * s.hi = q
    omega
theorem good_enough {s : Sp} (h9 : s.hi ≤ 900) {n : Int} (hn : 0 ≤ n) : n - 10 ≤ 10 * (goodV s n).lo := by
  unfold goodV
  dsimp only
  have : n * s.hi ≤ n * 900 := Int.mul_le_mul_of_nonneg_left h9 hn
  omega
end Go.Proofs.Ytjlbpmcacopbpaa
