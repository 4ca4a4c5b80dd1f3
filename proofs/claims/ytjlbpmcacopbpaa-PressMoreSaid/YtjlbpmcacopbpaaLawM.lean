/- Truths within spans: what is reckoned of them is within, too. No program in sight. -/
import Derived.Test.YtjlbpmcacopbpaaLawE
import Derived.Test.YtjlbpmcacopbpaaLawZ
namespace Go.Proofs.Ytjlbpmcacopbpaa
theorem LeL.get {a b : List Tm} (h : LeL a b) : ∀ i, leT (a.getD i (0, 0)) (b.getD i (0, 0)) := by
  induction h with
  | nil => intro i; exact leT_refl _
  | cons h _ ih =>
    intro i
    cases i with
    | zero => exact h
    | succ i => exact ih i
theorem LeL.len {a b : List Tm} (h : LeL a b) : a.length = b.length := by
  induction h with
  | nil => rfl
  | cons _ _ ih => rw [List.length_cons, List.length_cons, ih]
theorem LeL.ord {a b : List Tm} (h : LeL a b) : ∀ o, LeL (ordT a o) (ordT b o)
  | [] => .nil
  | k :: o => .cons (h.get k.toNat) (LeL.ord h o)
theorem LeL.of {α : Type} (f g : α → Tm) : ∀ (l : List α), (∀ x, x ∈ l → leT (f x) (g x)) → LeL (l.map f) (l.map g)
  | [], _ => .nil
  | x :: l, h => .cons (h x (List.mem_cons_self ..)) (LeL.of f g l fun y hy => h y (List.mem_cons_of_mem _ hy))
theorem getD_set {α : Type} (l : List α) (j i : Nat) (x d : α) : (l.set j x).getD i d = if j = i ∧ j < l.length then x else l.getD i d := by
  rw [List.getD_eq_getElem?_getD, List.getD_eq_getElem?_getD, List.getElem?_set]
  by_cases h1 : j = i
  · subst h1
    by_cases h2 : j < l.length
    · rw [if_pos rfl, if_pos h2, if_pos ⟨rfl, h2⟩]; rfl
    · rw [if_pos rfl, if_neg h2, if_neg (fun h => h2 h.2), List.getElem?_eq_none (by omega)]
  · rw [if_neg h1, if_neg (fun h => h1 h.1)]
theorem ends_mono {a b : List Tm} (h : LeL a b) (o : List Int) : ∀ k i, (endsK a o k).getD i 0 ≤ (endsK b o k).getD i 0
  | 0, i => by unfold endsK; rw [h.len]; exact Int.le_refl _
  | k + 1, i => by
    have ih := ends_mono h o k i
    have hr := (run_mono (h.ord (o.take (k + 1))) (leT_refl (0, 0))).2
    unfold endsK
    have hla := endsK_len a o k
    have hlb := endsK_len b o k
    have hab := h.len
    rw [getD_set, getD_set, hla, hlb, hab]
    split
    · exact hr
    · exact ih
def pickV (s : Sp) (b : Int) : Int := s.lo + b % (s.hi - s.lo + 1)
theorem pick_in {s : Sp} (h : s.lo ≤ s.hi) (b : Int) : s.lo ≤ pickV s b ∧ pickV s b ≤ s.hi := by
  have h1 := Int.emod_nonneg b (show s.hi - s.lo + 1 ≠ 0 by omega)
  have h2 := Int.emod_lt_of_pos b (show 0 < s.hi - s.lo + 1 by omega)
  unfold pickV; omega
def byK (by_ : List Int) (i : Nat) : Int := by_.getD (i % by_.length) 0
def minK (f : Nat → Int) : Nat → Int
  | 0 => 1000
  | i + 1 => min (minK f i) (f i)
def maxK (f : Nat → Int) : Nat → Int
  | 0 => -1000
  | i + 1 => max (maxK f i) (f i)
theorem minK_le (f : Nat → Int) : ∀ n, (∀ i, i < n → minK f n ≤ f i) ∧ (minK f n = 1000 ∨ ∃ i, i < n ∧ minK f n = f i)
  | 0 => ⟨fun i h => absurd h (Nat.not_lt_zero i), .inl rfl⟩
  | n + 1 => by
    obtain ⟨h1, h2⟩ := minK_le f n
    unfold minK
    refine ⟨fun i hi => ?_, ?_⟩
    · rcases Nat.lt_succ_iff_lt_or_eq.1 hi with h | rfl
      · have := h1 i h; omega
      · omega
    · rcases Int.le_total (minK f n) (f n) with h | h
      · rw [Int.min_eq_left h]
        rcases h2 with h3 | ⟨i, hi, h3⟩
        · exact .inl h3
        · exact .inr ⟨i, by omega, h3⟩
      · rw [Int.min_eq_right h]; exact .inr ⟨n, by omega, rfl⟩
theorem maxK_ge (f : Nat → Int) : ∀ n, (∀ i, i < n → f i ≤ maxK f n) ∧ (maxK f n = -1000 ∨ ∃ i, i < n ∧ maxK f n = f i)
  | 0 => ⟨fun i h => absurd h (Nat.not_lt_zero i), .inl rfl⟩
  | n + 1 => by
    obtain ⟨h1, h2⟩ := maxK_ge f n
    unfold maxK
    refine ⟨fun i hi => ?_, ?_⟩
    · rcases Nat.lt_succ_iff_lt_or_eq.1 hi with h | rfl
      · have := h1 i h; omega
      · omega
    · rcases Int.le_total (maxK f n) (f n) with h | h
      · rw [Int.max_eq_right h]; exact .inr ⟨n, by omega, rfl⟩
      · rw [Int.max_eq_left h]
        rcases h2 with h3 | ⟨i, hi, h3⟩
        · exact .inl h3
        · exact .inr ⟨i, by omega, h3⟩
theorem span_true {xs : List Sp} (h0 : 0 < xs.length) (hb : ∀ i, i < xs.length → -1000 ≤ (xs.getD i sp0).lo ∧ (xs.getD i sp0).lo ≤ (xs.getD i sp0).hi ∧ (xs.getD i sp0).hi ≤ 1000) (f : Nat → Int) (hf : ∀ i, i < xs.length → (xs.getD i sp0).lo ≤ f i ∧ f i ≤ (xs.getD i sp0).hi) :
    ((apartV xs).lo ≤ maxK f xs.length - minK f xs.length ∧ maxK f xs.length - minK f xs.length ≤ (apartV xs).hi) ∧ (-1000 ≤ minK f xs.length ∧ minK f xs.length ≤ 1000) ∧ -1000 ≤ maxK f xs.length ∧ maxK f xs.length ≤ 1000 := by
  obtain ⟨m1, m2⟩ := minK_le f xs.length
  obtain ⟨M1, M2⟩ := maxK_ge f xs.length
  have hfb : ∀ i, i < xs.length → -1000 ≤ f i ∧ f i ≤ 1000 := fun i hi => by have := hb i hi; have := hf i hi; omega
  obtain ⟨i, hi, ei⟩ : ∃ i, i < xs.length ∧ maxK f xs.length = f i := by
    rcases M2 with e | e
    · refine ⟨0, h0, ?_⟩
      have := M1 0 h0; have := hfb 0 h0; omega
    · exact e
  obtain ⟨k, hk, ek⟩ : ∃ i, i < xs.length ∧ minK f xs.length = f i := by
    rcases m2 with e | e
    · refine ⟨0, h0, ?_⟩
      have := m1 0 h0; have := hfb 0 h0; omega
    · exact e
  have hfi := hfb i hi
  have hfk := hfb k hk
  refine ⟨⟨?_, ?_⟩, by omega, by omega⟩
  · rw [← ends_near h0]
    obtain ⟨l1, l2, l3⟩ := lowK_le xs (placeX xs) xs.length
    obtain ⟨p, hp, ep⟩ : ∃ p, p < xs.length ∧ placeX xs = (xs.getD p sp0).lo := by
      rcases gtV_at (xs.map (·.lo)) (xs.getD 0 sp0).lo with e | e
      · exact ⟨0, h0, e⟩
      · obtain ⟨s, hs, he⟩ := List.mem_map.1 e
        obtain ⟨q, hq, rfl⟩ := List.getElem_of_mem hs
        exact ⟨q, hq, by unfold placeX; rw [← he, List.getD_eq_getElem?_getD, List.getElem?_eq_getElem hq]; rfl⟩
    have h1 := hf p hp
    have h2 := M1 p hp
    rcases l3 with e | ⟨q, hq, e⟩
    · have := M1 k hk; omega
    · rw [owY_eq hq] at e
      have h3 := hf q hq
      have h4 := m1 q hq
      have := M1 k hk
      omega
  · show _ ≤ farOut xs xs.length
    rw [farOut_eq]
    have hge := maxOut_ge (farF xs) xs.length xs.length
    by_cases e : i = k
    · subst e; have := hge.1; omega
    · have := hge.2 i k hi hk e
      rw [show farF xs i k = (xs.getD i sp0).hi - (xs.getD k sp0).lo from rfl] at this
      have h3 := hf i hi; have h4 := hf k hk
      omega
/-- how long each job takes, in a truth -/
def truT (by_ : List Int) (l : List Jb) : List Tm := (List.range l.length).map fun k => (pickV (l.getD k jb0).print (byK by_ (2 * k)), pickV (l.getD k jb0).lay (byK by_ (2 * k + 1)))
theorem truT_len (by_ : List Int) (l : List Jb) : (truT by_ l).length = l.length := by unfold truT; simp
theorem map_range (l : List Jb) (f : Jb → Tm) : l.map f = (List.range l.length).map fun k => f (l.getD k jb0) := by
  apply List.ext_getElem?
  intro i
  rcases Nat.lt_or_ge i l.length with h | h
  · rw [List.getElem?_map, List.getElem?_map, get_of_lt jb0 h, List.getElem?_range h]; rfl
  · rw [List.getElem?_eq_none (by simp; exact h), List.getElem?_eq_none (by simp; exact h)]
theorem truT_le {l : List Jb} (hj : jobsB l = true) (by_ : List Int) : LeL (l.map (timeV false)) (truT by_ l) ∧ LeL (truT by_ l) (l.map (timeV true)) := by
  have hp := (jobsB_parts hj).2
  have key : ∀ k, k ∈ List.range l.length → ((l.getD k jb0).print.lo ≤ pickV (l.getD k jb0).print (byK by_ (2 * k)) ∧ pickV (l.getD k jb0).print (byK by_ (2 * k)) ≤ (l.getD k jb0).print.hi) ∧ (l.getD k jb0).lay.lo ≤ pickV (l.getD k jb0).lay (byK by_ (2 * k + 1)) ∧ pickV (l.getD k jb0).lay (byK by_ (2 * k + 1)) ≤ (l.getD k jb0).lay.hi := fun k hk => by
    have h1 := hp _ (getD_mem (d := jb0) (List.mem_range.1 hk))
    exact ⟨pick_in (by omega) _, pick_in (by omega) _⟩
  rw [map_range l (timeV false), map_range l (timeV true)]
  unfold truT
  exact ⟨LeL.of _ _ _ fun k hk => ⟨(key k hk).1.1, (key k hk).2.1⟩, LeL.of _ _ _ fun k hk => ⟨(key k hk).1.2, (key k hk).2.2⟩⟩
theorem LeL.sm {a b c : List Tm} (h1 : LeL a b) (h2 : LeL b c) (ha : ∀ t, t ∈ a → smT t) (hc : ∀ t, t ∈ c → smT t) : ∀ t, t ∈ b → smT t := fun t ht => by
  obtain ⟨i, hi, rfl⟩ := List.getElem_of_mem ht
  have g1 := h1.get i
  have g2 := h2.get i
  have e1 : b.getD i (0, 0) = b[i] := by rw [List.getD_eq_getElem?_getD, List.getElem?_eq_getElem hi]; rfl
  rw [e1] at g1 g2
  have s1 := ha _ (getD_mem (d := (0, 0)) (show i < a.length by rw [h1.len]; exact hi))
  have s2 := hc _ (getD_mem (d := (0, 0)) (show i < c.length by rw [← h2.len]; exact hi))
  unfold smT leT at *; omega
theorem truT_sm {l : List Jb} (hj : jobsB l = true) (by_ : List Int) : ∀ t, t ∈ truT by_ l → smT t := (truT_le hj by_).1.sm (truT_le hj by_).2 (tm_smT hj false) (tm_smT hj true)
theorem good_yes {s : Sp} {n : Int} (h : (goodR s n).2 = 0) : spB s 0 900 = true ∧ (0 ≤ n ∧ n ≤ 1048576) ∧ (goodR s n).1 = goodV s n := by
  unfold goodR at h ⊢
  split at h
  · cases h
  · rename_i h1
    split at h
    · cases h
    · rename_i h2
      refine ⟨by simpa using h1, ?_, by rw [if_neg h1, if_neg h2]⟩
      have hi : inB n 0 1048576 = true := by simpa using h2
      unfold inB at hi; exact of_decide_eq_true hi
theorem fringe_err (ls : List Sf) : decide ((fringeV ls).2.2 = 0) = shB ls := by
  unfold fringeV
  cases h : shB ls
  · rw [if_neg (by simp)]; rfl
  · rw [if_pos rfl]; rfl
theorem mul_mono {n a b : Int} (h : 0 ≤ n ∧ n ≤ 1048576) (ha : 0 ≤ a) (hab : a ≤ b) (hb : b ≤ 900) : (0 ≤ n * a ∧ n * a ≤ n * b) ∧ n * b ≤ 943718400 := by
  have h1 := Int.mul_le_mul_of_nonneg_left hab h.1
  have h2 := Int.mul_nonneg h.1 ha
  have h3 := Int.mul_le_mul_of_nonneg_left hb h.1
  omega
end Go.Proofs.Ytjlbpmcacopbpaa
