/- Whose puzzle has whom, and who has lost what, where rings of exchange swap puzzles. No program in sight. -/
import Derived.Test.YtpijahglojichaaDoorWalkL11
import Derived.Test.YtpijahglojichaaDoorLawD
namespace Go.Proofs.YtpijahglojichaaDoor
open Go.Eng
/-! ### who comes before in a ring -/
def pinv (g : Nat → Nat) (n x : Nat) : Nat := it g (per g n x - 1) x
section
variable {g : Nat → Nat} {n : Nat}
theorem Pm.pinv_lt (h : Pm g n) {x : Nat} (hx : x < n) : pinv g n x < n := h.it_lt _ hx
theorem Pm.g_pinv (h : Pm g n) {x : Nat} (hx : x < n) : g (pinv g n x) = x := by
  have hp := h.perF hx
  show it g (per g n x - 1 + 1) x = x
  rw [show per g n x - 1 + 1 = per g n x by have := hp.pos; omega, hp.back]
theorem Pm.pinv_g (h : Pm g n) {x : Nat} (hx : x < n) : pinv g n (g x) = x := h.inj _ _ (h.pinv_lt (h.lt _ hx)) hx (h.g_pinv (h.lt _ hx))
end
/-- who has whose puzzle, when the rings have been followed so far -/
def hasL (o : List Int) (R : List (List Int)) (j t : Nat) : List Int := (List.range o.length).map fun x => if seenV R j t (pinv (getN o) o.length x) = true then ((pinv (getN o) o.length x : Nat) : Int) else -1
theorem hasL_len (o : List Int) (R : List (List Int)) (j t : Nat) : (hasL o R j t).length = o.length := by simp [hasL]
theorem hasL_get (o : List Int) (R : List (List Int)) (j t : Nat) {x : Nat} (h : x < o.length) : (hasL o R j t).getD x 0 = if seenV R j t (pinv (getN o) o.length x) = true then ((pinv (getN o) o.length x : Nat) : Int) else -1 := by
  unfold hasL; rw [List.getD_eq_getElem?_getD]; simp [h]
theorem hasL_zero (o : List Int) (R : List (List Int)) : hasL o R 0 0 = repT o.length o.length := by
  unfold repT
  rw [Nat.sub_self, List.replicate_zero, List.append_nil]
  apply List.ext_getElem?
  intro x
  rcases Nat.lt_or_ge x o.length with h | h
  · rw [get_of_lt 0 (by rw [hasL_len]; exact h), hasL_get o R 0 0 h, if_neg (by simp [seenV]), List.getElem?_replicate, if_pos h]
  · rw [List.getElem?_eq_none (by rw [hasL_len]; exact h), List.getElem?_eq_none (by simpa using h)]
theorem hasL_set {o : List Int} (ho : ordB o o.length = true) {R : List (List Int)} {j t k : Nat} (ht : t < (R.getD j []).length) (hk : (R.getD j []).getD t 0 = (k : Int)) (hkl : k < o.length) : (hasL o R j t).set (getN o k) (k : Int) = hasL o R j (t + 1) := by
  have hp := ord_pm ho
  have hstep : ∀ y, (seenV R j t y || (k == y)) = seenV R j (t + 1) y := fun y => congrFun (seenV_step R ht hk) y
  apply List.ext_getElem?
  intro x
  rw [List.getElem?_set, hasL_len]
  rcases Nat.lt_or_ge x o.length with h | h
  · rw [get_of_lt (l := hasL o R j t) 0 (by rw [hasL_len]; exact h), get_of_lt (l := hasL o R j (t + 1)) 0 (by rw [hasL_len]; exact h), hasL_get _ _ _ _ h, hasL_get _ _ _ _ h, ← hstep]
    by_cases e : getN o k = x
    · rw [if_pos e, if_pos (by omega), ← e, hp.pinv_g hkl]
      rw [if_pos (by simp)]
    · rw [if_neg e]
      have hne : (k == pinv (getN o) o.length x) = false := by
        rw [beq_eq_false_iff_ne]
        intro e2
        exact e (by rw [e2]; exact hp.g_pinv h)
      rw [hne, Bool.or_false]
  · rw [List.getElem?_eq_none (l := hasL o R j t) (by rw [hasL_len]; exact h), List.getElem?_eq_none (l := hasL o R j (t + 1)) (by rw [hasL_len]; exact h)]
    split
    · rw [if_neg (by omega)]
    · rfl
theorem hasL_new {o : List Int} (ho : ordB o o.length = true) {R : List (List Int)} {j t k : Nat} (hkl : k < o.length) (hn : seenV R j t k = false) : (hasL o R j t).getD (getN o k) 0 = -1 := by
  have hp := ord_pm ho
  rw [hasL_get _ _ _ _ (hp.lt k hkl), hp.pinv_g hkl, if_neg (by simp [hn])]
/-! ### what the looks say of a piece -/
theorem andNot_bit (a b k : Nat) : (andNotN a b).testBit k = (a.testBit k && !b.testBit k) := by
  unfold andNotN
  rw [Nat.testBit_and, Nat.testBit_xor]
  cases a.testBit k <;> cases b.testBit k <;> rfl
theorem all_bit {many k : Nat} (h : k < many) : (pw2 many - 1).testBit k = true := by
  unfold pw2; rw [Nat.testBit_two_pow_sub_one]; simpa using h
/-- the loans, if somebody has the puzzle -/
def loansH (hd : Int) : List Ln := if hd = -1 then [] else [⟨hd.toNat, 10, 20⟩]
def whoH (hd : Int) : Nat := if hd = -1 then 6 else hd.toNat
def swapT (np many lost : Nat) (hd : Int) : Tl := ⟨many, loansH hd, [⟨20, andNotN (pw2 many - 1) lost, lost⟩, ⟨10, pw2 many - 1, 0⟩], admL np np 0⟩
section
variable {np many lost : Nat} {hd : Int}
theorem swap_win {k : Nat} (hk : k < many) : winW (swapT np many lost hd).looks k = if lost.testBit k = true then (10, 20) else (20, 1048577) := by
  show winF k (winF k (0, 1048577) ⟨20, andNotN (pw2 many - 1) lost, lost⟩) ⟨10, pw2 many - 1, 0⟩ = _
  unfold winF
  dsimp only
  rw [andNot_bit, all_bit hk, Nat.zero_testBit]
  cases lost.testBit k <;> rfl
theorem swap_win1 {k : Nat} (hk : k < many) : winW ((swapT np many lost hd).looks.take 1) k = if lost.testBit k = true then (0, 20) else (20, 1048577) := by
  show winF k (0, 1048577) ⟨20, andNotN (pw2 many - 1) lost, lost⟩ = _
  unfold winF
  dsimp only
  rw [andNot_bit, all_bit hk]
  cases lost.testBit k <;> rfl
theorem swap_can {k : Nat} (hk : k < many) : canN (swapT np many lost hd) k = if lost.testBit k = true then pw2 (whoH hd) else 192 := by
  have key : ∀ (W : Nat × Nat), winW (swapT np many lost hd).looks k = W → canN (swapT np many lost hd) k = (let x := (loansH hd).foldl (susF W) (((min W.2 1048576 : Nat) : Int) - (W.1 : Int), 0); let s := if 0 < x.1 then x.2 ||| 64 else x.2; if W.2 = 1048577 then s ||| 128 else s) := fun W hW => by
    unfold canN susW
    rw [hW, List.take_length]; rfl
  have hw := swap_win (np := np) (hd := hd) (lost := lost) hk
  cases hb : lost.testBit k with
  | true =>
    rw [hb, if_pos rfl] at hw
    rw [key _ hw, show (if true = true then pw2 (whoH hd) else 192) = pw2 (whoH hd) from if_pos rfl]
    unfold loansH whoH
    by_cases hh : hd = -1
    · rw [if_pos hh, if_pos hh]; rfl
    · rw [if_neg hh, if_neg hh]
      show (if 0 < ((10 : Int) - 10) then (0 ||| pw2 hd.toNat) ||| 64 else 0 ||| pw2 hd.toNat) = pw2 hd.toNat
      rw [if_neg (by decide), Nat.zero_or]
  | false =>
    rw [hb, if_neg (by decide)] at hw
    rw [key _ hw, show (if false = true then pw2 (whoH hd) else 192) = 192 from if_neg (by decide)]
    unfold loansH
    by_cases hh : hd = -1
    · rw [if_pos hh]; rfl
    · rw [if_neg hh]
      have e : ∀ x : Int × Nat, susF (20, 1048577) x ⟨hd.toNat, 10, 20⟩ = x := fun x => if_neg (by show ¬ (((max 10 20 : Nat) : Int) < ((min 20 1048577 : Nat) : Int)); decide)
      show (let x := susF (20, 1048577) (((min 1048577 1048576 : Nat) : Int) - ((20 : Nat) : Int), 0) ⟨hd.toNat, 10, 20⟩; let s := if 0 < x.1 then x.2 ||| 64 else x.2; if (20, 1048577).2 = 1048577 then s ||| 128 else s) = 192
      rw [e]; rfl
theorem free_all : ∀ np, np ≤ 6 → 192 &&& freeN (admL np np 0) np ≠ 0 ∧ ∀ who, who ≤ 6 → (who < np ∨ who = 6) → pw2 who &&& freeN (admL np np 0) np ≠ 0 := by decide +kernel
theorem who_le (hh : -1 ≤ hd ∧ hd < (np : Int)) (hn : np ≤ 6) : whoH hd ≤ 6 ∧ (whoH hd < np ∨ whoH hd = 6) := by
  unfold whoH
  split <;> omega
theorem swap_F (hm1 : 1 ≤ many) (hm : many ≤ 16) (hn1 : 1 ≤ np) (hn : np ≤ 6) (hl : lost < pw2 many) (hh : -1 ≤ hd ∧ hd < (np : Int)) : TaF (swapT np many lost hd) np := by
  have hpw := pw2_pos many
  have hand : ∀ a b, andNotN a b ≤ a := fun a b => Nat.and_le_left
  refine ⟨⟨hm1, hm, ?_, ?_, ?_, by show 2 ≤ 20; decide, ?_, ?_, ?_⟩, ?_, rfl, hn, ?_⟩
  · show 1 ≤ (admL np np 0).length; rw [admL_len]; exact hn1
  · show (admL np np 0).length ≤ 6; rw [admL_len]; exact hn
  · show (loansH hd).length ≤ 1; unfold loansH; split <;> simp
  · intro l hl
    have hl : l ∈ loansH hd := hl
    unfold loansH at hl
    split at hl
    · cases hl
    · obtain rfl : l = ⟨hd.toNat, 10, 20⟩ := by simpa using hl
      show hd.toNat < (admL np np 0).length ∧ 10 ≤ 1048575 ∧ 10 + 1 ≤ 20 ∧ 20 ≤ 1048576
      rw [admL_len]; omega
  · intro s hs
    have hs : s = ⟨20, andNotN (pw2 many - 1) lost, lost⟩ ∨ s = ⟨10, pw2 many - 1, 0⟩ := by simpa [swapT] using hs
    show s.h ≤ 1048576 ∧ s.th < pw2 many ∧ s.g < pw2 many ∧ s.th &&& s.g = 0
    rcases hs with rfl | rfl
    · refine ⟨by show (20 : Nat) ≤ 1048576; omega, by have := hand (pw2 many - 1) lost; dsimp only; omega, hl, ?_⟩
      apply Nat.eq_of_testBit_eq
      intro i
      dsimp only
      rw [Nat.testBit_and, andNot_bit, Nat.zero_testBit]
      cases lost.testBit i <;> simp
    · refine ⟨by show (10 : Nat) ≤ 1048576; omega, by dsimp only; omega, by dsimp only; omega, Nat.and_zero _⟩
  · intro n hn
    have hn : n ∈ admL np np 0 := hn
    unfold admL at hn
    obtain ⟨p, hp, rfl⟩ := List.mem_map.1 hn
    have := List.mem_range.1 hp
    rw [if_neg (by omega)]; omega
  · intro k hk
    rw [swap_win (np := np) (many := many) (lost := lost) (hd := hd) hk]
    split <;> decide
  · intro k hk
    rw [swap_can (np := np) (many := many) (lost := lost) (hd := hd) hk]
    have hw := who_le hh hn
    have hfa := free_all np hn
    show _ &&& freeN (admL np np 0) (admL np np 0).length ≠ 0
    rw [admL_len]
    split
    · exact hfa.2 _ hw.1 hw.2
    · exact hfa.1
theorem swap_pre (i : Nat) (hi : i < 2) (k : Nat) (hk : k < many) : (winW ((swapT np many lost hd).looks.take (i + 1)) k).1 < (winW ((swapT np many lost hd).looks.take (i + 1)) k).2 := by
  rcases i with _ | _ | i
  · rw [swap_win1 hk]; split <;> decide
  · rw [show (swapT np many lost hd).looks.take (1 + 1) = (swapT np many lost hd).looks from rfl, swap_win hk]; split <;> decide
  · omega
theorem swap_hold (hh : -1 ≤ hd) : holdA (swapT np many lost hd) = hd := by
  unfold holdA
  show (if (loansH hd).length = 0 then (-1 : Int) else (((loansH hd).getD 0 ln0).p : Int)) = hd
  unfold loansH
  by_cases h : hd = -1
  · rw [if_pos h]; exact h.symm
  · rw [if_neg h]
    show ((hd.toNat : Nat) : Int) = hd
    omega
theorem swap_in : ∀ x, x ∈ (swapT np many lost hd).loans → (x.f : Int) ≤ 15 ∧ (15 : Int) < (x.t : Int) := fun x hx => by
  have hx : x ∈ loansH hd := hx
  unfold loansH at hx
  split at hx
  · cases hx
  · obtain rfl : x = ⟨hd.toNat, 10, 20⟩ := by simpa using hx
    show ((10 : Nat) : Int) ≤ 15 ∧ (15 : Int) < ((20 : Nat) : Int)
    decide
end
/-! ### how many a person has lost -/
def lostC (lost : Nat) : Nat → Nat
  | 0 => 0
  | k + 1 => if lost.testBit k = true then lostC lost k + 1 else lostC lost k
theorem lostC_le (lost : Nat) : ∀ k, lostC lost k ≤ k
  | 0 => Nat.le_refl _
  | k + 1 => by have := lostC_le lost k; unfold lostC; split <;> omega
theorem cntM_app (R X : List (List Int)) (c : Nat) : ∀ i, i ≤ R.length → cntM (R ++ X) c i = cntM R c i
  | 0, _ => rfl
  | i + 1, h => by
    have e : (R ++ X).getD i [] = R.getD i [] := by rw [List.getD_eq_getElem?_getD, List.getD_eq_getElem?_getD, List.getElem?_append_left (by omega)]
    show (if 0 < ((R ++ X).getD i []).length ∧ cntM (R ++ X) c i < c then _ else _) = if 0 < (R.getD i []).length ∧ cntM R c i < c then _ else _
    rw [e, cntM_app R X c i (by omega)]
theorem cntM_snoc (R : List (List Int)) (r : List Int) (c : Nat) : cntM (R ++ [r]) c (R.length + 1) = if 0 < r.length ∧ cntM R c R.length < c then cntM R c R.length + 1 else cntM R c R.length := by
  have e : (R ++ [r]).getD R.length [] = r := by rw [List.getD_eq_getElem?_getD, List.getElem?_append_right (Nat.le_refl _)]; simp
  show (if 0 < ((R ++ [r]).getD R.length []).length ∧ cntM (R ++ [r]) c R.length < c then _ else _) = _
  rw [e, cntM_app R [r] c R.length (Nat.le_refl _)]
theorem free_not1 : ∀ np, np ≤ 6 → ∀ q, q < np → ∀ n, n ≤ 16 → pw2 q &&& freeN (admL np q n) np = 0 := by decide +kernel
theorem free_not2 : ∀ np, np ≤ 6 → ∀ q, q < np → ∀ n, n ≤ 16 → 192 &&& freeN (admL np q n) np ≠ 0 := by decide +kernel
def notB (np q n who : Nat) : Bool := decide (who = q) || (!decide (who < np) && !decide (who = 6)) || !decide (pw2 who &&& freeN (admL np q n) np = 0)
theorem free_not3 : ∀ np, np ≤ 6 → ∀ q, q < np → ∀ n, n ≤ 16 → ∀ who, who ≤ 6 → notB np q n who = true := by decide +kernel
theorem free_not : ∀ np, np ≤ 6 → ∀ q, q < np → ∀ n, n ≤ 16 → pw2 q &&& freeN (admL np q n) np = 0 ∧ 192 &&& freeN (admL np q n) np ≠ 0 ∧ ∀ who, who ≤ 6 → (who < np ∨ who = 6) → who ≠ q → pw2 who &&& freeN (admL np q n) np ≠ 0 := fun np h1 q h2 n h3 => ⟨free_not1 np h1 q h2 n h3, free_not2 np h1 q h2 n h3, fun who h4 h5 h6 h7 => by
  have := free_not3 np h1 q h2 n h3 who h4
  unfold notB at this
  rw [decide_eq_false h6, Bool.false_or, decide_eq_true h7] at this
  rcases h5 with h5 | h5
  · rw [decide_eq_true h5] at this; simp at this
  · rw [decide_eq_true h5] at this; simp at this⟩
theorem bit_pw : ∀ who, who ≤ 6 → ∀ q, q ≤ 6 → (pw2 who).testBit q = decide (who = q) := by decide +kernel
theorem bit_192 : ∀ q, q < 6 → (192 : Nat).testBit q = false := by decide +kernel
section
variable {np many lost : Nat} {hd : Int}
/-- how many a person has lost -/
def lostS (many lost : Nat) (hd : Int) (q : Nat) : Nat := if hd = (q : Int) then lostC lost many else 0
theorem swap_fits (hm : many ≤ 16) (hn : np ≤ 6) (hh : -1 ≤ hd ∧ hd < (np : Int)) {q : Nat} (hq : q < np) {n : Nat} (hn16 : n ≤ 16) : fitsB (canL (swapT np many lost hd) many) (freeN (admL np q n) np) q n many = decide (n = lostS many lost hd q) := by
  obtain ⟨hf1, hf2, hf3⟩ := free_not np hn q hq n hn16
  have hw := who_le hh hn
  have hcan : ∀ k, k < many → (canL (swapT np many lost hd) many).getD k 0 = if lost.testBit k = true then pw2 (whoH hd) else 192 := fun k hk => by
    rw [canL_get _ _ (by omega), if_pos hk, swap_can hk]
  have hrow : ∀ k, k < many → rowJ (canL (swapT np many lost hd) many) q k n = if lost.testBit k = true ∧ whoH hd = q then rngI n else [] := fun k hk => by
    unfold rowJ
    rw [hcan k hk]
    by_cases hb : lost.testBit k = true
    · rw [if_pos hb, bit_pw _ hw.1 q (by omega)]
      by_cases e : whoH hd = q
      · rw [if_pos (by simpa using e), if_pos ⟨hb, e⟩]
      · rw [if_neg (by simpa using e), if_neg (fun h => e h.2)]
    · rw [if_neg hb, bit_192 q (by omega), if_neg (by decide), if_neg (fun h => hb h.1)]
  by_cases hwq : whoH hd = q
  · have hdq : hd = (q : Int) := by unfold whoH at hwq; split at hwq <;> omega
    have hall : ∀ k, k ≤ many → cntM (allR (canL (swapT np many lost hd) many) q n k) n k = min n (lostC lost k) := fun k => by
      induction k with
      | zero => intro _; show 0 = min n 0; omega
      | succ k ih =>
        intro hk
        have hl := allR_len (canL (swapT np many lost hd) many) q n k
        have := cntM_snoc (allR (canL (swapT np many lost hd) many) q n k) (rowJ (canL (swapT np many lost hd) many) q k n) n
        rw [hl, ih (by omega), hrow k (by omega)] at this
        show cntM (allR _ q n k ++ [rowJ _ q k n]) n (k + 1) = _
        rw [hrow k (by omega), this]
        show _ = min n (if lost.testBit k = true then lostC lost k + 1 else lostC lost k)
        by_cases hb : lost.testBit k = true
        · rw [show (if lost.testBit k = true ∧ whoH hd = q then rngI n else []) = rngI n from if_pos ⟨hb, hwq⟩, if_pos hb, rngI_len]
          split <;> omega
        · rw [show (if lost.testBit k = true ∧ whoH hd = q then rngI n else []) = [] from if_neg (fun h => hb h.1), if_neg hb, if_neg (fun h => Nat.lt_irrefl 0 h.1)]
    have hmust : ∀ k, k ≤ many → (mustR (canL (swapT np many lost hd) many) (freeN (admL np q n) np) q n k).length = lostC lost k ∧ cntM (mustR (canL (swapT np many lost hd) many) (freeN (admL np q n) np) q n k) n (mustR (canL (swapT np many lost hd) many) (freeN (admL np q n) np) q n k).length = min n (lostC lost k) := fun k => by
      induction k with
      | zero => intro _; exact ⟨rfl, by show 0 = min n 0; omega⟩
      | succ k ih =>
        intro hk
        obtain ⟨h1, h2⟩ := ih (by omega)
        have hc := hcan k (by omega)
        by_cases hb : lost.testBit k = true
        · rw [if_pos hb, hwq] at hc
          have e : mustR (canL (swapT np many lost hd) many) (freeN (admL np q n) np) q n (k + 1) = mustR (canL (swapT np many lost hd) many) (freeN (admL np q n) np) q n k ++ [rowJ (canL (swapT np many lost hd) many) q k n] := if_pos (by rw [hc]; exact hf1)
          have hs := cntM_snoc (mustR (canL (swapT np many lost hd) many) (freeN (admL np q n) np) q n k) (rowJ (canL (swapT np many lost hd) many) q k n) n
          rw [e, List.length_append, List.length_singleton, hs, h2, hrow k (by omega), show (if lost.testBit k = true ∧ whoH hd = q then rngI n else []) = rngI n from if_pos ⟨hb, hwq⟩, rngI_len, h1]
          refine ⟨(if_pos hb).symm, ?_⟩
          show _ = min n (if lost.testBit k = true then lostC lost k + 1 else lostC lost k)
          rw [if_pos hb]
          split <;> omega
        · rw [if_neg hb] at hc
          have e : mustR (canL (swapT np many lost hd) many) (freeN (admL np q n) np) q n (k + 1) = mustR (canL (swapT np many lost hd) many) (freeN (admL np q n) np) q n k := if_neg (by rw [hc]; exact hf2)
          have e2 : lostC lost (k + 1) = lostC lost k := if_neg hb
          rw [e, e2]; exact ⟨h1, h2⟩
    have h3 := hmust many (Nat.le_refl _)
    unfold fitsB
    rw [allR_len, hall many (Nat.le_refl _), h3.2, h3.1]
    unfold lostS
    rw [if_pos hdq, ← Bool.decide_and]
    exact decide_eq_decide.2 (by omega)
  · have hdq : hd ≠ (q : Int) := fun e => hwq (by unfold whoH; rw [if_neg (by omega)]; omega)
    have hall : ∀ k, k ≤ many → cntM (allR (canL (swapT np many lost hd) many) q n k) n k = 0 := fun k => by
      induction k with
      | zero => intro _; rfl
      | succ k ih =>
        intro hk
        have hl := allR_len (canL (swapT np many lost hd) many) q n k
        have := cntM_snoc (allR (canL (swapT np many lost hd) many) q n k) (rowJ (canL (swapT np many lost hd) many) q k n) n
        rw [hl, ih (by omega), hrow k (by omega), show (if lost.testBit k = true ∧ whoH hd = q then rngI n else []) = [] from if_neg (fun h => hwq h.2), if_neg (fun h => Nat.lt_irrefl 0 h.1)] at this
        show cntM (allR _ q n k ++ [rowJ _ q k n]) n (k + 1) = _
        rw [hrow k (by omega), show (if lost.testBit k = true ∧ whoH hd = q then rngI n else []) = [] from if_neg (fun h => hwq h.2)]; exact this
    have hmust : ∀ k, k ≤ many → mustR (canL (swapT np many lost hd) many) (freeN (admL np q n) np) q n k = [] := fun k => by
      induction k with
      | zero => intro _; rfl
      | succ k ih =>
        intro hk
        show (if _ = 0 then _ else _) = _
        rw [if_neg, ih (by omega)]
        rw [hcan k (by omega)]
        split
        · exact hf3 _ hw.1 hw.2 hwq
        · exact hf2
    unfold fitsB
    rw [allR_len, hall many (Nat.le_refl _), hmust many (Nat.le_refl _)]
    unfold lostS
    rw [if_neg hdq]
    show (true && decide (0 = n)) = _
    rw [Bool.true_and]
    exact decide_eq_decide.2 (by omega)
end
end Go.Proofs.YtpijahglojichaaDoor
