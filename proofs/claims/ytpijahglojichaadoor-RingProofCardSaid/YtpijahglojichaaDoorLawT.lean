/- Prices are the worth's proof: plainly. -/
import Derived.Test.YtpijahglojichaaDoorLawQ
import Derived.Test.YtpijahglojichaaDoorWalk6
namespace Go.Proofs.YtpijahglojichaaDoor
open Go.Eng
def gainI (m : Mt) (p o : List Int) (i : Nat) : Int := wv m i (getN o i) - p.getD (getN o i) 0 + p.getD i 0
def gainN (m : Mt) (p o : List Int) : Nat → Int
  | 0 => 0
  | k + 1 => gainN m p o k + gainI m p o k
def sumF (f : Int → Int) (l : List Int) : Int := l.foldl (fun s x => s + f x) 0
theorem foldl_perm (f : Int → Int) {l r : List Int} (h : l.Perm r) : ∀ b : Int, l.foldl (fun s x => s + f x) b = r.foldl (fun s x => s + f x) b := by
  induction h with
  | nil => exact fun b => rfl
  | cons x _ ih => exact fun b => ih (b + f x)
  | swap x y l => intro b; rw [List.foldl_cons, List.foldl_cons, List.foldl_cons, List.foldl_cons]; congr 1; omega
  | trans _ _ ih1 ih2 => exact fun b => (ih1 b).trans (ih2 b)
theorem sumF_take (f : Int → Int) {l : List Int} {k : Nat} (h : k < l.length) : sumF f (l.take (k + 1)) = sumF f (l.take k) + f (l.getD k 0) := by
  unfold sumF
  rw [List.take_add_one, get_of_lt 0 h, List.foldl_append]; rfl
theorem gain_sum {m : Mt} {p o : List Int} (ho : ordB o m.length = true) : gainN m p o m.length = worthL m o := by
  have hl := ord_len ho
  have key : ∀ k, k ≤ m.length → gainN m p o k = worthN m o k - sumF (fun x => p.getD x.toNat 0) (o.take k) + sumF (fun x => p.getD x.toNat 0) ((rngI m.length).take k) := fun k => by
    induction k with
    | zero => intro _; simp [gainN, worthN, sumF]
    | succ k ih =>
      intro hk
      have h1 := ih (by omega)
      rw [sumF_take _ (show k < o.length by omega), sumF_take _ (show k < (rngI m.length).length by rw [rngI_len]; omega)]
      have h2 : (rngI m.length).getD k 0 = (k : Int) := getD_of (rngI_get (by omega))
      rw [h2, Int.toNat_natCast]
      show gainN m p o k + gainI m p o k = worthN m o k + wv m k (getN o k) - _ + _
      have h3 : gainI m p o k = wv m k (getN o k) - p.getD (o.getD k 0).toNat 0 + p.getD k 0 := rfl
      omega
  have h := key m.length (Nat.le_refl _)
  rw [List.take_of_length_le (by omega), List.take_of_length_le (by rw [rngI_len]; omega)] at h
  have hp : sumF (fun x => p.getD x.toNat 0) o = sumF (fun x => p.getD x.toNat 0) (rngI m.length) := foldl_perm _ ((ordB_iff _ _).1 ho) 0
  rw [h, hp]
  unfold worthL
  rw [hl]; omega
section
variable {m : Mt} {o p : List Int}
theorem gain_lo (hm : MkF m) (hF : PriceF m o p) {i : Nat} (hi : i < m.length) : 0 ≤ gainI m p o i := by
  have h := hF.rule (i, i) ⟨hi, hi, by unfold wantsB; simp⟩
  have h1 : p.getD (getN o i) 0 + wv m i i - wv m i (getN o i) ≤ p.getD i 0 := h
  have h2 := hm.diag i
  unfold gainI; omega
theorem gain_le (hF : PriceF m o p) {o' : List Int} (ho : ordB o' m.length = true) (hf : fairI m o' < 0) {i : Nat} (hi : i < m.length) : gainI m p o' i ≤ gainI m p o i := by
  have h : p.getD (getN o i) 0 + wv m i (getN o' i) - wv m i (getN o i) ≤ p.getD (getN o' i) 0 := hF.rule (i, getN o' i) ⟨hi, (ord_get ho hi).2, fair_iff.1 hf i (by rw [ord_len ho]; exact hi)⟩
  unfold gainI; omega
theorem gain_bd (hm : MkF m) (hF : PriceF m o p) (o' : List Int) (i : Nat) : -6000 ≤ gainI m p o' i ∧ gainI m p o' i ≤ 7000 := by
  have h1 := hF.lo i
  have h2 := hF.hi i
  have h3 := hF.lo (getN o' i)
  have h4 := hF.hi (getN o' i)
  have h5 := hm.bd i (getN o' i)
  unfold gainI; omega
theorem gainN_bd (hm : MkF m) (hF : PriceF m o p) (o' : List Int) : ∀ k : Nat, -6000 * (k : Int) ≤ gainN m p o' k ∧ gainN m p o' k ≤ 7000 * (k : Int)
  | 0 => by unfold gainN; omega
  | k + 1 => by
    have := gainN_bd hm hF o' k
    have := gain_bd hm hF o' k
    unfold gainN; omega
theorem price_env (hF : PriceF m o p) : envF m o p = none := env_none fun i hi k hk => by
  unfold envyB
  by_cases hw : wantsB m i k = true
  · have h : p.getD (getN o i) 0 + wv m i k - wv m i (getN o i) ≤ p.getD k 0 := hF.rule (i, k) ⟨hi, hk, hw⟩
    rw [decide_eq_false (by omega), Bool.and_false]
  · rw [show wantsB m i k = false by simpa using hw, Bool.false_and]
theorem charge_ok {q : List Int} (h1 : ∀ k, 0 ≤ q.getD k 0) (h2 : ∀ k, q.getD k 0 ≤ 100000) : chargeB q = true := by
  unfold chargeB
  rw [List.all_eq_true]
  intro x hx
  obtain ⟨i, hi, rfl⟩ := List.mem_iff_getElem.1 hx
  have e : q.getD i 0 = q[i] := getD_of (List.getElem?_eq_getElem hi)
  have := h1 i
  have := h2 i
  unfold inB
  rw [decide_eq_true_eq]; omega
theorem env_price (h : mkB m = true) (ho : ordB o m.length = true) (hf : fairI m o < 0) (hF : PriceF m o p) : envR m o p = (0, 0, 4) := by
  unfold envR
  have hc := charge_ok hF.lo (fun k => Int.le_trans (hF.hi k) (by decide))
  have hpb : priceB m o p = true := by unfold priceB; rw [ho, hc, decide_eq_true (by rw [hF.len, ord_len ho])]; rfl
  rw [if_neg (by simp [h]), if_neg (by simp [hpb]), if_neg (by omega), price_env hF]; rfl
theorem env_lower (h : mkB m = true) (ho : ordB o m.length = true) (hf : fairI m o < 0) (hF : PriceF m o p) {q : List Int} (hl : q.length = m.length) (h1 : ∀ k, 0 ≤ q.getD k 0) (h2 : ∀ k, q.getD k 0 ≤ p.getD k 0) {k : Nat} (h3 : q.getD k 0 < p.getD k 0) : (envR m o q).2.2 = 0 := by
  have hc := charge_ok h1 (fun k => Int.le_trans (h2 k) (Int.le_trans (hF.hi k) (by decide)))
  have hpb : priceB m o q = true := by unfold priceB; rw [ho, hc, decide_eq_true (by rw [hl, ord_len ho])]; rfl
  unfold envR
  rw [if_neg (by simp [h]), if_neg (by simp [hpb]), if_neg (by omega)]
  cases he : envF m o q with
  | some x => rfl
  | none =>
    exfalso
    have hno : ∀ x, Rul m x → mustP m o q x ≤ q.getD x.2 0 := fun x hx => by
      unfold envF at he
      rw [List.findSome?_eq_none_iff] at he
      have h4 := he x.1 (List.mem_range.2 hx.1)
      rw [Option.map_eq_none_iff, List.find?_eq_none] at h4
      have h5 := h4 x.2 (List.mem_range.2 hx.2.1)
      unfold envyB at h5
      rw [hx.2.2, Bool.true_and, decide_eq_true_eq] at h5
      unfold mustP
      omega
    have := hF.least q h1 hno k
    omega
end
/-- prices that are lowered: of one puzzle, or of all -/
def lowI (p : List Int) (less : Int) (k : Nat) : Int := p.getD k 0 - 1 - less % p.getD k 0
def lowB (n : Nat) (p : List Int) (i k : Nat) : Bool := (decide (i = k) || decide (i = n)) && decide (0 < p.getD k 0)
def lowL (n : Nat) (p : List Int) (less : Int) (i j : Nat) : List Int := (List.range n).map fun k => if k < j ∧ lowB n p i k = true then lowI p less k else p.getD k 0
def lowC (n : Nat) (p : List Int) (i j : Nat) : Bool := (List.range j).any (lowB n p i)
theorem lowL_len (n : Nat) (p : List Int) (less : Int) (i j : Nat) : (lowL n p less i j).length = n := by simp [lowL]
theorem lowL_get {n : Nat} (p : List Int) (less : Int) (i j : Nat) {k : Nat} (h : k < n) : (lowL n p less i j).getD k 0 = if k < j ∧ lowB n p i k = true then lowI p less k else p.getD k 0 := by
  unfold lowL
  rw [List.getD_eq_getElem?_getD, List.getElem?_map, List.getElem?_range h]; rfl
theorem lowL_zero {n : Nat} {p : List Int} (hl : p.length = n) (less : Int) (i : Nat) : lowL n p less i 0 = p := by
  apply List.ext_getElem?
  intro k
  rcases Nat.lt_or_ge k n with h | h
  · rw [get_of_lt 0 (by rw [lowL_len]; exact h), lowL_get p less i 0 h, get_of_lt 0 (by omega), if_neg (by omega)]
  · rw [List.getElem?_eq_none (by rw [lowL_len]; exact h), List.getElem?_eq_none (by omega)]
theorem lowL_set {n : Nat} (p : List Int) (less : Int) (i : Nat) {j : Nat} (_hj : j < n) (hb : lowB n p i j = true) : (lowL n p less i j).set j (lowI p less j) = lowL n p less i (j + 1) := by
  apply List.ext_getElem?
  intro k
  rcases Nat.lt_or_ge k n with h | h
  · rw [get_of_lt 0 (by rw [List.length_set, lowL_len]; exact h), get_of_lt 0 (by rw [lowL_len]; exact h), getD_set _ 0 j k _ (by rw [lowL_len]; exact _hj), lowL_get p less i j h, lowL_get p less i (j + 1) h]
    by_cases e : k = j
    · subst e; rw [if_pos rfl, if_pos ⟨by omega, hb⟩]
    · rw [if_neg e]
      by_cases e2 : k < j
      · by_cases e3 : lowB n p i k = true
        · rw [if_pos ⟨e2, e3⟩, if_pos ⟨by omega, e3⟩]
        · rw [if_neg (fun e => e3 e.2), if_neg (fun e => e3 e.2)]
      · rw [if_neg (by omega), if_neg (by omega)]
  · rw [List.getElem?_eq_none (by rw [List.length_set, lowL_len]; exact h), List.getElem?_eq_none (by rw [lowL_len]; exact h)]
theorem lowL_skip {n : Nat} (p : List Int) (less : Int) (i : Nat) {j : Nat} (hb : lowB n p i j = false) : lowL n p less i j = lowL n p less i (j + 1) := by
  unfold lowL
  apply List.map_congr_left
  intro k _
  by_cases e : k = j
  · subst e; simp [hb]
  · by_cases e2 : k < j
    · have : k < j + 1 := by omega
      simp [e2, this]
    · have : ¬ k < j + 1 := by omega
      simp [e2, this]
theorem lowC_succ (n : Nat) (p : List Int) (i j : Nat) : lowC n p i (j + 1) = (lowC n p i j || lowB n p i j) := by
  unfold lowC; rw [List.range_succ, List.any_append]; simp
theorem low_law {m : Mt} {o p : List Int} (h : mkB m = true) (ho : ordB o m.length = true) (hf : fairI m o < 0) (hF : PriceF m o p) (less : Int) (i : Nat) (hc : lowC m.length p i m.length = true) : (envR m o (lowL m.length p less i m.length)).2.2 = 0 := by
  obtain ⟨k, hk, hb⟩ := List.any_eq_true.1 hc
  have hk := List.mem_range.1 hk
  have hlow : ∀ k, 0 < p.getD k 0 → 0 ≤ lowI p less k ∧ lowI p less k < p.getD k 0 := fun k hp => by
    have h1 := Int.emod_nonneg less (show p.getD k 0 ≠ 0 by omega)
    have h2 := Int.emod_lt_of_pos less hp
    unfold lowI; omega
  have hpos : ∀ k, lowB m.length p i k = true → 0 < p.getD k 0 := fun k hb => by
    unfold lowB at hb
    rw [Bool.and_eq_true, decide_eq_true_eq] at hb; exact hb.2
  refine env_lower h ho hf hF (lowL_len ..) (fun j => ?_) (fun j => ?_) (k := k) ?_
  · rcases Nat.lt_or_ge j m.length with hj | hj
    · rw [lowL_get p less i _ hj]
      by_cases e : j < m.length ∧ lowB m.length p i j = true
      · rw [if_pos e]; exact (hlow j (hpos j e.2)).1
      · rw [if_neg e]; exact hF.lo j
    · rw [getD_big (by rw [lowL_len]; exact hj)]; exact Int.le_refl _
  · rcases Nat.lt_or_ge j m.length with hj | hj
    · rw [lowL_get p less i _ hj]
      by_cases e : j < m.length ∧ lowB m.length p i j = true
      · rw [if_pos e]; have := (hlow j (hpos j e.2)).2; omega
      · rw [if_neg e]; exact Int.le_refl _
    · rw [getD_big (by rw [lowL_len]; exact hj)]; exact hF.lo j
  · rw [lowL_get p less i _ hk, if_pos ⟨hk, hb⟩]
    exact (hlow k (hpos k hb)).2
end Go.Proofs.YtpijahglojichaaDoor
