/- A word more that says just this: plain laws. -/
import Derived.Test.YtegdfpilhlcplaaLaw9
namespace Go.Proofs.Ytegdfpilhlcplaa
open Go Go.Eng Go.RowKit
theorem lowC_snoc (ws : List (Int × Sp)) (x : Int × Sp) (rate y : Int) : lowC (ws ++ [x]) rate y = max (lowC ws rate y) (x.2.lo - max 0 (x.1 - y) * rate) := by simp [lowC, lowL]
theorem highC_snoc (p : Int) (ws : List (Int × Sp)) (x : Int × Sp) (rate y : Int) : highC p (ws ++ [x]) rate y = min (highC p ws rate y) (x.2.hi + max 0 (y - x.1) * rate) := by simp [highC, highL]
theorem max_mul_tri {a b c rate : Int} (hr : 0 ≤ rate) : max 0 (a - c) * rate ≤ max 0 (a - b) * rate + max 0 (b - c) * rate := by
  rw [← Int.add_mul]; exact Int.mul_le_mul_of_nonneg_right (by omega) hr
theorem lowC_lip {ws : List (Int × Sp)} {rate a y : Int} (hr : 0 ≤ rate) : lowC ws rate a ≤ lowC ws rate y + max 0 (a - y) * rate := by
  have h0 := lowC_le.1 (Int.le_refl (lowC ws rate y))
  have hp := max_mul_nonneg (a := a - y) hr
  refine lowC_le.2 ⟨by omega, fun x hx => ?_⟩
  have h1 := h0.2 x hx
  have h2 := max_mul_tri (a := x.1) (b := a) (c := y) hr
  omega
theorem highC_lip {ws : List (Int × Sp)} {p rate a y : Int} (hr : 0 ≤ rate) : highC p ws rate y ≤ highC p ws rate a + max 0 (y - a) * rate := by
  have h0 := le_highC.1 (Int.le_refl (highC p ws rate y))
  have hp := max_mul_nonneg (a := y - a) hr
  have key : highC p ws rate y - max 0 (y - a) * rate ≤ highC p ws rate a := le_highC.2 ⟨by omega, fun x hx => by
    have h1 := h0.2 x hx
    have h2 := max_mul_tri (a := y) (b := a) (c := x.1) hr
    omega⟩
  omega
theorem ptsC_mono {h h' : Nat → Int} {p pen : Int} {m : Nat} (hh : ∀ k, k ≤ m → h k ≤ h' k) : ptsC h p pen m ≤ ptsC h' p pen m := by
  have h1 : (List.range m).countP (fun w => decide (p ≤ h w)) ≤ (List.range m).countP (fun w => decide (p ≤ h' w)) := by
    refine List.countP_mono_left fun x hx hp => ?_
    have hx := List.mem_range.1 hx
    have := hh x (by omega)
    simp at hp ⊢; omega
  have h2 := hh m (Nat.le_refl _)
  unfold ptsC; omega
theorem ptsC_eq {h h' : Nat → Int} {p pen : Int} {m : Nat} (hh : ∀ k, k ≤ m → h k = h' k) : ptsC h p pen m = ptsC h' p pen m :=
  Int.le_antisymm (ptsC_mono fun k hk => Int.le_of_eq (hh k hk)) (ptsC_mono fun k hk => Int.le_of_eq (hh k hk).symm)
/-- the word that says just this -/
def wdN (t m : Nat) (n : Int) : Wd := ⟨t, m, ⟨n, n⟩⟩
theorem allW_snoc (r : Rc) (t : Nat) (l : List Wd) (d : Wd) : allW r t (l ++ [d]) = if d.team = (t : Int) then allW r t l ++ [((wrk r t d.minute.toNat : Int), d.got)] else allW r t l := by
  unfold allW sayW
  rw [List.filter_append, List.map_append]
  by_cases h : d.team = (t : Int) <;> simp [h]
theorem allW_just (r : Rc) (t m : Nat) (l : List Wd) (n : Int) : allW r t (l ++ [wdN t m n]) = allW r t l ++ [((wrk r t m : Int), ⟨n, n⟩)] := by
  rw [allW_snoc, if_pos (show (wdN t m n).team = (t : Int) from rfl)]; rfl
theorem allW_else (r : Rc) {t k : Nat} (m : Nat) (l : List Wd) (n : Int) (h : k ≠ t) : allW r k (l ++ [wdN t m n]) = allW r k l := by
  rw [allW_snoc, if_neg]
  show ¬ (t : Int) = k
  omega
structure Just (r : Rc) (ls : List Wd) (t m : Nat) : Prop where
  hz : openE r ls true = 0
  ht : t < r.teams.length
  hm : m ≤ 2000
  hl : ls.length < 40
theorem Just.lo_hi {r ls t m} (h : Just r ls t m) (y : Int) : lowC (allW r t ls) r.rate y ≤ highC r.p (allW r t ls) r.rate y := by
  obtain ⟨h1, _, h3⟩ := openE_zero h.hz
  obtain ⟨hok, _, hwd⟩ := chk_zero h1
  exact trueC_all hok hwd (h3 t h.ht) y
theorem Just.chk {r ls t m} (h : Just r ls t m) {n : Int} (hn : 0 ≤ n ∧ n ≤ r.p) : chk r (ls ++ [wdN t m n]) = 0 := by
  obtain ⟨h1, _, h3⟩ := openE_zero h.hz
  obtain ⟨hok, _, hwd⟩ := chk_zero h1
  have ht := h.ht
  have hm := h.hm
  have hl := h.hl
  refine chk_of hok (by simp; omega) fun d hd => ?_
  rcases List.mem_append.1 hd with hd | hd
  · exact hwd d hd
  · rw [List.mem_singleton.1 hd]
    simp only [wdB, spB, wdN, Bool.and_eq_true]
    exact ⟨⟨decide_eq_true (by omega), decide_eq_true (by omega)⟩, decide_eq_true (by omega)⟩
theorem Just.bd {r ls t m} (h : Just r ls t m) (y : Int) : 0 ≤ lowC (allW r t ls) r.rate y ∧ highC r.p (allW r t ls) r.rate y ≤ r.p := by
  obtain ⟨h1, _, h3⟩ := openE_zero h.hz
  obtain ⟨hok, _, hwd⟩ := chk_zero h1
  have hn := rcB_nums hok
  have hws := allW_ok (team := t) hok hwd
  exact ⟨(lowC_bd hws (by omega)).1, (highC_bd hws (by omega) (by omega)).2⟩
theorem Just.rate {r ls t m} (h : Just r ls t m) : 0 ≤ r.rate := by
  obtain ⟨h1, _, h3⟩ := openE_zero h.hz
  have := rcB_nums (chk_zero h1).1; omega
/-- within the count: a truth fits -/
theorem Just.fits {r ls t m} (h : Just r ls t m) {n : Int} (hn : lowC (allW r t ls) r.rate (wrk r t m) ≤ n ∧ n ≤ highC r.p (allW r t ls) r.rate (wrk r t m)) : openE r (ls ++ [wdN t m n]) true = 0 := by
  have hb := h.bd (wrk r t m)
  have hr := h.rate
  refine (openE_iff (h.chk ⟨by omega, by omega⟩)).2 fun k hk => ?_
  obtain ⟨h1, _, h3⟩ := openE_zero h.hz
  by_cases e : k = t
  · subst e
    refine List.all_eq_true.2 fun x _ => decide_eq_true ?_
    rw [allW_just, lowC_snoc, highC_snoc]
    dsimp only
    generalize x.1 = y
    have a1 := h.lo_hi y
    have a2 := lowC_lip (ws := allW r k ls) (a := y) (y := wrk r k m) hr
    have a3 := highC_lip (ws := allW r k ls) (p := r.p) (a := y) (y := wrk r k m) hr
    have a4 := max_mul_nonneg (a := (wrk r k m : Int) - y) hr
    have a5 := max_mul_nonneg (a := y - (wrk r k m : Int)) hr
    omega
  · have := h3 k hk
    unfold trT at this ⊢
    rw [allW_else r m ls n e]; exact this
theorem Just.cnt {r ls t m} (_h : Just r ls t m) {n : Int} (hn : lowC (allW r t ls) r.rate (wrk r t m) ≤ n ∧ n ≤ highC r.p (allW r t ls) r.rate (wrk r t m)) : cntP r (ls ++ [wdN t m n]) t (wrk r t m) = ⟨n, n⟩ := by
  unfold cntP
  rw [allW_just, lowC_snoc, highC_snoc]
  dsimp only
  rw [show max 0 ((wrk r t m : Int) - (wrk r t m : Int)) = 0 by omega, Int.zero_mul]
  congr 1 <;> omega
/-- beyond it: none -/
theorem Just.clash {r ls t m} (h : Just r ls t m) {n : Int} (hn : n < lowC (allW r t ls) r.rate (wrk r t m) ∨ highC r.p (allW r t ls) r.rate (wrk r t m) < n) (hb : 0 ≤ n ∧ n ≤ r.p) : openE r (ls ++ [wdN t m n]) true ≠ 0 := by
  intro h0
  have hr := h.rate
  have h1 := (openE_iff (h.chk hb)).1 h0 t h.ht
  have hx : (((wrk r t m : Nat) : Int), (⟨n, n⟩ : Sp)) ∈ allW r t (ls ++ [wdN t m n]) := by rw [allW_just]; simp
  have h2 := of_decide_eq_true (List.all_eq_true.1 h1 _ hx)
  rw [allW_just, lowC_snoc, highC_snoc] at h2
  dsimp only at h2
  have h3 := h.lo_hi (wrk r t m)
  rw [show max 0 ((wrk r t m : Int) - (wrk r t m : Int)) = 0 by omega, Int.zero_mul] at h2
  omega
theorem Just.ptsLo {r ls t m} (_h : Just r ls t m) (n : Int) (k : Nat) : (ptsP r ls t k).lo ≤ (ptsP r (ls ++ [wdN t m n]) t k).lo := by
  unfold ptsP; dsimp only; unfold Go.Proofs.Ytegdfpilhlcplaa.ptsLo
  exact ptsC_mono fun y _ => by rw [allW_just]; exact lowC_sub fun x hx => List.mem_append_left _ hx
theorem Just.ptsHi {r ls t m} (_h : Just r ls t m) (n : Int) (k : Nat) : (ptsP r (ls ++ [wdN t m n]) t k).hi ≤ (ptsP r ls t k).hi := by
  unfold ptsP; dsimp only; unfold Go.Proofs.Ytegdfpilhlcplaa.ptsHi
  exact ptsC_mono fun y _ => by rw [allW_just]; exact highC_sub fun x hx => List.mem_append_left _ hx
theorem Just.ptsLoE {r ls t m} (h : Just r ls t m) (k : Nat) : (ptsP r (ls ++ [wdN t m (lowC (allW r t ls) r.rate (wrk r t m))]) t k).lo = (ptsP r ls t k).lo := by
  unfold ptsP; dsimp only; unfold Go.Proofs.Ytegdfpilhlcplaa.ptsLo
  exact ptsC_eq fun y _ => by
    rw [allW_just, lowC_snoc]
    dsimp only
    have := lowC_lip (ws := allW r t ls) (a := wrk r t m) (y := y) h.rate
    omega
theorem Just.ptsHiE {r ls t m} (h : Just r ls t m) (k : Nat) : (ptsP r (ls ++ [wdN t m (highC r.p (allW r t ls) r.rate (wrk r t m))]) t k).hi = (ptsP r ls t k).hi := by
  unfold ptsP; dsimp only; unfold Go.Proofs.Ytegdfpilhlcplaa.ptsHi
  exact ptsC_eq fun y _ => by
    rw [allW_just, highC_snoc]
    dsimp only
    have := highC_lip (ws := allW r t ls) (p := r.p) (a := wrk r t m) (y := y) h.rate
    omega
theorem Just.pts {r ls t m} (h : Just r ls t m) (k : Nat) : (ptsP r ls t k).lo ≤ (ptsP r ls t k).hi := by
  unfold ptsP; dsimp only; unfold Go.Proofs.Ytegdfpilhlcplaa.ptsLo Go.Proofs.Ytegdfpilhlcplaa.ptsHi
  exact ptsC_mono fun y _ => h.lo_hi y
theorem clashN_fits {r : Rc} {ls : List Wd} (h : openE r ls true = 0) : clashN r ls = (0, 4) := by
  rcases clash_cases r ls with ⟨h1, _⟩ | ⟨h1, _⟩ | ⟨i, _, _, _, _, h1, _⟩
  · exact absurd (openE_zero h).1 h1
  · exact h1
  · unfold fitsB at h1
    rw [decide_eq_false_iff_not] at h1
    exact absurd h h1
end Go.Proofs.Ytegdfpilhlcplaa
