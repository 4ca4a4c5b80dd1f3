/- The specification's bounds are what the program finds. -/
import Derived.Test.YtegdfpilhlcplaaLaw4
namespace Go.Proofs.Ytegdfpilhlcplaa
open Go Go.Eng Go.RowKit
theorem foldL_le {r : Rc} {t : Nat} {w : Nat} {x : Int} : ∀ (l : List Wd) (g : Nat → Int), l.foldl (updL r t) g w ≤ x ↔ g w ≤ x ∧ ∀ d, d ∈ l → d.team = (t : Int) → w = wrk r t d.minute.toNat → d.got.lo ≤ x
  | [], g => by simp
  | d :: l, g => by
    rw [List.foldl_cons, foldL_le l]
    simp only [List.mem_cons, forall_eq_or_imp]
    unfold updL
    by_cases h : d.team = (t : Int) ∧ w = wrk r t d.minute.toNat
    · rw [if_pos h]
      constructor
      · rintro ⟨h1, h2⟩; exact ⟨by omega, fun _ _ => by omega, h2⟩
      · rintro ⟨h1, h2, h3⟩; exact ⟨by have := h2 h.1 h.2; omega, h3⟩
    · rw [if_neg h]
      exact ⟨fun ⟨h1, h2⟩ => ⟨h1, fun a b => absurd ⟨a, b⟩ h, h2⟩, fun ⟨h1, _, h3⟩ => ⟨h1, h3⟩⟩
theorem le_foldH {r : Rc} {t : Nat} {w : Nat} {x : Int} : ∀ (l : List Wd) (g : Nat → Int), x ≤ l.foldl (updH r t) g w ↔ x ≤ g w ∧ ∀ d, d ∈ l → d.team = (t : Int) → w = wrk r t d.minute.toNat → x ≤ d.got.hi
  | [], g => by simp
  | d :: l, g => by
    rw [List.foldl_cons, le_foldH l]
    simp only [List.mem_cons, forall_eq_or_imp]
    unfold updH
    by_cases h : d.team = (t : Int) ∧ w = wrk r t d.minute.toNat
    · rw [if_pos h]
      constructor
      · rintro ⟨h1, h2⟩; exact ⟨by omega, fun _ _ => by omega, h2⟩
      · rintro ⟨h1, h2, h3⟩; exact ⟨by have := h2 h.1 h.2; omega, h3⟩
    · rw [if_neg h]
      exact ⟨fun ⟨h1, h2⟩ => ⟨h1, fun a b => absurd ⟨a, b⟩ h, h2⟩, fun ⟨h1, _, h3⟩ => ⟨h1, h3⟩⟩
theorem fwmax_le {g : Nat → Int} {x : Int} : ∀ w, fw (fun a b => max a b) g w ≤ x ↔ ∀ v, v ≤ w → g v ≤ x
  | 0 => by
    unfold fw
    exact ⟨fun h v hv => by rw [show v = 0 by omega]; exact h, fun h => h 0 (Nat.le_refl _)⟩
  | w + 1 => by
    unfold fw
    have ih := fwmax_le (g := g) (x := x) w
    constructor
    · intro h v hv
      rcases Nat.lt_or_ge v (w + 1) with h1 | h1
      · exact ih.1 (by omega) v (by omega)
      · rw [show v = w + 1 by omega]; omega
    · intro h
      have := ih.2 fun v hv => h v (by omega)
      have := h (w + 1) (Nat.le_refl _)
      omega
theorem le_fwmin {g : Nat → Int} {x rate : Int} : ∀ w, x ≤ fw (fun a b => min a (b + rate)) g w ↔ ∀ v, v ≤ w → x ≤ g v + ((w : Int) - v) * rate
  | 0 => by
    unfold fw
    constructor
    · intro h v hv; rw [show v = 0 by omega]; simpa using h
    · intro h; simpa using h 0 (Nat.le_refl _)
  | w + 1 => by
    unfold fw
    have ih := le_fwmin (g := g) (x := x - rate) (rate := rate) w
    have key : ∀ v : Nat, (((w + 1 : Nat) : Int) - v) * rate = ((w : Int) - v) * rate + rate := fun v => by
      rw [show ((w + 1 : Nat) : Int) - v = ((w : Int) - v) + 1 by omega, Int.add_mul, Int.one_mul]
    constructor
    · intro h v hv
      rcases Nat.lt_or_ge v (w + 1) with h1 | h1
      · have := ih.1 (by omega) v (by omega)
        rw [key]; omega
      · rw [show v = w + 1 by omega]; simp; omega
    · intro h
      have h2 := ih.2 fun v hv => by have := h v (by omega); rw [key] at this; omega
      have h3 := h (w + 1) (Nat.le_refl _)
      simp at h3; omega
theorem bwmax_le {g : Nat → Int} {x rate : Int} {L : Nat} : ∀ (j w : Nat), L - w = j → w ≤ L → (bw (fun a b => max a (b - rate)) g L w ≤ x ↔ ∀ v, w ≤ v → v ≤ L → g v - ((v : Int) - w) * rate ≤ x) := by
  intro j
  induction j generalizing x with
  | zero =>
    intro w hj hw
    have : w = L := by omega
    subst this
    rw [bw_top]
    constructor
    · intro h v h1 h2; rw [show v = w by omega]; simpa using h
    · intro h; simpa using h w (Nat.le_refl _) (Nat.le_refl _)
  | succ j ih =>
    intro w hj hw
    rw [bw_step _ _ (by omega)]
    have ih := ih (x := x + rate) (w + 1) (by omega) (by omega)
    have key : ∀ v : Nat, ((v : Int) - w) * rate = ((v : Int) - ((w + 1 : Nat) : Int)) * rate + rate := fun v => by
      rw [show (v : Int) - w = ((v : Int) - ((w + 1 : Nat) : Int)) + 1 by omega, Int.add_mul, Int.one_mul]
    constructor
    · intro h v h1 h2
      rcases Nat.lt_or_ge w v with h3 | h3
      · have := ih.1 (by omega) v (by omega) h2
        rw [key]; omega
      · rw [show v = w by omega]; simp; omega
    · intro h
      have h2 := ih.2 fun v h1 h2 => by have := h v (by omega) h2; rw [key] at this; omega
      have h3 := h w (Nat.le_refl _) hw
      simp at h3; omega
theorem le_bwmin {g : Nat → Int} {x : Int} {L : Nat} : ∀ (j w : Nat), L - w = j → w ≤ L → (x ≤ bw (fun a b => min a b) g L w ↔ ∀ v, w ≤ v → v ≤ L → x ≤ g v) := by
  intro j
  induction j with
  | zero =>
    intro w hj hw
    have : w = L := by omega
    subst this
    rw [bw_top]
    constructor
    · intro h v h1 h2; rw [show v = w by omega]; exact h
    · intro h; exact h w (Nat.le_refl _) (Nat.le_refl _)
  | succ j ih =>
    intro w hj hw
    rw [bw_step _ _ (by omega)]
    have ih := ih (w + 1) (by omega) (by omega)
    constructor
    · intro h v h1 h2
      rcases Nat.lt_or_ge w v with h3 | h3
      · exact ih.1 (by omega) v (by omega) h2
      · rw [show v = w by omega]; omega
    · intro h
      have h2 := ih.2 fun v h1 h2 => h v (by omega) h2
      have h3 := h w (Nat.le_refl _) hw
      omega
theorem mem_allW {r : Rc} {t : Nat} {l : List Wd} {P : Int × Sp → Prop} : (∀ x, x ∈ allW r t l → P x) ↔ P (0, ⟨0, 0⟩) ∧ P (r.lim, ⟨0, r.p⟩) ∧ ∀ d, d ∈ l → d.team = (t : Int) → P ((wrk r t d.minute.toNat : Int), d.got) := by
  unfold allW sayW
  simp only [List.mem_cons, forall_eq_or_imp, List.mem_map, List.mem_filter, decide_eq_true_eq]
  refine and_congr_right fun _ => and_congr_right fun _ => ⟨fun h d h1 h2 => h _ ⟨d, ⟨h1, h2⟩, rfl⟩, ?_⟩
  rintro h x ⟨d, ⟨h1, h2⟩, rfl⟩
  exact h d h1 h2
theorem int_le_antisymm_iff {a b : Int} (h : ∀ x, a ≤ x ↔ b ≤ x) : a = b := Int.le_antisymm ((h b).2 (Int.le_refl _)) ((h a).1 (Int.le_refl _))
theorem int_ge_antisymm_iff {a b : Int} (h : ∀ x, x ≤ a ↔ x ≤ b) : a = b := Int.le_antisymm ((h a).1 (Int.le_refl _)) ((h b).2 (Int.le_refl _))
theorem lowB_eq {r : Rc} {t : Nat} {l : List Wd} {w : Nat} (hok : rcB r = true) (hw : w ≤ r.lim.toNat) : lowB r t l w = lowC (allW r t l) r.rate w := by
  have hn := rcB_nums hok
  refine int_le_antisymm_iff fun x => ?_
  unfold lowB lowF
  rw [bwmax_le _ w rfl hw, lowC_le, mem_allW]
  have h0 := max_mul_nonneg (a := 0 - (w : Int)) (rate := r.rate) (by omega)
  have h1 := max_mul_nonneg (a := r.lim - (w : Int)) (rate := r.rate) (by omega)
  constructor
  · intro h
    have hx : ∀ v, w ≤ v → v ≤ r.lim.toNat → ∀ u, u ≤ v → lo1 r t l u ≤ x + ((v : Int) - w) * r.rate := fun v h1 h2 => (fwmax_le v).1 (by have := h v h1 h2; omega)
    have hz : 0 ≤ x := by
      have := ((foldL_le l _).1 (hx w (Nat.le_refl _) hw w (Nat.le_refl _))).1
      simpa using this
    refine ⟨hz, by dsimp only; omega, by dsimp only; omega, fun d hd ht => ?_⟩
    have hwk := wrk_le r t d.minute.toNat (by omega)
    dsimp only
    rcases Nat.le_total w (wrk r t d.minute.toNat) with hle | hle
    · have := ((foldL_le l _).1 (hx (wrk r t d.minute.toNat) hle (by omega) _ (Nat.le_refl _))).2 d hd ht rfl
      rw [show max 0 ((wrk r t d.minute.toNat : Int) - w) = (wrk r t d.minute.toNat : Int) - w by omega]; omega
    · have := ((foldL_le l _).1 (hx w (Nat.le_refl _) hw _ hle)).2 d hd ht rfl
      rw [show max 0 ((wrk r t d.minute.toNat : Int) - w) = 0 by omega]; simp at this ⊢; omega
  · rintro ⟨hz, _, _, hd⟩ v h1 h2
    have hvw : 0 ≤ ((v : Int) - w) * r.rate := Int.mul_nonneg (by omega) (by omega)
    have : fw (fun a b => max a b) (lo1 r t l) v ≤ x + ((v : Int) - w) * r.rate := by
      rw [fwmax_le]
      intro u hu
      refine (foldL_le l _).2 ⟨by omega, fun d hdl ht hwd => ?_⟩
      have h3 := hd d hdl ht
      dsimp only at h3
      have h4 : max 0 ((wrk r t d.minute.toNat : Int) - w) * r.rate ≤ ((v : Int) - w) * r.rate := Int.mul_le_mul_of_nonneg_right (by omega) (by omega)
      omega
    omega
theorem highB_eq {r : Rc} {t : Nat} {l : List Wd} {w : Nat} (hok : rcB r = true) (hw : w ≤ r.lim.toNat) : highB r t l w = highC r.p (allW r t l) r.rate w := by
  have hn := rcB_nums hok
  refine int_ge_antisymm_iff fun x => ?_
  unfold highB highF
  rw [le_bwmin _ w rfl hw, le_highC, mem_allW]
  have h1 := max_mul_nonneg (a := (w : Int) - r.lim) (rate := r.rate) (by omega)
  constructor
  · intro h
    have hx : ∀ v, w ≤ v → v ≤ r.lim.toNat → ∀ u, u ≤ v → x ≤ hi1 r t l u + ((v : Int) - u) * r.rate := fun v h1 h2 => (le_fwmin v).1 (h v h1 h2)
    have hb := ((le_foldH l _).1 (by have := hx w (Nat.le_refl _) hw w (Nat.le_refl _); simpa [hi1] using this)).1
    unfold hi0 at hb
    refine ⟨by omega, ?_, by dsimp only; omega, fun d hd ht => ?_⟩
    · dsimp only
      rw [show max 0 ((w : Int) - 0) = w by omega]; omega
    · have hwk := wrk_le r t d.minute.toNat (by omega)
      dsimp only
      rcases Nat.le_total w (wrk r t d.minute.toNat) with hle | hle
      · have := ((le_foldH l _).1 (by have := hx (wrk r t d.minute.toNat) hle (by omega) _ (Nat.le_refl _); simpa [hi1] using this)).2 d hd ht rfl
        rw [show max 0 ((w : Int) - (wrk r t d.minute.toNat : Int)) = 0 by omega]; simpa using this
      · have h5 := hx w (Nat.le_refl _) hw _ hle
        have := ((le_foldH (r := r) (t := t) (w := wrk r t d.minute.toNat) (x := x - ((w : Int) - (wrk r t d.minute.toNat : Int)) * r.rate) l (hi0 r)).1 (by unfold hi1 at h5; omega)).2 d hd ht rfl
        rw [show max 0 ((w : Int) - (wrk r t d.minute.toNat : Int)) = (w : Int) - (wrk r t d.minute.toNat : Int) by omega]; omega
  · rintro ⟨hp, hz, _, hd⟩ v h1 h2
    rw [le_fwmin]
    intro u hu
    have hvu : 0 ≤ ((v : Int) - u) * r.rate := Int.mul_nonneg (by omega) (by omega)
    have h6 : x - ((v : Int) - u) * r.rate ≤ hi1 r t l u := by
      refine (le_foldH l _).2 ⟨?_, fun d hdl ht hwd => ?_⟩
      · unfold hi0
        dsimp only at hz
        rw [show max 0 ((w : Int) - 0) = w by omega] at hz
        have h7 : (w : Int) * r.rate ≤ (v : Int) * r.rate := Int.mul_le_mul_of_nonneg_right (by omega) (by omega)
        have h8 : (v : Int) * r.rate = (u : Int) * r.rate + ((v : Int) - u) * r.rate := by rw [← Int.add_mul]; congr 1; omega
        omega
      · have h3 := hd d hdl ht
        dsimp only at h3
        have h4 : max 0 ((w : Int) - (wrk r t d.minute.toNat : Int)) * r.rate ≤ ((v : Int) - u) * r.rate := Int.mul_le_mul_of_nonneg_right (by omega) (by omega)
        omega
    omega
theorem trueC_all {r : Rc} {t : Nat} {l : List Wd} (hok : rcB r = true) (hl : ∀ d, d ∈ l → wdB r d = true) (h : trT r l t = true) (w : Int) : lowC (allW r t l) r.rate w ≤ highC r.p (allW r t l) r.rate w := by
  have hn := rcB_nums hok
  have hws := allW_ok (team := t) hok hl
  have hall : ∀ x, x ∈ allW r t l → lowC (allW r t l) r.rate x.1 ≤ highC r.p (allW r t l) r.rate x.1 := fun x hx => of_decide_eq_true (List.all_eq_true.1 h x hx)
  refine lowC_le.2 ⟨(highC_bd hws (by omega) (by omega)).1, fun i hi => ?_⟩
  have h1 := hall i hi
  have h2 := (lowC_le.1 (Int.le_refl (lowC (allW r t l) r.rate i.1))).2 i hi
  rw [show max 0 (i.1 - i.1) = 0 by omega, Int.zero_mul] at h2
  have h3 := le_highC.1 (Int.le_trans (by omega : i.2.lo ≤ lowC (allW r t l) r.rate i.1) h1)
  have hpos := max_mul_nonneg (a := i.1 - w) (rate := r.rate) (by omega)
  refine le_highC.2 ⟨by have := h3.1; omega, fun j hj => ?_⟩
  have h4 := h3.2 j hj
  have h5 : max 0 (i.1 - j.1) * r.rate ≤ (max 0 (i.1 - w) + max 0 (w - j.1)) * r.rate := Int.mul_le_mul_of_nonneg_right (by omega) (by omega)
  rw [Int.add_mul] at h5
  omega
theorem isB_eq {r : Rc} {t : Nat} {l : List Wd} (hok : rcB r = true) (hl : ∀ d, d ∈ l → wdB r d = true) : isB r t l = trT r l t := by
  have hn := rcB_nums hok
  rw [Bool.eq_iff_iff]
  constructor
  · intro h
    refine List.all_eq_true.2 fun x hx => decide_eq_true ?_
    have hx1 := (allW_ok (team := t) hok hl x hx)
    obtain ⟨m, hm⟩ := Int.eq_ofNat_of_zero_le hx1.1.1
    have hxl : x.1 ≤ r.lim := by
      have : ∀ y, y ∈ allW r t l → y.1 ≤ r.lim := mem_allW.2 ⟨by dsimp only; omega, by dsimp only; omega, fun d _ _ => wrk_le r t d.minute.toNat (by omega)⟩
      exact this x hx
    have h1 := of_decide_eq_true (List.all_eq_true.1 h m (List.mem_range.2 (by omega)))
    rw [lowB_eq hok (by omega), highB_eq hok (by omega)] at h1
    rw [hm]; exact h1
  · intro h
    refine List.all_eq_true.2 fun w hw => decide_eq_true ?_
    have hw := List.mem_range.1 hw
    rw [lowB_eq hok (by omega), highB_eq hok (by omega)]
    exact trueC_all hok hl h w
end Go.Proofs.Ytegdfpilhlcplaa
