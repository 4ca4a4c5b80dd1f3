/- A truth, and words that are true of it: plain laws. -/
import Derived.Test.YtegdfpilhlcplaaLaw13
namespace Go.Proofs.Ytegdfpilhlcplaa
open Go Go.Eng Go.RowKit
def byZ (bs : List Int) (i : Nat) : Int := bs.getD (i % bs.length) 0
def mostZ (r : Rc) (bs : List Int) (t : Nat) : Int := if byZ bs t % 3 = 0 then byZ bs t % (r.p + 1) else r.p
def stepZ (r : Rc) (bs : List Int) (t w : Nat) : Int := if 0 < byZ bs (t + w) % 4 then byZ bs (t + w) % (r.rate + 1) else r.rate
/-- what a team truly has -/
def hasZ (r : Rc) (bs : List Int) (t : Nat) : Nat → Int
  | 0 => 0
  | w + 1 => min (mostZ r bs t) (hasZ r bs t w + stepZ r bs t (w + 1))
def saidT (r : Rc) (bs : List Int) (i : Nat) : Nat := ((bs.getD i 0) % r.teams.length).toNat
def saidM (r : Rc) (bs : List Int) (i : Nat) : Nat := (byZ bs (i + 1) % (2 * r.lim + 1) % 2001).toNat
def saidH (r : Rc) (bs : List Int) (i : Nat) : Int := hasZ r bs (saidT r bs i) (wrk r (saidT r bs i) (saidM r bs i))
def saidW (r : Rc) (bs : List Int) (i : Nat) : Wd := ⟨saidT r bs i, saidM r bs i, ⟨max 0 (saidH r bs i - (bs.getD i 0) / 256 % 9), min r.p (saidH r bs i + (bs.getD i 0) / 16 % 7)⟩⟩
def saidL (r : Rc) (bs : List Int) (k : Nat) : List Wd := (List.range k).map (saidW r bs)
theorem saidL_succ (r : Rc) (bs : List Int) (k : Nat) : saidL r bs (k + 1) = saidL r bs k ++ [saidW r bs k] := by unfold saidL; rw [List.range_succ, List.map_append]; rfl
theorem saidL_len (r : Rc) (bs : List Int) (k : Nat) : (saidL r bs k).length = k := by simp [saidL]
def BsOk (bs : List Int) : Prop := 0 < bs.length ∧ ∀ x, x ∈ bs → 0 ≤ x ∧ x ≤ 65535
theorem BsOk.get {bs : List Int} (h : BsOk bs) {i : Nat} (hi : i < bs.length) : 0 ≤ bs.getD i 0 ∧ bs.getD i 0 ≤ 65535 := h.2 _ (List.mem_of_getElem? (get_of_lt 0 hi))
theorem BsOk.by {bs : List Int} (h : BsOk bs) (i : Nat) : 0 ≤ byZ bs i ∧ byZ bs i ≤ 65535 := h.get (Nat.mod_lt _ h.1)
theorem most_bd {r : Rc} {bs : List Int} (h : BsOk bs) (hp : 1 ≤ r.p) (t : Nat) : 0 ≤ mostZ r bs t ∧ mostZ r bs t ≤ r.p := by
  unfold mostZ
  have h0 := h.by t
  split
  · have h1 := Int.emod_nonneg (byZ bs t) (show r.p + 1 ≠ 0 by omega)
    have h2 := Int.emod_lt_of_pos (byZ bs t) (show 0 < r.p + 1 by omega)
    omega
  · omega
theorem step_bd {r : Rc} {bs : List Int} (h : BsOk bs) (hr : 1 ≤ r.rate) (t w : Nat) : 0 ≤ stepZ r bs t w ∧ stepZ r bs t w ≤ r.rate := by
  unfold stepZ
  have h0 := h.by (t + w)
  split
  · have h1 := Int.emod_nonneg (byZ bs (t + w)) (show r.rate + 1 ≠ 0 by omega)
    have h2 := Int.emod_lt_of_pos (byZ bs (t + w)) (show 0 < r.rate + 1 by omega)
    omega
  · omega
theorem has_bd {r : Rc} {bs : List Int} (h : BsOk bs) (hp : 1 ≤ r.p) (hr : 1 ≤ r.rate) (t : Nat) : ∀ w, 0 ≤ hasZ r bs t w ∧ hasZ r bs t w ≤ mostZ r bs t
  | 0 => by have := most_bd h hp t; exact ⟨Int.le_refl _, this.1⟩
  | w + 1 => by
    have h1 := has_bd h hp hr t w
    have h2 := most_bd h hp t
    have h3 := step_bd h hr t (w + 1)
    unfold hasZ; omega
theorem has_step {r : Rc} {bs : List Int} (h : BsOk bs) (hp : 1 ≤ r.p) (hr : 1 ≤ r.rate) (t w : Nat) : hasZ r bs t w ≤ hasZ r bs t (w + 1) ∧ hasZ r bs t (w + 1) ≤ hasZ r bs t w + r.rate := by
  have h1 := has_bd h hp hr t w
  have h3 := step_bd h hr t (w + 1)
  have e : hasZ r bs t (w + 1) = min (mostZ r bs t) (hasZ r bs t w + stepZ r bs t (w + 1)) := rfl
  rw [e]; omega
/-- a truth: no fewer as time goes on, and no more than the rate in a minute -/
structure Truth (r : Rc) (H : Nat → Int) : Prop where
  zero : H 0 = 0
  bd : ∀ w, 0 ≤ H w ∧ H w ≤ r.p
  step : ∀ w, H w ≤ H (w + 1) ∧ H (w + 1) ≤ H w + r.rate
theorem has_truth {r : Rc} {bs : List Int} (h : BsOk bs) (hp : 1 ≤ r.p) (hr : 1 ≤ r.rate) (t : Nat) : Truth r (hasZ r bs t) :=
  ⟨rfl, fun w => by have h1 := has_bd h hp hr t w; have h2 := most_bd h hp t; omega, fun w => has_step h hp hr t w⟩
theorem Truth.mono {r : Rc} {H : Nat → Int} (h : Truth r H) {a b : Nat} (hab : a ≤ b) : H a ≤ H b := by
  induction hab with
  | refl => exact Int.le_refl _
  | step _ ih => exact Int.le_trans ih (h.step _).1
theorem Truth.lip {r : Rc} {H : Nat → Int} (h : Truth r H) (hr : 0 ≤ r.rate) (a b : Nat) : H b ≤ H a + max 0 ((b : Int) - a) * r.rate := by
  rcases Nat.le_total b a with hba | hab
  · have := h.mono hba
    have := max_mul_nonneg (a := (b : Int) - a) hr
    omega
  · obtain ⟨d, rfl⟩ := Nat.exists_eq_add_of_le hab
    rw [show max 0 (((a + d : Nat) : Int) - a) = d by omega]
    clear hab
    induction d with
    | zero => simp
    | succ d ih =>
      have h1 := (h.step (a + d)).2
      rw [show (((d + 1 : Nat) : Int)) * r.rate = (d : Int) * r.rate + r.rate by rw [Int.natCast_add, Int.add_mul]; simp]
      rw [show a + (d + 1) = a + d + 1 from rfl]; omega
/-- words that are true -/
structure TrueW (r : Rc) (H : Nat → Nat → Int) (l : List Wd) : Prop where
  ok : rcB r = true
  len : l.length ≤ 40
  wd : ∀ d, d ∈ l → wdB r d = true
  tr : ∀ t, Truth r (H t)
  say : ∀ d, d ∈ l → d.got.lo ≤ H d.team.toNat (wrk r d.team.toNat d.minute.toNat) ∧ H d.team.toNat (wrk r d.team.toNat d.minute.toNat) ≤ d.got.hi
theorem TrueW.bounds {r H l} (h : TrueW r H l) (t w : Nat) (_hw : (w : Int) ≤ r.lim) : lowC (allW r t l) r.rate w ≤ H t w ∧ H t w ≤ highC r.p (allW r t l) r.rate w := by
  have hn := rcB_nums h.ok
  have hb := (h.tr t).bd
  have hlip := (h.tr t).lip (show 0 ≤ r.rate by omega)
  constructor
  · refine lowC_le.2 ⟨(hb w).1, mem_allW.2 ⟨?_, ?_, fun d hd ht => ?_⟩⟩
    · have h1 := max_mul_nonneg (a := 0 - (w : Int)) (rate := r.rate) (by omega)
      have h2 := (hb w).1
      dsimp only; omega
    · have h1 := max_mul_nonneg (a := r.lim - (w : Int)) (rate := r.rate) (by omega)
      have h2 := (hb w).1
      dsimp only; omega
    · have h1 := (h.say d hd).1
      rw [show d.team.toNat = t by omega] at h1
      have h2 := hlip w (wrk r t d.minute.toNat)
      dsimp only; omega
  · refine le_highC.2 ⟨(hb w).2, mem_allW.2 ⟨?_, ?_, fun d hd ht => ?_⟩⟩
    · have h1 := hlip 0 w
      rw [(h.tr t).zero] at h1
      dsimp only; exact h1
    · have h1 := max_mul_nonneg (a := (w : Int) - r.lim) (rate := r.rate) (by omega)
      have h2 := (hb w).2
      dsimp only; omega
    · have h1 := (h.say d hd).2
      rw [show d.team.toNat = t by omega] at h1
      have h2 := hlip (wrk r t d.minute.toNat) w
      dsimp only; omega
theorem TrueW.fits {r H l} (h : TrueW r H l) : openE r l true = 0 := by
  have hn := rcB_nums h.ok
  refine (openE_iff (chk_of h.ok h.len h.wd)).2 fun t ht => ?_
  have hws := allW_ok (team := t) h.ok h.wd
  refine List.all_eq_true.2 fun x hx => decide_eq_true ?_
  have hx1 := hws x hx
  have hxl : x.1 ≤ r.lim := by
    have : ∀ y, y ∈ allW r t l → y.1 ≤ r.lim := mem_allW.2 ⟨by dsimp only; omega, by dsimp only; omega, fun d _ _ => wrk_le r t d.minute.toNat (by omega)⟩
    exact this x hx
  obtain ⟨m, hm⟩ := Int.eq_ofNat_of_zero_le hx1.1.1
  rw [hm] at hxl ⊢
  have := h.bounds t m hxl
  omega
theorem TrueW.pts {r H l} (h : TrueW r H l) (t w : Nat) (hw : (w : Int) ≤ r.lim) : (ptsP r l t w).lo ≤ scV (H t) r.p (penOf r t) w ∧ scV (H t) r.p (penOf r t) w ≤ (ptsP r l t w).hi := by
  have e : scV (H t) r.p (penOf r t) w = ptsC (H t) r.p (penOf r t) w := scV_eq (fun _ _ => rfl) (fun k _ => ((h.tr t).bd k).2)
  rw [e]
  unfold ptsP; dsimp only; unfold ptsLo ptsHi
  exact ⟨ptsC_mono fun y hy => (h.bounds t y (by omega)).1, ptsC_mono fun y hy => (h.bounds t y (by omega)).2⟩
/-- the rank that a number gives -/
def rkT (g : Nat → Int) (n t : Nat) : Int := 1 + ((List.range n).countP fun k => decide (g k > g t) : Nat)
theorem rkT_succ (g : Nat → Int) (n t : Nat) : rkT g (n + 1) t = rkT g n t + if g n > g t then 1 else 0 := by
  unfold rkT; rw [List.range_succ, List.countP_append]
  by_cases h : g n > g t
  · rw [if_pos h, List.countP_singleton, decide_eq_true h]; simp; omega
  · rw [if_neg h, List.countP_singleton, decide_eq_false h]; simp
theorem rkT_bd (g : Nat → Int) (n t : Nat) : 1 ≤ rkT g n t ∧ rkT g n t ≤ 1 + n := by
  unfold rkT
  have := List.countP_le_length (p := fun k => decide (g k > g t)) (l := List.range n)
  rw [List.length_range] at this; omega
theorem rank_true {sc : List Sp} {g : Nat → Int} (hg : ∀ i, i < sc.length → (sc.getD i sp0).lo ≤ g i ∧ g i ≤ (sc.getD i sp0).hi) {t : Nat} (ht : t < sc.length) : ((rankL sc).getD t sp0).lo ≤ rkT g sc.length t ∧ rkT g sc.length t ≤ ((rankL sc).getD t sp0).hi := by
  rw [rankL_getD ht]
  have h1 := hg t ht
  unfold rkS rkA rkB rkT; dsimp only
  constructor
  · have : (List.range sc.length).countP (fun j => decide (j ≠ t ∧ (sc.getD j sp0).lo > (sc.getD t sp0).hi)) ≤ (List.range sc.length).countP (fun k => decide (g k > g t)) := by
      refine List.countP_mono_left fun j hj hp => ?_
      have h2 := hg j (List.mem_range.1 hj)
      rw [decide_eq_true_eq] at hp ⊢
      omega
    omega
  · have : (List.range sc.length).countP (fun k => decide (g k > g t)) ≤ (List.range sc.length).countP (fun j => decide (j ≠ t ∧ (sc.getD j sp0).hi > (sc.getD t sp0).lo)) := by
      refine List.countP_mono_left fun j hj hp => ?_
      have h2 := hg j (List.mem_range.1 hj)
      rw [decide_eq_true_eq] at hp ⊢
      refine ⟨fun e => ?_, by omega⟩
      subst e; omega
    omega
theorem last_can {r : Rc} {l : List Wd} {g : Nat → Int} (hg : ∀ i, i < r.teams.length → ((winP r l).getD i sp0).lo ≤ g i ∧ g i ≤ ((winP r l).getD i sp0).hi) {t : Nat} (ht : t < r.teams.length) (h : rkT g r.teams.length t = 1) : (winC r l).testBit t = true := by
  rw [winC_bit ht, decide_eq_true_eq, can_iff ht]
  intro j hj _
  have h0 : (List.range r.teams.length).countP (fun k => decide (g k > g t)) = 0 := by unfold rkT at h; omega
  have h1 := List.countP_eq_zero.1 h0 j (List.mem_range.2 hj)
  simp only [decide_eq_true_eq] at h1
  have h2 := hg j hj
  have h3 := hg t ht
  omega
theorem last_sure {r : Rc} {l : List Wd} {g : Nat → Int} (hg : ∀ i, i < r.teams.length → ((winP r l).getD i sp0).lo ≤ g i ∧ g i ≤ ((winP r l).getD i sp0).hi) {t : Nat} (ht : t < r.teams.length) (h : 1 < rkT g r.teams.length t) : (winS r l).testBit t = false := by
  rw [winS_bit ht, decide_eq_false_iff_not, sure_iff ht]
  intro hs
  have h0 : (List.range r.teams.length).countP (fun k => decide (g k > g t)) = 0 := by
    rw [List.countP_eq_zero]
    intro j hj
    have hj := List.mem_range.1 hj
    simp only [decide_eq_true_eq]
    intro h4
    have h2 := hg j hj
    have h3 := hg t ht
    by_cases e : j = t
    · subst e; omega
    · have := hs j hj e; omega
  unfold rkT at h; omega
/-- the words of the law are true -/
theorem said_true {r : Rc} {bs : List Int} (hok : rcB r = true) (h : BsOk bs) {k : Nat} (hk : k ≤ 40) (hkb : k ≤ bs.length) : TrueW r (hasZ r bs) (saidL r bs k) := by
  have hn := rcB_nums hok
  have key : ∀ d, d ∈ saidL r bs k → wdB r d = true ∧ d.got.lo ≤ hasZ r bs d.team.toNat (wrk r d.team.toNat d.minute.toNat) ∧ hasZ r bs d.team.toNat (wrk r d.team.toNat d.minute.toNat) ≤ d.got.hi := by
    intro d hd
    obtain ⟨i, hi, rfl⟩ := List.mem_map.1 hd
    have hi := List.mem_range.1 hi
    have hx := h.get (show i < bs.length by omega)
    have hT : saidT r bs i < r.teams.length := by
      unfold saidT
      have h1 := Int.emod_nonneg (bs.getD i 0) (show ((r.teams.length : Nat) : Int) ≠ 0 by omega)
      have h2 := Int.emod_lt_of_pos (bs.getD i 0) (show 0 < ((r.teams.length : Nat) : Int) by omega)
      omega
    have hM : saidM r bs i ≤ 2000 := by
      unfold saidM
      have h1 := Int.emod_nonneg (byZ bs (i + 1)) (show 2 * r.lim + 1 ≠ 0 by omega)
      omega
    have hH := (has_truth h (show 1 ≤ r.p by omega) (show 1 ≤ r.rate by omega) (saidT r bs i)).bd (wrk r (saidT r bs i) (saidM r bs i))
    have e : hasZ r bs (saidW r bs i).team.toNat (wrk r (saidW r bs i).team.toNat (saidW r bs i).minute.toNat) = saidH r bs i := rfl
    rw [e]
    have hH' : 0 ≤ saidH r bs i ∧ saidH r bs i ≤ r.p := hH
    refine ⟨?_, ?_, ?_⟩
    · simp only [wdB, spB, saidW, Bool.and_eq_true]
      exact ⟨⟨decide_eq_true (by omega), decide_eq_true (by omega)⟩, decide_eq_true (by omega)⟩
    · show max 0 (saidH r bs i - bs.getD i 0 / 256 % 9) ≤ _; omega
    · show _ ≤ min r.p (saidH r bs i + bs.getD i 0 / 16 % 7); omega
  exact ⟨hok, by rw [saidL_len]; exact hk, fun d hd => (key d hd).1, fun t => has_truth h (by omega) (by omega) t, fun d hd => (key d hd).2⟩
end Go.Proofs.Ytegdfpilhlcplaa
