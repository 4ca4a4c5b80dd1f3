/- Words, and the errors: plain laws. -/
import Derived.Test.YtegdfpilhlcplaaLaw1
import Derived.Test.YtegdfpilhlcplaaRep2
namespace Go.Proofs.Ytegdfpilhlcplaa
theorem chk_zero {r : Rc} {l : List Wd} (h : chk r l = 0) : rcB r = true ∧ l.length ≤ 40 ∧ ∀ d, d ∈ l → wdB r d = true := by
  unfold chk at h
  cases hB : rcB r with
  | false => simp [hB] at h
  | true =>
    rw [if_neg (by simp [hB])] at h
    by_cases hl : 40 < (l.length : Int)
    · simp [hl] at h
    · rw [if_neg hl] at h
      cases ha : l.any (fun d => !wdB r d) with
      | true => simp [ha] at h
      | false =>
        refine ⟨rfl, by omega, fun d hd => ?_⟩
        cases hw : wdB r d with
        | true => rfl
        | false =>
          have : l.any (fun d => !wdB r d) = true := List.any_eq_true.2 ⟨d, hd, by simp [hw]⟩
          rw [ha] at this; cases this
theorem wdB_parts {r : Rc} {d : Wd} (h : wdB r d = true) : (0 ≤ d.team ∧ d.team ≤ (r.teams.length : Int) - 1) ∧ (0 ≤ d.minute ∧ d.minute ≤ 2000) ∧ 0 ≤ d.got.lo ∧ d.got.lo ≤ d.got.hi ∧ d.got.hi ≤ r.p := by
  simp only [wdB, spB, Bool.and_eq_true, decide_eq_true_eq] at h
  exact ⟨h.1.1, h.1.2, h.2⟩
theorem allW_ok {r : Rc} {team : Nat} {l : List Wd} (hok : rcB r = true) (hl : ∀ d, d ∈ l → wdB r d = true) : WsOk (allW r team l) := by
  have hn := rcB_nums hok
  intro x hx
  simp only [allW, List.mem_cons] at hx
  rcases hx with rfl | rfl | hx
  · simp
  · exact ⟨by dsimp only; omega, by dsimp only; omega, by dsimp only; omega, by dsimp only; omega⟩
  · unfold sayW at hx
    obtain ⟨d, hd, rfl⟩ := List.mem_map.1 hx
    obtain ⟨h1, h2, h3, h4, h5⟩ := wdB_parts (hl d (List.mem_filter.1 hd).1)
    have := wrk_le r team d.minute.toNat (by omega)
    exact ⟨by dsimp only; omega, h3, h4, by dsimp only; omega⟩
theorem allW_len {r : Rc} {team : Nat} {l : List Wd} (hl : l.length ≤ 40) : (allW r team l).length ≤ 42 := by
  have := sayW_len r team l
  simp only [allW, List.length_cons]; omega
def trT (r : Rc) (l : List Wd) (t : Nat) : Bool := trueC r.p (allW r t l) r.rate
def openE (r : Rc) (l : List Wd) (vb : Bool) : Int := if chk r l ≠ 0 then chk r l else if vb = false then 2 else if (List.range r.teams.length).all (trT r l) = true then 0 else 6
theorem openE_zero {r : Rc} {l : List Wd} {vb : Bool} (h : openE r l vb = 0) : chk r l = 0 ∧ vb = true ∧ ∀ t, t < r.teams.length → trT r l t = true := by
  unfold openE at h
  by_cases h1 : chk r l ≠ 0
  · rw [if_pos h1] at h; exact absurd h h1
  · rw [if_neg h1] at h
    cases vb with
    | false => simp at h
    | true =>
      rw [if_neg (by simp)] at h
      cases ha : (List.range r.teams.length).all (trT r l) with
      | false => rw [ha, if_neg (by simp)] at h; omega
      | true => exact ⟨by omega, rfl, fun t ht => List.all_eq_true.1 ha t (List.mem_range.2 ht)⟩
end Go.Proofs.Ytegdfpilhlcplaa
