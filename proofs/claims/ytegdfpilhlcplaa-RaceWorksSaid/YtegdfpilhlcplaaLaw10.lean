/- A minute more, and a break more: plain laws. -/
import Derived.Test.YtegdfpilhlcplaaRep2
namespace Go.Proofs.Ytegdfpilhlcplaa
theorem wrk_succ (r : Rc) (t m : Nat) : wrk r t (m + 1) = if offB (brkOf r t) m = false ∧ (wrk r t m : Int) < r.lim then wrk r t m + 1 else wrk r t m := by
  unfold wrk
  rw [cntW_succ]
  cases h : offB (brkOf r t) m with
  | true => simp
  | false =>
    simp only [Bool.false_eq_true, if_false, true_and]
    split <;> omega
theorem wrk_zero (r : Rc) (t : Nat) : wrk r t 0 = 0 := by simp [wrk, cntW]
/-- a break more -/
def moreR (r : Rc) (t : Nat) (s : Sp) : Rc := { r with teams := r.teams.set t ⟨penOf r t, brkOf r t ++ [s]⟩ }
theorem moreR_get {r : Rc} {t : Nat} {s : Sp} (ht : t < r.teams.length) : (moreR r t s).teams[t]? = some ⟨penOf r t, brkOf r t ++ [s]⟩ := by
  unfold moreR; simp [ht]
theorem moreR_ne {r : Rc} {t k : Nat} {s : Sp} (hk : k ≠ t) : (moreR r t s).teams[k]? = r.teams[k]? := by
  unfold moreR; simp [List.getElem?_set_ne (Ne.symm hk)]
theorem moreR_len (r : Rc) (t : Nat) (s : Sp) : (moreR r t s).teams.length = r.teams.length := by simp [moreR]
theorem moreR_ok {r : Rc} {t : Nat} {s : Sp} (hok : rcB r = true) (ht : t < r.teams.length) (hb : (brkOf r t).length < 4) (hs : spB s 0 2000 = true) : rcB (moreR r t s) = true := by
  have h0 := hok
  simp only [rcB, Bool.and_eq_true, List.all_eq_true] at hok ⊢
  have hlen := moreR_len r t s
  refine ⟨⟨⟨⟨hok.1.1.1.1, hok.1.1.1.2⟩, hok.1.1.2⟩, by rw [hlen]; exact hok.1.2⟩, fun x hx => ?_⟩
  obtain ⟨k, hk⟩ := List.getElem?_of_mem hx
  by_cases e : k = t
  · subst e
    rw [moreR_get ht] at hk
    have hk := Option.some.inj hk
    subst hk
    have h1 : tmB (r.teams.getD k ⟨0, []⟩) = true := hok.2 _ (List.mem_of_getElem? (get_of_lt ⟨0, []⟩ ht))
    simp only [tmB, Bool.and_eq_true, List.all_eq_true] at h1 ⊢
    refine ⟨⟨h1.1.1, ?_⟩, fun z hz => ?_⟩
    · have : ¬ (4 < ((brkOf r k ++ [s]).length : Int)) := by simp; omega
      simp at this ⊢; omega
    · rcases List.mem_append.1 hz with h2 | h2
      · exact h1.2 z h2
      · rw [List.mem_singleton.1 h2]; exact hs
  · rw [moreR_ne e] at hk
    exact hok.2 x (List.mem_of_getElem? hk)
theorem brk_more {r : Rc} {t : Nat} {s : Sp} (ht : t < r.teams.length) : brkOf (moreR r t s) t = brkOf r t ++ [s] := by
  show ((moreR r t s).teams.getD t ⟨0, []⟩).brk = _
  rw [getD_of (moreR_get ht)]
theorem offB_snoc (bs : List Sp) (s : Sp) (m : Nat) : offB (bs ++ [s]) m = (offB bs m || decide (s.lo ≤ (m : Int) ∧ (m : Int) ≤ s.hi)) := by simp [offB]
theorem cntW_snoc_le (bs : List Sp) (s : Sp) : ∀ m, cntW (bs ++ [s]) m ≤ cntW bs m
  | 0 => by simp [cntW]
  | m + 1 => by
    have := cntW_snoc_le bs s m
    rw [cntW_succ, cntW_succ, offB_snoc]
    cases h : offB bs m
    · simp; split <;> omega
    · simp; omega
theorem cntW_snoc_eq (bs : List Sp) (s : Sp) : ∀ m : Nat, (m : Int) ≤ s.lo → cntW (bs ++ [s]) m = cntW bs m
  | 0, _ => by simp [cntW]
  | m + 1, h => by
    have := cntW_snoc_eq bs s m (by omega)
    rw [cntW_succ, cntW_succ, offB_snoc, this, show decide (s.lo ≤ (m : Int) ∧ (m : Int) ≤ s.hi) = false by rw [decide_eq_false_iff_not]; omega, Bool.or_false]
theorem wrk_more_le {r : Rc} {t : Nat} {s : Sp} (ht : t < r.teams.length) (m : Nat) : wrk (moreR r t s) t m ≤ wrk r t m := by
  have h1 := cntW_snoc_le (brkOf r t) s m
  have h2 : (moreR r t s).lim = r.lim := rfl
  unfold wrk
  rw [brk_more ht, h2]; omega
theorem wrk_more_eq {r : Rc} {t : Nat} {s : Sp} (ht : t < r.teams.length) {m : Nat} (h : (m : Int) ≤ s.lo) : wrk (moreR r t s) t m = wrk r t m := by
  have h1 := cntW_snoc_eq (brkOf r t) s m h
  have h2 : (moreR r t s).lim = r.lim := rfl
  unfold wrk
  rw [brk_more ht, h2, h1]
end Go.Proofs.Ytegdfpilhlcplaa
