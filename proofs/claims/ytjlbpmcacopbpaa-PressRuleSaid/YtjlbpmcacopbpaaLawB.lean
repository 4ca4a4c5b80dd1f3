/- The best order: of the least hour the first. No program in sight. -/
import Derived.Test.YtjlbpmcacopbpaaLawR
namespace Go.Proofs.Ytjlbpmcacopbpaa
theorem lexI_asymm : ∀ {x y : List Int}, lexI x y → ¬ lexI y x
  | [], _, h, _ => h
  | _ :: _, [], h, _ => h
  | x :: xs, y :: ys, h1, h2 => by
    rcases h1 with h1 | ⟨rfl, h1⟩
    · rcases h2 with h2 | ⟨h2, _⟩ <;> omega
    · rcases h2 with h2 | ⟨_, h2⟩
      · omega
      · exact lexI_asymm h1 h2
/-- when all is done, by an order -/
def doneO (ts : List Tm) (o : List Int) : Int := gtV 0 (endsV ts o)
/-- no other order is done earlier, nor as early and comes before -/
structure BestO (ts : List Tm) (n : Nat) (b : List Int) : Prop where
  perm : b.Perm (rngI n)
  le : ∀ q, q.Perm (rngI n) → doneO ts b ≤ doneO ts q
  lt : ∀ q, q.Perm (rngI n) → lexI q b → doneO ts b < doneO ts q
theorem best_ref {ts : List Tm} {n : Nat} (htl : ts.length = n) : BestO ts n ((refO n n []).getD (bestI ts) []) := by
  subst htl
  have hpos := refO_pos ts.length
  have hbi : bestI ts < (refO ts.length ts.length []).length := bestK_lt (hourK ts) _ hpos
  have hmin := bestK_min (hourK ts) (refO ts.length ts.length []).length
  have hat : ∀ q, q.Perm (rngI ts.length) → ∃ j, j < (refO ts.length ts.length []).length ∧ (refO ts.length ts.length []).getD j [] = q := fun q hq => by
    have := refO_mem ts.length ts.length [] q (by rw [hq.length_eq, rngI_len]) (by simpa using hq)
    obtain ⟨j, hj, hjq⟩ := List.getElem_of_mem this
    exact ⟨j, hj, by rw [List.getD_eq_getElem?_getD, List.getElem?_eq_getElem hj]; simpa using hjq⟩
  refine ⟨refO_perm _ _ [] (by simp) (by simp) (by simp) _ (List.mem_of_getElem? (get_of_lt [] hbi)), fun q hq => ?_, fun q hq hl => ?_⟩
  · obtain ⟨j, hj, rfl⟩ := hat q hq
    exact hmin.1 j hj
  · obtain ⟨j, hj, rfl⟩ := hat q hq
    rcases Nat.lt_trichotomy j (bestI ts) with h | h | h
    · exact hmin.2 j h
    · rw [h] at hl; exact absurd hl (lexI_asymm hl)
    · exfalso
      have hs := List.pairwise_iff_getElem.1 (refO_sorted ts.length ts.length []) (bestI ts) j hbi hj h
      refine lexI_asymm hs ?_
      rw [List.getD_eq_getElem?_getD, List.getD_eq_getElem?_getD, List.getElem?_eq_getElem hbi, List.getElem?_eq_getElem hj] at hl
      exact hl
theorem lexI_total : ∀ {x y : List Int}, x.length = y.length → lexI x y ∨ x = y ∨ lexI y x
  | [], [], _ => .inr (.inl rfl)
  | x :: xs, y :: ys, h => by
    rcases Int.lt_trichotomy x y with h1 | rfl | h1
    · exact .inl (.inl h1)
    · rcases lexI_total (x := xs) (y := ys) (by simpa using h) with h2 | rfl | h2
      · exact .inl (.inr ⟨rfl, h2⟩)
      · exact .inr (.inl rfl)
      · exact .inr (.inr (.inr ⟨rfl, h2⟩))
    · exact .inr (.inr (.inl h1))
/-- there is one -/
theorem best_one {ts : List Tm} {n : Nat} {a b : List Int} (ha : BestO ts n a) (hb : BestO ts n b) : a = b := by
  rcases lexI_total (x := a) (y := b) (by rw [ha.perm.length_eq, hb.perm.length_eq]) with h | h | h
  · have h1 := hb.lt a ha.perm h; have h2 := ha.le b hb.perm; omega
  · exact h
  · have h1 := ha.lt b hb.perm h; have h2 := hb.le a ha.perm; omega
end Go.Proofs.Ytjlbpmcacopbpaa
