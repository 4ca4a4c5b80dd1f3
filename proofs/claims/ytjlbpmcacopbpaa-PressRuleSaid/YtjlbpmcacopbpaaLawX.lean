/- The best order, and another one. No program in sight. -/
import Derived.Test.YtjlbpmcacopbpaaWalk17
import Derived.Test.YtjlbpmcacopbpaaLawW
namespace Go.Proofs.Ytjlbpmcacopbpaa
theorem ends_get {l : List Jb} {o : List Int} {k : Nat} (hk : k < l.length) (hi : Bool) : gtV 0 ((endsV (l.map (timeV hi)) o).take (k + 1)) = max (gtV 0 ((endsV (l.map (timeV hi)) o).take k)) ((endsV (l.map (timeV hi)) o).getD k 0) := gtV_take (by unfold endsV; rw [endsK_len, List.length_map]; exact hk)
theorem ends_all {l : List Jb} {o : List Int} {k : Nat} (hk : k = l.length) (hi : Bool) : gtV 0 ((endsV (l.map (timeV hi)) o).take k) = doneO (l.map (timeV hi)) o := by
  rw [List.take_of_length_le (by unfold endsV; rw [endsK_len, List.length_map]; omega)]; rfl
theorem best_no {l : List Jb} (h : (bestR l).2.2 ≠ 0) : jobsB l = false ∧ bestR l = ([], 0, 1) := by
  by_cases hj : jobsB l = true
  · exfalso; apply h; unfold bestR; rw [if_neg (by simp [hj])]
  · have hj : jobsB l = false := by simpa using hj
    exact ⟨hj, by unfold bestR; rw [if_pos hj]⟩
structure BestF (l : List Jb) : Prop where
  jobs : jobsB l = true
  best : BestO (l.map (timeV true)) l.length (bestR l).1
  hour : (bestR l).2.1 = doneO (l.map (timeV true)) (bestR l).1
  err : (bestR l).2.2 = 0
theorem best_jobs {l : List Jb} (hj : jobsB l = true) : BestF l := by
  have h := best_ref (ts := l.map (timeV true)) (n := l.length) (List.length_map _)
  have hb := bestR_of hj h
  exact ⟨hj, by rw [hb]; exact h, by rw [hb], by rw [hb]⟩
theorem best_yes {l : List Jb} (h : (bestR l).2.2 = 0) : BestF l := by
  by_cases hj : jobsB l = true
  · exact best_jobs hj
  · exfalso
    have hj : jobsB l = false := by simpa using hj
    unfold bestR at h; rw [if_pos hj] at h; cases h
theorem chk_perm {l : List Jb} (hj : jobsB l = true) {o : List Int} (h : o.Perm (rngI l.length)) : chkV l o = 0 := by
  unfold chkV; rw [if_neg (by simp [hj]), if_neg (by simp [(ordB_iff o l.length).2 h])]
theorem first_diff : ∀ {x y : List Int}, x.length = y.length → ¬ lexI y x → ∀ k, k < x.length → (∀ j, j < k → x.getD j 0 = y.getD j 0) → x.getD k 0 ≠ y.getD k 0 → x.getD k 0 < y.getD k 0
  | [], _, _, _, k, hk, _, _ => absurd hk (Nat.not_lt_zero k)
  | _ :: _, [], h, _, _, _, _, _ => by cases h
  | x :: xs, y :: ys, _, hn, 0, _, _, hne => by
    show x < y
    have h1 : ¬ y < x := fun h => hn (.inl h)
    have h2 : x ≠ y := hne
    omega
  | x :: xs, y :: ys, hl, hn, k + 1, hk, hs, hne => by
    have h0 : x = y := hs 0 (by omega)
    subst h0
    show xs.getD k 0 < ys.getD k 0
    exact first_diff (by simpa using hl) (fun h => hn (.inr ⟨rfl, h⟩)) k (by simpa using hk) (fun j hj => hs (j + 1) (by omega)) hne
end Go.Proofs.Ytjlbpmcacopbpaa
