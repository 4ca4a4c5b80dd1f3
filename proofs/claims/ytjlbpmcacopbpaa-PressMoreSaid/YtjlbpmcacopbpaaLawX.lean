/- Why all is not done earlier; the best order, and another one. No program in sight. -/
import Derived.Test.YtjlbpmcacopbpaaWalk17
namespace Go.Proofs.Ytjlbpmcacopbpaa
theorem sumP_app (a b : List Tm) : sumP (a ++ b) = sumP a + sumP b := by unfold sumP; rw [List.map_append, List.sum_append]
theorem sumL_app (a b : List Tm) : sumL (a ++ b) = sumL a + sumL b := by unfold sumL; rw [List.map_append, List.sum_append]
theorem ordT_get {ts : List Tm} {o : List Int} {k : Nat} (h : k < o.length) : (ordT ts o)[k]? = some (ts.getD (o.getD k 0).toNat (0, 0)) := by
  unfold ordT; rw [List.getElem?_map, get_of_lt 0 h]; rfl
theorem pre_take {ts : List Tm} {o : List Int} : ∀ k, k ≤ o.length → preP ts o k = sumP ((ordT ts o).take k) ∧ preL ts o k = sumL ((ordT ts o).take k)
  | 0, _ => by unfold preP preL sumP sumL; simp
  | k + 1, h => by
    obtain ⟨h1, h2⟩ := pre_take (ts := ts) (o := o) k (by omega)
    unfold preP preL
    rw [h1, h2, List.take_add_one, ordT_get (show k < o.length by omega), Option.toList_some, sumP_app, sumL_app]
    unfold sumP sumL; simp
theorem path_eq {ts : List Tm} {o : List Int} {i : Nat} (h : i < o.length) : pathK ts o (i : Int) o.length = pathV (ordT ts o) i := by
  rw [path_at2 ts o h, (pre_take (i + 1) (by omega)).1, (pre_take o.length (Nat.le_refl _)).2, (pre_take i (by omega)).2]
  unfold pathV
  have h1 : sumL ((ordT ts o).take o.length) = sumL ((ordT ts o).take i) + sumL ((ordT ts o).drop i) := by
    rw [List.take_of_length_le (by rw [ordT_len]; exact Nat.le_refl _), ← sumL_app, List.take_append_drop]
  omega
theorem seekN_first (q : Nat → Bool) : ∀ (f k : Nat), seekN q f k < k + f → q (seekN q f k) = true ∧ ∀ j, k ≤ j → j < seekN q f k → q j = false
  | 0, k, h => by unfold seekN at h; omega
  | f + 1, k, h => by
    unfold seekN at h ⊢
    cases hq : q k
    · rw [hq] at h
      rw [if_neg (by simp)] at h ⊢
      obtain ⟨h1, h2⟩ := seekN_first q f (k + 1) (by omega)
      refine ⟨h1, fun j hj1 hj2 => ?_⟩
      rcases Nat.lt_or_ge k j with h3 | h3
      · exact h2 j (by omega) hj2
      · have : j = k := by omega
        rw [this]; exact hq
    · rw [if_pos rfl]
      exact ⟨hq, fun j h1 h2 => by omega⟩
theorem ord_inj {o : List Int} {n : Nat} (h : ordB o n = true) {i k : Nat} (hi : i < o.length) (hk : k < o.length) (he : o.getD i 0 = o.getD k 0) : i = k := by
  have hp := (ordB_iff o n).1 h
  have hnd : o.Nodup := hp.nodup_iff.2 (by unfold rngI; exact List.Pairwise.map _ (fun a b h e => h (by omega)) List.nodup_range)
  rw [List.getD_eq_getElem?_getD, List.getD_eq_getElem?_getD, List.getElem?_eq_getElem hi, List.getElem?_eq_getElem hk] at he
  exact (List.getElem_inj hnd).1 he
structure WhyF (l : List Jb) (o : List Int) (s : Nat) : Prop where
  chk : chkV l o = 0
  jobs : jobsB l = true
  ord : ordB o l.length = true
  len : o.length = l.length
  pos : s < o.length
  job : (whyR l o).1 = o.getD s 0
  hour : (whyR l o).2.1 = doneO (l.map (timeV true)) o
  bef : ∀ i, i < s → pathK (l.map (timeV true)) o (i : Int) o.length ≠ doneO (l.map (timeV true)) o
  at_ : pathK (l.map (timeV true)) o (s : Int) o.length = doneO (l.map (timeV true)) o
  le : ∀ i, i < o.length → pathK (l.map (timeV true)) o (i : Int) o.length ≤ doneO (l.map (timeV true)) o
theorem path_le2 {ts : List Tm} {o : List Int} (hok : ordOk ts o) {i : Nat} (h : i < o.length) : pathK ts o (i : Int) o.length ≤ doneO ts o := by
  rw [path_eq h, done_run hok]
  have := path_le (ordT ts o) 0 0 i (by rw [ordT_len]; exact h)
  omega
theorem why_ok {l : List Jb} {o : List Int} (h : (whyR l o).2.2 = 0) : ∃ s, WhyF l o s := by
  have hc : chkV l o = 0 := by
    unfold whyR at h
    split at h
    · exact h
    · rename_i h1; simpa using h1
  obtain ⟨hj, ho⟩ := chkV_ok hc
  have hok := ordOk.of hj ho true
  have hw : whyR l o = whyV (l.map (timeV true)) o := by unfold whyR; rw [if_neg (by simp [hc])]
  rw [hw] at h
  by_cases hs : seekN (whyQ (l.map (timeV true)) o) o.length 0 < o.length
  · obtain ⟨h1, h2⟩ := seekN_first (whyQ (l.map (timeV true)) o) o.length 0 (by omega)
    refine ⟨seekN (whyQ (l.map (timeV true)) o) o.length 0, ⟨hc, hj, ho, by rw [hok.len, List.length_map], hs, ?_, ?_, fun i hi => ?_, of_decide_eq_true h1, fun i hi => path_le2 hok hi⟩⟩
    · rw [hw]; unfold whyV; rw [if_pos hs]
    · rw [hw]; unfold whyV; rw [if_pos hs]; rfl
    · exact of_decide_eq_false (h2 i (Nat.zero_le _) hi)
  · unfold whyV at h; rw [if_neg hs] at h; simp at h
theorem why_no {l : List Jb} {o : List Int} (h : (whyR l o).2.2 ≠ 0) : (whyR l o).1 = 0 ∧ (whyR l o).2.1 = 0 ∧ ((runR l o).2 = (whyR l o).2.2 ∨ ((runR l o).2 = 0 ∧ (whyR l o).2.2 = 2 ∧ l.length = 0)) := by
  rw [runR_snd]
  by_cases hc : chkV l o = 0
  · obtain ⟨hj, ho⟩ := chkV_ok hc
    have hok := ordOk.of hj ho true
    have hw : whyR l o = whyV (l.map (timeV true)) o := by unfold whyR; rw [if_neg (by simp [hc])]
    rw [hw] at h ⊢
    rcases Nat.eq_zero_or_pos o.length with h0 | h0
    · have hno := whyV_no (ts := l.map (timeV true)) (o := o) (fun j hj => by omega)
      rw [hno]
      exact ⟨rfl, rfl, .inr ⟨hc, rfl, by have := hok.len; rw [List.length_map] at this; omega⟩⟩
    · exfalso
      obtain ⟨i, hi, he⟩ := path_max (ts := ordT (l.map (timeV true)) o) (fun t ht => smT_pos (ordT_sm hok.sm o t ht)) (by rw [ordT_len]; exact h0)
      rw [ordT_len] at hi
      have hq : whyQ (l.map (timeV true)) o i = true := decide_eq_true (by rw [path_eq hi, ← he]; exact (done_run hok).symm)
      have hs : seekN (whyQ (l.map (timeV true)) o) o.length 0 < o.length := by
        rcases Nat.lt_or_ge (seekN (whyQ (l.map (timeV true)) o) o.length 0) o.length with h1 | h1
        · exact h1
        · exfalso
          have hall : ∀ j, j < o.length → whyQ (l.map (timeV true)) o j = false := by
            intro j hj
            cases hq2 : whyQ (l.map (timeV true)) o j with
            | false => rfl
            | true =>
              exfalso
              have key : ∀ (f k : Nat), k ≤ j → j < k + f → seekN (whyQ (l.map (timeV true)) o) f k ≤ j := by
                intro f
                induction f with
                | zero => intro k h2 h3; omega
                | succ f ih =>
                  intro k h2 h3
                  unfold seekN
                  cases hk : whyQ (l.map (timeV true)) o k
                  · rw [if_neg (by simp)]
                    have : k ≠ j := fun e => by rw [e, hq2] at hk; cases hk
                    exact ih (k + 1) (by omega) (by omega)
                  · rw [if_pos rfl]; exact h2
              have := key o.length 0 (Nat.zero_le _) (by omega)
              omega
          rw [hall i hi] at hq; cases hq
      unfold whyV at h; rw [if_pos hs] at h; exact h rfl
  · have hw : whyR l o = (0, 0, chkV l o) := by unfold whyR; rw [if_pos hc]
    rw [hw]; exact ⟨rfl, rfl, .inl rfl⟩
theorem run_ok {l : List Jb} {o : List Int} (h : chkV l o = 0) : (runR l o).1 = spansV l o ∧ (runR l o).2 = 0 := by
  unfold runR; rw [if_neg (by simp [h])]; exact ⟨rfl, rfl⟩
theorem ends_get {l : List Jb} {o : List Int} {k : Nat} (hk : k < l.length) (hi : Bool) : gtV 0 ((endsV (l.map (timeV hi)) o).take (k + 1)) = max (gtV 0 ((endsV (l.map (timeV hi)) o).take k)) ((endsV (l.map (timeV hi)) o).getD k 0) := gtV_take (by unfold endsV; rw [endsK_len, List.length_map]; exact hk)
theorem ends_all {l : List Jb} {o : List Int} {k : Nat} (hk : k = l.length) (hi : Bool) : gtV 0 ((endsV (l.map (timeV hi)) o).take k) = doneO (l.map (timeV hi)) o := by
  rw [List.take_of_length_le (by unfold endsV; rw [endsK_len, List.length_map]; omega)]; rfl
theorem best_no {l : List Jb} (h : (bestR l).2.2 ≠ 0) : jobsB l = false ∧ bestR l = ([], 0, 1) := by
  by_cases hj : jobsB l = true
  · exfalso; apply h; unfold bestR; rw [if_neg (by simp [hj])]
  · have hj : jobsB l = false := by simpa using hj
    exact ⟨hj, by unfold bestR; rw [if_pos hj]⟩
structure BestF (l : List Jb) : Prop where
  jobs : jobsB l = true
  best : BestO (l.map (timeV true)) l.length (bestR l).1
  hour : (bestR l).2.1 = doneO (l.map (timeV true)) (bestR l).1
  err : (bestR l).2.2 = 0
theorem best_jobs {l : List Jb} (hj : jobsB l = true) : BestF l := by
  have h := best_ref (ts := l.map (timeV true)) (n := l.length) (List.length_map _)
  have hb := bestR_of hj h
  exact ⟨hj, by rw [hb]; exact h, by rw [hb], by rw [hb]⟩
theorem best_yes {l : List Jb} (h : (bestR l).2.2 = 0) : BestF l := by
  by_cases hj : jobsB l = true
  · exact best_jobs hj
  · exfalso
    have hj : jobsB l = false := by simpa using hj
    unfold bestR at h; rw [if_pos hj] at h; cases h
theorem chk_perm {l : List Jb} (hj : jobsB l = true) {o : List Int} (h : o.Perm (rngI l.length)) : chkV l o = 0 := by
  unfold chkV; rw [if_neg (by simp [hj]), if_neg (by simp [(ordB_iff o l.length).2 h])]
theorem first_diff : ∀ {x y : List Int}, x.length = y.length → ¬ lexI y x → ∀ k, k < x.length → (∀ j, j < k → x.getD j 0 = y.getD j 0) → x.getD k 0 ≠ y.getD k 0 → x.getD k 0 < y.getD k 0
  | [], _, _, _, k, hk, _, _ => absurd hk (Nat.not_lt_zero k)
  | _ :: _, [], h, _, _, _, _, _ => by cases h
  | x :: xs, y :: ys, _, hn, 0, _, _, hne => by
    show x < y
    have h1 : ¬ y < x := fun h => hn (.inl h)
    have h2 : x ≠ y := hne
    omega
  | x :: xs, y :: ys, hl, hn, k + 1, hk, hs, hne => by
    have h0 : x = y := hs 0 (by omega)
    subst h0
    show xs.getD k 0 < ys.getD k 0
    exact first_diff (by simpa using hl) (fun h => hn (.inr ⟨rfl, h⟩)) k (by simpa using hk) (fun j hj => hs (j + 1) (by omega)) hne
end Go.Proofs.Ytjlbpmcacopbpaa
