/- When all is done: what an order can do, and the rule. Plain. -/
import Derived.Test.YtjlbpmcacopbpaaDat
namespace Go.Proofs.Ytjlbpmcacopbpaa
/-- how long the second machine is behind the first one -/
def G : List Tm → Int → Int
  | [], d => d
  | t :: ts, d => G ts (max (d - t.1) 0 + t.2)
theorem G_cons (t : Tm) (ts : List Tm) (d : Int) : G (t :: ts) d = G ts (max (d - t.1) 0 + t.2) := rfl
def sumP (ts : List Tm) : Int := (ts.map (·.1)).sum
def sumL (ts : List Tm) : Int := (ts.map (·.2)).sum
theorem runL_nil (w : Tm) : runL [] w = w := rfl
theorem runL_cons (t : Tm) (ts : List Tm) (w : Tm) : runL (t :: ts) w = runL ts (stepW w t) := rfl
theorem runL_snoc (ts : List Tm) (t w : Tm) : runL (ts ++ [t]) w = stepW (runL ts w) t := by unfold runL; rw [List.foldl_append]; rfl
theorem runL_fst : ∀ (ts : List Tm) (w : Tm), (runL ts w).1 = w.1 + sumP ts
  | [], w => by simp [runL, sumP]
  | t :: ts, w => by
    rw [runL_cons, runL_fst ts]
    unfold sumP stepW
    rw [List.map_cons, List.sum_cons]; dsimp only; omega
theorem runL_G : ∀ (ts : List Tm) (a b : Int), (runL ts (a, b)).2 = a + sumP ts + G ts (b - a)
  | [], a, b => by simp [runL, sumP, G]; omega
  | t :: ts, a, b => by
    rw [runL_cons]
    show (runL ts (a + t.1, max (a + t.1) b + t.2)).2 = _
    rw [runL_G ts]
    rw [G_cons]
    unfold sumP
    rw [List.map_cons, List.sum_cons, show max (a + t.1) b + t.2 - (a + t.1) = max (b - a - t.1) 0 + t.2 by omega]
    omega
theorem G_mono : ∀ (ts : List Tm) {d e : Int}, d ≤ e → G ts d ≤ G ts e
  | [], _, _, h => h
  | t :: ts, d, e, h => G_mono ts (by omega)
/-- one job may come before another one -/
def Rj (x y : Tm) : Prop := min x.1 y.2 ≤ min y.1 x.2
theorem G_swap {x y : Tm} (h : Rj x y) (ts : List Tm) (d : Int) : G (x :: y :: ts) d ≤ G (y :: x :: ts) d := by
  unfold Rj at h
  show G ts _ ≤ G ts _
  exact G_mono ts (by omega)
theorem G_front {x : Tm} : ∀ (u v : List Tm) (d : Int), (∀ y, y ∈ u → Rj x y) → G (x :: (u ++ v)) d ≤ G (u ++ x :: v) d
  | [], _, _, _ => Int.le_refl _
  | y :: u, v, d, h => Int.le_trans (G_swap (h y (List.mem_cons_self ..)) (u ++ v) d) (G_front u v _ fun z hz => h z (List.mem_cons_of_mem _ hz))
/-- the rule -/
theorem johnson : ∀ (J : List Tm), J.Pairwise Rj → ∀ (q : List Tm) (d : Int), q.Perm J → G J d ≤ G q d
  | [], _, q, d, h => by rw [h.eq_nil]; exact Int.le_refl _
  | x :: J, hp, q, d, h => by
    obtain ⟨u, v, rfl⟩ := List.append_of_mem (h.mem_iff.2 (List.mem_cons_self ..))
    have h2 : (u ++ v).Perm J := (List.perm_middle.symm.trans h).cons_inv
    have hp2 := List.pairwise_cons.1 hp
    exact Int.le_trans (johnson J hp2.2 (u ++ v) _ h2) (G_front u v d fun y hy => hp2.1 y (h2.mem_iff.1 (List.mem_append_left _ hy)))
theorem sumP_cons (t : Tm) (ts : List Tm) : sumP (t :: ts) = t.1 + sumP ts := by unfold sumP; rw [List.map_cons, List.sum_cons]
theorem sumP_perm {a b : List Tm} (h : a.Perm b) : sumP a = sumP b := by
  induction h with
  | nil => rfl
  | cons t _ ih => rw [sumP_cons, sumP_cons, ih]
  | swap s t ts => rw [sumP_cons, sumP_cons, sumP_cons, sumP_cons]; omega
  | trans _ _ h1 h2 => exact h1.trans h2
theorem johnson_run {J q : List Tm} (hp : J.Pairwise Rj) (h : q.Perm J) : (runL J (0, 0)).2 ≤ (runL q (0, 0)).2 := by
  rw [runL_G, runL_G, sumP_perm h]
  have := johnson J hp q (0 - 0) h
  omega
/-! ### longer times, more jobs -/
def leT (a b : Tm) : Prop := a.1 ≤ b.1 ∧ a.2 ≤ b.2
theorem step_mono {a b s t : Tm} (h1 : leT a b) (h2 : leT s t) : leT (stepW a s) (stepW b t) := by
  unfold leT stepW at *; dsimp only; omega
inductive LeL : List Tm → List Tm → Prop
  | nil : LeL [] []
  | cons {x y xs ys} (h : leT x y) (t : LeL xs ys) : LeL (x :: xs) (y :: ys)
theorem run_mono {xs ys : List Tm} (h : LeL xs ys) : ∀ {a b : Tm}, leT a b → leT (runL xs a) (runL ys b) := by
  induction h with
  | nil => exact fun h => h
  | cons h1 _ ih => exact fun h => ih (step_mono h h1)
def posT (t : Tm) : Prop := 0 ≤ t.1 ∧ 0 ≤ t.2
theorem step_le {w t : Tm} (h : posT t) : leT w (stepW w t) := by unfold leT stepW posT at *; dsimp only; omega
theorem leT_refl (a : Tm) : leT a a := ⟨Int.le_refl _, Int.le_refl _⟩
theorem leT_trans {a b c : Tm} (h1 : leT a b) (h2 : leT b c) : leT a c := ⟨Int.le_trans h1.1 h2.1, Int.le_trans h1.2 h2.2⟩
theorem run_sub {xs ys : List Tm} (h : xs.Sublist ys) : ∀ {a b : Tm}, (∀ t, t ∈ ys → posT t) → leT a b → leT (runL xs a) (runL ys b) := by
  induction h with
  | slnil => exact fun _ h => h
  | cons t _ ih => exact fun hp h => ih (fun q hq => hp q (List.mem_cons_of_mem _ hq)) (leT_trans h (step_le (hp t (List.mem_cons_self ..))))
  | cons_cons t _ ih => exact fun hp h => ih (fun q hq => hp q (List.mem_cons_of_mem _ hq)) (step_mono h (leT_refl t))
theorem run_take_le {ts : List Tm} (hp : ∀ t, t ∈ ts → posT t) (k : Nat) : leT (runL (ts.take k) (0, 0)) (runL ts (0, 0)) := run_sub (List.take_sublist k ts) hp (leT_refl _)
/-! ### paths -/
def pathV (ts : List Tm) (i : Nat) : Int := sumP (ts.take (i + 1)) + sumL (ts.drop i)
theorem sumL_cons (t : Tm) (ts : List Tm) : sumL (t :: ts) = t.2 + sumL ts := by unfold sumL; rw [List.map_cons, List.sum_cons]
theorem path_zero (t : Tm) (ts : List Tm) : pathV (t :: ts) 0 = t.1 + (t.2 + sumL ts) := by
  unfold pathV
  rw [List.take_succ_cons, List.take_zero, List.drop_zero, sumP_cons, sumL_cons]
  simp [sumP]
theorem path_succ (t : Tm) (ts : List Tm) (i : Nat) : pathV (t :: ts) (i + 1) = t.1 + pathV ts i := by
  unfold pathV
  rw [List.take_succ_cons, List.drop_succ_cons, sumP_cons]
  omega
theorem run_ge_sum : ∀ (ts : List Tm) (a b : Int), b + sumL ts ≤ (runL ts (a, b)).2
  | [], a, b => by simp [runL, sumL]
  | t :: ts, a, b => by
    rw [runL_cons, sumL_cons]
    have := run_ge_sum ts (a + t.1) (max (a + t.1) b + t.2)
    show _ ≤ (runL ts (a + t.1, max (a + t.1) b + t.2)).2
    omega
theorem path_le : ∀ (ts : List Tm) (a b : Int) (i : Nat), i < ts.length → a + pathV ts i ≤ (runL ts (a, b)).2
  | [], _, _, _, h => absurd h (Nat.not_lt_zero _)
  | t :: ts, a, b, 0, _ => by
    rw [path_zero, runL_cons]
    have := run_ge_sum ts (a + t.1) (max (a + t.1) b + t.2)
    show _ ≤ (runL ts (a + t.1, max (a + t.1) b + t.2)).2
    omega
  | t :: ts, a, b, i + 1, h => by
    rw [path_succ, runL_cons]
    have := path_le ts (a + t.1) (max (a + t.1) b + t.2) i (by simpa using h)
    show _ ≤ (runL ts (a + t.1, max (a + t.1) b + t.2)).2
    omega
theorem path_at : ∀ (ts : List Tm) (a b : Int), (runL ts (a, b)).2 = b + sumL ts ∨ ∃ i, i < ts.length ∧ (runL ts (a, b)).2 = a + pathV ts i
  | [], a, b => .inl (by simp [runL, sumL])
  | t :: ts, a, b => by
    rw [runL_cons]
    show (runL ts (a + t.1, max (a + t.1) b + t.2)).2 = _ ∨ ∃ i, _ ∧ (runL ts (a + t.1, max (a + t.1) b + t.2)).2 = _
    rcases path_at ts (a + t.1) (max (a + t.1) b + t.2) with h | ⟨i, hi, h⟩
    · rcases Int.le_total (a + t.1) b with h1 | h1
      · left; rw [h, sumL_cons]; omega
      · right; exact ⟨0, by simp, by rw [h, path_zero]; omega⟩
    · right; exact ⟨i + 1, by simpa using hi, by rw [h, path_succ]; omega⟩
/-- all is done when the longest path is -/
theorem path_max {ts : List Tm} (hp : ∀ t, t ∈ ts → posT t) (hne : 0 < ts.length) : ∃ i, i < ts.length ∧ (runL ts (0, 0)).2 = pathV ts i := by
  rcases path_at ts 0 0 with h | ⟨i, hi, h⟩
  · cases ts with
    | nil => simp at hne
    | cons t ts =>
      refine ⟨0, hne, ?_⟩
      have h1 := path_le (t :: ts) 0 0 0 hne
      have h2 := hp t (List.mem_cons_self ..)
      rw [path_zero] at h1 ⊢
      rw [sumL_cons] at h
      unfold posT at h2
      omega
  · exact ⟨i, hi, by rw [h]; omega⟩
end Go.Proofs.Ytjlbpmcacopbpaa
