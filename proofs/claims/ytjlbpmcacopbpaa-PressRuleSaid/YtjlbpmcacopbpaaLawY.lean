/- The rule. No program in sight. -/
import Derived.Test.YtjlbpmcacopbpaaWalk20
import Derived.Test.YtjlbpmcacopbpaaLawX
namespace Go.Proofs.Ytjlbpmcacopbpaa
/-- does a job come before another one by the rule? -/
def befB (x y : Tm) : Bool := if (decide (x.1 < x.2) == decide (y.1 < y.2)) = false then decide (x.1 < x.2) else if x.1 < x.2 then decide (x.1 < y.1) else decide (y.2 < x.2)
theorem befB_iff (x y : Tm) : befB x y = true ↔ (x.1 < x.2 ∧ ¬ y.1 < y.2) ∨ (x.1 < x.2 ∧ y.1 < y.2 ∧ x.1 < y.1) ∨ (¬ x.1 < x.2 ∧ ¬ y.1 < y.2 ∧ y.2 < x.2) := by
  unfold befB
  by_cases h1 : x.1 < x.2 <;> by_cases h2 : y.1 < y.2 <;> simp [h1, h2]
theorem befB_trans {x y z : Tm} (h1 : befB x y = true) (h2 : befB y z = true) : befB x z = true := by
  rw [befB_iff] at *; omega
theorem befB_asymm {x y : Tm} (h1 : befB x y = true) : befB y x = false := by
  cases h : befB y x with
  | false => rfl
  | true => rw [befB_iff] at *; omega
theorem rj_of {x y : Tm} (h : befB y x = false) : Rj x y := by
  have h2 : ¬ befB y x = true := by simp [h]
  rw [befB_iff] at h2
  unfold Rj; omega
def atT (ts : List Tm) (k : Int) : Tm := ts.getD k.toNat (0, 0)
def rowS (ts : List Tm) (X : List Int) : Prop := X.Pairwise fun a b => befB (atT ts b) (atT ts a) = false
theorem ins_sorted {ts : List Tm} {X : List Int} {A : Nat} {x : Int} (hs : rowS ts X) (hA : A ≤ X.length) (h1 : ∀ j, j < A → befB (atT ts x) (atT ts (X.getD j 0)) = false) (h2 : A < X.length → befB (atT ts x) (atT ts (X.getD A 0)) = true) : rowS ts (insL X A x) := by
  unfold rowS insL
  have hX : (X.take A ++ X.drop A).Pairwise fun a b => befB (atT ts b) (atT ts a) = false := by rw [List.take_append_drop]; exact hs
  obtain ⟨p1, p2, p3⟩ := List.pairwise_append.1 hX
  have htk : ∀ y, y ∈ X.take A → befB (atT ts x) (atT ts y) = false := fun y hy => by
    obtain ⟨j, hj, rfl⟩ := List.getElem_of_mem hy
    rw [List.length_take] at hj
    have := h1 j (by omega)
    rw [List.getD_eq_getElem?_getD, List.getElem?_eq_getElem (show j < X.length by omega)] at this
    simpa using this
  have hdr : ∀ y, y ∈ X.drop A → befB (atT ts y) (atT ts x) = false := fun y hy => by
    rcases Nat.lt_or_ge A X.length with hl | hl
    · have hb := h2 hl
      rw [List.drop_eq_getElem_cons hl] at hy p2
      rw [List.getD_eq_getElem?_getD, List.getElem?_eq_getElem hl] at hb
      simp only [Option.getD_some] at hb
      rcases List.mem_cons.1 hy with rfl | hy
      · exact befB_asymm hb
      · have h3 := (List.pairwise_cons.1 p2).1 y hy
        cases h4 : befB (atT ts y) (atT ts x) with
        | false => rfl
        | true => rw [befB_trans h4 hb] at h3; cases h3
    · rw [List.drop_eq_nil_of_le hl] at hy; cases hy
  refine List.pairwise_append.2 ⟨p1, List.pairwise_cons.2 ⟨hdr, p2⟩, fun a ha b hb => ?_⟩
  rcases List.mem_cons.1 hb with rfl | hb
  · exact htk a ha
  · exact p3 a ha b hb
def posQ (ts : List Tm) (X : List Int) (k : Nat) (j : Nat) : Bool := befB (atT ts (k : Int)) (atT ts (X.getD j 0))
def ruleK (ts : List Tm) : Nat → List Int
  | 0 => []
  | k + 1 => insL (ruleK ts k) (seekN (posQ ts (ruleK ts k) k) k 0) (k : Int)
theorem ruleK_perm (ts : List Tm) : ∀ n, (ruleK ts n).Perm (rngI n)
  | 0 => by unfold ruleK rngI; simp
  | n + 1 => by
    unfold ruleK
    rw [rngI_succ]
    exact ((ins_perm _ _ _).trans ((ruleK_perm ts n).cons _)).trans (List.perm_append_comm (l₁ := [(n : Int)]))
theorem ruleK_len (ts : List Tm) (n : Nat) : (ruleK ts n).length = n := by rw [(ruleK_perm ts n).length_eq, rngI_len]
theorem seekN_le (q : Nat → Bool) : ∀ (f k : Nat), seekN q f k ≤ k + f
  | 0, k => by unfold seekN; omega
  | f + 1, k => by
    unfold seekN
    split
    · omega
    · have := seekN_le q f (k + 1); omega
theorem seekN_bef (q : Nat → Bool) : ∀ (f k : Nat), ∀ j, k ≤ j → j < seekN q f k → q j = false
  | 0, k, j, h1, h2 => by unfold seekN at h2; omega
  | f + 1, k, j, h1, h2 => by
    unfold seekN at h2
    cases hq : q k
    · rw [hq, if_neg (by simp)] at h2
      rcases Nat.lt_or_ge k j with h3 | h3
      · exact seekN_bef q f (k + 1) j (by omega) h2
      · have : j = k := by omega
        rw [this]; exact hq
    · rw [hq, if_pos rfl] at h2; omega
theorem ruleK_sorted (ts : List Tm) : ∀ n, rowS ts (ruleK ts n)
  | 0 => .nil
  | n + 1 => by
    unfold ruleK
    have hl := ruleK_len ts n
    have hle := seekN_le (posQ ts (ruleK ts n) n) n 0
    refine ins_sorted (ruleK_sorted ts n) (by omega) (fun j hj => seekN_bef (posQ ts (ruleK ts n) n) n 0 j (Nat.zero_le _) hj) fun h => ?_
    exact (seekN_first (posQ ts (ruleK ts n) n) n 0 (by omega)).1
theorem rule_best {l : List Jb} (hF : BestF l) : doneO (l.map (timeV true)) (ruleK (l.map (timeV true)) l.length) = (bestR l).2.1 := by
  have h7 := (jobsB_parts hF.jobs).1
  have hsm : ∀ t, t ∈ l.map (timeV true) → smT t := tm_smT hF.jobs true
  have hp := ruleK_perm (l.map (timeV true)) l.length
  have hok := ordOk_perm (ts := l.map (timeV true)) (n := l.length) (List.length_map _) h7 hsm hp
  have hokb := ordOk_perm (ts := l.map (timeV true)) (n := l.length) (List.length_map _) h7 hsm hF.best.perm
  have h1 := hF.best.le _ hp
  have h2 : doneO (l.map (timeV true)) (ruleK (l.map (timeV true)) l.length) ≤ doneO (l.map (timeV true)) (bestR l).1 := by
    rw [done_run hok, done_run hokb]
    refine johnson_run ?_ ((hF.best.perm.trans hp.symm).map _)
    have := ruleK_sorted (l.map (timeV true)) l.length
    unfold ordT
    exact List.pairwise_map.2 (this.imp fun h => rj_of h)
  rw [hF.hour]; omega
end Go.Proofs.Ytjlbpmcacopbpaa
