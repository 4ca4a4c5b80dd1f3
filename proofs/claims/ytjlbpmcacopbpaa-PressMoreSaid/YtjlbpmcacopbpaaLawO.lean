/- Orders: lists of numbers, each once. No program in sight. -/
import Derived.Test.YtjlbpmcacopbpaaWalk7
namespace Go.Proofs.Ytjlbpmcacopbpaa
def rngI (n : Nat) : List Int := (List.range n).map fun (i : Nat) => (i : Int)
theorem rngI_succ (n : Nat) : rngI (n + 1) = rngI n ++ [(n : Int)] := by unfold rngI; rw [List.range_succ, List.map_append]; rfl
theorem rngI_len (n : Nat) : (rngI n).length = n := by unfold rngI; simp
theorem rngI_get {n i : Nat} (h : i < n) : (rngI n)[i]? = some (i : Int) := by unfold rngI; simp [h]
theorem mem_rngI {n : Nat} {k : Int} : k ∈ rngI n ↔ 0 ≤ k ∧ k < (n : Int) := by
  unfold rngI
  rw [List.mem_map]
  constructor
  · rintro ⟨i, hi, rfl⟩; have := List.mem_range.1 hi; omega
  · intro h; exact ⟨k.toNat, List.mem_range.2 (by omega), by omega⟩
theorem rngI_sorted (n : Nat) : (rngI n).Pairwise (· ≤ ·) := by
  induction n with
  | zero => exact .nil
  | succ n ih =>
    rw [rngI_succ, List.pairwise_append]
    refine ⟨ih, List.pairwise_singleton _ _, fun a ha b hb => ?_⟩
    rw [List.mem_singleton] at hb; subst hb
    have := (mem_rngI.1 ha).2; omega
theorem cntK_take (o : List Int) (n : Int) : ∀ k, k ≤ o.length → cntK o n k = (o.take k).count n
  | 0, _ => by unfold cntK; simp
  | k + 1, h => by
    unfold cntK
    rw [cntK_take o n k (by omega), List.take_add_one, get_of_lt 0 (by omega), List.count_append]
    simp only [Option.toList_some, List.count_singleton, beq_iff_eq]
    split <;> rfl
theorem cntK_eq (o : List Int) (n : Int) : cntK o n o.length = o.count n := by rw [cntK_take o n _ (Nat.le_refl _), List.take_length]
theorem count_rngI (n : Nat) (k : Int) : (rngI n).count k = if 0 ≤ k ∧ k < (n : Int) then 1 else 0 := by
  induction n with
  | zero => unfold rngI; simp
  | succ n ih =>
    rw [rngI_succ, List.count_append, ih, List.count_singleton]
    simp only [beq_iff_eq]
    split <;> split <;> split <;> omega
theorem perm_rngI : ∀ (n : Nat) (o : List Int), (∀ k : Nat, k < n → o.count (k : Int) = 1) → o.length = n → o.Perm (rngI n)
  | 0, o, _, h => by rw [List.eq_nil_of_length_eq_zero h]; exact List.Perm.refl _
  | n + 1, o, h, hl => by
    have hm : (n : Int) ∈ o := List.count_pos_iff.1 (by rw [h n (by omega)]; omega)
    have hp := List.perm_cons_erase hm
    have hl2 : (o.erase (n : Int)).length = n := by rw [List.length_erase_of_mem hm]; omega
    have ih := perm_rngI n (o.erase (n : Int)) (fun k hk => by rw [List.count_erase_of_ne (by omega)]; exact h k (by omega)) hl2
    rw [rngI_succ]
    exact (hp.trans (ih.cons _)).trans (List.perm_append_comm (l₁ := [(n : Int)]))
theorem ordB_iff (o : List Int) (n : Nat) : ordB o n = true ↔ o.Perm (rngI n) := by
  constructor
  · intro h
    unfold ordB at h
    rw [Bool.and_eq_true] at h
    refine perm_rngI n o (fun k hk => ?_) (by simpa using h.2)
    have := List.all_eq_true.1 h.1 k (List.mem_range.2 hk)
    rw [← cntK_eq]; simpa using this
  · intro h
    have hl : o.length = n := by rw [h.length_eq, rngI_len]
    rw [ordB_yes fun k hk => by rw [cntK_eq, h.count_eq, count_rngI, if_pos (by omega)]]
    exact decide_eq_true (by omega)
/-- the sorted list of an order counts up -/
theorem sorted_ord {o s : List Int} (hp : s.Perm o) (hs : s.Pairwise (· ≤ ·)) : (o.Perm (rngI o.length)) ↔ ∀ i, i < s.length → s.getD i 0 = (i : Int) := by
  constructor
  · intro h i hi
    have : s = rngI o.length := (hp.trans h).eq_of_pairwise (fun a b _ _ h1 h2 => Int.le_antisymm h1 h2) hs (rngI_sorted _)
    rw [this, List.getD_eq_getElem?_getD, rngI_get (by rw [← hp.length_eq]; exact hi)]; rfl
  · intro h
    have : s = rngI o.length := by
      apply List.ext_getElem?
      intro i
      rcases Nat.lt_or_ge i s.length with h1 | h1
      · rw [get_of_lt 0 h1, h i h1, rngI_get (by rw [← hp.length_eq]; exact h1)]
      · rw [List.getElem?_eq_none h1, List.getElem?_eq_none (by rw [rngI_len, ← hp.length_eq]; exact h1)]
    rw [← this]; exact hp.symm
def sortI (l : List Int) : List Int := l.mergeSort fun x y => decide (x ≤ y)
theorem sortI_perm (l : List Int) : (sortI l).Perm l := List.mergeSort_perm l _
theorem sortI_sorted (l : List Int) : (sortI l).Pairwise (· ≤ ·) := by
  have := List.pairwise_mergeSort (le := fun (x y : Int) => decide (x ≤ y)) (fun a b c h1 h2 => decide_eq_true (Int.le_trans (of_decide_eq_true h1) (of_decide_eq_true h2))) (fun a b => by simp; omega) l
  exact this.imp fun h => of_decide_eq_true h
theorem ordB_no2 {o : List Int} {n k : Nat} (hk : k < o.length) (h : (sortI o).getD k 0 ≠ (k : Int)) : ordB o n = false := by
  apply Bool.eq_false_iff.2
  intro ha
  have h1 := (ordB_iff o n).1 ha
  have hl : o.length = n := by rw [h1.length_eq, rngI_len]
  rw [← hl] at h1
  exact h ((sorted_ord (sortI_perm o) (sortI_sorted o)).1 h1 k (by rw [(sortI_perm o).length_eq]; exact hk))
theorem ordB_yes2 {o : List Int} {n : Nat} (h : ∀ k, k < o.length → (sortI o).getD k 0 = (k : Int)) : ordB o n = decide (((o.length : Nat) : Int) = (n : Int)) := by
  have hp := (sorted_ord (sortI_perm o) (sortI_sorted o)).2 fun i hi => h i (by rw [← (sortI_perm o).length_eq]; exact hi)
  by_cases e : o.length = n
  · rw [decide_eq_true (by omega)]; rw [e] at hp; exact (ordB_iff o n).2 hp
  · rw [decide_eq_false (by omega)]
    apply Bool.eq_false_iff.2
    intro ha
    exact e (by rw [((ordB_iff o n).1 ha).length_eq, rngI_len])
end Go.Proofs.Ytjlbpmcacopbpaa
