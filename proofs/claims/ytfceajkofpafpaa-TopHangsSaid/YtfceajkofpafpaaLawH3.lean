/- What Reads, Judge and Left answer of a box of a cut's pieces. No program in sight. -/
import Derived.Test.YtfceajkofpafpaaLawH2
namespace Go.Proofs.Ytfceajkofpafpaa
open Go Go.Eng
open Go.Proofs.Ytfceajkofpafpaa.Sc
section
variable {k : Kd × Kd} {s : Nat} {T : Int}
theorem te_w (k : Kd × Kd) : teB (boxH k) weighT = true := rfl
theorem te_c (k : Kd × Kd) : teB (boxH k) camT = true := by
  unfold teB
  rw [show inB camT.set 0 ((pw2 (boxH k).kinds.length : Nat) - 1) = true from by show inB 3 0 ((pw2 2 : Nat) - 1) = true; decide]
  rfl
theorem fit_c (k : Kd × Kd) (g x y : Int) : meetsV (readV (boxH k) camT [x, y]) ⟨g, g⟩ = decide ((k.1.many + x) + (k.2.many + y) = g) := by
  rw [read_c]
  unfold meetsV
  exact decide_eq_decide.2 (by dsimp only; omega)
theorem fit_w (k : Kd × Kd) (g x y : Int) : meetsV (readV (boxH k) weighT [x, y]) ⟨g, g⟩ = decide ((k.1.many + x) * k.1.wt.lo + (k.2.many + y) * k.2.wt.lo ≤ g ∧ g ≤ (k.1.many + x) * k.1.wt.hi + (k.2.many + y) * k.2.wt.hi) := by
  rw [read_w]; rfl
theorem chk_H (h : KsF k s T) (hs : s ≤ 40) {l : List Rd} (hl : l.length ≤ 16) (ht : ∀ r, r ∈ l → teB (boxH k) r.test = true) : chk (boxH k) l [] = 0 := by
  unfold chk
  rw [if_neg (by rw [box_ok h hs]; decide), if_neg (by simp; omega), if_neg]
  simp only [List.any_nil, Bool.or_false]
  intro h2
  obtain ⟨r, h3, h4⟩ := List.any_eq_true.1 h2
  rw [ht r h3] at h4
  cases h4
theorem open_H (h : KsF k s T) (hs : s ≤ 40) {l : List Rd} (hl : l.length ≤ 16) (ht : ∀ r, r ∈ l → teB (boxH k) r.test = true) (hf : (fitL (boxH k) l).length ≠ 0) : openE (boxH k) l [] = 0 := by
  unfold openE
  rw [if_neg (by rw [chk_H h hs hl ht]; decide), if_neg hf]
/-- the lists that are a piece short -/
def shortH (k : Kd × Kd) : List (List Int) := if k.1.many = 0 then [[0, -1]] else if k.2.many = 0 then [[-1, 0]] else [[-1, 0], [0, -1]]
theorem fit_short (h : KsF k s T) (hs : 1 ≤ s) : fitL (boxH k) [⟨camT, (s : Int) - 1⟩] = shortH k := by
  have h3 := h.sum
  have e : ∀ x y : Int, fitV (boxH k) [⟨camT, (s : Int) - 1⟩] [x, y] = decide (x + y = -1) := fun x y => by
    show (meetsV (readV (boxH k) camT [x, y]) ⟨(s : Int) - 1, (s : Int) - 1⟩ && true) = _
    rw [fit_c, Bool.and_true]
    exact decide_eq_decide.2 (by omega)
  unfold fitL
  rw [all_H h hs]
  unfold lisH shortH
  split
  · simp [e]
  · split <;> simp [e]
theorem fit_all (h : KsF k s T) (hs : 1 ≤ s) : fitL (boxH k) [⟨weighT, T⟩, ⟨camT, (s : Int)⟩] = [[0, 0]] := by
  have h3 := h.sum
  have h4 := h.lo
  have h5 := h.hi
  have e : ∀ x y : Int, fitV (boxH k) [⟨weighT, T⟩, ⟨camT, (s : Int)⟩] [x, y] = (meetsV (readV (boxH k) weighT [x, y]) ⟨T, T⟩ && decide (x + y = 0)) := fun x y => by
    show (meetsV (readV (boxH k) weighT [x, y]) ⟨T, T⟩ && (meetsV (readV (boxH k) camT [x, y]) ⟨(s : Int), (s : Int)⟩ && true)) = _
    rw [fit_c, Bool.and_true]
    congr 1
    exact decide_eq_decide.2 (by omega)
  have e0 : fitV (boxH k) [⟨weighT, T⟩, ⟨camT, (s : Int)⟩] [0, 0] = true := by
    rw [e, fit_w, decide_eq_true (by simp only [Int.add_zero]; exact ⟨h4, h5⟩)]; rfl
  have e1 : fitV (boxH k) [⟨weighT, T⟩, ⟨camT, (s : Int)⟩] [0, -1] = false := by rw [e, decide_eq_false (by omega), Bool.and_false]
  have e2 : fitV (boxH k) [⟨weighT, T⟩, ⟨camT, (s : Int)⟩] [-1, 0] = false := by rw [e, decide_eq_false (by omega), Bool.and_false]
  unfold fitL
  rw [all_H h hs]
  unfold lisH
  split
  · simp [e0, e1]
  · split <;> simp [e0, e1, e2]
theorem fit_only (h : KsF k s T) (hs : 1 ≤ s) : [0, 0] ∈ fitL (boxH k) [⟨weighT, T⟩] := by
  have h4 := h.lo
  have h5 := h.hi
  unfold fitL
  rw [all_H h hs]
  refine List.mem_filter.2 ⟨?_, ?_⟩
  · unfold lisH
    split
    · simp
    · split <;> simp
  · show (meetsV (readV (boxH k) weighT [0, 0]) ⟨T, T⟩ && true) = true
    rw [fit_w, decide_eq_true (by simp only [Int.add_zero]; exact ⟨h4, h5⟩)]; rfl
theorem judge_whole (h : KsF k s T) (h1 : 1 ≤ s) (hs : s ≤ 40) : judgeAns (boxH k) [⟨weighT, T⟩, ⟨camT, (s : Int)⟩] = .tuple #[.int .i64 2, .int .i64 0] := by
  unfold judgeAns
  rw [if_pos (open_H h hs (by simp) (fun r hr => by
    rcases List.mem_cons.1 hr with rfl | hr
    · exact te_w k
    · simp at hr; subst hr; exact te_c k) (by rw [fit_all h h1]; simp)), fit_all h h1]
  rfl
theorem judge_only (h : KsF k s T) (h1 : 1 ≤ s) (hs : s ≤ 40) : ∃ j : Int, j ≠ 0 ∧ judgeAns (boxH k) [⟨weighT, T⟩] = .tuple #[.int .i64 j, .int .i64 0] := by
  have hm := fit_only h h1
  refine ⟨judgeV (fitL (boxH k) [⟨weighT, T⟩]), ?_, ?_⟩
  · unfold judgeV
    split
    · decide
    · rw [if_neg (fun e => by
        have h2 := List.any_eq_false.1 e [0, 0] hm
        exact h2 (by decide))]
      decide
  · unfold judgeAns
    rw [if_pos (open_H h hs (by simp) (fun r hr => by simp at hr; subst hr; exact te_w k) (fun e => by rw [List.length_eq_zero_iff.1 e] at hm; cases hm))]
theorem open_short (h : KsF k s T) (h1 : 1 ≤ s) (hs : s ≤ 40) : openE (boxH k) [⟨camT, (s : Int) - 1⟩] [] = 0 :=
  open_H h hs (by simp) (fun r hr => by simp at hr; subst hr; exact te_c k) (by
    rw [fit_short h h1]; unfold shortH
    split
    · simp
    · split <;> simp)
theorem judge_never (h : KsF k s T) (h1 : 1 ≤ s) (hs : s ≤ 40) : judgeAns (boxH k) [⟨camT, (s : Int) - 1⟩] = .tuple #[.int .i64 0, .int .i64 0] := by
  unfold judgeAns
  rw [if_pos (open_short h h1 hs), fit_short h h1]
  unfold shortH
  split
  · rfl
  · split <;> rfl
/-- what may be missing of a kind -/
def wantH (k : Kd × Kd) (z : Nat) : Sp := ⟨if 0 < (if z = 0 then k.1 else k.2).many then -1 else 0, if (if z = 0 then k.2 else k.1).many = 0 then -1 else 0⟩
theorem left_H (h : KsF k s T) (h1 : 1 ≤ s) (hs : s ≤ 40) : leftR (boxH k) [⟨camT, (s : Int) - 1⟩] = [wantH k 0, wantH k 1] := by
  have h3 := h.sum
  have a0 := h.k0.m0
  have b0 := h.k1.m0
  unfold leftR
  rw [if_pos (open_short h h1 hs), fit_short h h1]
  unfold shortH wantH
  simp only [if_pos, Nat.one_ne_zero, if_false]
  by_cases e0 : k.1.many = 0
  · rw [if_pos e0, if_neg (show ¬ 0 < k.1.many by omega), if_neg (show ¬ k.2.many = 0 by omega), if_pos (show 0 < k.2.many by omega), if_pos e0]; rfl
  · rw [if_neg e0, if_pos (show 0 < k.1.many by omega), if_neg e0]
    by_cases e1 : k.2.many = 0
    · rw [if_pos e1, if_pos e1, if_neg (show ¬ 0 < k.2.many by omega)]; rfl
    · rw [if_neg e1, if_neg e1, if_pos (show 0 < k.2.many by omega)]; rfl
theorem read_H (h : KsF k s T) (hs : s ≤ 40) : ∃ sp : Sp, readAns (boxH k) [0, 0] weighT = .tuple #[.agg (spRow sp).toArray, .int .i64 0] ∧ sp.lo ≤ T ∧ T ≤ sp.hi := by
  refine ⟨readV (boxH k) weighT [0, 0], ?_, ?_⟩
  · have hc : canV (boxH k) [0, 0] = true := by
      have a0 := h.k0.m0
      have b0 := h.k1.m0
      unfold canV
      simp [boxH, Sc.okC, lostK, extraK, List.range_succ]
      omega
    unfold readAns
    rw [if_pos ⟨box_ok h hs, te_w k⟩, if_pos hc]
  · rw [read_w]
    have h4 := h.lo
    have h5 := h.hi
    simp only [Int.add_zero]
    exact ⟨h4, h5⟩
end
end Go.Proofs.Ytfceajkofpafpaa
