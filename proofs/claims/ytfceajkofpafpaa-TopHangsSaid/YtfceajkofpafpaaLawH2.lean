/- A box of a cut's pieces: what a scale and a camera tell of it. No program in sight. -/
import Derived.Test.YtfceajkofpafpaaLawH
namespace Go.Proofs.Ytfceajkofpafpaa
open Go Go.Eng
open Go.Proofs.Ytfceajkofpafpaa.Sc
/-- one piece more of a kind -/
def addK (k : Kd) (n : Int) : Kd := if k.many = 0 then ⟨k.many + 1, ⟨n, n⟩⟩ else ⟨k.many + 1, ⟨min k.wt.lo n, max k.wt.hi n⟩⟩
def kd00 : Kd := ⟨0, ⟨0, 0⟩⟩
/-- both kinds, out of the first pieces -/
def kdsS (c : Ct) (bd : Nat → Bool) : Nat → Kd × Kd
  | 0 => (kd00, kd00)
  | s + 1 => if bd s = true then (addK (kdsS c bd s).1 (cntK c s c.piece.length : Nat), (kdsS c bd s).2) else ((kdsS c bd s).1, addK (kdsS c bd s).2 (cntK c s c.piece.length : Nat))
def sumK (c : Ct) : Nat → Nat → Nat
  | 0, _ => 0
  | s + 1, m => sumK c s m + cntK c s m
theorem sumK_succ (c : Ct) (m : Nat) : ∀ s : Nat, sumK c s (m + 1) = sumK c s m + if 0 ≤ c.piece.getD m 0 ∧ c.piece.getD m 0 < (s : Int) then 1 else 0
  | 0 => by rw [if_neg (by omega)]; rfl
  | s + 1 => by
    have ih := sumK_succ c m s
    show sumK c s (m + 1) + (cntK c s m + if c.piece.getD m 0 = (s : Int) then 1 else 0) = sumK c s m + cntK c s m + _
    rw [ih]
    by_cases h1 : c.piece.getD m 0 = (s : Int)
    · rw [if_pos h1, if_neg (by omega), if_pos (by omega)]; omega
    · rw [if_neg h1]
      by_cases h2 : 0 ≤ c.piece.getD m 0 ∧ c.piece.getD m 0 < (s : Int)
      · rw [if_pos h2, if_pos (by omega)]; omega
      · rw [if_neg h2, if_neg (by omega)]; omega
theorem sumK_all {c : Ct} {n : Nat} (h : ∀ i, i < c.piece.length → 0 ≤ c.piece.getD i 0 ∧ c.piece.getD i 0 < (n : Int)) : ∀ m, m ≤ c.piece.length → sumK c n m = m
  | 0, _ => by
    have : ∀ s, sumK c s 0 = 0 := fun s => by
      induction s with
      | zero => rfl
      | succ s ih => show sumK c s 0 + 0 = 0; omega
    exact this n
  | m + 1, hm => by rw [sumK_succ, if_pos (h m (by omega)), sumK_all h m (by omega)]
/-- a kind that can be -/
structure KdF (k : Kd) : Prop where
  m0 : 0 ≤ k.many
  lo : 0 ≤ k.wt.lo
  lh : k.wt.lo ≤ k.wt.hi
  hi : k.wt.hi ≤ 144
theorem kd00_F : KdF kd00 := ⟨by decide, by decide, by decide, by decide⟩
theorem addK_F {k : Kd} (h : KdF k) {n : Int} (h0 : 0 ≤ n) (h1 : n ≤ 144) : KdF (addK k n) ∧ (addK k n).many = k.many + 1 ∧ (addK k n).many * (addK k n).wt.lo ≤ k.many * k.wt.lo + n ∧ k.many * k.wt.hi + n ≤ (addK k n).many * (addK k n).wt.hi := by
  obtain ⟨a1, a2, a3, a4⟩ := h
  unfold addK
  by_cases hm : k.many = 0
  · rw [if_pos hm]
    refine ⟨⟨?_, ?_, ?_, ?_⟩, rfl, ?_, ?_⟩
    · show 0 ≤ k.many + 1; omega
    · exact h0
    · exact Int.le_refl _
    · exact h1
    · show (k.many + 1) * n ≤ _
      rw [hm, Int.zero_mul]; omega
    · show _ ≤ (k.many + 1) * n
      rw [hm, Int.zero_mul]; omega
  · rw [if_neg hm]
    have e1 : k.many * min k.wt.lo n ≤ k.many * k.wt.lo := Int.mul_le_mul_of_nonneg_left (Int.min_le_left _ _) a1
    have e2 : k.many * k.wt.hi ≤ k.many * max k.wt.hi n := Int.mul_le_mul_of_nonneg_left (Int.le_max_left _ _) a1
    refine ⟨⟨?_, ?_, ?_, ?_⟩, rfl, ?_, ?_⟩
    · show 0 ≤ k.many + 1; omega
    · show 0 ≤ min k.wt.lo n; omega
    · show min k.wt.lo n ≤ max k.wt.hi n; omega
    · show max k.wt.hi n ≤ 144; omega
    · show (k.many + 1) * min k.wt.lo n ≤ _
      rw [Int.add_mul, Int.one_mul]; omega
    · show _ ≤ (k.many + 1) * max k.wt.hi n
      rw [Int.add_mul, Int.one_mul]; omega
/-- both kinds, of s pieces that have T cells -/
structure KsF (k : Kd × Kd) (s : Nat) (T : Int) : Prop where
  k0 : KdF k.1
  k1 : KdF k.2
  sum : k.1.many + k.2.many = s
  lo : k.1.many * k.1.wt.lo + k.2.many * k.2.wt.lo ≤ T
  hi : T ≤ k.1.many * k.1.wt.hi + k.2.many * k.2.wt.hi
theorem kdsS_F {c : Ct} (h : CtF c) (bd : Nat → Bool) : ∀ s, KsF (kdsS c bd s) s (sumK c s c.piece.length : Nat)
  | 0 => ⟨kd00_F, kd00_F, rfl, (show (0 : Int) * 0 + 0 * 0 ≤ ((0 : Nat) : Int) by decide), (show ((0 : Nat) : Int) ≤ 0 * 0 + 0 * 0 by decide)⟩
  | s + 1 => by
    obtain ⟨h0, h1, h2, h3, h4⟩ := kdsS_F h bd s
    have hn := h.n0
    have hc := cntK_le c (s : Int) c.piece.length
    have e : ((sumK c (s + 1) c.piece.length : Nat) : Int) = (sumK c s c.piece.length : Nat) + (cntK c (s : Int) c.piece.length : Nat) := by
      show ((sumK c s c.piece.length + cntK c (s : Int) c.piece.length : Nat) : Int) = _
      omega
    rw [e]
    unfold kdsS
    by_cases hb : bd s = true
    · rw [if_pos hb]
      obtain ⟨f1, f2, f3, f4⟩ := addK_F h0 (n := (cntK c (s : Int) c.piece.length : Nat)) (by omega) (by omega)
      exact ⟨f1, h1, by dsimp only; omega, by dsimp only; omega, by dsimp only; omega⟩
    · rw [if_neg hb]
      obtain ⟨f1, f2, f3, f4⟩ := addK_F h1 (n := (cntK c (s : Int) c.piece.length : Nat)) (by omega) (by omega)
      exact ⟨h0, f1, by dsimp only; omega, by dsimp only; omega, by dsimp only; omega⟩
theorem kds_all {c : Ct} (h : CtF c) (bd : Nat → Bool) : KsF (kdsS c bd (nP c)) (nP c) (c.piece.length : Nat) := by
  have h1 := kdsS_F h bd (nP c)
  rw [sumK_all (fun i hi => ?_) c.piece.length (Nat.le_refl _)] at h1
  · exact h1
  · have h2 := idx_cell h hi
    have h3 := nP_all h _ h2.1
    rw [atC_cell h hi] at h3
    exact ⟨(h.bd _ (getD_in hi)).1, h3⟩
/-! ### the box -/
def boxH (k : Kd × Kd) : Bx := ⟨[k.1, k.2], ⟨0, 0⟩, 1, 0⟩
def weighT : Te := ⟨0, 0, ⟨0, 0⟩, ⟨0, 0⟩, 0⟩
def camT : Te := ⟨1, 3, ⟨0, 0⟩, ⟨0, 0⟩, 0⟩
theorem read_w (k : Kd × Kd) (x y : Int) : readV (boxH k) weighT [x, y] = ⟨(k.1.many + x) * k.1.wt.lo + (k.2.many + y) * k.2.wt.lo, (k.1.many + x) * k.1.wt.hi + (k.2.many + y) * k.2.wt.hi⟩ := by
  show plusV (plusV ⟨0 + 0, 0 + 0⟩ ⟨(k.1.many + x) * k.1.wt.lo, (k.1.many + x) * k.1.wt.hi⟩) ⟨(k.2.many + y) * k.2.wt.lo, (k.2.many + y) * k.2.wt.hi⟩ = _
  unfold plusV
  simp
theorem read_c (k : Kd × Kd) (x y : Int) : readV (boxH k) camT [x, y] = ⟨(k.1.many + x) + (k.2.many + y), (k.1.many + x) + (k.2.many + y)⟩ := by
  have i0 : inS 3 0 = true := by decide
  have i1 : inS 3 1 = true := by decide
  have o : ∀ i m, inS 3 i = true → ofV (boxH k) camT i m = ⟨m, m⟩ := fun i m h => by unfold ofV; rw [if_neg (by decide)]; exact if_pos h
  have b : besV (boxH k) camT = ⟨0, 0⟩ := by unfold besV; rw [if_neg (by decide)]; rfl
  show plusV (plusV (besV (boxH k) camT) (ofV (boxH k) camT 0 (k.1.many + x))) (ofV (boxH k) camT 1 (k.2.many + y)) = _
  rw [o 0 _ i0, o 1 _ i1, b]
  unfold plusV
  simp
theorem box_ok {k : Kd × Kd} {s : Nat} {T : Int} (h : KsF k s T) (hs : s ≤ 40) : bxB (boxH k) = true := by
  obtain ⟨⟨a1, a2, a3, a4⟩, ⟨b1, b2, b3, b4⟩, h3, _, _⟩ := h
  unfold bxB boxH
  simp [inB, spB, kdB]
  omega
/-- all lists -/
def lisH (k : Kd × Kd) : List (List Int) := if k.1.many = 0 then [[0, -1], [0, 0]] else if k.2.many = 0 then [[-1, 0], [0, 0]] else [[-1, 0], [0, -1], [0, 0]]
theorem from1 : fromTo (-1) 0 = [-1, 0] := by decide
theorem from0 : fromTo 0 0 = [0] := by decide
theorem all_H {k : Kd × Kd} {s : Nat} {T : Int} (h : KsF k s T) (hs : 1 ≤ s) : allL (boxH k) = lisH k := by
  obtain ⟨⟨a1, _, _, _⟩, ⟨b1, _, _, _⟩, h3, _, _⟩ := h
  show genL [k.1, k.2] 1 0 = _
  unfold lisH genL genL genL
  by_cases h0 : k.1.many = 0
  · rw [if_pos h0, h0, show -min (1 : Int) 0 = 0 by decide, from0]
    simp only [List.flatMap_cons, List.flatMap_nil, List.append_nil]
    rw [show (1 : Int) - max 0 (-0) = 1 by decide, show -min (1 : Int) k.2.many = -1 by omega, show (0 : Int) - max 0 0 = 0 by decide, from1]
    rfl
  · rw [if_neg h0, show -min (1 : Int) k.1.many = -1 by omega, from1]
    simp only [List.flatMap_cons, List.flatMap_nil, List.append_nil]
    rw [show (1 : Int) - max 0 (-(-1)) = 0 by decide, show (1 : Int) - max 0 (-0) = 1 by decide, show (0 : Int) - max 0 (-1) = 0 by decide, show (0 : Int) - max 0 0 = 0 by decide, show -min (0 : Int) k.2.many = 0 by omega, from0]
    by_cases h1 : k.2.many = 0
    · rw [if_pos h1, h1, show -min (1 : Int) 0 = 0 by decide, from0]; rfl
    · rw [if_neg h1, show -min (1 : Int) k.2.many = -1 by omega, from1]; rfl
end Go.Proofs.Ytfceajkofpafpaa
