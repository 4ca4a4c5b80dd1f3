/- Plain data of a puzzle that is lent. No program in sight. -/
import Derived.Test.YtpijahglojichaaDoorLawB
namespace Go.Proofs.YtpijahglojichaaDoor
/-- a loan: who, from which hour, to which -/
structure Ln where
  p : Nat
  f : Nat
  t : Nat
/-- a look: its hour, what was there, what was gone -/
structure Sg where
  h : Nat
  th : Nat
  g : Nat
structure Tl where
  pieces : Nat
  loans : List Ln
  looks : List Sg
  admits : List Int
def ln0 : Ln := ⟨0, 0, 0⟩
def sg0 : Sg := ⟨0, 0, 0⟩
/-- tales as they are met here: at most one loan, a few looks -/
structure OkT (t : Tl) : Prop where
  p1 : 1 ≤ t.pieces
  p16 : t.pieces ≤ 16
  a1 : 1 ≤ t.admits.length
  a6 : t.admits.length ≤ 6
  l1 : t.loans.length ≤ 1
  s20 : t.looks.length ≤ 20
  ln : ∀ l, l ∈ t.loans → l.p < t.admits.length ∧ l.f ≤ 1048575 ∧ l.f + 1 ≤ l.t ∧ l.t ≤ 1048576
  sg : ∀ s, s ∈ t.looks → s.h ≤ 1048576 ∧ s.th < pw2 t.pieces ∧ s.g < pw2 t.pieces ∧ s.th &&& s.g = 0
  ad : ∀ n, n ∈ t.admits → -1 ≤ n ∧ n ≤ 16
theorem pow16 {p : Nat} (h : p ≤ 16) : pw2 p ≤ 65536 := Nat.pow_le_pow_right (n := 2) (by omega) h
/-- when a piece can have been lost -/
def winF (k : Nat) (w : Nat × Nat) (s : Sg) : Nat × Nat := (if s.th.testBit k = true then max w.1 s.h else w.1, if s.g.testBit k = true then min w.2 s.h else w.2)
def winW (l : List Sg) (k : Nat) : Nat × Nat := l.foldl (winF k) (0, 1048577)
theorem winW_take (l : List Sg) (k : Nat) {i : Nat} (h : i < l.length) : winW (l.take (i + 1)) k = winF k (winW (l.take i) k) (l.getD i sg0) := by
  unfold winW; rw [List.take_add_one, get_of_lt sg0 h, List.foldl_append]; rfl
theorem winW_bd {l : List Sg} (h : ∀ s, s ∈ l → s.h ≤ 1048576) (k : Nat) : ∀ i, i ≤ l.length → (winW (l.take i) k).1 ≤ 1048576 ∧ (winW (l.take i) k).2 ≤ 1048577
  | 0, _ => ⟨Nat.zero_le _, Nat.le_refl _⟩
  | i + 1, hi => by
    have ih := winW_bd h k i (by omega)
    have := h _ (getD_mem (d := sg0) (show i < l.length by omega))
    rw [winW_take l k (by omega)]
    unfold winF
    dsimp only
    constructor
    · split <;> omega
    · split <;> omega
/-- who can have lost a piece: what hours are left, and the set -/
def susF (w : Nat × Nat) (x : Int × Nat) (l : Ln) : Int × Nat := if ((max l.f w.1 : Nat) : Int) < ((min l.t w.2 : Nat) : Int) then (x.1 - (((min l.t w.2 : Nat) : Int) - ((max l.f w.1 : Nat) : Int)), x.2 ||| pw2 l.p) else x
def susW (t : Tl) (k i : Nat) : Int × Nat := (t.loans.take i).foldl (susF (winW t.looks k)) (((min (winW t.looks k).2 1048576 : Nat) : Int) - ((winW t.looks k).1 : Int), 0)
theorem susW_take (t : Tl) (k : Nat) {i : Nat} (h : i < t.loans.length) : susW t k (i + 1) = susF (winW t.looks k) (susW t k i) (t.loans.getD i ln0) := by
  unfold susW; rw [List.take_add_one, get_of_lt ln0 h, List.foldl_append]; rfl
def canN (t : Tl) (k : Nat) : Nat :=
  let x := susW t k t.loans.length
  let s := if 0 < x.1 then x.2 ||| 64 else x.2
  if (winW t.looks k).2 = 1048577 then s ||| 128 else s
theorem or_lt8 {a b : Nat} (ha : a < 256) (hb : b < 256) : a ||| b < 256 := Nat.or_lt_two_pow (n := 8) ha hb
theorem pow_lt8 {p : Nat} (h : p ≤ 7) : pw2 p < 256 := by
  have : pw2 p ≤ 128 := Nat.pow_le_pow_right (n := 2) (by omega) h
  omega
theorem susW_bd {t : Tl} (h : OkT t) (k : Nat) : ∀ i, i ≤ t.loans.length → -1048577 * ((i : Int) + 1) ≤ (susW t k i).1 ∧ (susW t k i).1 ≤ 1048577 ∧ (susW t k i).2 < 256
  | 0, _ => by
    have := winW_bd (l := t.looks) (fun s hs => (h.sg s hs).1) k t.looks.length (Nat.le_refl _)
    rw [List.take_length] at this
    unfold susW
    simp only [List.take_zero, List.foldl_nil]
    omega
  | i + 1, hi => by
    have ih := susW_bd h k i (by omega)
    have hl := h.ln _ (getD_mem (d := ln0) (show i < t.loans.length by omega))
    have ha := h.a6
    have := winW_bd (l := t.looks) (fun s hs => (h.sg s hs).1) k t.looks.length (Nat.le_refl _)
    rw [List.take_length] at this
    rw [susW_take t k (by omega)]
    unfold susF
    split
    · dsimp only
      refine ⟨by omega, by omega, or_lt8 ih.2.2 (pow_lt8 (by omega))⟩
    · refine ⟨by omega, by omega, ih.2.2⟩
theorem canN_lt {t : Tl} (h : OkT t) (k : Nat) : canN t k < 256 := by
  have := (susW_bd h k t.loans.length (Nat.le_refl _)).2.2
  unfold canN
  dsimp only
  have h1 : (if 0 < (susW t k t.loans.length).1 then (susW t k t.loans.length).2 ||| 64 else (susW t k t.loans.length).2) < 256 := by
    split
    · exact or_lt8 this (by decide)
    · exact this
  split
  · exact or_lt8 h1 (by decide)
  · exact h1
/-- a bit, as it is looked at -/
theorem bit_at (x k : Nat) : decide (((((x : Int) / 2 ^ (k : Int).toNat).toNat &&& (1 : Int).toNat : Nat) : Int) = 1) = x.testBit k := by
  have e : ((x : Int) / 2 ^ (k : Int).toNat).toNat = x / 2 ^ k := by
    rw [Int.toNat_natCast, show ((2 : Int) ^ k) = ((2 ^ k : Nat) : Int) by simp, ← Int.natCast_ediv, Int.toNat_natCast]
  rw [e]
  unfold Nat.testBit
  rw [Nat.shiftRight_eq_div_pow, show (1 : Int).toNat = 1 from rfl, Nat.and_comm 1]
  have : x / 2 ^ k &&& 1 = (x / 2 ^ k) % 2 := Nat.and_one_is_mod _
  rw [this]
  rcases Nat.mod_two_eq_zero_or_one (x / 2 ^ k) with h | h <;> rw [h] <;> rfl
end Go.Proofs.YtpijahglojichaaDoor
