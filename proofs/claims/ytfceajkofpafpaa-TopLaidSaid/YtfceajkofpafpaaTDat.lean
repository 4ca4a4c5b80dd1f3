/- Plain data of sides, pieces and puzzles; whether sides fit. No program in sight. -/
import Derived.Test.YtfceajkofpafpaaSDat
namespace Go.Proofs.Ytfceajkofpafpaa
open Go.Proofs.Ytfceajkofpafpaa.Sc (Sp sp0 spB)
structure Eg where
  kind : Int
  at_ : Sp
  wd : Sp
  dp : Sp
structure Pl where
  len : Int
  slack : Int
  loose : Int
  damp : Sp
structure Pc where
  e0 : Eg
  e1 : Eg
  e2 : Eg
  e3 : Eg
structure Pz where
  play : Pl
  wide : Int
  high : Int
  turn : Bool
  pieces : List Pc
def eg0 : Eg := ⟨0, sp0, sp0, sp0⟩
def pc0 : Pc := ⟨eg0, eg0, eg0, eg0⟩
def Pc.ed (p : Pc) (s : Nat) : Eg := if s = 0 then p.e0 else if s = 1 then p.e1 else if s = 2 then p.e2 else p.e3
/-- is a side valid? -/
def egB (e : Eg) : Bool := decide (e.kind = 0) || (decide (1 ≤ e.kind ∧ e.kind ≤ 2) && (spB e.at_ 0 10000 && spB e.wd 1 3000 && spB e.dp 1 3000))
/-- is what is allowed valid? -/
def plB (p : Pl) : Bool := decide (1 ≤ p.len ∧ p.len ≤ 10000) && decide (0 ≤ p.slack ∧ p.slack ≤ 500) && decide (0 ≤ p.loose ∧ p.loose ≤ 500) && spB p.damp 0 100
def pzB (z : Pz) : Bool := plB z.play && decide (1 ≤ (z.pieces.length : Int) ∧ (z.pieces.length : Int) ≤ 9) && decide (1 ≤ z.wide ∧ z.wide ≤ 9) && decide (1 ≤ z.high ∧ z.high ≤ 9) && decide (z.wide * z.high = (z.pieces.length : Int)) && z.pieces.all fun p => egB p.e0 && egB p.e1 && egB p.e2 && egB p.e3
/-- what a tab and a hole differ by -/
def offD (p : Pl) (t h : Eg) : Sp := ⟨t.at_.lo + h.at_.lo - p.len, t.at_.hi + h.at_.hi - p.len⟩
def wideD (t h : Eg) : Sp := ⟨h.wd.lo - t.wd.hi, h.wd.hi - t.wd.lo⟩
def deepD (t h : Eg) : Sp := ⟨h.dp.lo - t.dp.hi, h.dp.hi - t.dp.lo⟩
def allB (s : Sp) (low high : Int) (d : Sp) : Bool := decide (1000 * low ≤ s.lo * (1000 + d.hi)) && decide (s.hi * (1000 + d.hi) ≤ 1000 * high)
def bestN (s : Sp) (d : Sp) : Int := min (max 0 s.lo) s.hi * (1000 + d.lo)
def mayB (s : Sp) (low high : Int) (d : Sp) : Bool := decide (1000 * low ≤ bestN s d) && decide (bestN s d ≤ 1000 * high)
def verdV (p : Pl) (t h : Eg) : Int :=
  if (allB (offD p t h) (-p.slack) p.slack p.damp && allB (wideD t h) 0 p.loose p.damp && allB (deepD t h) 0 p.loose p.damp) = true then 2
  else if (mayB (offD p t h) (-p.slack) p.slack p.damp && mayB (wideD t h) 0 p.loose p.damp && mayB (deepD t h) 0 p.loose p.damp) = true then 1 else 0
/-- whether sides fit -/
def fitV (p : Pl) (a b : Eg) : Int := if a.kind = 1 ∧ b.kind = 2 then verdV p a b else if b.kind = 1 ∧ a.kind = 2 then verdV p b a else 0
/-- is a number of a span, with the least damp, within bounds? -/
def okN (s : Sp) (low high : Int) (d : Sp) (n : Int) : Prop := (max s.lo low ≤ n ∧ n ≤ min s.hi high) ∧ 1000 * low ≤ n * (1000 + d.lo) ∧ n * (1000 + d.lo) ≤ 1000 * high
theorem some_may {s d : Sp} {low high : Int} (hs : s.lo ≤ s.hi) (hl : low ≤ 0) (hh : 0 ≤ high) (hd : 0 ≤ d.lo) : (∃ n, okN s low high d n) ↔ mayB s low high d = true := by
  unfold mayB bestN okN
  rw [Bool.and_eq_true, decide_eq_true_eq, decide_eq_true_eq]
  rcases (by omega : (s.lo ≤ 0 ∧ 0 ≤ s.hi) ∨ 0 < s.lo ∨ s.hi < 0) with h | h | h
  · rw [show min (max 0 s.lo) s.hi = 0 by omega]
    constructor
    · intro _; rw [Int.zero_mul]; omega
    · intro _; exact ⟨0, by omega, by rw [Int.zero_mul]; omega, by rw [Int.zero_mul]; omega⟩
  · rw [show min (max 0 s.lo) s.hi = s.lo by omega]
    have hp : 0 ≤ s.lo * (1000 + d.lo) := Int.mul_nonneg (by omega) (by omega)
    constructor
    · rintro ⟨n, h1, _, h3⟩
      have h4 : s.lo * (1000 + d.lo) ≤ n * (1000 + d.lo) := Int.mul_le_mul_of_nonneg_right (by omega) (by omega)
      omega
    · rintro ⟨_, h2⟩
      have h4 : s.lo * 1000 ≤ s.lo * (1000 + d.lo) := Int.mul_le_mul_of_nonneg_left (by omega) (by omega)
      exact ⟨s.lo, by omega, by omega, h2⟩
  · rw [show min (max 0 s.lo) s.hi = s.hi by omega]
    have hp : s.hi * (1000 + d.lo) ≤ 0 * (1000 + d.lo) := Int.mul_le_mul_of_nonneg_right (by omega) (by omega)
    rw [Int.zero_mul] at hp
    constructor
    · rintro ⟨n, h1, h2, _⟩
      have h4 : n * (1000 + d.lo) ≤ s.hi * (1000 + d.lo) := Int.mul_le_mul_of_nonneg_right (by omega) (by omega)
      omega
    · rintro ⟨h2, _⟩
      have h4 : (-s.hi) * 1000 ≤ (-s.hi) * (1000 + d.lo) := Int.mul_le_mul_of_nonneg_left (by omega) (by omega)
      rw [Int.neg_mul, Int.neg_mul] at h4
      exact ⟨s.hi, by omega, h2, by omega⟩
end Go.Proofs.Ytfceajkofpafpaa
