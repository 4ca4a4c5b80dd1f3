/- Winners, as bits: plain data. -/
import Derived.Test.YtegdfpilhlcplaaLaw3
namespace Go.Proofs.Ytegdfpilhlcplaa
open Go Go.Eng Go.RowKit
def maskN (q : Nat → Bool) : Nat → Nat
  | 0 => 0
  | k + 1 => maskN q k + if q k then 2 ^ k else 0
theorem maskN_lt (q : Nat → Bool) : ∀ k, maskN q k < 2 ^ k
  | 0 => by simp [maskN]
  | k + 1 => by
    have := maskN_lt q k
    rw [maskN, Nat.pow_succ]
    split <;> omega
theorem maskN_or (q : Nat → Bool) (k : Nat) (h : q k = true) : ((((maskN q k : Nat) : Int).toNat ||| ((1 : Int) * 2 ^ ((k : Nat) : Int).toNat).toNat : Nat) : Int) = (maskN q (k + 1) : Nat) := by
  have h1 : ((1 : Int) * 2 ^ ((k : Nat) : Int).toNat).toNat = 2 ^ k := by
    rw [Int.one_mul, Int.toNat_natCast]
    have : (2 : Int) ^ k = ((2 ^ k : Nat) : Int) := by simp
    rw [this, Int.toNat_natCast]
  rw [h1, Int.toNat_natCast]
  have h2 := Nat.two_pow_add_eq_or_of_lt (maskN_lt q k) 1
  rw [Nat.mul_one] at h2
  rw [Nat.or_comm, ← h2, maskN, if_pos h]
  omega
def pw2 (k : Nat) : Nat := 2 ^ k
theorem pw2_succ (k : Nat) : pw2 (k + 1) = 2 * pw2 k := by unfold pw2; rw [Nat.pow_succ]; omega
theorem pw2_le {k : Nat} (h : k ≤ 20) : pw2 k ≤ 1048576 := Nat.pow_le_pow_right (n := 2) (by omega) h
theorem pw2_shl (k : Nat) : (1 : Int) * 2 ^ ((k : Nat) : Int).toNat = (pw2 k : Nat) := by rw [Int.one_mul, Int.toNat_natCast]; simp [pw2]
theorem maskN_pw (q : Nat → Bool) (k : Nat) : maskN q k < pw2 k := maskN_lt q k
theorem maskN_add (q : Nat → Bool) (k : Nat) (h : q k = true) : ((maskN q k : Nat) : Int) + ((pw2 k : Nat) : Int) = (maskN q (k + 1) : Nat) := by rw [maskN, if_pos h]; unfold pw2; omega
theorem maskN_no (q : Nat → Bool) (k : Nat) (h : q k = false) : ((maskN q k : Nat) : Int) = (maskN q (k + 1) : Nat) := by rw [maskN, h]; simp
def sureQ (l : List Sp) (t : Nat) : Bool := decide ((l.getD t sp0).hi = 1)
def canQ (l : List Sp) (t : Nat) : Bool := decide ((l.getD t sp0).lo = 1)
end Go.Proofs.Ytegdfpilhlcplaa
