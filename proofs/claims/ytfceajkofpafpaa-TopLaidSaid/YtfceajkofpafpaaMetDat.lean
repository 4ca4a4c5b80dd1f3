/- Plain data of the joins of a solution. No program in sight. -/
import Derived.Test.YtfceajkofpafpaaSolDat
namespace Go.Proofs.Ytfceajkofpafpaa
abbrev J4 := Nat × Nat × Nat × Nat
def othI (z : Pz) (c k : Nat) : Nat := if k = 0 then c + 1 else c + z.wide.toNat
def hasJ (z : Pz) (n c k : Nat) : Bool := !(decide (k = 0) && decide (colI z c = z.wide - 1)) && decide (othI z c k < n)
def jnOf (l : List Ly) (c o s : Nat) : J4 := if (lyD l o).1 < (lyD l c).1 then ((lyD l o).1, ownS (lyD l o) ((s + 2) % 4), (lyD l c).1, ownS (lyD l c) s) else ((lyD l c).1, ownS (lyD l c) s, (lyD l o).1, ownS (lyD l o) ((s + 2) % 4))
def metC (z : Pz) (l : List Ly) (c k : Nat) : List J4 := if hasJ z l.length c k = true then [jnOf l c (othI z c k) (k + 1)] else []
def metI (z : Pz) (l : List Ly) (c : Nat) : List J4 := (List.range 2).flatMap (metC z l c)
/-- the joins of a solution -/
def metL (z : Pz) (l : List Ly) : List J4 := (List.range l.length).flatMap (metI z l)
theorem range_fm {α : Type} (f : Nat → List α) (k : Nat) : (List.range (k + 1)).flatMap f = (List.range k).flatMap f ++ f k := by
  rw [List.range_succ, List.flatMap_append]; simp
theorem metC_far {z : Pz} {l : List Ly} {c k : Nat} (h : l.length ≤ othI z c k) : metC z l c k = [] := by
  unfold metC hasJ
  rw [decide_eq_false (show ¬ othI z c k < l.length by omega), Bool.and_false]; rfl
theorem metC_rim {z : Pz} {l : List Ly} {c k : Nat} (hk : k = 0) (h : colI z c = z.wide - 1) : metC z l c k = [] := by
  unfold metC hasJ
  rw [decide_eq_true hk, decide_eq_true h]; rfl
theorem metC_yes {z : Pz} {l : List Ly} {c k : Nat} (h1 : ¬ (k = 0 ∧ colI z c = z.wide - 1)) (h2 : othI z c k < l.length) : metC z l c k = [jnOf l c (othI z c k) (k + 1)] := by
  have : hasJ z l.length c k = true := by
    unfold hasJ
    rw [decide_eq_true h2, Bool.and_true, ← Bool.decide_and, decide_eq_false h1]; rfl
  unfold metC
  rw [if_pos this]
end Go.Proofs.Ytfceajkofpafpaa
