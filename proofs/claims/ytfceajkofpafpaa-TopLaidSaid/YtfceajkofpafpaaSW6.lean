/- The walk of the reference's lists. -/
import Derived.Test.YtfceajkofpafpaaSW5
namespace Go.Proofs.Ytfceajkofpafpaa.Sc
open Go Go.Eng Go.RowKit Go.Proofs
set_option maxRecDepth 100000
/-- the reference's lists that begin so -/
def refL (b : Bx) : Nat → List Int → List (List Int)
  | 0, done => if canV b done = true then [done] else []
  | k + 1, done => (List.range 8).flatMap fun i => refL b k (done ++ [((i : Nat) : Int) - 4])
def refJ (b : Bx) (k : Nat) (done : List Int) (j : Nat) : List (List Int) := (List.range j).flatMap fun i => refL b k (done ++ [((i : Nat) : Int) - 4])
theorem refJ_succ (b : Bx) (k : Nat) (done : List Int) (j : Nat) : refJ b k done (j + 1) = refJ b k done j ++ refL b k (done ++ [((j : Nat) : Int) - 4]) := by
  unfold refJ; rw [List.range_succ, List.flatMap_append]; simp
theorem refJ_le (b : Bx) (k : Nat) (done : List Int) {j m : Nat} (h : j + 1 ≤ m) : (refJ b k done (j + 1)).length ≤ (refJ b k done m).length := by
  induction m with
  | zero => omega
  | succ m ih =>
    rcases Nat.lt_or_ge j m with h1 | h1
    · have := ih h1
      rw [refJ_succ b k done m, List.length_append]; omega
    · have : j = m := by omega
      subst this; exact Nat.le_refl _
theorem refL_le (b : Bx) : ∀ (k : Nat) (done : List Int), (refL b k done).length ≤ 8 ^ k
  | 0, done => by unfold refL; split <;> simp
  | k + 1, done => by
    have key : ∀ j, (refJ b k done j).length ≤ j * 8 ^ k := by
      intro j
      induction j with
      | zero => simp [refJ]
      | succ j ih =>
        rw [refJ_succ, List.length_append, Nat.add_mul, Nat.one_mul]
        exact Nat.add_le_add ih (refL_le b k _)
    show (refJ b k done 8).length ≤ _
    rw [Nat.pow_succ, Nat.mul_comm]
    exact key 8
/-- an own slice whose shape is known, to be read -/
theorem own_rd {w0 w : World} {rs : List Res} {al : Option Addr} {cl : Nat} {l : List Int} {e : TypeId} (h : Hp w0 rs w) (hm : Res.own (.slice al l.length cl) e 1 l.length (l.flatMap iRow) ∈ rs) (hl : l.length ≤ 9223372036854775807) : RowsA iRow 1 0 w al l := by
  obtain ⟨a2, c2, h1, _, h2⟩ := own_rowsA (row := iRow) (fun _ => rfl) (h.ok _ hm) rfl hl
  injection h1 with h1 _ _
  rw [h1]; exact h2
theorem sel_mid (r : Res) : ∀ (F xs : List Res), Sel (F ++ r :: xs) (r :: (F ++ xs))
  | [], _ => Sel.refl _
  | _ :: F, xs => Sel.cons (.there .here) (sel_mid r F xs)

end Go.Proofs.Ytfceajkofpafpaa.Sc
