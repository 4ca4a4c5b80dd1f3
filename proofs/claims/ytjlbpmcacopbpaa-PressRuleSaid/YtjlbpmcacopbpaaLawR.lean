/- The reference's orders come as words in a dictionary. No program in sight. -/
import Derived.Test.YtjlbpmcacopbpaaWalk15
import Derived.Test.YtjlbpmcacopbpaaWalk12
namespace Go.Proofs.Ytjlbpmcacopbpaa
def lexI : List Int → List Int → Prop
  | x :: xs, y :: ys => x < y ∨ x = y ∧ lexI xs ys
  | _, _ => False
theorem lexI_app (A : List Int) {x y : List Int} (h : lexI x y) : lexI (A ++ x) (A ++ y) := by
  induction A with
  | nil => exact h
  | cons a A ih => exact .inr ⟨rfl, ih⟩
theorem refO_pre (n : Nat) : ∀ (k : Nat) (done : List Int) (h : List Int), h ∈ refO n k done → ∃ r, h = done ++ r
  | 0, done, h, hh => ⟨[], by rw [List.mem_singleton.1 hh, List.append_nil]⟩
  | k + 1, done, h, hh => by
    obtain ⟨j, _, hj⟩ := List.mem_flatMap.1 (show h ∈ (List.range n).flatMap _ from hh)
    split at hj
    · cases hj
    · obtain ⟨r, hr⟩ := refO_pre n k _ h hj
      exact ⟨(j : Int) :: r, by rw [hr, List.append_assoc]; rfl⟩
theorem refO_sorted (n : Nat) : ∀ (k : Nat) (done : List Int), (refO n k done).Pairwise lexI
  | 0, done => List.pairwise_singleton _ _
  | k + 1, done => by
    show ((List.range n).flatMap _).Pairwise lexI
    rw [List.pairwise_flatMap]
    refine ⟨fun j _ => ?_, List.pairwise_lt_range.imp fun {i j} hij x hx y hy => ?_⟩
    · split
      · exact .nil
      · exact refO_sorted n k _
    · split at hx
      · cases hx
      · split at hy
        · cases hy
        · obtain ⟨r, rfl⟩ := refO_pre n k _ x hx
          obtain ⟨r', rfl⟩ := refO_pre n k _ y hy
          rw [List.append_assoc, List.append_assoc]
          exact lexI_app done (.inl (by omega))
theorem lexI_nI : ∀ {x y : List Nat}, lexI (nI x) (nI y) ↔ lexL x y
  | [], _ => by unfold nI lexI lexL; simp
  | _ :: _, [] => by unfold nI lexI lexL; simp
  | x :: xs, y :: ys => by
    have ih := lexI_nI (x := xs) (y := ys)
    show ((x : Int) < y ∨ (x : Int) = y ∧ lexI (nI xs) (nI ys)) ↔ (x < y ∨ x = y ∧ lexL xs ys)
    rw [ih]
    constructor
    · rintro (h | ⟨h, h2⟩)
      · exact .inl (by omega)
      · exact .inr ⟨by omega, h2⟩
    · rintro (h | ⟨h, h2⟩)
      · exact .inl (by omega)
      · exact .inr ⟨by omega, h2⟩
end Go.Proofs.Ytjlbpmcacopbpaa
