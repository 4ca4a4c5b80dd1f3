/- The engine, part 22: a family of own rows, of which one at a time is written. -/
import Derived.Test.YtpijahglojichaaDoorEngB
namespace Go.Eng
open Go Go.RowKit
theorem Sel.of_perm : ∀ {rs rs' : List Res}, rs.Perm rs' → Sel rs rs'
  | [], _, _ => .nil
  | r :: t, rs', h => by
    obtain ⟨A, B, rfl⟩ := List.append_of_mem (h.mem_iff.1 (List.mem_cons_self ..))
    exact .cons (Rem.mid r A B) (Sel.of_perm (h.trans List.perm_middle).cons_inv)
def famR (e : TypeId) (sz n : Nat) (v : Nat → Value) (xs : Nat → List Value) (k : Nat) : List Res := (List.range k).map fun i => .own (v i) e sz n (xs i)
def updF {α : Type} (f : Nat → α) (i : Nat) (x : α) : Nat → α := fun j => if j = i then x else f j
theorem updF_at {α : Type} (f : Nat → α) (i : Nat) (x : α) : updF f i x i = x := if_pos rfl
theorem updF_ne {α : Type} (f : Nat → α) {i j : Nat} (x : α) (h : j ≠ i) : updF f i x j = f j := if_neg h
theorem fam_congr {e : TypeId} {sz n k : Nat} {v v' : Nat → Value} {xs xs' : Nat → List Value} (h : ∀ i, i < k → v i = v' i ∧ xs i = xs' i) : famR e sz n v xs k = famR e sz n v' xs' k :=
  List.map_congr_left fun i hi => by rw [(h i (List.mem_range.1 hi)).1, (h i (List.mem_range.1 hi)).2]
theorem fam_mem {e : TypeId} {sz n k i : Nat} {v : Nat → Value} {xs : Nat → List Value} (h : i < k) : Res.own (v i) e sz n (xs i) ∈ famR e sz n v xs k := List.mem_map.2 ⟨i, List.mem_range.2 h, rfl⟩
theorem fam_succ {e : TypeId} {sz n k : Nat} {v : Nat → Value} {xs : Nat → List Value} : famR e sz n v xs (k + 1) = famR e sz n v xs k ++ [.own (v k) e sz n (xs k)] := by
  unfold famR; rw [List.range_succ, List.map_append]; rfl
theorem fam_one {e : TypeId} {sz n : Nat} {v : Nat → Value} {xs : Nat → List Value} : ∀ {k i : Nat}, i < k → ∃ F, ∀ xs' : Nat → List Value, (∀ j, j < k → j ≠ i → xs' j = xs j) → (famR e sz n v xs' k).Perm (.own (v i) e sz n (xs' i) :: F)
  | 0, _, h => absurd h (Nat.not_lt_zero _)
  | k + 1, i, h => by
    rcases Nat.lt_or_eq_of_le (Nat.le_of_lt_succ h) with h1 | h1
    · obtain ⟨F, hF⟩ := fam_one (e := e) (sz := sz) (n := n) (v := v) (xs := xs) h1
      refine ⟨F ++ [.own (v k) e sz n (xs k)], fun xs' h2 => ?_⟩
      rw [fam_succ, h2 k (by omega) (by omega)]
      exact (hF xs' fun j hj => h2 j (by omega)).append_right _
    · subst h1
      refine ⟨famR e sz n v xs i, fun xs' h2 => ?_⟩
      rw [fam_succ, fam_congr (v' := v) (xs' := xs) fun j hj => ⟨rfl, h2 j (by omega) (by omega)⟩]
      exact List.perm_append_comm
theorem fam_take (K : List Res) {e : TypeId} {sz n : Nat} {v : Nat → Value} {xs : Nat → List Value} {k i : Nat} (h : i < k) : ∃ F, Sel (.own (v i) e sz n (xs i) :: (K ++ F)) (K ++ famR e sz n v xs k) ∧ ∀ K2 xs', (∀ j, j < k → j ≠ i → xs' j = xs j) → Sel (K2 ++ famR e sz n v xs' k) (.own (v i) e sz n (xs' i) :: (K2 ++ F)) := by
  obtain ⟨F, hF⟩ := fam_one (e := e) (sz := sz) (n := n) (v := v) (xs := xs) h
  exact ⟨F, .of_perm ((List.perm_middle.symm).trans ((hF xs fun _ _ _ => rfl).symm.append_left K)), fun K2 xs' h2 => .of_perm (((hF xs' h2).append_left K2).trans List.perm_middle)⟩
section
variable {X : Ctx} {Q : Post} {L : List (Nat × Value)} {ops : Array Oper} {l : List Oper} {c : Code} {ex : Exit}
/-- one of the family is taken -/
theorem sq_fam (K : List Res) {rs : List Res} {e : TypeId} {sz n : Nat} {v : Nat → Value} {xs : Nat → List Value} {k i : Nat} (hi : i < k) (hr : Sel (K ++ famR e sz n v xs k) rs) (h : ∀ F, (∀ K2 xs', (∀ j, j < k → j ≠ i → xs' j = xs j) → Sel (K2 ++ famR e sz n v xs' k) (.own (v i) e sz n (xs' i) :: (K2 ++ F))) → SQ X ops Q l L (.own (v i) e sz n (xs i) :: (K ++ F))) : SQ X ops Q l L rs := by
  obtain ⟨F, h1, h2⟩ := fam_take K (v := v) (xs := xs) (e := e) (sz := sz) (n := n) hi
  exact sq_sub (SubL.refl _) hr (sq_sub (SubL.refl _) h1 (h F h2))
/-- it is put back -/
theorem sx_fam {rs rs' : List Res} (h : Sel rs' rs) (k : SX X Q ex L rs') : SX X Q ex L rs := sx_sub (SubL.refl _) h k
/-- the family has one more -/
theorem fam_more (K : List Res) {e : TypeId} {sz n k : Nat} {v v' : Nat → Value} {xs xs' : Nat → List Value} (h : ∀ j, j < k → v' j = v j ∧ xs' j = xs j) : Sel (K ++ famR e sz n v' xs' (k + 1)) (.own (v' k) e sz n (xs' k) :: (K ++ famR e sz n v xs k)) := by
  refine .of_perm ?_
  rw [fam_succ, fam_congr h, ← List.append_assoc]
  exact List.perm_append_comm
end
end Go.Eng
namespace Go.Eng
open Go Go.RowKit
section
variable {X : Ctx} {Q : Post} {L : List (Nat × Value)} {rs : List Res} {ex : Exit} {e : TypeId} {n : Nat}
/-- a block is an own slice from now on -/
theorem sx_blk_own {rest' : List Res} {b sz : Nat} {xs : List Value} (hr : Rem (.blk b (.cells xs.toArray e (0, 0))) rs rest') (hl : xs.length = n * sz) (hn : n ≤ maxLen) (h : SX X Q ex L (.own (.slice (some ⟨b, 0, none⟩) n n) e sz n xs :: rest')) : SX X Q ex L rs :=
  fun a w ha hw => h a w ha (hw.blkOwn hr hl hn)
end
/-- rows that lie in memory, from one of them on -/
theorem rows_from {α : Type} {row : α → List Value} (hr : ∀ x, (row x).length = 1) {w : World} {a : Option Addr} {l : List α} {cp lo : Nat} (h : RowsA row 1 0 w a l) (hc : l.length ≤ cp) : ∀ ad, loA a cp lo 1 = some ad → ∀ j u, ((l.drop lo).flatMap row)[j]? = some u → w.cell? (ad.add j) = some u := fun ad hl j u hj => by
  have hjl : j < (l.drop lo).length := by have := (List.getElem?_eq_some_iff.1 hj).1; rwa [flat_len hr, Nat.mul_one] at this
  rw [List.length_drop] at hjl
  unfold loA at hl
  rw [if_neg (by omega)] at hl
  cases a with
  | none => cases hl
  | some a0 =>
    injection hl with hl
    subst hl
    have hx : (l.drop lo)[j]? = l[lo + j]? := List.getElem?_drop
    have hlt : lo + j < l.length := by omega
    have hg := List.getElem?_eq_getElem hlt
    have hf := flat_get hr (l.drop lo) j l[lo + j] (hx.trans hg) 0 ((row l[lo + j])[0]'(by rw [hr]; omega)) (List.getElem?_eq_getElem _)
    rw [Nat.mul_one, Nat.add_zero, hj] at hf
    have := (h.el (lo + j) _ hg).2.2 0 _ (List.getElem?_eq_getElem (by rw [hr]; omega))
    rw [← Option.some.inj hf] at this
    have e : (elt (some a0) (lo + j) 1).add 0 = (a0.add (lo * 1)).add j := by
      unfold elt
      rw [Option.getD_some, Addr.add_add, Addr.add_add]
      congr 1
      omega
    rw [e] at this; exact this
/-- and the first so many -/
theorem rows_take {α : Type} {row : α → List Value} {sz : Nat} {lo : Nat} {w : World} {a : Option Addr} {l : List α} (h : RowsA row sz lo w a l) (k : Nat) : RowsA row sz lo w a (l.take k) := by
  refine ⟨fun i s hi => ?_, ?_⟩
  · rw [List.getElem?_take] at hi
    split at hi
    · exact h.el i s hi
    · cases hi
  · rw [List.length_take]; have := h.len; omega
end Go.Eng
