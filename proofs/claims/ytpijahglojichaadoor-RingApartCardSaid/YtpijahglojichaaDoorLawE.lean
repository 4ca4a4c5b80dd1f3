/- All orders, one after another: which there are, and how they follow. -/
import Derived.Test.YtpijahglojichaaDoorWalk23
import Derived.Test.YtpijahglojichaaDoorLawC
namespace Go.Proofs.YtpijahglojichaaDoor
open Go.Eng
theorem cmpL_app : ∀ (b s t : List Int), cmpL (b ++ s) (b ++ t) = cmpL s t
  | [], _, _ => rfl
  | x :: b, s, t => by
    show (if x < x then -1 else if x < x then 1 else cmpL (b ++ s) (b ++ t)) = _
    rw [if_neg (Int.lt_irrefl _), if_neg (Int.lt_irrefl _), cmpL_app b s t]
theorem exO_mem {n : Nat} : ∀ (r : Nat) (b : List Int), b.Nodup → ∀ o, o ∈ exO n r b ↔ ∃ s : List Int, o = b ++ s ∧ s.length = r ∧ (b ++ s).Nodup ∧ ∀ x, x ∈ s → 0 ≤ x ∧ x < (n : Int)
  | 0, b, hb, o => by
    constructor
    · intro h
      have h : o = b := by simpa [exO] using h
      exact ⟨[], by simp [h], rfl, by simpa using hb, fun _ h => by cases h⟩
    · rintro ⟨s, h1, h2, _, _⟩
      have := List.eq_nil_of_length_eq_zero h2
      subst this
      simp [exO, h1]
  | r + 1, b, hb, o => by
    constructor
    · intro h
      obtain ⟨k, hk, h⟩ := List.mem_flatMap.1 h
      by_cases hin : (k : Int) ∈ b
      · rw [if_pos hin] at h; cases h
      · rw [if_neg hin] at h
        have hnd : (b ++ [(k : Int)]).Nodup := by
          rw [List.nodup_append]
          exact ⟨hb, by simp, fun x hx y hy e => by simp at hy; subst hy; subst e; exact hin hx⟩
        obtain ⟨s, h1, h2, h3, h4⟩ := (exO_mem r _ hnd o).1 h
        refine ⟨(k : Int) :: s, by rw [h1]; simp, by simp [h2], by simpa using h3, fun x hx => ?_⟩
        rcases List.mem_cons.1 hx with rfl | hx
        · have := List.mem_range.1 hk; omega
        · exact h4 x hx
    · rintro ⟨s, h1, h2, h3, h4⟩
      cases s with
      | nil => simp at h2
      | cons x s =>
        have hx := h4 x (List.mem_cons_self ..)
        obtain ⟨k, rfl⟩ : ∃ k : Nat, x = (k : Int) := ⟨x.toNat, by omega⟩
        have hin : ¬ (k : Int) ∈ b := fun hin => by
          rw [List.nodup_append] at h3
          exact h3.2.2 _ hin _ (List.mem_cons_self ..) rfl
        have e : b ++ (k : Int) :: s = b ++ [(k : Int)] ++ s := by simp
        have hnd : (b ++ [(k : Int)]).Nodup := by
          rw [e] at h3
          exact h3.sublist (List.sublist_append_left _ _)
        refine List.mem_flatMap.2 ⟨k, List.mem_range.2 (by omega), ?_⟩
        rw [if_neg hin]
        exact (exO_mem r _ hnd o).2 ⟨s, by rw [h1, e], by simpa using h2, by rw [← e]; exact h3, fun y hy => h4 y (List.mem_cons_of_mem _ hy)⟩
theorem exO_sorted {n : Nat} : ∀ (r : Nat) (b : List Int), b.Nodup → (exO n r b).Pairwise fun x y => cmpL x y < 0
  | 0, _, _ => List.pairwise_singleton ..
  | r + 1, b, hb => by
    have hnd : ∀ k : Nat, ¬ (k : Int) ∈ b → (b ++ [(k : Int)]).Nodup := fun k hin => by
      rw [List.nodup_append]
      exact ⟨hb, by simp, fun x hx y hy e => by simp at hy; subst hy; subst e; exact hin hx⟩
    have key : ∀ j, (exK n r b j).Pairwise (fun x y => cmpL x y < 0) ∧ ∀ o, o ∈ exK n r b j → ∃ (k : Nat) (s : List Int), k < j ∧ o = b ++ (k : Int) :: s := fun j => by
      induction j with
      | zero => exact ⟨by simp [exK], fun o h => by simp [exK] at h⟩
      | succ j ih =>
        rw [exK_succ]
        by_cases hin : (j : Int) ∈ b
        · rw [if_pos hin, List.append_nil]
          exact ⟨ih.1, fun o h => by obtain ⟨k, s, h1, h2⟩ := ih.2 o h; exact ⟨k, s, by omega, h2⟩⟩
        · rw [if_neg hin]
          have hm : ∀ o, o ∈ exO n r (b ++ [(j : Int)]) → ∃ s : List Int, o = b ++ (j : Int) :: s := fun o h => by
            obtain ⟨s, h1, _⟩ := (exO_mem r _ (hnd j hin) o).1 h
            exact ⟨s, by rw [h1]; simp⟩
          refine ⟨List.pairwise_append.2 ⟨ih.1, exO_sorted r _ (hnd j hin), fun x hx y hy => ?_⟩, fun o h => ?_⟩
          · obtain ⟨k, s, h1, rfl⟩ := ih.2 x hx
            obtain ⟨s2, rfl⟩ := hm y hy
            rw [cmpL_app]
            show (if (k : Int) < (j : Int) then (-1 : Int) else _) < 0
            rw [if_pos (by omega)]; decide
          · rcases List.mem_append.1 h with h | h
            · obtain ⟨k, s, h1, h2⟩ := ih.2 o h; exact ⟨k, s, by omega, h2⟩
            · obtain ⟨s, h1⟩ := hm o h; exact ⟨j, s, by omega, h1⟩
    rw [← exK_all]
    exact (key n).1
theorem rngI_nodup (n : Nat) : (rngI n).Nodup := by unfold rngI; exact List.Pairwise.map _ (fun a b h e => h (by omega)) List.nodup_range
theorem ord_exO {n : Nat} {o : List Int} : o ∈ exO n n [] ↔ ordB o n = true := by
  rw [exO_mem n [] List.nodup_nil, ordB_iff]
  constructor
  · rintro ⟨s, h1, h2, h3, h4⟩
    simp at h1 h3
    subst h1
    refine perm_rngI n o (fun k hk => ?_) h2
    have hin : (k : Int) ∈ o := Classical.byContradiction fun hno => by
      have hnat : ((k :: o.map Int.toNat) : List Nat).Nodup := by
        rw [List.nodup_cons]
        refine ⟨fun hm => ?_, ?_⟩
        · obtain ⟨x, hx, e⟩ := List.mem_map.1 hm
          have := h4 x hx
          exact hno (by rw [show (k : Int) = x by omega]; exact hx)
        · refine List.pairwise_map.2 (List.Pairwise.imp_of_mem (fun {a b} ha hb hne e => hne ?_) h3)
          have := h4 a ha
          have := h4 b hb
          omega
      have := nodup_lt n _ hnat fun x hx => by
        rcases List.mem_cons.1 hx with rfl | hx
        · exact hk
        · obtain ⟨y, hy, rfl⟩ := List.mem_map.1 hx
          have := h4 y hy
          omega
      rw [List.length_cons, List.length_map] at this
      omega
    rw [h3.count, if_pos hin]
  · intro h
    exact ⟨o, rfl, by rw [h.length_eq, rngI_len], by simpa using h.nodup_iff.2 (rngI_nodup n), fun x hx => mem_rngI.1 (h.mem_iff.1 hx)⟩
end Go.Proofs.YtpijahglojichaaDoor
