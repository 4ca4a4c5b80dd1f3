/- Which word clashes: plain laws. -/
import Derived.Test.YtegdfpilhlcplaaWalk15
namespace Go.Proofs.Ytegdfpilhlcplaa
open Go Go.Eng Go.RowKit
theorem chk_of {r : Rc} {l : List Wd} (hok : rcB r = true) (hl : l.length ≤ 40) (hw : ∀ d, d ∈ l → wdB r d = true) : chk r l = 0 := by
  unfold chk
  rw [if_neg (by simp [hok]), if_neg (by omega), if_neg]
  rw [Bool.not_eq_true, List.any_eq_false]
  intro d hd; simp [hw d hd]
theorem chk_take {r : Rc} {l : List Wd} (h : chk r l = 0) (k : Nat) : chk r (l.take k) = 0 := by
  obtain ⟨h1, h2, h3⟩ := chk_zero h
  exact chk_of h1 (by rw [List.length_take]; omega) fun d hd => h3 d (List.mem_of_mem_take hd)
theorem allW_sub {r : Rc} {t : Nat} {l l' : List Wd} (h : ∀ d, d ∈ l → d ∈ l') : ∀ x, x ∈ allW r t l → x ∈ allW r t l' := by
  intro x hx
  unfold allW sayW at hx ⊢
  simp only [List.mem_cons, List.mem_map, List.mem_filter] at hx ⊢
  rcases hx with h1 | h1 | ⟨d, ⟨h1, h2⟩, h3⟩
  · exact .inl h1
  · exact .inr (.inl h1)
  · exact .inr (.inr ⟨d, ⟨h d h1, h2⟩, h3⟩)
theorem lowC_sub {ws ws' : List (Int × Sp)} {rate m : Int} (h : ∀ x, x ∈ ws → x ∈ ws') : lowC ws rate m ≤ lowC ws' rate m := by
  have h0 := lowC_le.1 (Int.le_refl (lowC ws' rate m))
  exact lowC_le.2 ⟨h0.1, fun x hx => h0.2 x (h x hx)⟩
theorem highC_sub {ws ws' : List (Int × Sp)} {p rate m : Int} (h : ∀ x, x ∈ ws → x ∈ ws') : highC p ws' rate m ≤ highC p ws rate m := by
  have h0 := le_highC.1 (Int.le_refl (highC p ws' rate m))
  exact le_highC.2 ⟨h0.1, fun x hx => h0.2 x (h x hx)⟩
theorem trT_sub {r : Rc} {l l' : List Wd} {t : Nat} (h : ∀ d, d ∈ l → d ∈ l') (ht : trT r l' t = true) : trT r l t = true := by
  have hs := allW_sub (r := r) (t := t) h
  refine List.all_eq_true.2 fun x hx => decide_eq_true ?_
  have h1 := of_decide_eq_true (List.all_eq_true.1 ht x (hs x hx))
  exact Int.le_trans (lowC_sub hs) (Int.le_trans h1 (highC_sub hs))
theorem openE_iff {r : Rc} {l : List Wd} (h : chk r l = 0) : openE r l true = 0 ↔ ∀ t, t < r.teams.length → trT r l t = true := by
  constructor
  · intro h1; exact (openE_zero h1).2.2
  · intro h1
    unfold openE
    rw [if_neg (fun h2 => h2 h), if_neg (by simp), if_pos]
    exact List.all_eq_true.2 fun t ht => h1 t (List.mem_range.1 ht)
theorem all_prefix {r : Rc} {l : List Wd} (h : chk r l = 0) : ∀ k, k ≤ l.length → (∀ j, j < k → clashP r l j = false) → ∀ t, t < r.teams.length → trT r (l.take k) t = true
  | 0, _, _, t, _ => by rw [List.take_zero]; exact can_nil (chk_zero h).1 t
  | k + 1, hk, hno, t, ht => by
    have ih := all_prefix h k (by omega) fun j hj => hno j (by omega)
    obtain ⟨d, hd⟩ : ∃ d, l[k]? = some d := ⟨_, List.getElem?_eq_getElem (by omega)⟩
    have hdp := (wdB_parts ((chk_zero h).2.2 d (List.mem_of_getElem? hd))).1
    have hs := can_step hd (by omega) ih
    have hc := hno k (by omega)
    unfold clashP at hc
    rw [getD_of hd] at hc
    rw [show trT r (l.take (k + 1)) d.team.toNat = true by simpa using hc] at hs
    exact List.all_eq_true.1 hs t (List.mem_range.2 ht)
end Go.Proofs.Ytegdfpilhlcplaa
