/- What a solution's law reckons, step by step. -/
import Derived.Test.YtfceajkofpafpaaLawT2
namespace Go.Proofs.Ytfceajkofpafpaa
open Go Go.Eng
open Go.Proofs.Ytfceajkofpafpaa.Sc (getD_of get_of_lt)
theorem mem_sdN {c : Ct} {p : Int} {m : Nat} {x : Int × Int} : x ∈ sdN c p m ↔ ∃ i : Nat, i < m ∧ x = ((i : Int) - 1, ((edgeN c ((i : Int) - 1) p : Nat) : Int)) ∧ 0 < edgeN c ((i : Int) - 1) p := by
  unfold sdN
  rw [List.mem_filter, List.mem_map]
  constructor
  · rintro ⟨⟨i, hi, rfl⟩, h⟩
    have h := of_decide_eq_true h
    exact ⟨i, List.mem_range.1 hi, rfl, by dsimp only at h; omega⟩
  · rintro ⟨i, hi, rfl, h⟩
    exact ⟨⟨i, List.mem_range.2 hi, rfl⟩, decide_eq_true (by dsimp only; omega)⟩
theorem sdN_nd (c : Ct) (p : Int) (m : Nat) : ((sdN c p m).map (·.1)).Nodup := by
  unfold sdN
  refine List.Sublist.nodup (List.Sublist.map _ (List.filter_sublist ..)) ?_
  rw [List.map_map]
  induction m with
  | zero => exact List.nodup_nil
  | succ m ih =>
    rw [List.range_succ, List.map_append]
    refine List.nodup_append.2 ⟨ih, by simp, fun x hx y hy e => ?_⟩
    obtain ⟨i, hi, rfl⟩ := List.mem_map.1 hx
    have hi := List.mem_range.1 hi
    simp at hy
    have e : ((i : Int) - 1) = y := e
    omega
theorem edge_self (c : Ct) (p : Int) : edgeN c p p = 0 := eS_zero fun _ _ _ => if_neg fun h => h.2.2 rfl
theorem take_snoc {α : Type} {l : List α} {m : Nat} {d : α} (h : m < l.length) : l.take (m + 1) = l.take m ++ [l.getD m d] := by
  rw [List.take_add_one, get_of_lt d h]; rfl
theorem nodup_take {l : List Int} (hn : l.Nodup) {m : Nat} (h : m < l.length) {d : Int} : l.getD m d ∉ l.take m := fun hm => by
  obtain ⟨i, hi, e⟩ := List.getElem_of_mem hm
  rw [List.length_take] at hi
  rw [List.getElem_take] at e
  rw [List.getD_eq_getElem?_getD, List.getElem?_eq_getElem h] at e
  have : i = m := (List.getElem_inj hn).1 e
  omega
def fSd (sd : List (Int × Int)) (js : List J4) (p m k : Nat) : Nat := if (k : Int) ∈ (sd.take m).map (·.1) then 0 else jcN js p k
def flSd (sd : List (Int × Int)) (F m : Nat) : Nat := if (-1 : Int) ∈ (sd.take m).map (·.1) then 0 else F
section
variable {sd : List (Int × Int)} {js : List J4} {p m F : Nat}
theorem key_snoc (h : m < sd.length) {k : Int} : k ∈ (sd.take (m + 1)).map (·.1) ↔ k ∈ (sd.take m).map (·.1) ∨ k = (sd.getD m (0, 0)).1 := by
  rw [take_snoc (d := (0, 0)) h, List.map_append, List.mem_append, List.map_cons, List.map_nil, List.mem_singleton]
theorem key_new (hn : (sd.map (·.1)).Nodup) (h : m < sd.length) : (sd.getD m (0, 0)).1 ∉ (sd.take m).map (·.1) := by
  have h2 : m < (sd.map (·.1)).length := by rw [List.length_map]; exact h
  have := nodup_take hn h2 (d := 0)
  rw [← List.map_take] at this
  rwa [show (sd.map (·.1)).getD m 0 = (sd.getD m (0, 0)).1 from by rw [List.getD_eq_getElem?_getD, List.getElem?_map, get_of_lt (0, 0) h]; rfl] at this
theorem fSd_neg (h : m < sd.length) (e : (sd.getD m (0, 0)).1 = -1) (k : Nat) : fSd sd js p (m + 1) k = fSd sd js p m k := by
  unfold fSd
  by_cases hk : (k : Int) ∈ (sd.take m).map (·.1)
  · rw [if_pos hk, if_pos ((key_snoc h).2 (.inl hk))]
  · rw [if_neg hk, if_neg (fun h2 => ((key_snoc h).1 h2).elim hk (fun h3 => by omega))]
theorem fSd_set (h : m < sd.length) {k : Nat} (e : (sd.getD m (0, 0)).1 = (k : Int)) (i : Nat) : fSd sd js p (m + 1) i = if i = k then 0 else fSd sd js p m i := by
  unfold fSd
  by_cases hi : i = k
  · rw [if_pos hi, if_pos ((key_snoc h).2 (.inr (by omega)))]
  · rw [if_neg hi]
    by_cases hk : (i : Int) ∈ (sd.take m).map (·.1)
    · rw [if_pos hk, if_pos ((key_snoc h).2 (.inl hk))]
    · rw [if_neg hk, if_neg (fun h2 => ((key_snoc h).1 h2).elim hk (fun h3 => by omega))]
theorem fSd_at (hn : (sd.map (·.1)).Nodup) (h : m < sd.length) {k : Nat} (e : (sd.getD m (0, 0)).1 = (k : Int)) : fSd sd js p m k = jcN js p k := if_neg (by rw [← e]; exact key_new hn h)
theorem flSd_at (hn : (sd.map (·.1)).Nodup) (h : m < sd.length) (e : (sd.getD m (0, 0)).1 = -1) : flSd sd F m = F ∧ flSd sd F (m + 1) = 0 :=
  ⟨if_neg (by rw [← e]; exact key_new hn h), if_pos ((key_snoc h).2 (.inr e.symm))⟩
theorem flSd_ne (h : m < sd.length) (e : ¬ (sd.getD m (0, 0)).1 = -1) : flSd sd F (m + 1) = flSd sd F m := by
  unfold flSd
  by_cases hk : (-1 : Int) ∈ (sd.take m).map (·.1)
  · rw [if_pos hk, if_pos ((key_snoc h).2 (.inl hk))]
  · rw [if_neg hk, if_neg (fun h2 => ((key_snoc h).1 h2).elim hk (fun h3 => e h3.symm))]
theorem fSd_0 (k : Nat) : fSd sd js p 0 k = jcN js p k := if_neg (by simp)
theorem flSd_0 : flSd sd F 0 = F := if_neg (by simp)
end
section
variable {z : Pz} {l : List Ly}
/-- what Sides tells of a piece -/
theorem sd_at (hF : PzF z) (hS : SolOk z l) {p : Nat} (hp : p < z.pieces.length) {m : Nat} (hm : m < (sdN (cutT z l) (p : Int) (z.pieces.length + 1)).length) : (-1 ≤ ((sdN (cutT z l) (p : Int) (z.pieces.length + 1)).getD m (0, 0)).1 ∧ ((sdN (cutT z l) (p : Int) (z.pieces.length + 1)).getD m (0, 0)).1 < z.pieces.length) ∧ (((sdN (cutT z l) (p : Int) (z.pieces.length + 1)).getD m (0, 0)).1 = -1 → ((sdN (cutT z l) (p : Int) (z.pieces.length + 1)).getD m (0, 0)).2 = (flK z p 4 : Nat)) ∧ (∀ k : Nat, ((sdN (cutT z l) (p : Int) (z.pieces.length + 1)).getD m (0, 0)).1 = (k : Int) → ((sdN (cutT z l) (p : Int) (z.pieces.length + 1)).getD m (0, 0)).2 = (jcN (metL z l) p k : Nat)) := by
  obtain ⟨x, hx⟩ : ∃ x, x = (sdN (cutT z l) (p : Int) (z.pieces.length + 1)).getD m (0, 0) := ⟨_, rfl⟩
  have hmem : x ∈ sdN (cutT z l) (p : Int) (z.pieces.length + 1) := by rw [hx]; exact List.mem_of_getElem? (get_of_lt (0, 0) hm)
  rw [← hx]
  obtain ⟨i, hi, rfl, hpos⟩ := mem_sdN.1 hmem
  dsimp only
  refine ⟨by omega, fun e => ?_, fun k e => ?_⟩
  · rw [e, flat_edge hF hS hp]
  · have hkp : p ≠ k := fun h => by
      rw [e, h, edge_self] at hpos
      omega
    rw [e, jc_edge hF hS hp (by omega) hkp]
theorem sd_done (hF : PzF z) (hS : SolOk z l) {p : Nat} (hp : p < z.pieces.length) (k : Nat) : fSd (sdN (cutT z l) (p : Int) (z.pieces.length + 1)) (metL z l) p (sdN (cutT z l) (p : Int) (z.pieces.length + 1)).length k = 0 := by
  unfold fSd
  rw [List.take_of_length_le (Nat.le_refl _)]
  split
  · rfl
  · rename_i hno
    refine Classical.byContradiction fun hc => ?_
    have hk : k < z.pieces.length := by
      rcases Nat.lt_or_ge k z.pieces.length with h | h
      · exact h
      · exact absurd (jc_far hF hS h) hc
    have hkp : p ≠ k := fun h => by rw [← h] at hc; exact hc (jc_self hF hS p)
    have he := jc_edge hF hS hp hk hkp
    refine hno (List.mem_map.2 ⟨_, mem_sdN.2 ⟨k + 1, by omega, rfl, ?_⟩, ?_⟩)
    · rw [show ((k + 1 : Nat) : Int) - 1 = (k : Int) by omega, he]; omega
    · dsimp only; omega
theorem sd_flat (hF : PzF z) (hS : SolOk z l) {p : Nat} (hp : p < z.pieces.length) : flSd (sdN (cutT z l) (p : Int) (z.pieces.length + 1)) (flK z p 4) (sdN (cutT z l) (p : Int) (z.pieces.length + 1)).length = 0 := by
  unfold flSd
  rw [List.take_of_length_le (Nat.le_refl _)]
  split
  · rfl
  · rename_i hno
    refine Classical.byContradiction fun hc => ?_
    have he := flat_edge hF hS hp
    refine hno (List.mem_map.2 ⟨_, mem_sdN.2 ⟨0, by omega, rfl, ?_⟩, rfl⟩)
    rw [show ((0 : Nat) : Int) - 1 = -1 by rfl, ← he]; omega
end
theorem jc_snoc {js : List J4} {m p k : Nat} {d : J4} (h : m < js.length) : jcN (js.take (m + 1)) p k = jcN (js.take m) p k + j1 p k (js.getD m d) := by
  rw [take_snoc (d := d) h, jcN_app]; rfl
end Go.Proofs.Ytfceajkofpafpaa
