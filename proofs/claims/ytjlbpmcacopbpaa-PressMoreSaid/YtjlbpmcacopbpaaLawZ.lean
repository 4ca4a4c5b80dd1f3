/- Jobs and colours numbered the other way round. No program in sight. -/
import Derived.Test.YtjlbpmcacopbpaaWalk20
import Derived.Test.YtjlbpmcacopbpaaLawX
namespace Go.Proofs.Ytjlbpmcacopbpaa
theorem getD_rev {α : Type} (l : List α) (d : α) {i : Nat} (h : i < l.length) : l.reverse.getD i d = l.getD (l.length - 1 - i) d := by
  rw [List.getD_eq_getElem?_getD, List.getD_eq_getElem?_getD, List.getElem?_reverse h]
theorem gtV_same {l m : List Int} {a b : Int} (ha : a ∈ l) (hb : b ∈ m) (h : ∀ x, x ∈ l ↔ x ∈ m) : gtV a l = gtV b m := by
  have h1 : gtV a l ∈ l := by rcases gtV_at l a with e | e; · rw [e]; exact ha
                              · exact e
  have h2 : gtV b m ∈ m := by rcases gtV_at m b with e | e; · rw [e]; exact hb
                              · exact e
  have h3 := (gtV_ge m b).2 _ ((h _).1 h1)
  have h4 := (gtV_ge l a).2 _ ((h _).2 h2)
  omega
theorem ltV_same {l m : List Int} {a b : Int} (ha : a ∈ l) (hb : b ∈ m) (h : ∀ x, x ∈ l ↔ x ∈ m) : ltV a l = ltV b m := by
  have h1 : ltV a l ∈ l := by rcases ltV_at l a with e | e; · rw [e]; exact ha
                              · exact e
  have h2 : ltV b m ∈ m := by rcases ltV_at m b with e | e; · rw [e]; exact hb
                              · exact e
  have h3 := (ltV_le m b).2 _ ((h _).1 h1)
  have h4 := (ltV_le l a).2 _ ((h _).2 h2)
  omega
theorem getD_mem {α : Type} {l : List α} {d : α} {i : Nat} (h : i < l.length) : l.getD i d ∈ l := List.mem_of_getElem? (get_of_lt d h)
theorem far_le (l : List Sp) : maxOut (farF l) l.length l.length ≤ maxOut (farF l.reverse) l.reverse.length l.reverse.length := by
  rw [List.length_reverse]
  have hge := maxOut_ge (farF l.reverse) l.length l.length
  rcases maxOut_at (farF l) l.length l.length with h | ⟨i, k, hi, hk, hne, h⟩
  · rw [h]; exact hge.1
  · have := hge.2 (l.length - 1 - i) (l.length - 1 - k) (by omega) (by omega) (by omega)
    unfold farF at this h
    rw [getD_rev l sp0 (by omega), getD_rev l sp0 (by omega), show l.length - 1 - (l.length - 1 - i) = i by omega, show l.length - 1 - (l.length - 1 - k) = k by omega] at this
    unfold farF; omega
theorem apart_rev {l : List Sp} (h : 0 < l.length) : apartV l.reverse = apartV l := by
  unfold apartV
  have hr : 0 < l.reverse.length := by rw [List.length_reverse]; exact h
  rw [gtV_same (l := l.reverse.map (·.lo)) (m := l.map (·.lo)) (b := (l.getD 0 sp0).lo) (List.mem_map.2 ⟨_, getD_mem hr, rfl⟩) (List.mem_map.2 ⟨_, getD_mem h, rfl⟩) (fun x => by simp),
    ltV_same (l := l.reverse.map (·.hi)) (m := l.map (·.hi)) (b := (l.getD 0 sp0).hi) (List.mem_map.2 ⟨_, getD_mem hr, rfl⟩) (List.mem_map.2 ⟨_, getD_mem h, rfl⟩) (fun x => by simp)]
  congr 1
  rw [farOut_eq, farOut_eq]
  have h1 := far_le l
  have h2 := far_le l.reverse
  rw [List.reverse_reverse] at h2
  omega
theorem fringe_rev (l : List Sf) : fringeV l.reverse = fringeV l := by
  have hs : shB l.reverse = shB l := by unfold shB; rw [List.length_reverse, List.all_reverse]
  unfold fringeV
  rw [hs]
  by_cases h : shB l = true
  · have hp : 0 < l.length := by
      unfold shB inB at h
      rw [Bool.and_eq_true, decide_eq_true_eq] at h; omega
    rw [if_pos h, if_pos h, List.map_reverse, List.map_reverse, apart_rev (by simpa using hp), apart_rev (by simpa using hp)]
  · rw [if_neg h, if_neg h]
def turnO (n : Nat) (o : List Int) : List Int := o.map fun x => (n : Int) - 1 - x
theorem turnO_rng (n : Nat) : turnO n (rngI n) = (rngI n).reverse := by
  apply List.ext_getElem?
  intro i
  unfold turnO
  rw [List.getElem?_map]
  rcases Nat.lt_or_ge i n with h | h
  · rw [rngI_get h, List.getElem?_reverse (by rw [rngI_len]; exact h), rngI_len, rngI_get (by omega)]
    simp; omega
  · rw [List.getElem?_eq_none (by rw [rngI_len]; exact h), List.getElem?_eq_none (by rw [List.length_reverse, rngI_len]; exact h)]; rfl
theorem turnO_perm {n : Nat} {o : List Int} (h : o.Perm (rngI n)) : (turnO n o).Perm (rngI n) := by
  have h1 : (turnO n o).Perm (turnO n (rngI n)) := h.map _
  rw [turnO_rng] at h1
  exact h1.trans (List.reverse_perm _)
theorem turnO_len (n : Nat) (o : List Int) : (turnO n o).length = o.length := List.length_map _
theorem turnO_get {n : Nat} {o : List Int} {k : Nat} (h : k < o.length) : (turnO n o).getD k 0 = (n : Int) - 1 - o.getD k 0 := by
  unfold turnO
  rw [List.getD_eq_getElem?_getD, List.getElem?_map, get_of_lt 0 h]; rfl
theorem ordT_turn {ts : List Tm} {n : Nat} (hl : ts.length = n) {o : List Int} (hb : ∀ x, x ∈ o → 0 ≤ x ∧ x < (n : Int)) : ordT ts.reverse (turnO n o) = ordT ts o := by
  unfold ordT turnO
  rw [List.map_map]
  refine List.map_congr_left fun x hx => ?_
  have := hb x hx
  simp only [Function.comp]
  rw [getD_rev ts (0, 0) (by omega)]
  congr 1; omega
theorem set_rev {α : Type} (l : List α) {i : Nat} (h : i < l.length) (x : α) : l.reverse.set (l.length - 1 - i) x = (l.set i x).reverse := by
  apply List.ext_getElem?
  intro j
  rcases Nat.lt_or_ge j l.length with hj | hj
  · rw [List.getElem?_reverse (by rw [List.length_set]; exact hj), List.length_set, List.getElem?_set, List.getElem?_set, List.length_reverse, List.getElem?_reverse hj]
    by_cases e : l.length - 1 - i = j
    · rw [if_pos e, if_pos (by omega), if_pos (by omega), if_pos (by omega)]
    · rw [if_neg e, if_neg (by omega)]
  · rw [List.getElem?_eq_none (by simp; exact hj), List.getElem?_eq_none (by simp; exact hj)]
theorem ends_turn {ts : List Tm} {n : Nat} (hl : ts.length = n) {o : List Int} (hb : ∀ x, x ∈ o → 0 ≤ x ∧ x < (n : Int)) : ∀ k, k ≤ o.length → endsK ts.reverse (turnO n o) k = (endsK ts o k).reverse
  | 0, _ => by unfold endsK; simp
  | k + 1, h => by
    unfold endsK
    rw [ends_turn hl hb k (by omega), turnO_get (by omega)]
    have hk := hb _ (getD_mem (d := 0) (show k < o.length by omega))
    have ht : runL (ordT ts.reverse ((turnO n o).take (k + 1))) (0, 0) = runL (ordT ts (o.take (k + 1))) (0, 0) := by
      rw [show (turnO n o).take (k + 1) = turnO n (o.take (k + 1)) from by unfold turnO; rw [List.map_take], ordT_turn hl fun x hx => hb x (List.mem_of_mem_take hx)]
    rw [ht, ← set_rev (endsK ts o k) (i := (o.getD k 0).toNat) (by rw [endsK_len]; omega), endsK_len]
    congr 1; omega
theorem time_rev (l : List Jb) (hi : Bool) : l.reverse.map (timeV hi) = (l.map (timeV hi)).reverse := List.map_reverse ..
theorem jobs_rev (l : List Jb) : jobsB l.reverse = jobsB l := by unfold jobsB; rw [List.length_reverse, List.all_reverse]
theorem done_turn {l : List Jb} (hj : jobsB l = true) {o : List Int} (ho : o.Perm (rngI l.length)) : doneO (l.reverse.map (timeV true)) (turnO l.length o) = doneO (l.map (timeV true)) o := by
  have h7 := (jobsB_parts hj).1
  have hsm : ∀ t, t ∈ l.map (timeV true) → smT t := tm_smT hj true
  have hsr : ∀ t, t ∈ l.reverse.map (timeV true) → smT t := tm_smT (by rw [jobs_rev]; exact hj) true
  rw [done_run (ordOk_perm (n := l.length) (by rw [List.length_map, List.length_reverse]) h7 hsr (turnO_perm ho)), done_run (ordOk_perm (n := l.length) (List.length_map _) h7 hsm ho), time_rev, ordT_turn (List.length_map _) fun x hx => mem_rngI.1 (ho.mem_iff.1 hx)]
theorem best_rev (l : List Jb) : (bestR l.reverse).2 = (bestR l).2 := by
  by_cases hj : jobsB l = true
  · have hF := best_jobs hj
    have hG := best_jobs (l := l.reverse) (by rw [jobs_rev]; exact hj)
    have hGb := hG.best
    rw [List.length_reverse] at hGb
    have h1 := hGb.le _ (turnO_perm hF.best.perm)
    rw [done_turn hj hF.best.perm] at h1
    have h2 := hF.best.le _ (turnO_perm hGb.perm)
    have h3 := done_turn (l := l.reverse) (by rw [jobs_rev]; exact hj) (o := (bestR l.reverse).1) (by rw [List.length_reverse]; exact hGb.perm)
    rw [List.reverse_reverse, List.length_reverse] at h3
    refine Prod.ext ?_ ?_
    · rw [hF.hour, hG.hour]; omega
    · rw [hF.err, hG.err]
  · have hj : jobsB l = false := by simpa using hj
    unfold bestR
    rw [if_pos hj, if_pos (by rw [jobs_rev]; exact hj)]
structure TurnF (l : List Jb) (o : List Int) : Prop where
  jobs : jobsB l = true
  perm : o.Perm (rngI l.length)
  chk : chkV l o = 0
  chk2 : chkV l.reverse (turnO l.length o) = 0
theorem turn_of {l : List Jb} {o : List Int} (h : chkV l o = 0) : TurnF l o := by
  obtain ⟨hj, ho⟩ := chkV_ok h
  have hp := (ordB_iff o l.length).1 ho
  exact ⟨hj, hp, h, chk_perm (by rw [jobs_rev]; exact hj) (by rw [List.length_reverse]; exact turnO_perm hp)⟩
theorem ends_rev {l : List Jb} {o : List Int} (h : TurnF l o) (hi : Bool) {r : Nat} (hr : r < l.length) : (endsV (l.reverse.map (timeV hi)) (turnO l.length o)).getD (l.length - 1 - r) 0 = (endsV (l.map (timeV hi)) o).getD r 0 := by
  unfold endsV
  rw [turnO_len, time_rev, ends_turn (List.length_map _) (fun x hx => mem_rngI.1 (h.perm.mem_iff.1 hx)) _ (Nat.le_refl _)]
  rw [getD_rev _ 0 (by rw [endsK_len, List.length_map]; omega), endsK_len, List.length_map]
  congr 1; omega
theorem span_rev {l : List Jb} {o : List Int} (h : TurnF l o) {r : Nat} (hr : r < l.length) : spanK l.reverse (turnO l.length o) (l.length - 1 - r) = spanK l o r := by
  unfold spanK; rw [ends_rev h false hr, ends_rev h true hr]
theorem sure_rev {l : List Jb} {o : List Int} (h : TurnF l o) {r : Nat} (hr : r < l.length) : sureF l.reverse (turnO l.length o) (l.length - 1 - r) = sureF l o r ∧ canF l.reverse (turnO l.length o) (l.length - 1 - r) = canF l o r := by
  unfold sureF canF
  rw [span_rev h hr, getD_rev l jb0 (by omega), show l.length - 1 - (l.length - 1 - r) = r by omega]
  exact ⟨rfl, rfl⟩
theorem late_ok {l : List Jb} {o : List Int} (h : chkV l o = 0) : lateR l o = (((lateN (sureF l o) l.length : Nat) : Int), ((lateN (canF l o) l.length : Nat) : Int), 0) := by unfold lateR; rw [if_neg (by simp [h])]
theorem bitV (x k : Nat) : ((((((x : Nat) : Int) / 2 ^ ((k : Nat) : Int).toNat).toNat &&& (1 : Int).toNat : Nat)) : Int) = if x.testBit k = true then 1 else 0 := by
  rw [Int.toNat_natCast, show ((2 : Int) ^ k) = ((2 ^ k : Nat) : Int) from by simp, ← Int.natCast_ediv, Int.toNat_natCast]
  show (((x / 2 ^ k &&& 1 : Nat)) : Int) = _
  rw [Nat.testBit_eq_decide_div_mod_eq, Nat.and_one_is_mod]
  by_cases h : x / 2 ^ k % 2 = 1
  · rw [h]; simp
  · rw [show x / 2 ^ k % 2 = 0 by omega]; simp
theorem shr_nn (x k : Nat) (hx : x ≤ 128) : 0 ≤ ((x : Nat) : Int) / 2 ^ ((k : Nat) : Int).toNat ∧ ((x : Nat) : Int) / 2 ^ ((k : Nat) : Int).toNat ≤ 9223372036854775807 := by
  rw [Int.toNat_natCast, show ((2 : Int) ^ k) = ((2 ^ k : Nat) : Int) from by simp]
  rw [show (((x : Nat) : Int) / ((2 ^ k : Nat) : Int)) = ((x / 2 ^ k : Nat) : Int) from rfl]
  have := Nat.div_le_self x (2 ^ k)
  generalize x / 2 ^ k = y at this ⊢
  omega
end Go.Proofs.Ytjlbpmcacopbpaa
