/- Persons numbered otherwise: as much is given. No program in sight. -/
import Derived.Test.YtpijahglojichaaDoorLawK
import Derived.Test.YtpijahglojichaaDoorEng22
import Derived.Test.YtpijahglojichaaDoorWalk15
namespace Go.Proofs.YtpijahglojichaaDoor
open Go.Eng
/-! ### sums in any order -/
def sumL (f : Nat → Int) : List Nat → Int
  | [] => 0
  | a :: l => f a + sumL f l
theorem sumL_perm (f : Nat → Int) {l r : List Nat} (h : l.Perm r) : sumL f l = sumL f r := by
  induction h with
  | nil => rfl
  | cons a _ ih => show f a + _ = f a + _; rw [ih]
  | swap a b l => show f b + (f a + sumL f l) = f a + (f b + sumL f l); omega
  | trans _ _ h1 h2 => exact h1.trans h2
theorem sumL_app (f : Nat → Int) : ∀ l r : List Nat, sumL f (l ++ r) = sumL f l + sumL f r
  | [], r => by show sumL f r = 0 + sumL f r; omega
  | a :: l, r => by show f a + sumL f (l ++ r) = f a + sumL f l + _; rw [sumL_app f l r]; omega
theorem sumL_map (f : Nat → Int) (v : Nat → Nat) : ∀ l : List Nat, sumL f (l.map v) = sumL (fun i => f (v i)) l
  | [] => rfl
  | a :: l => by show f (v a) + _ = f (v a) + _; rw [sumL_map f v l]
theorem sumL_congr {f g : Nat → Int} : ∀ {l : List Nat}, (∀ i, i ∈ l → f i = g i) → sumL f l = sumL g l
  | [], _ => rfl
  | a :: l, h => by
    show f a + _ = g a + _
    rw [h a (List.mem_cons_self ..), sumL_congr fun i hi => h i (List.mem_cons_of_mem _ hi)]
theorem worthN_sum (m : Mt) (o : List Int) : ∀ k, worthN m o k = sumL (fun i => wv m i (getN o i)) (List.range k)
  | 0 => rfl
  | k + 1 => by
    rw [List.range_succ, sumL_app]
    show worthN m o k + wv m k (getN o k) = _ + (wv m k (getN o k) + 0)
    rw [worthN_sum m o k]; omega
/-! ### who had a number before -/
def vinv (v : Nat → Nat) (n j : Nat) : Nat := it v (per v n j - 1) j
section
variable {v : Nat → Nat} {n : Nat}
theorem Pm.vinv_lt (h : Pm v n) {j : Nat} (hj : j < n) : vinv v n j < n := h.it_lt _ hj
theorem Pm.v_vinv (h : Pm v n) {j : Nat} (hj : j < n) : v (vinv v n j) = j := by
  have hp := h.perF hj
  show it v (per v n j - 1 + 1) j = j
  rw [show per v n j - 1 + 1 = per v n j by have := hp.pos; omega, hp.back]
theorem Pm.vinv_v (h : Pm v n) {i : Nat} (hi : i < n) : vinv v n (v i) = i := h.inj _ _ (h.vinv_lt (h.lt _ hi)) hi (h.v_vinv (h.lt _ hi))
theorem Pm.inv (h : Pm v n) : Pm (vinv v n) n := ⟨fun _ hx => h.vinv_lt hx, fun x y hx hy e => by rw [← h.v_vinv hx, ← h.v_vinv hy, e]⟩
theorem Pm.perm (h : Pm v n) : ((List.range n).map v).Perm (List.range n) := by
  have h1 : ((List.range n).map v).Nodup := by
    rw [List.Nodup, List.pairwise_map]
    refine List.Pairwise.imp_of_mem ?_ (List.nodup_range (n := n))
    intro a b ha hb hne e
    exact hne (h.inj a b (List.mem_range.1 ha) (List.mem_range.1 hb) e)
  rw [List.perm_iff_count]
  intro a
  have hmem : a ∈ (List.range n).map v ↔ a ∈ List.range n := by
    rw [List.mem_map, List.mem_range]
    constructor
    · rintro ⟨i, hi, rfl⟩; exact h.lt i (List.mem_range.1 hi)
    · intro ha; exact ⟨vinv v n a, List.mem_range.2 (h.vinv_lt ha), h.v_vinv ha⟩
  rw [h1.count, List.nodup_range.count]
  by_cases hc : a ∈ List.range n
  · rw [if_pos hc, if_pos (hmem.2 hc)]
  · rw [if_neg hc, if_neg fun e => hc (hmem.1 e)]
end
/-- the same market, by other numbers -/
structure TurnF (m x : Mt) (v : Nat → Nat) : Prop where
  len : x.length = m.length
  pm : Pm v m.length
  at' : ∀ i k, i < m.length → k < m.length → wv x (v i) (v k) = wv m i k
theorem TurnF.back {m x : Mt} {v : Nat → Nat} (h : TurnF m x v) : TurnF x m (vinv v m.length) := by
  refine ⟨h.len.symm, by rw [h.len]; exact h.pm.inv, fun i k hi hk => ?_⟩
  rw [h.len] at hi hk
  rw [← h.at' _ _ (h.pm.vinv_lt hi) (h.pm.vinv_lt hk), h.pm.v_vinv hi, h.pm.v_vinv hk]
/-- the same exchange, by other numbers -/
def conjO (v : Nat → Nat) (n : Nat) (o : List Int) : List Int := (List.range n).map fun j => ((v (getN o (vinv v n j)) : Nat) : Int)
theorem conj_at {v : Nat → Nat} {n : Nat} (o : List Int) {j : Nat} (hj : j < n) : (conjO v n o).getD j 0 = ((v (getN o (vinv v n j)) : Nat) : Int) := by
  unfold conjO; rw [List.getD_eq_getElem?_getD]; simp [hj]
theorem conj_get {v : Nat → Nat} {n : Nat} (h : Pm v n) (o : List Int) {i : Nat} (hi : i < n) : getN (conjO v n o) (v i) = v (getN o i) := by
  show ((conjO v n o).getD (v i) 0).toNat = _
  rw [conj_at o (h.lt i hi), h.vinv_v hi, Int.toNat_natCast]
theorem conj_all {m x : Mt} {v : Nat → Nat} (h : TurnF m x v) {o : List Int} (ho : ordB o m.length = true) (hf : fairI m o < 0) : ordB (conjO v m.length o) x.length = true ∧ fairI x (conjO v m.length o) < 0 ∧ worthL x (conjO v m.length o) = worthL m o ∧ longO (conjO v m.length o) ≤ longO o := by
  have hp := h.pm
  have hpo := ord_pm2 ho
  have hlen : (conjO v m.length o).length = m.length := by unfold conjO; simp
  have hord : ordB (conjO v m.length o) m.length = true := by
    refine ord_of hlen (fun i hi => ?_) fun i j hi hj e => ?_
    · rw [conj_at o hi]
      have := hp.lt _ (hpo.lt _ (hp.vinv_lt hi)); omega
    · rw [conj_at o hi, conj_at o hj] at e
      have e1 := hp.inj _ _ (hpo.lt _ (hp.vinv_lt hi)) (hpo.lt _ (hp.vinv_lt hj)) (by omega)
      have e2 := hpo.inj _ _ (hp.vinv_lt hi) (hp.vinv_lt hj) e1
      rw [← hp.v_vinv hi, ← hp.v_vinv hj, e2]
  refine ⟨by rw [h.len]; exact hord, fair_iff.2 fun j hj => ?_, ?_, ?_⟩
  · rw [hlen] at hj
    have hi := hp.vinv_lt hj
    have hw := fair_iff.1 hf (vinv v m.length j) (by rw [ord_len ho]; exact hi)
    have e := conj_get hp o hi
    rw [hp.v_vinv hj] at e
    rw [e]
    unfold wantsB at hw ⊢
    rw [Bool.or_eq_true, decide_eq_true_eq, decide_eq_true_eq] at hw ⊢
    rcases hw with hw | hw
    · left
      rw [← hw, hp.v_vinv hj]
    · right
      have := h.at' _ _ hi (hpo.lt _ hi)
      rw [hp.v_vinv hj] at this
      rw [this]; exact hw
  · unfold worthL
    rw [hlen, ord_len ho, worthN_sum, worthN_sum, ← sumL_perm _ hp.perm, sumL_map]
    refine sumL_congr fun i hi => ?_
    have hi := List.mem_range.1 hi
    rw [conj_get hp o hi, h.at' _ _ hi (hpo.lt _ hi)]
  · have hpc := ord_pm2 hord
    have h0 : (0 : Int) ≤ longO o := by
      have key : ∀ (g : Nat → Nat) (n : Nat) k, 0 ≤ longN g n k := fun g n k => by
        induction k with
        | zero => exact Int.le_refl _
        | succ k ih => show (0 : Int) ≤ max (longN g n k) (per g n k); omega
      exact key _ _ _
    show longN (getN (conjO v m.length o)) (conjO v m.length o).length (conjO v m.length o).length ≤ _
    rw [hlen]
    refine longN_le h0 _ fun j hj => ?_
    have hi := hp.vinv_lt hj
    have hit : ∀ t, it (getN (conjO v m.length o)) t (v (vinv v m.length j)) = v (it (getN o) t (vinv v m.length j)) := fun t => by
      induction t with
      | zero => rfl
      | succ t ih =>
        show getN (conjO v m.length o) (it (getN (conjO v m.length o)) t (v (vinv v m.length j))) = v (getN o (it (getN o) t (vinv v m.length j)))
        rw [ih]
        exact conj_get hp o (hpo.it_lt t hi)
    have hF := hpo.perF hi
    have hG := hpc.perF hj
    have hb := hit (per (getN o) m.length (vinv v m.length j))
    rw [hF.back, hp.v_vinv hj] at hb
    have h1 : per (getN (conjO v m.length o)) m.length j ≤ per (getN o) m.length (vinv v m.length j) := Nat.le_of_not_lt fun e => hG.first _ hF.pos e hb
    have h2 := longN_ge (g := getN o) (n := m.length) m.length (vinv v m.length j) hi
    show _ ≤ longN (getN o) o.length o.length
    rw [ord_len ho]
    omega
theorem turn_le {m x : Mt} {v : Nat → Nat} (h : TurnF m x v) {t u : Td} (B : BestF m t) (C : BestF x u) : t.worth ≤ u.worth := by
  obtain ⟨h1, h2, h3, _⟩ := conj_all h B.ord B.fair
  have := (C.top _ h1 h2).worth
  rw [B.worth, ← h3]; exact this
theorem turn_best {m x : Mt} {v : Nat → Nat} (h : TurnF m x v) {t u : Td} (B : BestF m t) (C : BestF x u) : t.worth = u.worth := Int.le_antisymm (turn_le h B C) (turn_le h.back C B)
theorem turn_les {m x : Mt} {v : Nat → Nat} (h : TurnF m x v) {long : Nat} {t u : Td} (B : ShrF m long t) (C : ShrF x long u) : t.worth ≤ u.worth := by
  obtain ⟨h1, h2, h3, h4⟩ := conj_all h B.ord B.fair
  have := (C.top _ h1 h2 (by have := B.short; omega)).worth
  rw [B.worth, ← h3]; exact this
theorem turn_short {m x : Mt} {v : Nat → Nat} (h : TurnF m x v) {long : Nat} {t u : Td} (B : ShrF m long t) (C : ShrF x long u) : t.worth = u.worth := Int.le_antisymm (turn_les h B C) (turn_les h.back C B)
/-! ### the market that is laid, row after row -/
/-- what has been laid: all wishes of the first so many persons, and so many of the next -/
def partX (m : Mt) (v : Nat → Nat) (i k a : Nat) : List Int := (List.range m.length).map fun b => if vinv v m.length a < i ∨ (vinv v m.length a = i ∧ vinv v m.length b < k) then wv m (vinv v m.length a) (vinv v m.length b) else 0
def turnM (m : Mt) (v : Nat → Nat) : Mt := (List.range m.length).map fun a => partX m v m.length 0 a
section
variable {m : Mt} {v : Nat → Nat}
theorem partX_len (i k a : Nat) : (partX m v i k a).length = m.length := by simp [partX]
theorem partX_at (i k a : Nat) {b : Nat} (hb : b < m.length) : (partX m v i k a).getD b 0 = if vinv v m.length a < i ∨ (vinv v m.length a = i ∧ vinv v m.length b < k) then wv m (vinv v m.length a) (vinv v m.length b) else 0 := by
  unfold partX; rw [List.getD_eq_getElem?_getD]; simp [hb]
theorem ext0 {l r : List Int} {n : Nat} (hl : l.length = n) (hr : r.length = n) (h : ∀ i, i < n → l.getD i 0 = r.getD i 0) : l = r := by
  apply List.ext_getElem?
  intro i
  rcases Nat.lt_or_ge i n with hi | hi
  · rw [get_of_lt 0 (by omega), get_of_lt 0 (by omega), h i hi]
  · rw [List.getElem?_eq_none (by omega), List.getElem?_eq_none (by omega)]
theorem partX_zero (a : Nat) : partX m v 0 0 a = List.replicate m.length 0 := by
  refine ext0 (partX_len ..) (by simp) fun b hb => ?_
  rw [partX_at _ _ _ hb, if_neg (by omega), List.getD_eq_getElem?_getD]; simp [hb]
theorem partX_next (h : Pm v m.length) (i : Nat) {a : Nat} : partX m v i m.length a = partX m v (i + 1) 0 a := by
  refine ext0 (partX_len ..) (partX_len ..) fun b hb => ?_
  have := h.vinv_lt hb
  rw [partX_at _ _ _ hb, partX_at _ _ _ hb]
  by_cases hc : vinv v m.length a < i ∨ vinv v m.length a = i
  · rw [if_pos (by omega), if_pos (by omega)]
  · rw [if_neg (by omega), if_neg (by omega)]
theorem partX_set (h : Pm v m.length) {i k : Nat} (hi : i < m.length) (hk : k < m.length) : (partX m v i k (v i)).set (v k) (wv m i k) = partX m v i (k + 1) (v i) := by
  refine ext0 (by rw [List.length_set, partX_len]) (partX_len ..) fun b hb => ?_
  rw [setD _ _ _ _ (by rw [partX_len]; exact h.lt k hk), partX_at _ _ _ hb, partX_at _ _ _ hb, h.vinv_v hi]
  by_cases e : b = v k
  · subst e
    rw [if_pos rfl, if_pos (by rw [h.vinv_v hk]; omega), h.vinv_v hk]
  · rw [if_neg e]
    have hne : vinv v m.length b ≠ k := fun e2 => e (by rw [← e2, h.v_vinv hb])
    by_cases hc : vinv v m.length b < k
    · rw [if_pos (by omega), if_pos (by omega)]
    · rw [if_neg (by omega), if_neg (by omega)]
theorem partX_else (h : Pm v m.length) {i k a : Nat} (ha : a < m.length) (hne : a ≠ v i) : partX m v i (k + 1) a = partX m v i k a := by
  refine ext0 (partX_len ..) (partX_len ..) fun b hb => ?_
  have : vinv v m.length a ≠ i := fun e => hne (by rw [← e, h.v_vinv ha])
  rw [partX_at _ _ _ hb, partX_at _ _ _ hb]
  by_cases hc : vinv v m.length a < i
  · rw [if_pos (by omega), if_pos (by omega)]
  · rw [if_neg (by omega), if_neg (by omega)]
theorem turnM_len : (turnM m v).length = m.length := by simp [turnM]
theorem turnM_row {a : Nat} (ha : a < m.length) : (turnM m v).getD a [] = partX m v m.length 0 a := by
  unfold turnM; rw [List.getD_eq_getElem?_getD]; simp [ha]
theorem turnM_wv (h : Pm v m.length) {a b : Nat} (ha : a < m.length) (hb : b < m.length) : wv (turnM m v) a b = wv m (vinv v m.length a) (vinv v m.length b) := by
  unfold wv
  rw [turnM_row ha, partX_at _ _ _ hb, if_pos (.inl (h.vinv_lt ha))]; rfl
theorem turn_F (h : Pm v m.length) : TurnF m (turnM m v) v := ⟨turnM_len, h, fun i k hi hk => by rw [turnM_wv h (h.lt i hi) (h.lt k hk), h.vinv_v hi, h.vinv_v hk]⟩
theorem turn_mk (hm : mkB m = true) (h : Pm v m.length) : mkB (turnM m v) = true := by
  have hF := mkF hm
  unfold mkB
  rw [turnM_len, decide_eq_true hF.n7, Bool.and_true]
  refine rowsB_yes fun a ha => ?_
  rw [turnM_len] at ha
  unfold rowB
  rw [turnM_row ha, partX_len, turnM_len, decide_eq_true rfl, Bool.true_and]
  have hv : ∀ b, b < m.length → (partX m v m.length 0 a).getD b 0 = wv m (vinv v m.length a) (vinv v m.length b) := fun b hb => by rw [partX_at _ _ _ hb, if_pos (.inl (h.vinv_lt ha))]
  rw [decide_eq_true (by rw [hv a ha]; exact hF.diag _), Bool.and_true]
  refine List.all_eq_true.2 fun x hx => ?_
  obtain ⟨b, hb, rfl⟩ := List.mem_iff_getElem.1 hx
  rw [partX_len] at hb
  have e := hv b hb
  rw [getD_of (List.getElem?_eq_getElem (by rw [partX_len]; exact hb))] at e
  rw [e]
  exact decide_eq_true (hF.bd _ _)
end
theorem turn_bestA {m : Mt} (hm : mkB m = true) {v : Nat → Nat} (h : Pm v m.length) : (bestA m).2.1 = (bestA (turnM m v)).2.1 ∧ (bestA m).2.2 = (bestA (turnM m v)).2.2 := by
  rw [bestA_ok hm, bestA_ok (turn_mk hm h)]
  exact ⟨turn_best (turn_F h) (bestX_F (mkF hm)) (bestX_F (mkF (turn_mk hm h))), rfl⟩
theorem turn_shortA {m : Mt} (hm : mkB m = true) {v : Nat → Nat} (h : Pm v m.length) (long : Int) : (shortA m long).2.1 = (shortA (turnM m v) long).2.1 ∧ (shortA m long).2.2 = (shortA (turnM m v) long).2.2 := by
  cases hb : inB long 2 7 with
  | false => rw [shortA_far hm hb, shortA_far (turn_mk hm h) hb]; exact ⟨rfl, rfl⟩
  | true =>
    rw [shortA_ok hm hb, shortA_ok (turn_mk hm h) hb]
    have : 2 ≤ long := by unfold inB at hb; exact (of_decide_eq_true hb).1
    exact ⟨turn_short (turn_F h) (short_F (mkF hm) (by omega)) (short_F (mkF (turn_mk hm h)) (by omega)), rfl⟩
end Go.Proofs.YtpijahglojichaaDoor
