/- Rings of an exchange: who gets whose puzzle, round and round. No program in sight. -/
import Derived.Test.YtpijahglojichaaDoorDat
namespace Go.Proofs.YtpijahglojichaaDoor
/-- so many times further on -/
def it (g : Nat → Nat) : Nat → Nat → Nat
  | 0, x => x
  | k + 1, x => g (it g k x)
theorem it_add (g : Nat → Nat) (a b x : Nat) : it g (a + b) x = it g a (it g b x) := by
  induction a with
  | zero => rw [Nat.zero_add]; rfl
  | succ a ih => rw [Nat.succ_add]; unfold it; rw [ih]
theorem it_succ (g : Nat → Nat) (k x : Nat) : it g (k + 1) x = it g k (g x) := it_add g k 1 x
structure Pm (g : Nat → Nat) (n : Nat) : Prop where
  lt : ∀ x, x < n → g x < n
  inj : ∀ x y, x < n → y < n → g x = g y → x = y
section
variable {g : Nat → Nat} {n : Nat}
theorem Pm.it_lt (h : Pm g n) (k : Nat) {x : Nat} (hx : x < n) : it g k x < n := by
  induction k with
  | zero => exact hx
  | succ k ih => exact h.lt _ ih
theorem Pm.it_inj (h : Pm g n) (k : Nat) {x y : Nat} (hx : x < n) (hy : y < n) (e : it g k x = it g k y) : x = y := by
  induction k with
  | zero => exact e
  | succ k ih => exact ih (h.inj _ _ (h.it_lt k hx) (h.it_lt k hy) e)
theorem nodup_lt : ∀ (n : Nat) (l : List Nat), l.Nodup → (∀ x, x ∈ l → x < n) → l.length ≤ n
  | 0, l, _, h => by
    cases l with
    | nil => exact Nat.le_refl _
    | cons a l => exact absurd (h a (List.mem_cons_self ..)) (Nat.not_lt_zero _)
  | n + 1, l, hd, h => by
    by_cases hn : n ∈ l
    · have h1 := nodup_lt n (l.erase n) (hd.erase n) (fun x hx => by
        have h2 := h x (List.mem_of_mem_erase hx)
        have h3 : x ≠ n := fun e => by subst e; exact hd.not_mem_erase hx
        omega)
      rw [List.length_erase_of_mem hn] at h1; omega
    · exact Nat.le_succ_of_le (nodup_lt n l hd fun x hx => by
        have h2 := h x hx
        have h3 : x ≠ n := fun e => hn (e ▸ hx)
        omega)
theorem not_nodup_range {f : Nat → Nat} {k : Nat} (h : ¬ ((List.range k).map f).Nodup) : ∃ a b, a < b ∧ b < k ∧ f a = f b := by
  induction k with
  | zero => exact absurd List.nodup_nil h
  | succ k ih =>
    rw [List.range_succ, List.map_append, List.nodup_append] at h
    by_cases h1 : ((List.range k).map f).Nodup
    · by_cases h2 : f k ∈ (List.range k).map f
      · obtain ⟨a, ha, e⟩ := List.mem_map.1 h2
        exact ⟨a, k, List.mem_range.1 ha, Nat.lt_succ_self _, e⟩
      · exact absurd ⟨h1, by simp, fun a ha b hb => by simp at hb; subst hb; exact fun e => h2 (e ▸ ha)⟩ h
    · obtain ⟨a, b, h3, h4, h5⟩ := ih h1
      exact ⟨a, b, h3, Nat.lt_succ_of_lt h4, h5⟩
theorem Pm.period (h : Pm g n) {i : Nat} (hi : i < n) : ∃ p, p < n ∧ it g (p + 1) i = i := by
  have hno : ¬ ((List.range (n + 1)).map fun k => it g k i).Nodup := fun hd => by
    have := nodup_lt n _ hd fun x hx => by
      obtain ⟨k, _, rfl⟩ := List.mem_map.1 hx
      exact h.it_lt k hi
    simp at this; omega
  obtain ⟨a, b, hab, hb, e⟩ := not_nodup_range hno
  refine ⟨b - a - 1, by omega, ?_⟩
  have e1 : b = a + (b - a - 1 + 1) := by omega
  have e2 : it g a i = it g a (it g (b - a - 1 + 1) i) := by rw [← it_add, ← e1]; exact e
  exact (h.it_inj a hi (h.it_lt _ hi) e2).symm
/-- how long a ring is -/
def per (g : Nat → Nat) (n i : Nat) : Nat := match (List.range n).find? fun j => decide (it g (j + 1) i = i) with
  | some j => j + 1
  | none => 0
structure PerF (g : Nat → Nat) (n i : Nat) : Prop where
  pos : 1 ≤ per g n i
  le : per g n i ≤ n
  back : it g (per g n i) i = i
  first : ∀ j, 1 ≤ j → j < per g n i → it g j i ≠ i
theorem Pm.perF (h : Pm g n) {i : Nat} (hi : i < n) : PerF g n i := by
  obtain ⟨p, hp, e⟩ := h.period hi
  cases hf : (List.range n).find? fun j => decide (it g (j + 1) i = i) with
  | none => exact absurd e (by simpa using List.find?_eq_none.1 hf p (List.mem_range.2 hp))
  | some j =>
    have hj := List.find?_some hf
    have hm := List.mem_range.1 (List.mem_of_find?_eq_some hf)
    have hper : per g n i = j + 1 := by unfold per; rw [hf]
    refine ⟨by omega, by omega, by rw [hper]; simpa using hj, fun k h1 h2 => ?_⟩
    rw [hper] at h2
    obtain ⟨as, bs, hl, hno⟩ := (List.find?_eq_some_iff_append.1 hf).2
    have hlen : as.length = j := by
      have h3 : (List.range n)[as.length]? = some j := by rw [hl]; simp
      rw [List.getElem?_range (by have := (List.getElem?_eq_some_iff.1 h3).1; simpa using this)] at h3
      exact Option.some.inj h3
    have hk : k - 1 ∈ as := by
      have h3 : (List.range n)[k - 1]? = some (k - 1) := List.getElem?_range (by omega)
      rw [hl, List.getElem?_append_left (by omega)] at h3
      exact List.mem_of_getElem? h3
    have := hno _ hk
    rw [show k - 1 + 1 = k by omega] at this
    simpa using this
/-- the ring of a person, from it on -/
def cycI (g : Nat → Nat) (n i : Nat) : List Int := (List.range (per g n i)).map fun j => ((it g j i : Nat) : Int)
theorem cyc_len (g : Nat → Nat) (n i : Nat) : (cycI g n i).length = per g n i := by unfold cycI; simp
theorem it_mul (h : Pm g n) {i : Nat} (hi : i < n) (q : Nat) : it g (q * per g n i) i = i := by
  induction q with
  | zero => rw [Nat.zero_mul]; rfl
  | succ q ih => rw [Nat.succ_mul, it_add, (h.perF hi).back, ih]
theorem it_mod (h : Pm g n) {i : Nat} (hi : i < n) (t : Nat) : it g t i = it g (t % per g n i) i := by
  conv => { lhs; rw [← Nat.mod_add_div t (per g n i), it_add, Nat.mul_comm, it_mul h hi] }
/-- in the same ring -/
def Same (g : Nat → Nat) (x y : Nat) : Prop := ∃ t, it g t x = y
theorem mem_cyc (h : Pm g n) {i : Nat} (hi : i < n) (x : Nat) : ((x : Nat) : Int) ∈ cycI g n i ↔ Same g i x := by
  unfold cycI
  rw [List.mem_map]
  constructor
  · rintro ⟨t, _, e⟩; exact ⟨t, by omega⟩
  · rintro ⟨t, rfl⟩
    exact ⟨t % per g n i, List.mem_range.2 (Nat.mod_lt _ (h.perF hi).pos), by rw [← it_mod h hi]⟩
theorem Same.symm (h : Pm g n) {x y : Nat} (hx : x < n) (e : Same g x y) : Same g y x := by
  obtain ⟨t, rfl⟩ := e
  refine ⟨t * per g n x - t, ?_⟩
  rw [← it_add]
  have hp := (h.perF hx).pos
  have : t ≤ t * per g n x := Nat.le_mul_of_pos_right t hp
  rw [Nat.sub_add_cancel this]
  exact it_mul h hx t
theorem Same.trans {x y z : Nat} (a : Same g x y) (b : Same g y z) : Same g x z := by
  obtain ⟨t, rfl⟩ := a
  obtain ⟨s, rfl⟩ := b
  exact ⟨s + t, it_add g s t x⟩
theorem Same.lt (h : Pm g n) {x y : Nat} (hx : x < n) (e : Same g x y) : y < n := by
  obtain ⟨t, rfl⟩ := e; exact h.it_lt t hx
def leastL (l : List Int) : Int := l.foldl min (l.getD 0 0)
theorem foldl_min_le : ∀ (l : List Int) (a : Int), l.foldl min a ≤ a ∧ ∀ x, x ∈ l → l.foldl min a ≤ x
  | [], a => ⟨Int.le_refl _, fun x hx => by cases hx⟩
  | b :: l, a => by
    have := foldl_min_le l (min a b)
    rw [List.foldl_cons]
    refine ⟨by omega, fun x hx => ?_⟩
    rcases List.mem_cons.1 hx with rfl | hx
    · omega
    · exact this.2 x hx
theorem foldl_min_mem : ∀ (l : List Int) (a : Int), l.foldl min a = a ∨ l.foldl min a ∈ l
  | [], a => .inl rfl
  | b :: l, a => by
    rw [List.foldl_cons]
    rcases foldl_min_mem l (min a b) with h | h
    · rw [h]
      by_cases hab : a ≤ b
      · exact .inl (by omega)
      · exact .inr (List.mem_cons.2 (.inl (by omega)))
    · exact .inr (List.mem_cons.2 (.inr h))
theorem leastL_le {l : List Int} {x : Int} (h : x ∈ l) : leastL l ≤ x := (foldl_min_le l _).2 x h
theorem leastL_mem {l : List Int} (h : 0 < l.length) : leastL l ∈ l := by
  rcases foldl_min_mem l (l.getD 0 0) with e | e
  · unfold leastL; rw [e]; exact getD_mem h
  · exact e
/-- the least person of a ring -/
def leastC (g : Nat → Nat) (n i : Nat) : Int := leastL (cycI g n i)
theorem Pm.least_mem (h : Pm g n) {i : Nat} (hi : i < n) : ∃ x : Nat, leastC g n i = (x : Int) ∧ Same g i x := by
  have hm : leastC g n i ∈ cycI g n i := leastL_mem (by rw [cyc_len]; exact (h.perF hi).pos)
  unfold cycI at hm
  obtain ⟨t, _, e⟩ := List.mem_map.1 hm
  exact ⟨it g t i, e.symm, t, rfl⟩
theorem Pm.least_le (h : Pm g n) {i x : Nat} (hi : i < n) (e : Same g i x) : leastC g n i ≤ (x : Int) := leastL_le ((mem_cyc h hi x).2 e)
theorem Pm.least_same (h : Pm g n) {i x : Nat} (hi : i < n) (e : Same g i x) : leastC g n x = leastC g n i := by
  have hx := e.lt h hi
  obtain ⟨a, ha, sa⟩ := h.least_mem hi
  obtain ⟨b, hb, sb⟩ := h.least_mem hx
  have h1 := h.least_le hx ((e.symm h hi).trans sa)
  have h2 := h.least_le hi (e.trans sb)
  omega
theorem Pm.least_self (h : Pm g n) {i : Nat} (hi : i < n) : leastC g n i ≤ (i : Int) := h.least_le hi ⟨0, rfl⟩
theorem Pm.least_is (h : Pm g n) {i x : Nat} (hi : i < n) (hx : x < n) (e : leastC g n x = (i : Int)) : leastC g n i = (i : Int) ∧ Same g i x := by
  obtain ⟨a, ha, sa⟩ := h.least_mem hx
  have : a = i := by omega
  subst this
  exact ⟨by rw [h.least_same hx sa, e], sa.symm h hx⟩
/-- the persons whose rings have been seen -/
def seenB (g : Nat → Nat) (n i x : Nat) : Bool := decide (x < n) && decide (leastC g n x < (i : Int))
theorem Pm.seen_same (h : Pm g n) {i x y : Nat} (hx : x < n) (e : Same g x y) : seenB g n i y = seenB g n i x := by
  unfold seenB
  rw [h.least_same hx e, decide_eq_true hx, decide_eq_true (e.lt h hx)]
theorem Pm.seen_zero (h : Pm g n) (x : Nat) : seenB g n 0 x = false := by
  unfold seenB
  by_cases hx : x < n
  · obtain ⟨a, ha, _⟩ := h.least_mem hx
    rw [decide_eq_false (show ¬ leastC g n x < ((0 : Nat) : Int) by omega), Bool.and_false]
  · rw [decide_eq_false hx]; rfl
theorem Pm.seen_next (h : Pm g n) {i : Nat} (hi : i < n) (x : Nat) : seenB g n (i + 1) x = (seenB g n i x || (decide (leastC g n i = (i : Int)) && (List.range (per g n i)).any fun t => it g t i == x)) := by
  by_cases hx : x < n
  · by_cases hs : leastC g n x < (i : Int)
    · rw [show seenB g n i x = true from by unfold seenB; rw [decide_eq_true hx, decide_eq_true hs]; rfl, Bool.true_or]
      unfold seenB; rw [decide_eq_true hx, decide_eq_true (by omega)]; rfl
    · rw [show seenB g n i x = false from by unfold seenB; rw [decide_eq_false hs, Bool.and_false], Bool.false_or]
      by_cases he : leastC g n x = (i : Int)
      · obtain ⟨h1, h2⟩ := h.least_is hi hx he
        rw [decide_eq_true h1, Bool.true_and]
        have : ((List.range (per g n i)).any fun t => it g t i == x) = true := by
          obtain ⟨t, rfl⟩ := h2
          exact List.any_eq_true.2 ⟨t % per g n i, List.mem_range.2 (Nat.mod_lt _ (h.perF hi).pos), by rw [← it_mod h hi]; exact beq_self_eq_true _⟩
        rw [this]
        unfold seenB; rw [decide_eq_true hx, decide_eq_true (by omega)]; rfl
      · have h1 : seenB g n (i + 1) x = false := by unfold seenB; rw [decide_eq_false (show ¬ leastC g n x < ((i + 1 : Nat) : Int) by omega), Bool.and_false]
        rw [h1]
        symm
        rw [Bool.and_eq_false_iff]
        by_cases h2 : leastC g n i = (i : Int)
        · right
          apply Bool.eq_false_iff.2
          intro h3
          obtain ⟨t, _, e⟩ := List.any_eq_true.1 h3
          have e : it g t i = x := by simpa using e
          exact he (by rw [h.least_same hi ⟨t, e⟩, h2])
        · left; exact decide_eq_false h2
  · rw [show seenB g n (i + 1) x = false from by unfold seenB; rw [decide_eq_false hx]; rfl, show seenB g n i x = false from by unfold seenB; rw [decide_eq_false hx]; rfl, Bool.false_or]
    symm
    rw [Bool.and_eq_false_iff]
    right
    apply Bool.eq_false_iff.2
    intro h3
    obtain ⟨t, _, e⟩ := List.any_eq_true.1 h3
    have e : it g t i = x := by simpa using e
    exact hx (e ▸ h.it_lt t hi)
theorem seen_self (h : Pm g n) {i : Nat} (hi : i < n) : seenB g n i i = !decide (leastC g n i = (i : Int)) := by
  have := h.least_self hi
  unfold seenB
  rw [decide_eq_true hi, Bool.true_and]
  by_cases he : leastC g n i = (i : Int)
  · rw [decide_eq_true he, decide_eq_false (by omega)]; rfl
  · rw [decide_eq_false he, decide_eq_true (by omega)]; rfl
/-- where the way round a ring is, that has been begun: still on it, or at its end -/
theorem ring_stop (h : Pm g n) {i j : Nat} (hi : i < n) (hj : j ≤ per g n i) : (((List.range j).any fun t => it g t i == it g j i) = true) ↔ j = per g n i := by
  have hp := h.perF hi
  constructor
  · intro h1
    obtain ⟨t, ht, e⟩ := List.any_eq_true.1 h1
    have ht := List.mem_range.1 ht
    have e : it g t i = it g j i := by simpa using e
    have e2 : it g t i = it g t (it g (j - t) i) := by rw [← it_add, show t + (j - t) = j by omega]; exact e
    have e3 := (h.it_inj t hi (h.it_lt _ hi) e2).symm
    rcases Nat.lt_or_ge (j - t) (per g n i) with h2 | h2
    · exact absurd e3 (hp.first _ (by omega) h2)
    · omega
  · intro h1
    subst h1
    exact List.any_eq_true.2 ⟨0, List.mem_range.2 hp.pos, by rw [hp.back]; exact beq_self_eq_true _⟩
/-- the rings, by their least persons -/
def ringAt (g : Nat → Nat) (n i : Nat) : List Int := if leastC g n i = (i : Int) then cycI g n i else []
def ringsN (g : Nat → Nat) (n : Nat) : Nat → List (List Int)
  | 0 => []
  | i + 1 => if 1 < (ringAt g n i).length then ringsN g n i ++ [ringAt g n i] else ringsN g n i
end
theorem ord_pm {o : List Int} (h : ordB o o.length = true) : Pm (getN o) o.length := by
  refine ⟨fun x hx => (ord_get h hx).2, fun x y hx hy e => ?_⟩
  have hp := (ordB_iff o o.length).1 h
  have hnd : o.Nodup := by
    exact hp.nodup_iff.2 (by unfold rngI; exact List.Pairwise.map _ (fun a b h e => h (by omega)) List.nodup_range)
  have e2 : o.getD x 0 = o.getD y 0 := by rw [(ord_get h hx).1, (ord_get h hy).1, e]
  rw [List.getD_eq_getElem?_getD, List.getD_eq_getElem?_getD, List.getElem?_eq_getElem hx, List.getElem?_eq_getElem hy] at e2
  exact (List.getElem_inj hnd).1 e2
/-- Rings' answer -/
def ringsR (o : List Int) : List (List Int) × Int := if o.length ≤ 7 ∧ ordB o o.length = true then (ringsN (getN o) o.length o.length, 0) else ([], 2)
end Go.Proofs.YtpijahglojichaaDoor
