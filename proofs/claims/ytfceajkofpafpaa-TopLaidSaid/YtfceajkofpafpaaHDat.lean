/- Plain data of cuts; what hangs together. No program in sight. -/
namespace Go.Proofs.Ytfceajkofpafpaa
structure Ct where
  wide : Int
  high : Int
  piece : List Int
def hIn (n l h : Int) : Bool := decide (l ≤ n ∧ n ≤ h)
def ctB (c : Ct) : Bool := hIn c.wide 1 12 && hIn c.high 1 12 && decide ((c.piece.length : Int) = c.wide * c.high) && c.piece.all fun k => hIn k 0 39
structure CtF (c : Ct) : Prop where
  w1 : 1 ≤ c.wide
  w2 : c.wide ≤ 12
  h1 : 1 ≤ c.high
  h2 : c.high ≤ 12
  len : (c.piece.length : Int) = c.wide * c.high
  bd : ∀ k, k ∈ c.piece → 0 ≤ k ∧ k ≤ 39
theorem ctF {c : Ct} : ctB c = true ↔ CtF c := by
  unfold ctB hIn
  simp only [Bool.and_eq_true, decide_eq_true_eq, List.all_eq_true]
  exact ⟨fun h => ⟨h.1.1.1.1, h.1.1.1.2, h.1.1.2.1, h.1.1.2.2, h.1.2, h.2⟩, fun h => ⟨⟨⟨⟨h.w1, h.w2⟩, h.h1, h.h2⟩, h.len⟩, h.bd⟩⟩
theorem CtF.n0 {c : Ct} (h : CtF c) : 1 ≤ c.piece.length ∧ c.piece.length ≤ 144 := by
  have h1 : (1 : Int) * 1 ≤ c.wide * c.high := Int.mul_le_mul h.w1 h.h1 (by decide) (by have := h.w1; omega)
  have h2 : c.wide * c.high ≤ 12 * 12 := Int.mul_le_mul h.w2 h.h2 (by have := h.h1; omega) (by decide)
  have := h.len
  omega
def cellAt (c : Ct) (i : Nat) : Int × Int := ((i : Int) % c.wide, (i : Int) / c.wide)
def inC (c : Ct) (p : Int × Int) : Prop := 0 ≤ p.1 ∧ p.1 < c.wide ∧ 0 ≤ p.2 ∧ p.2 < c.high
instance (c : Ct) (p : Int × Int) : Decidable (inC c p) := by unfold inC; exact inferInstance
def idx (c : Ct) (p : Int × Int) : Nat := (p.2 * c.wide + p.1).toNat
def atC (c : Ct) (p : Int × Int) : Int := if inC c p then c.piece.getD (idx c p) 0 else -1
theorem cell_idx {c : Ct} (h : CtF c) {p : Int × Int} (hp : inC c p) : idx c p < c.piece.length ∧ cellAt c (idx c p) = p := by
  obtain ⟨h1, h2, h3, h4⟩ := hp
  have ha : 0 ≤ p.2 * c.wide := Int.mul_nonneg h3 (by omega)
  have hb : p.2 * c.wide ≤ (c.high - 1) * c.wide := Int.mul_le_mul_of_nonneg_right (by omega) (by omega)
  have hc : (c.high - 1) * c.wide = c.wide * c.high - c.wide := by rw [Int.sub_mul, Int.one_mul, Int.mul_comm]
  have hl := h.len
  have hi : ((idx c p : Nat) : Int) = p.2 * c.wide + p.1 := by unfold idx; omega
  refine ⟨by omega, ?_⟩
  unfold cellAt
  rw [hi]
  refine Prod.ext ?_ ?_
  · show (p.2 * c.wide + p.1) % c.wide = p.1
    rw [Int.add_comm, Int.add_mul_emod_self_right]; exact Int.emod_eq_of_lt h1 h2
  · show (p.2 * c.wide + p.1) / c.wide = p.2
    rw [Int.add_comm, Int.add_mul_ediv_right _ _ (by omega), Int.ediv_eq_zero_of_lt h1 h2]; omega
theorem idx_cell {c : Ct} (h : CtF c) {i : Nat} (hi : i < c.piece.length) : inC c (cellAt c i) ∧ idx c (cellAt c i) = i := by
  have hw := h.w1
  have hl := h.len
  have h1 := Int.emod_nonneg (i : Int) (show c.wide ≠ 0 by omega)
  have h2 := Int.emod_lt_of_pos (i : Int) (show 0 < c.wide by omega)
  have h3 : 0 ≤ (i : Int) / c.wide := Int.ediv_nonneg (by omega) (by omega)
  have h4 : (i : Int) / c.wide < c.high := Int.ediv_lt_of_lt_mul (by omega) (by rw [Int.mul_comm]; omega)
  refine ⟨⟨h1, h2, h3, h4⟩, ?_⟩
  show ((i : Int) / c.wide * c.wide + (i : Int) % c.wide).toNat = i
  have := Int.mul_ediv_add_emod (i : Int) c.wide
  rw [Int.mul_comm] at this
  omega
theorem cellAt_inj {c : Ct} (h : CtF c) {i j : Nat} (hi : i < c.piece.length) (hj : j < c.piece.length) (e : cellAt c i = cellAt c j) : i = j := by
  rw [← (idx_cell h hi).2, e, (idx_cell h hj).2]
theorem atC_cell {c : Ct} (h : CtF c) {i : Nat} (hi : i < c.piece.length) : atC c (cellAt c i) = c.piece.getD i 0 := by
  unfold atC
  rw [if_pos (idx_cell h hi).1, (idx_cell h hi).2]
theorem getD_in {l : List Int} {i : Nat} (h : i < l.length) : l.getD i 0 ∈ l := by
  rw [List.getD_eq_getElem?_getD, List.getElem?_eq_getElem h]; exact List.getElem_mem h
theorem atC_in {c : Ct} (h : CtF c) {p : Int × Int} : 0 ≤ atC c p ↔ inC c p := by
  unfold atC
  by_cases hp : inC c p
  · rw [if_pos hp]
    exact ⟨fun _ => hp, fun _ => (h.bd _ (getD_in (cell_idx h hp).1)).1⟩
  · rw [if_neg hp]
    exact ⟨fun h => by omega, fun h => absurd h hp⟩
theorem atC_bd {c : Ct} (h : CtF c) (p : Int × Int) : -1 ≤ atC c p ∧ atC c p ≤ 39 := by
  unfold atC
  by_cases hp : inC c p
  · rw [if_pos hp]
    have := h.bd _ (getD_in (cell_idx h hp).1)
    omega
  · rw [if_neg hp]; omega
def dir4 (i : Nat) : Int × Int := if i = 0 then (-1, 0) else if i = 1 then (1, 0) else if i = 2 then (0, -1) else (0, 1)
def nb (p : Int × Int) (i : Nat) : Int × Int := (p.1 + (dir4 i).1, p.2 + (dir4 i).2)
theorem nb_back (p : Int × Int) {i : Nat} (hi : i < 4) : ∃ j, j < 4 ∧ nb (nb p i) j = p := by
  obtain ⟨x, y⟩ := p
  rcases (by omega : i = 0 ∨ i = 1 ∨ i = 2 ∨ i = 3) with rfl | rfl | rfl | rfl
  · exact ⟨1, by decide, Prod.ext (show x + -1 + 1 = x by omega) (show y + 0 + 0 = y by omega)⟩
  · exact ⟨0, by decide, Prod.ext (show x + 1 + -1 = x by omega) (show y + 0 + 0 = y by omega)⟩
  · exact ⟨3, by decide, Prod.ext (show x + 0 + 0 = x by omega) (show y + -1 + 1 = y by omega)⟩
  · exact ⟨2, by decide, Prod.ext (show x + 0 + 0 = x by omega) (show y + 1 + -1 = y by omega)⟩
/-- two cells of a piece that hang together -/
inductive Conn (c : Ct) (p : Int × Int) : Int × Int → Prop
  | refl : Conn c p p
  | step {q : Int × Int} (i : Nat) (hi : i < 4) (h : Conn c p q) (he : atC c (nb q i) = atC c q) : Conn c p (nb q i)
theorem Conn.at {c : Ct} {p q : Int × Int} (h : Conn c p q) : atC c q = atC c p := by
  induction h with
  | refl => rfl
  | step i _ _ he ih => rw [he, ih]
theorem Conn.trans {c : Ct} {p q r : Int × Int} (h : Conn c p q) (k : Conn c q r) : Conn c p r := by
  induction k with
  | refl => exact h
  | step i hi _ he ih => exact .step i hi ih he
theorem Conn.one {c : Ct} {p : Int × Int} {i : Nat} (hi : i < 4) (h : atC c (nb p i) = atC c p) : Conn c p (nb p i) := .step i hi .refl h
theorem Conn.symm {c : Ct} {p q : Int × Int} (h : Conn c p q) : Conn c q p := by
  induction h with
  | refl => exact .refl
  | @step q i hi _ he ih =>
    obtain ⟨j, hj, hb⟩ := nb_back q hi
    have h1 : Conn c (nb q i) (nb (nb q i) j) := .one hj (by rw [hb, he])
    rw [hb] at h1
    exact h1.trans ih
/-- a set of cells that no cell of theirs leaves -/
def Clo (c : Ct) (R : List (Int × Int)) : Prop := ∀ q, q ∈ R → ∀ i, i < 4 → atC c (nb q i) = atC c q → nb q i ∈ R
theorem Clo.conn {c : Ct} {R : List (Int × Int)} (h : Clo c R) {p q : Int × Int} (hp : p ∈ R) (k : Conn c p q) : q ∈ R := by
  induction k with
  | refl => exact hp
  | step i hi _ he ih => exact h _ ih i hi he
/-- what a flood reaches, from p on, after R -/
structure Dfs (c : Ct) (R : List (Int × Int)) (p : Int × Int) (R' : List (Int × Int)) : Prop where
  sub : ∀ q, q ∈ R → q ∈ R'
  here : p ∈ R'
  len : R.length < R'.length
  nd : R'.Nodup
  ins : ∀ q, q ∈ R' → inC c q
  conn : ∀ q, q ∈ R' → q ∉ R → Conn c p q
  clo : ∀ q, q ∈ R' → q ∉ R → ∀ i, i < 4 → atC c (nb q i) = atC c q → nb q i ∈ R'
/-- a flood under way: the neighbours up to n have been looked at -/
structure Dfi (c : Ct) (R : List (Int × Int)) (p : Int × Int) (n : Nat) (R' : List (Int × Int)) : Prop where
  sub : ∀ q, q ∈ R → q ∈ R'
  here : p ∈ R'
  len : R.length < R'.length
  nd : R'.Nodup
  ins : ∀ q, q ∈ R' → inC c q
  conn : ∀ q, q ∈ R' → q ∉ R → Conn c p q
  clo : ∀ q, q ∈ R' → q ∉ R → q ≠ p → ∀ i, i < 4 → atC c (nb q i) = atC c q → nb q i ∈ R'
  top : ∀ i, i < n → atC c (nb p i) = atC c p → nb p i ∈ R'
theorem Dfi.start {c : Ct} {R : List (Int × Int)} {p : Int × Int} (hn : R.Nodup) (hi : ∀ q, q ∈ R → inC c q) (hp : inC c p) (hno : p ∉ R) : Dfi c R p 0 (R ++ [p]) where
  sub := fun q hq => List.mem_append.2 (.inl hq)
  here := by simp
  len := by simp
  nd := by
    rw [List.nodup_append]
    exact ⟨hn, by simp, fun a ha b hb e => hno (by simp at hb; rw [← hb, ← e]; exact ha)⟩
  ins := fun q hq => by
    rcases List.mem_append.1 hq with h | h
    · exact hi q h
    · simp at h; rw [h]; exact hp
  conn := fun q hq h2 => by
    rcases List.mem_append.1 hq with h | h
    · exact absurd h h2
    · simp at h; rw [h]; exact .refl
  clo := fun q hq h2 h3 => by
    rcases List.mem_append.1 hq with h | h
    · exact absurd h h2
    · simp at h; exact absurd h h3
  top := fun i hi => by omega
theorem Dfi.done {c : Ct} {R R' : List (Int × Int)} {p : Int × Int} (h : Dfi c R p 4 R') : Dfs c R p R' where
  sub := h.sub
  here := h.here
  len := h.len
  nd := h.nd
  ins := h.ins
  conn := h.conn
  clo := fun q h1 h2 i hi he => by
    by_cases e : q = p
    · rw [e] at he ⊢; exact h.top i hi he
    · exact h.clo q h1 h2 e i hi he
theorem Dfi.skip {c : Ct} {R R' : List (Int × Int)} {p : Int × Int} {n : Nat} (h : Dfi c R p n R') (hs : atC c (nb p n) = atC c p → nb p n ∈ R') : Dfi c R p (n + 1) R' where
  sub := h.sub
  here := h.here
  len := h.len
  nd := h.nd
  ins := h.ins
  conn := h.conn
  clo := h.clo
  top := fun i hi he => by
    rcases Nat.lt_succ_iff_lt_or_eq.1 hi with h1 | rfl
    · exact h.top i h1 he
    · exact hs he
theorem Dfi.more {c : Ct} {R R' R2 : List (Int × Int)} {p : Int × Int} {n : Nat} (hn : n < 4) (h : Dfi c R p n R') (he : atC c (nb p n) = atC c p) (k : Dfs c R' (nb p n) R2) : Dfi c R p (n + 1) R2 where
  sub := fun q hq => k.sub q (h.sub q hq)
  here := k.sub p h.here
  len := Nat.lt_trans h.len k.len
  nd := k.nd
  ins := k.ins
  conn := fun q hq hno => by
    by_cases hq' : q ∈ R'
    · exact h.conn q hq' hno
    · exact (Conn.one hn he).trans (k.conn q hq hq')
  clo := fun q hq hno hne i hi e2 => by
    by_cases hq' : q ∈ R'
    · exact k.sub _ (h.clo q hq' hno hne i hi e2)
    · exact k.clo q hq hq' i hi e2
  top := fun i hi e2 => by
    rcases Nat.lt_succ_iff_lt_or_eq.1 hi with h1 | rfl
    · exact k.sub _ (h.top i h1 e2)
    · exact k.here
/-- all cells, as they stand -/
def allC (c : Ct) : List (Int × Int) := (List.range c.piece.length).map (cellAt c)
theorem mem_allC {c : Ct} (h : CtF c) {p : Int × Int} : p ∈ allC c ↔ inC c p := by
  unfold allC
  rw [List.mem_map]
  constructor
  · rintro ⟨i, hi, rfl⟩; exact (idx_cell h (List.mem_range.1 hi)).1
  · intro hp; exact ⟨idx c p, List.mem_range.2 (cell_idx h hp).1, (cell_idx h hp).2⟩
theorem nodup_len {α : Type} [DecidableEq α] : ∀ {l m : List α}, l.Nodup → (∀ x, x ∈ l → x ∈ m) → l.length ≤ m.length
  | [], _, _, _ => Nat.zero_le _
  | x :: l, m, hn, hs => by
    obtain ⟨h1, h2⟩ := List.nodup_cons.1 hn
    have hx : x ∈ m := hs x (.head _)
    have := nodup_len (m := m.erase x) h2 fun y hy => (List.mem_erase_of_ne (fun e => h1 (by rw [← e]; exact hy))).2 (hs y (.tail _ hy))
    rw [List.length_erase_of_mem hx] at this
    have hpos : 0 < m.length := List.length_pos_of_mem hx
    simp only [List.length_cons]; omega
theorem room {c : Ct} (h : CtF c) {R : List (Int × Int)} (hn : R.Nodup) (hi : ∀ q, q ∈ R → inC c q) {p : Int × Int} (hp : inC c p) (hno : p ∉ R) : R.length < c.piece.length := by
  have := nodup_len (l := p :: R) (m := allC c) (List.nodup_cons.2 ⟨hno, hn⟩) (fun x hx => (mem_allC h).2 (by
    rcases List.mem_cons.1 hx with rfl | hx
    · exact hp
    · exact hi x hx))
  simp only [allC, List.length_cons, List.length_map, List.length_range] at this
  omega
/-- how many cells of a list lie in a piece -/
def cntP (c : Ct) (S : List (Int × Int)) (k : Nat) : Nat := S.countP fun s => decide (atC c s = (k : Int))
/-- the parts under way: R is reached, S are the cells where a part began -/
structure Pts (c : Ct) (R S : List (Int × Int)) : Prop where
  nd : R.Nodup
  ins : ∀ q, q ∈ R → inC c q
  clo : Clo c R
  sub : ∀ s, s ∈ S → s ∈ R
  from_ : ∀ q, q ∈ R → ∃ s, s ∈ S ∧ Conn c s q
  apart : S.Pairwise fun s t => ¬ Conn c s t
theorem Pts.nil (c : Ct) : Pts c [] [] where
  nd := List.nodup_nil
  ins := fun _ h => by cases h
  clo := fun _ h => by cases h
  sub := fun _ h => by cases h
  from_ := fun _ h => by cases h
  apart := List.Pairwise.nil
theorem Pts.more {c : Ct} {R S R' : List (Int × Int)} {p : Int × Int} (h : Pts c R S) (hno : p ∉ R) (k : Dfs c R p R') : Pts c R' (p :: S) where
  nd := k.nd
  ins := k.ins
  clo := fun q hq i hi he => by
    by_cases h2 : q ∈ R
    · exact k.sub _ (h.clo q h2 i hi he)
    · exact k.clo q hq h2 i hi he
  sub := fun s hs => by
    rcases List.mem_cons.1 hs with rfl | hs
    · exact k.here
    · exact k.sub s (h.sub s hs)
  from_ := fun q hq => by
    by_cases h2 : q ∈ R
    · obtain ⟨s, h3, h4⟩ := h.from_ q h2
      exact ⟨s, .tail _ h3, h4⟩
    · exact ⟨p, .head _, k.conn q hq h2⟩
  apart := List.pairwise_cons.2 ⟨fun s hs hc => hno (h.clo.conn (h.sub s hs) hc.symm), h.apart⟩
/-- a good cut: each piece has cells, and they hang together -/
structure CutOk (c : Ct) (n : Nat) : Prop where
  ok : CtF c
  some : ∀ k, k < n → ∃ p, inC c p ∧ atC c p = (k : Int)
  all : ∀ p, inC c p → atC c p < n
  conn : ∀ p q, inC c p → inC c q → atC c p = atC c q → Conn c p q
def maxI (l : List Int) : Int := l.foldl max 0
theorem cnt_two {α : Type} {R : α → α → Prop} (hs : ∀ a b, R a b → R b a) {P : α → Bool} : ∀ {S : List α}, S.Pairwise (fun s t => ¬ R s t) → (∀ s t, s ∈ S → t ∈ S → P s = true → P t = true → R s t) → S.countP P ≤ 1
  | [], _, _ => by simp
  | x :: S, hp, h => by
    obtain ⟨h1, h2⟩ := List.pairwise_cons.1 hp
    rw [List.countP_cons]
    by_cases hx : P x = true
    · have : S.countP P = 0 := List.countP_eq_zero.2 fun y hy hy2 => h1 y hy (h x y (.head _) (.tail _ hy) hx hy2)
      rw [this]; split <;> omega
    · rw [if_neg hx]
      exact cnt_two hs h2 fun s t a b => h s t (.tail _ a) (.tail _ b)
theorem cnt_one {α : Type} {P : α → Bool} : ∀ {S : List α} {s t : α}, S.countP P ≤ 1 → s ∈ S → t ∈ S → P s = true → P t = true → s = t
  | x :: S, s, t, h, hs, ht, h1, h2 => by
    rw [List.countP_cons] at h
    rcases List.mem_cons.1 hs with rfl | hs'
    · rcases List.mem_cons.1 ht with rfl | ht'
      · rfl
      · rw [if_pos h1] at h
        have : 0 < S.countP P := List.countP_pos_iff.2 ⟨t, ht', h2⟩
        omega
    · rcases List.mem_cons.1 ht with rfl | ht'
      · rw [if_pos h2] at h
        have : 0 < S.countP P := List.countP_pos_iff.2 ⟨s, hs', h1⟩
        omega
      · refine cnt_one (by split at h <;> omega) hs' ht' h1 h2
/-- the parts tell whether a cut is good -/
theorem parts_ok {c : Ct} (h : CtF c) {R S : List (Int × Int)} (hp : Pts c R S) (hall : ∀ p, inC c p → p ∈ R) {n : Nat} (hn : ∀ p, inC c p → atC c p < n) : (∀ k, k < n → cntP c S k = 1) ↔ CutOk c n := by
  constructor
  · intro h1
    refine ⟨h, fun k hk => ?_, hn, fun p q h2 h3 he => ?_⟩
    · have : 0 < cntP c S k := by rw [h1 k hk]; exact Nat.one_pos
      obtain ⟨s, h2, h3⟩ := List.countP_pos_iff.1 this
      exact ⟨s, hp.ins s (hp.sub s h2), of_decide_eq_true h3⟩
    · obtain ⟨s, h4, h5⟩ := hp.from_ p (hall p h2)
      obtain ⟨t, h6, h7⟩ := hp.from_ q (hall q h3)
      obtain ⟨k, hk⟩ : ∃ k : Nat, atC c p = (k : Int) := ⟨(atC c p).toNat, by have := (atC_in h).2 h2; omega⟩
      have hkn : k < n := by have := hn p h2; omega
      have e := cnt_one (P := fun s => decide (atC c s = (k : Int))) (Nat.le_of_eq (h1 k hkn)) h4 h6 (decide_eq_true (by rw [← h5.at, hk])) (decide_eq_true (by rw [← h7.at, ← he, hk]))
      subst e
      exact h5.symm.trans h7
  · intro ho k hk
    obtain ⟨p, h1, h2⟩ := ho.some k hk
    obtain ⟨s, h3, h4⟩ := hp.from_ p (hall p h1)
    have h5 : 0 < cntP c S k := List.countP_pos_iff.2 ⟨s, h3, decide_eq_true (by rw [← h4.at, h2])⟩
    have h6 : cntP c S k ≤ 1 := cnt_two (R := Conn c) (fun _ _ h => h.symm) hp.apart fun s t a b h7 h8 => ho.conn s t (hp.ins s (hp.sub s a)) (hp.ins t (hp.sub t b)) ((of_decide_eq_true h7).trans (of_decide_eq_true h8).symm)
    omega
end Go.Proofs.Ytfceajkofpafpaa
