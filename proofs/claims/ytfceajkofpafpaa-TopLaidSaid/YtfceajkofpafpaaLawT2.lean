/- The joins of a solution are the edges of its cut; its flat sides lie on the border. No program in sight. -/
import Derived.Test.YtfceajkofpafpaaLawT
namespace Go.Proofs.Ytfceajkofpafpaa
open Go Go.Eng
open Go.Proofs.Ytfceajkofpafpaa.Sc (getD_of get_of_lt)
def j1 (p k : Nat) (x : J4) : Nat := b2n (x.1 = p ∧ x.2.2.1 = k) + b2n (x.2.2.1 = p ∧ x.1 = k)
/-- how many joins two pieces have -/
def jcN (js : List J4) (p k : Nat) : Nat := (js.map (j1 p k)).sum
theorem jcN_app (js ks : List J4) (p k : Nat) : jcN (js ++ ks) p k = jcN js p k + jcN ks p k := by
  unfold jcN; rw [List.map_append, List.sum_append_nat]
theorem jcN_fm {f : Nat → List J4} {n p k : Nat} : jcN ((List.range n).flatMap f) p k = ((List.range n).map fun c => jcN (f c) p k).sum := by
  induction n with
  | zero => rfl
  | succ n ih => rw [range_fm, jcN_app, ih, List.range_succ, List.map_append, List.sum_append_nat]; simp
theorem b2n_f {p : Prop} [Decidable p] (h : ¬ p) : b2n p = 0 := if_neg h
section
variable {z : Pz} {l : List Ly}
theorem j1_jn (hS : SolOk z l) {c o i j s : Nat} (hc : c < z.pieces.length) (ho : o < z.pieces.length) (hi : i < z.pieces.length) (hj : j < z.pieces.length) : j1 (pcN l j) (pcN l i) (jnOf l c o s) = b2n (c = j ∧ o = i) + b2n (c = i ∧ o = j) := by
  have e : ∀ {x y : Nat}, x < z.pieces.length → y < z.pieces.length → ((lyD l x).1 = pcN l y ↔ x = y) := fun hx hy => ⟨fun h => pc_inj hS hx hy h, fun h => by rw [h]; rfl⟩
  unfold jnOf j1
  split
  · dsimp only
    rw [b2n_congr (and_congr (e ho hj) (e hc hi)), b2n_congr (and_congr (e hc hj) (e ho hi)), b2n_congr (and_comm (a := o = j) (b := c = i)), Nat.add_comm]
  · dsimp only
    rw [b2n_congr (and_congr (e hc hj) (e ho hi)), b2n_congr (and_congr (e ho hj) (e hc hi)), b2n_congr (and_comm (a := o = j) (b := c = i))]
theorem jc_C0 (hF : PzF z) (hS : SolOk z l) {c i j : Nat} (hc : c < z.pieces.length) (hi : i < z.pieces.length) (hj : j < z.pieces.length) : jcN (metC z l c 0) (pcN l j) (pcN l i) = b2n (c = j ∧ adjR z j i) + b2n (c = i ∧ adjR z i j) := by
  have hl := hS.len
  by_cases h : colI z c = z.wide - 1
  · rw [metC_rim rfl h, b2n_f (fun k => by obtain ⟨rfl, k2⟩ := k; exact k2.1 h), b2n_f (fun k => by obtain ⟨rfl, k2⟩ := k; exact k2.1 h)]; rfl
  · have ho := right_lt hF hc h
    rw [metC_yes (z := z) (l := l) (c := c) (k := 0) (fun k => h k.2) (show c + 1 < l.length by omega)]
    show j1 _ _ (jnOf l c (c + 1) 1) + 0 = _
    rw [j1_jn hS hc ho hi hj, Nat.add_zero]
    refine congr (congrArg _ (b2n_congr ?_)) (b2n_congr ?_)
    · unfold adjR
      constructor
      · rintro ⟨rfl, rfl⟩; exact ⟨rfl, h, rfl⟩
      · rintro ⟨rfl, _, rfl⟩; exact ⟨rfl, rfl⟩
    · unfold adjR
      constructor
      · rintro ⟨rfl, rfl⟩; exact ⟨rfl, h, rfl⟩
      · rintro ⟨rfl, _, rfl⟩; exact ⟨rfl, rfl⟩
theorem jc_C1 (hS : SolOk z l) {c i j : Nat} (hc : c < z.pieces.length) (hi : i < z.pieces.length) (hj : j < z.pieces.length) : jcN (metC z l c 1) (pcN l j) (pcN l i) = b2n (c = j ∧ adjD z j i) + b2n (c = i ∧ adjD z i j) := by
  have hl := hS.len
  by_cases h : c + z.wide.toNat < z.pieces.length
  · rw [metC_yes (z := z) (l := l) (c := c) (k := 1) (fun k => by omega) (show c + z.wide.toNat < l.length by omega)]
    show j1 _ _ (jnOf l c (c + z.wide.toNat) 2) + 0 = _
    rw [j1_jn hS hc h hi hj, Nat.add_zero]
    refine congr (congrArg _ (b2n_congr ?_)) (b2n_congr ?_)
    · unfold adjD
      constructor
      · rintro ⟨rfl, rfl⟩; exact ⟨rfl, rfl⟩
      · rintro ⟨rfl, rfl⟩; exact ⟨rfl, rfl⟩
    · unfold adjD
      constructor
      · rintro ⟨rfl, rfl⟩; exact ⟨rfl, rfl⟩
      · rintro ⟨rfl, rfl⟩; exact ⟨rfl, rfl⟩
  · rw [metC_far (show l.length ≤ c + z.wide.toNat by omega), b2n_f (fun k => by obtain ⟨rfl, k2⟩ := k; unfold adjD at k2; omega), b2n_f (fun k => by obtain ⟨rfl, k2⟩ := k; unfold adjD at k2; omega)]; rfl
theorem sum_two {n i j A B : Nat} {g : Nat → Nat} (hi : i < n) (hj : j < n) (h : ∀ c, c < n → g c = (if c = j then A else 0) + (if c = i then B else 0)) : ((List.range n).map g).sum = A + B := by
  have key : ∀ m, m ≤ n → ((List.range m).map g).sum = (if j < m then A else 0) + (if i < m then B else 0) := by
    intro m
    induction m with
    | zero => intro _; rfl
    | succ m ih =>
      intro hm
      rw [List.range_succ, List.map_append, List.sum_append_nat, ih (by omega)]
      simp only [List.map_cons, List.map_nil, List.sum_cons, List.sum_nil]
      rw [h m (by omega)]
      have e : ∀ x a : Nat, (if x < m then a else 0) + (if m = x then a else 0) = if x < m + 1 then a else 0 := fun x a => by
        rcases Nat.lt_trichotomy x m with h1 | h1 | h1
        · rw [if_pos h1, if_neg (by omega), if_pos (by omega)]; rfl
        · rw [if_neg (by omega), if_pos h1.symm, if_pos (by omega)]; omega
        · rw [if_neg (by omega), if_neg (by omega), if_neg (by omega)]
      rw [← e j A, ← e i B]
      omega
  rw [key n (Nat.le_refl _), if_pos hj, if_pos hi]
theorem b2n_and {p q : Prop} [Decidable p] [Decidable q] : b2n (p ∧ q) = if p then b2n q else 0 := by
  unfold b2n
  by_cases hp : p
  · rw [if_pos hp]; exact b2n_congr ⟨fun h => h.2, fun h => ⟨hp, h⟩⟩
  · rw [if_neg hp, if_neg (fun h => hp h.1)]
theorem jc_adj (hF : PzF z) (hS : SolOk z l) {i j : Nat} (hi : i < z.pieces.length) (hj : j < z.pieces.length) : jcN (metL z l) (pcN l j) (pcN l i) = (b2n (adjR z j i) + b2n (adjD z j i)) + (b2n (adjR z i j) + b2n (adjD z i j)) := by
  have hl := hS.len
  unfold metL
  rw [jcN_fm]
  refine sum_two (i := i) (j := j) (by omega) (by omega) (fun c hc => ?_)
  show jcN (metI z l c) _ _ = _
  rw [show metI z l c = metC z l c 0 ++ metC z l c 1 from by show metC z l c 0 ++ (metC z l c 1 ++ []) = _; rw [List.append_nil], jcN_app, jc_C0 hF hS (by omega) hi hj, jc_C1 hS (by omega) hi hj, b2n_and, b2n_and, b2n_and, b2n_and]
  by_cases h1 : c = j
  · rw [if_pos h1, if_pos h1, if_pos h1]
    by_cases h2 : c = i
    · rw [if_pos h2, if_pos h2, if_pos h2]; omega
    · rw [if_neg h2, if_neg h2, if_neg h2]; omega
  · rw [if_neg h1, if_neg h1, if_neg h1]
    by_cases h2 : c = i
    · rw [if_pos h2, if_pos h2, if_pos h2]; omega
    · rw [if_neg h2, if_neg h2, if_neg h2]
theorem jc_edge (hF : PzF z) (hS : SolOk z l) {p k : Nat} (hp : p < z.pieces.length) (hk : k < z.pieces.length) (hne : p ≠ k) : edgeN (cutT z l) (k : Int) (p : Int) = jcN (metL z l) p k := by
  obtain ⟨j, hj, rfl⟩ := pc_surj hS hp
  obtain ⟨i, hi, rfl⟩ := pc_surj hS hk
  rw [jc_adj hF hS hi hj, edge_adj hF hS hi hj (fun e => hne (by rw [e]))]
  omega
theorem met_mem (hF : PzF z) (hS : SolOk z l) {x : J4} (hx : x ∈ metL z l) : x.1 < x.2.2.1 ∧ x.2.2.1 < z.pieces.length := by
  have hl := hS.len
  obtain ⟨c, hc, h1⟩ := List.mem_flatMap.1 hx
  have hc := List.mem_range.1 hc
  obtain ⟨k, hk, h2⟩ := List.mem_flatMap.1 h1
  unfold metC at h2
  split at h2
  · rename_i h3
    have h4 : othI z c k < l.length := by
      unfold hasJ at h3
      rw [Bool.and_eq_true] at h3
      exact of_decide_eq_true h3.2
    have h5 : c ≠ othI z c k := by
      unfold othI
      have := hF.w
      split <;> omega
    rw [List.mem_singleton.1 h2]
    have h6 : (lyD l c).1 ≠ (lyD l (othI z c k)).1 := fun e => h5 (pc_inj hS (by omega) (by omega) e)
    have h7 := hS.pc c (by omega)
    have h8 := hS.pc (othI z c k) (by omega)
    unfold jnOf
    split
    · dsimp only; omega
    · dsimp only; omega
  · cases h2
theorem jc_self (hF : PzF z) (hS : SolOk z l) (p : Nat) : jcN (metL z l) p p = 0 := by
  have : ∀ js : List J4, (∀ x, x ∈ js → x.1 < x.2.2.1) → jcN js p p = 0 := by
    intro js
    induction js with
    | nil => intro _; rfl
    | cons x js ih =>
      intro h
      show j1 p p x + jcN js p p = 0
      rw [ih fun y hy => h y (.tail _ hy)]
      have := h x (.head _)
      unfold j1
      rw [b2n_f (by omega), b2n_f (by omega)]
  exact this _ fun x hx => (met_mem hF hS hx).1
theorem jc_far (hF : PzF z) (hS : SolOk z l) {p k : Nat} (hk : z.pieces.length ≤ k) : jcN (metL z l) p k = 0 := by
  have : ∀ js : List J4, (∀ x, x ∈ js → x.1 < x.2.2.1 ∧ x.2.2.1 < z.pieces.length) → jcN js p k = 0 := by
    intro js
    induction js with
    | nil => intro _; rfl
    | cons x js ih =>
      intro h
      show j1 p k x + jcN js p k = 0
      rw [ih fun y hy => h y (.tail _ hy)]
      have := h x (.head _)
      unfold j1
      rw [b2n_f (by omega), b2n_f (by omega)]
  exact this _ fun x hx => met_mem hF hS hx
theorem met_len (z : Pz) (l : List Ly) : (metL z l).length ≤ 2 * l.length := by
  have key : ∀ n, ((List.range n).flatMap (metI z l)).length ≤ 2 * n := by
    intro n
    induction n with
    | zero => exact Nat.le_refl _
    | succ n ih =>
      rw [range_fm, List.length_append]
      have h1 : ∀ k, (metC z l n k).length ≤ 1 := fun k => by unfold metC; split <;> simp
      have h2 : (metI z l n).length ≤ 2 := by
        show (metC z l n 0 ++ (metC z l n 1 ++ [])).length ≤ 2
        rw [List.length_append, List.append_nil]
        have := h1 0
        have := h1 1
        omega
      omega
  exact key _
theorem jc_le (js : List J4) (p k : Nat) : jcN js p k ≤ 2 * js.length := by
  induction js with
  | nil => exact Nat.le_refl _
  | cons x js ih =>
    show j1 p k x + jcN js p k ≤ _
    have h1 : j1 p k x ≤ 2 := by
      have : ∀ (q : Prop) [Decidable q], b2n q ≤ 1 := fun q _ => by unfold b2n; split <;> omega
      have a := this (x.1 = p ∧ x.2.2.1 = k)
      have b := this (x.2.2.1 = p ∧ x.1 = k)
      unfold j1; omega
    simp only [List.length_cons]; omega
/-! ### lines -/
def cntJ (js : List J4) (q : Int × Int) : Nat := js.countP fun x => decide ((x.1 : Int) = q.1 ∧ (x.2.2.1 : Int) = q.2)
theorem jc_cnt {js : List J4} (h : ∀ x, x ∈ js → x.1 < x.2.2.1) {a b : Nat} (hab : a < b) : jcN js b a = cntJ js ((a : Int), (b : Int)) := by
  induction js with
  | nil => rfl
  | cons x js ih =>
    show j1 b a x + jcN js b a = _
    rw [ih fun y hy => h y (.tail _ hy)]
    have h1 := h x (.head _)
    unfold cntJ
    rw [List.countP_cons]
    unfold j1
    rw [b2n_f (show ¬ (x.1 = b ∧ x.2.2.1 = a) by omega)]
    unfold b2n
    by_cases e : x.2.2.1 = b ∧ x.1 = a
    · rw [if_pos e, if_pos (decide_eq_true (by dsimp only; omega))]; omega
    · rw [if_neg e, if_neg (by rw [decide_eq_true_eq]; dsimp only; omega)]; omega
theorem eS_zero {c : Ct} {a b : Int} : ∀ {ss : List Nat}, (∀ i, i ∈ ss → ∀ k, e1 c (cellAt c i) k a b = 0) → eS c ss a b = 0
  | [], _ => rfl
  | i :: ss, h => by
    have h1 := h i (.head _)
    show e4 c (cellAt c i) 4 a b + eS c ss a b = 0
    rw [eS_zero fun j hj => h j (.tail _ hj)]
    show ((0 + e1 c (cellAt c i) 0 a b) + e1 c (cellAt c i) 1 a b + e1 c (cellAt c i) 2 a b) + e1 c (cellAt c i) 3 a b + 0 = 0
    rw [h1, h1, h1, h1]
theorem edge_cnt (hF : PzF z) (hS : SolOk z l) {a b : Int} (h1 : a ≠ -1) (h2 : a < b) : edgeN (cutT z l) a b = cntJ (metL z l) (a, b) := by
  have hC := cutT_F hF hS
  have hm : ∀ x, x ∈ metL z l → x.1 < x.2.2.1 ∧ x.2.2.1 < z.pieces.length := fun x hx => met_mem hF hS hx
  by_cases hr : 0 ≤ a ∧ b < (z.pieces.length : Int)
  · obtain ⟨a', rfl⟩ : ∃ n : Nat, a = (n : Int) := ⟨a.toNat, by omega⟩
    obtain ⟨b', rfl⟩ : ∃ n : Nat, b = (n : Int) := ⟨b.toNat, by omega⟩
    rw [jc_edge hF hS (p := b') (k := a') (by omega) (by omega) (by omega)]
    exact jc_cnt (fun x hx => (hm x hx).1) (by omega)
  · have e0 : cntJ (metL z l) (a, b) = 0 := List.countP_eq_zero.2 fun x hx => by
      have := hm x hx
      rw [decide_eq_true_eq]; dsimp only; omega
    rw [e0]
    refine eS_zero fun i hi k => if_neg fun h => ?_
    have hi' := List.mem_range.1 hi
    rw [cutT_len, hS.len] at hi'
    have h4 : b = ((pcN l i : Nat) : Int) := by rw [← h.2.1, (cell_at hF hS hi').2]
    have h5 := hS.pc i hi'
    have h6 : ((pcN l i : Nat) : Int) < z.pieces.length := by unfold pcN; omega
    have h7 := (atC_bd hC (nb (cellAt (cutT z l) i) k)).1
    rw [h.1] at h7
    omega
theorem sum_addI {α : Type} (m : List α) (f g : α → Int) : (m.map fun e => f e + g e).sum = (m.map f).sum + (m.map g).sum := by
  induction m with
  | nil => rfl
  | cons x m ih => simp only [List.map_cons, List.sum_cons, ih]; omega
theorem sum_zeroI {α : Type} {m : List α} {f : α → Int} (h : ∀ e, e ∈ m → f e = 0) : (m.map f).sum = 0 := by
  induction m with
  | nil => rfl
  | cons x m ih => simp only [List.map_cons, List.sum_cons, ih fun e he => h e (.tail _ he), h x (.head _)]; rfl
theorem sum_key {m : List ((Int × Int) × Int)} (hn : (m.map (·.1)).Nodup) {k : Int × Int} (hk : k ∈ m.map (·.1)) : (m.map fun e => if e.1 = k then (1 : Int) else 0).sum = 1 := by
  induction m with
  | nil => cases hk
  | cons x m ih =>
    obtain ⟨h1, h2⟩ := List.nodup_cons.1 hn
    simp only [List.map_cons, List.sum_cons]
    rcases List.mem_cons.1 hk with rfl | hk'
    · rw [if_pos rfl, sum_zeroI fun e he => if_neg fun h => h1 (List.mem_map.2 ⟨e, he, h⟩)]; rfl
    · rw [if_neg (fun h => h1 (show x.1 ∈ m.map (·.1) by rw [h]; exact hk')), ih h2 hk']; rfl
theorem range_map {α : Type} (m : List α) (d : α) (F : α → Int) : (List.range m.length).map (fun i => F (m.getD i d)) = m.map F := by
  apply List.ext_getElem?
  intro i
  rw [List.getElem?_map, List.getElem?_map]
  rcases Nat.lt_or_ge i m.length with h | h
  · rw [List.getElem?_range h, get_of_lt d h]; rfl
  · rw [List.getElem?_eq_none (by simpa using h), List.getElem?_eq_none h]; rfl
theorem lines_len (hF : PzF z) (hS : SolOk z l) {m : List ((Int × Int) × Int)} (hE : Em (edgeN (cutT z l)) m) : sumE m = ((metL z l).length : Nat) := by
  have e1 : sumE m = (m.map fun e => if e.1.1 ≠ -1 ∧ e.1.1 < e.1.2 then e.2 else 0).sum := by
    unfold sumE
    rw [← range_map m ((0, 0), 0)]; rfl
  have e2 : (m.map fun e => if e.1.1 ≠ -1 ∧ e.1.1 < e.1.2 then e.2 else 0) = m.map fun e => if e.1.1 ≠ -1 ∧ e.1.1 < e.1.2 then ((cntJ (metL z l) e.1 : Nat) : Int) else 0 := by
    refine List.map_congr_left fun e he => ?_
    split
    · rename_i h
      rw [em_val hE (show (e.1, e.2) ∈ m from he), edge_cnt hF hS h.1 h.2]
    · rfl
  rw [e1, e2]
  have key : ∀ js : List J4, (∀ x, x ∈ js → x.1 < x.2.2.1 ∧ ((x.1 : Int), (x.2.2.1 : Int)) ∈ m.map (·.1)) → (m.map fun e => if e.1.1 ≠ -1 ∧ e.1.1 < e.1.2 then ((cntJ js e.1 : Nat) : Int) else 0).sum = (js.length : Nat) := by
    intro js
    induction js with
    | nil => intro _; exact sum_zeroI fun e _ => by split <;> rfl
    | cons x js ih =>
      intro h
      obtain ⟨h1, h2⟩ := h x (.head _)
      have h3 := ih fun y hy => h y (.tail _ hy)
      have h4 : (m.map fun e => if e.1.1 ≠ -1 ∧ e.1.1 < e.1.2 then ((cntJ (x :: js) e.1 : Nat) : Int) else 0) = m.map fun e => (if e.1.1 ≠ -1 ∧ e.1.1 < e.1.2 then ((cntJ js e.1 : Nat) : Int) else 0) + (if e.1 = ((x.1 : Int), (x.2.2.1 : Int)) then 1 else 0) := by
        refine List.map_congr_left fun e _ => ?_
        obtain ⟨⟨a, b⟩, v⟩ := e
        dsimp only
        unfold cntJ
        rw [List.countP_cons]
        by_cases hc : ((a, b) : Int × Int) = ((x.1 : Int), (x.2.2.1 : Int))
        · injection hc with ha hb
          subst ha
          subst hb
          rw [if_pos ⟨by omega, by omega⟩, if_pos (by simp), if_pos ⟨by omega, by omega⟩, if_pos rfl]
          omega
        · rw [if_neg hc]
          split
          · rw [if_neg (fun h => hc (by have := of_decide_eq_true h; exact Prod.ext this.1.symm this.2.symm))]; omega
          · rfl
      rw [h4, sum_addI, h3, sum_key hE.nd h2]
      simp only [List.length_cons]; omega
  refine key _ fun x hx => ?_
  have hx2 := met_mem hF hS hx
  refine ⟨hx2.1, ?_⟩
  have hpos : 0 < cntJ (metL z l) ((x.1 : Int), (x.2.2.1 : Int)) := List.countP_pos_iff.2 ⟨x, hx, by simp⟩
  rw [← edge_cnt hF hS (by omega) (by omega)] at hpos
  have hg := hE.get (x.1 : Int) (x.2.2.1 : Int)
  cases hv : mvGet m ((x.1 : Int), (x.2.2.1 : Int)) with
  | none =>
    rw [hv] at hg
    have : (0 : Int) = (edgeN (cutT z l) (x.1 : Int) (x.2.2.1 : Int) : Nat) := hg
    omega
  | some v => exact List.mem_map.2 ⟨_, mvGet_some hv, rfl⟩
/-! ### flat sides -/
theorem fit_kinds {p : Pl} {a b : Eg} (h : fitV p a b ≠ 0) : a.kind ≠ 0 ∧ b.kind ≠ 0 := by
  unfold fitV at h
  split at h
  · omega
  · split at h
    · omega
    · exact absurd rfl h
theorem meet_kinds {k q : Nat × Nat} (h : meetV z (k, q) ≠ 0) : (edAt z k).kind ≠ 0 ∧ (edAt z q).kind ≠ 0 := by
  unfold meetV at h
  split at h
  · exact absurd rfl h
  · exact fit_kinds h
theorem may_parts {x : Ly} {m : List Ly} (h : mayV z m x = true) : (∀ s, s < 4 → rimB z m.length s = true → flatB z x s = true) ∧ (0 < rowI z m.length → meetV z (sdK (lyD m (m.length - z.wide.toNat)) 2, sdK x 0) ≠ 0) ∧ (¬ colI z m.length = 0 → meetV z (sdK (lyD m (m.length - 1)) 1, sdK x 3) ≠ 0) := by
  unfold mayV at h
  simp only [Bool.and_eq_true, Bool.or_eq_true, decide_eq_true_eq, List.all_eq_true, List.mem_range, Bool.not_eq_true'] at h
  obtain ⟨⟨h1, h2⟩, h3⟩ := h
  exact ⟨fun s hs hr => (h1 s hs).elim (fun e => by rw [hr] at e; cases e) id, fun h4 => h2.elim (fun h5 => absurd h4 h5) id, fun h4 => h3.elim (fun h5 => absurd h5 h4) id⟩
theorem flat_rim (hF : PzF z) (hS : SolOk z l) {j : Nat} (hj : j < z.pieces.length) {s : Nat} (hs : s < 4) : flatB z (lyD l j) s = rimB z j s := by
  have hl := hS.len
  have tk : ∀ i, i < z.pieces.length → (l.take i).length = i := fun i hi => by rw [List.length_take]; omega
  have mp : ∀ i, i < z.pieces.length → (∀ s, s < 4 → rimB z i s = true → flatB z (lyD l i) s = true) ∧ (0 < rowI z i → meetV z (sdK (lyD l (i - z.wide.toNat)) 2, sdK (lyD l i) 0) ≠ 0) ∧ (¬ colI z i = 0 → meetV z (sdK (lyD l (i - 1)) 1, sdK (lyD l i) 3) ≠ 0) := fun i hi => by
    have h := may_parts (hS.may i hi)
    rw [tk i hi] at h
    refine ⟨h.1, fun hr => ?_, fun hc => ?_⟩
    · have h2 := h.2.1 hr
      have := rc_up hF (j := i) (by omega)
      have hw := hF.w
      rwa [lyD_take (by omega)] at h2
    · have h2 := h.2.2 hc
      have := col_ge hc
      rwa [lyD_take (by omega)] at h2
  rw [Bool.eq_iff_iff]
  refine ⟨fun hf => ?_, (mp j hj).1 s hs⟩
  have hf : (edAt z (sdK (lyD l j) s)).kind = 0 := of_decide_eq_true hf
  refine Classical.byContradiction fun hr => ?_
  have hr : rimB z j s = false := by simpa using hr
  have hrow := (rc_eq hF j).2.2
  rcases (by omega : s = 0 ∨ s = 1 ∨ s = 2 ∨ s = 3) with rfl | rfl | rfl | rfl
  · have h1 : ¬ rowI z j = 0 := of_decide_eq_false hr
    exact (meet_kinds ((mp j hj).2.1 (by omega))).2 hf
  · have h1 : ¬ colI z j = z.wide - 1 := of_decide_eq_false hr
    have h2 := rc_right hF h1
    have h3 := (mp (j + 1) (right_lt hF hj h1)).2.2 (by have := (rc_eq hF j).2.1; omega)
    exact (meet_kinds h3).1 hf
  · have h1 : ¬ rowI z j = z.high - 1 := of_decide_eq_false hr
    have h2 := rc_down hF j
    have h3 := (mp (j + z.wide.toNat) ((down_lt hF hj).2 h1)).2.1 (by omega)
    rw [Nat.add_sub_cancel] at h3
    exact (meet_kinds h3).1 hf
  · have h1 : ¬ colI z j = 0 := of_decide_eq_false hr
    exact (meet_kinds ((mp j hj).2.2 h1)).2 hf
/-- how many of the first sides of a piece are flat -/
def flK (z : Pz) (p : Nat) : Nat → Nat
  | 0 => 0
  | n + 1 => flK z p n + b2n ((edAt z (p, n)).kind = 0)
theorem flK_le (z : Pz) (p : Nat) : ∀ n, flK z p n ≤ n
  | 0 => Nat.le_refl _
  | n + 1 => by
    have := flK_le z p n
    have : b2n ((edAt z (p, n)).kind = 0) ≤ 1 := by unfold b2n; split <;> omega
    show flK z p n + b2n _ ≤ _
    omega
theorem b2n_dec {p : Prop} [Decidable p] {q : Prop} [Decidable q] (h : decide p = decide q) : b2n p = b2n q := b2n_congr (decide_eq_decide.1 h)
theorem flat_edge (hF : PzF z) (hS : SolOk z l) {p : Nat} (hp : p < z.pieces.length) : flK z p 4 = edgeN (cutT z l) (-1) (p : Int) := by
  obtain ⟨j, hj, rfl⟩ := pc_surj hS hp
  rw [edge_sum hF hS hj (by omega)]
  have r := fun s hs => flat_rim hF hS hj (s := s) hs
  have f : ∀ s, b2n ((edAt z (pcN l j, ownS (lyD l j) s)).kind = 0) = b2n (flatB z (lyD l j) s = true) := fun s => b2n_congr (by unfold flatB; rw [decide_eq_true_eq]; rfl)
  have ht := (hS.ly hj).2
  have hsum : flK z (pcN l j) 4 = b2n (flatB z (lyD l j) 0 = true) + b2n (flatB z (lyD l j) 1 = true) + b2n (flatB z (lyD l j) 2 = true) + b2n (flatB z (lyD l j) 3 = true) := by
    rw [← f, ← f, ← f, ← f]
    show ((0 + b2n ((edAt z (pcN l j, 0)).kind = 0)) + b2n ((edAt z (pcN l j, 1)).kind = 0) + b2n ((edAt z (pcN l j, 2)).kind = 0)) + b2n ((edAt z (pcN l j, 3)).kind = 0) = _
    have o : ∀ s, ownS (lyD l j) s = (s + 4 - (lyD l j).2) % 4 := fun _ => rfl
    rw [o, o, o, o]
    rcases (by omega : (lyD l j).2 = 0 ∨ (lyD l j).2 = 1 ∨ (lyD l j).2 = 2 ∨ (lyD l j).2 = 3) with e | e | e | e <;> rw [e] <;> simp only [Nat.reduceAdd, Nat.reduceSub, Nat.reduceMod] <;> omega
  rw [hsum, r 0 (by decide), r 1 (by decide), r 2 (by decide), r 3 (by decide)]
  have g : ∀ (q : Prop) [Decidable q] (k : Nat), b2n ((if q then (-1 : Int) else (k : Int)) = -1) = b2n q := fun q _ k => b2n_congr (by
    split
    · rename_i h; exact ⟨fun _ => h, fun _ => rfl⟩
    · rename_i h; exact ⟨fun e => by omega, fun e => absurd e h⟩)
  rw [g, g, g, g]
  have r0 : b2n (rimB z j 0 = true) = b2n (rowI z j = 0) := b2n_congr decide_eq_true_iff
  have r1 : b2n (rimB z j 1 = true) = b2n (colI z j = z.wide - 1) := b2n_congr decide_eq_true_iff
  have r2 : b2n (rimB z j 2 = true) = b2n (rowI z j = z.high - 1) := b2n_congr decide_eq_true_iff
  have r3 : b2n (rimB z j 3 = true) = b2n (colI z j = 0) := b2n_congr decide_eq_true_iff
  rw [r0, r1, r2, r3]
  omega
end
end Go.Proofs.Ytfceajkofpafpaa
