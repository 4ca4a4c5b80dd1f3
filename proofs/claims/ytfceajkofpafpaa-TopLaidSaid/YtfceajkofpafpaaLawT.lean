/- A solution of a puzzle is a cut whose pieces are cells. No program in sight. -/
import Derived.Test.YtfceajkofpafpaaFW11
import Derived.Test.YtfceajkofpafpaaMetDat
import Derived.Test.YtfceajkofpafpaaCutDat
namespace Go.Proofs.Ytfceajkofpafpaa
open Go Go.Eng
open Go.Proofs.Ytfceajkofpafpaa.Sc (getD_of get_of_lt)
/-! ### what is a solution -/
structure PreOk (z : Pz) (l : List Ly) : Prop where
  pc : ∀ i, i < l.length → (lyD l i).1 < z.pieces.length
  tn : ∀ i, i < l.length → (lyD l i).2 < trnV z (lyD l i).1
  un : ∀ i, i < l.length → usedB (l.take i) (lyD l i).1 = false
  may : ∀ i, i < l.length → mayV z (l.take i) (lyD l i) = true
theorem lyD_lt {l : List Ly} {x : Ly} {i : Nat} (h : i < l.length) : lyD (l ++ [x]) i = lyD l i := by
  unfold lyD
  rw [List.getD_eq_getElem?_getD, List.getD_eq_getElem?_getD, List.getElem?_append_left h]
theorem lyD_eq {l : List Ly} {x : Ly} : lyD (l ++ [x]) l.length = x := by
  unfold lyD
  rw [List.getD_eq_getElem?_getD, List.getElem?_append_right (Nat.le_refl _)]; simp
theorem lyD_take {l : List Ly} {i j : Nat} (h : i < j) : lyD (l.take j) i = lyD l i := by
  unfold lyD
  rw [List.getD_eq_getElem?_getD, List.getD_eq_getElem?_getD, List.getElem?_take, if_pos h]
theorem PreOk.add {z : Pz} {l : List Ly} (h : PreOk z l) {x : Ly} (h1 : x.1 < z.pieces.length) (h2 : x.2 < trnV z x.1) (h3 : usedB l x.1 = false) (h4 : mayV z l x = true) : PreOk z (l ++ [x]) := by
  have key : ∀ (Q : Nat → Ly → List Ly → Prop), (∀ i, i < l.length → Q i (lyD l i) (l.take i)) → Q l.length x l → ∀ i, i < (l ++ [x]).length → Q i (lyD (l ++ [x]) i) ((l ++ [x]).take i) := by
    intro Q hq hx i hi
    rw [List.length_append] at hi
    simp only [List.length_cons, List.length_nil] at hi
    rcases Nat.lt_succ_iff_lt_or_eq.1 hi with h9 | rfl
    · rw [lyD_lt h9, List.take_append_of_le_length (Nat.le_of_lt h9)]; exact hq i h9
    · rw [lyD_eq, List.take_append_of_le_length (Nat.le_refl _), List.take_of_length_le (Nat.le_refl _)]; exact hx
  exact ⟨key (fun _ y _ => y.1 < z.pieces.length) h.pc h1, key (fun _ y _ => y.2 < trnV z y.1) h.tn h2, key (fun _ y t => usedB t y.1 = false) h.un h3, key (fun _ y t => mayV z t y = true) h.may h4⟩
theorem sol_pre_ok {z : Pz} : ∀ (f : Nat) (l : List Ly), l.length + f = z.pieces.length → PreOk z l → ∀ h, h ∈ solG z f l → SolOk z h
  | 0, l, hl, hp, h, hh => by
    rw [show h = l from List.mem_singleton.1 hh]
    have e : l.length = z.pieces.length := by omega
    exact ⟨e, fun i hi => hp.pc i (by omega), fun i hi => hp.tn i (by omega), fun i hi => hp.un i (by omega), fun i hi => hp.may i (by omega)⟩
  | f + 1, l, hl, hp, h, hh => by
    obtain ⟨p, hpn, h1⟩ := List.mem_flatMap.1 hh
    have hpn := List.mem_range.1 hpn
    by_cases hu : usedB l p = true
    · rw [if_pos hu] at h1; cases h1
    · rw [if_neg hu] at h1
      obtain ⟨t, htn, h2⟩ := List.mem_flatMap.1 h1
      have htn := List.mem_range.1 htn
      by_cases hm : mayV z l (p, t) = true
      · rw [if_pos hm] at h2
        exact sol_pre_ok f (l ++ [(p, t)]) (by simp; omega) (hp.add hpn htn (by simpa using hu) hm) h h2
      · rw [if_neg hm] at h2; cases h2
theorem sol_ok {z : Pz} {h : List Ly} (hh : h ∈ solL z) : SolOk z h := sol_pre_ok _ [] (by simp) ⟨fun i hi => by simp at hi, fun i hi => by simp at hi, fun i hi => by simp at hi, fun i hi => by simp at hi⟩ h hh
/-! ### its pieces -/
def pcN (l : List Ly) (i : Nat) : Nat := (lyD l i).1
def cutT (z : Pz) (l : List Ly) : Ct := ⟨z.wide, z.high, l.map fun x => ((x.1 : Nat) : Int)⟩
theorem cutT_len (z : Pz) (l : List Ly) : (cutT z l).piece.length = l.length := List.length_map ..
theorem cutT_at {z : Pz} {l : List Ly} {i : Nat} (h : i < l.length) : (cutT z l).piece.getD i 0 = ((pcN l i : Nat) : Int) := by
  show (l.map _).getD i 0 = _
  rw [List.getD_eq_getElem?_getD, List.getElem?_map, get_of_lt (0, 0) h]; rfl
section
variable {z : Pz} {l : List Ly}
theorem pc_inj (hS : SolOk z l) {i j : Nat} (hi : i < z.pieces.length) (hj : j < z.pieces.length) (e : pcN l i = pcN l j) : i = j := by
  have hl := hS.len
  have key : ∀ i j, i < j → j < z.pieces.length → pcN l i ≠ pcN l j := fun i j h1 h2 e => by
    have := used_ne (hS.un j h2) (i := i) (by rw [List.length_take]; omega)
    rw [lyD_take h1] at this
    exact this e
  rcases Nat.lt_trichotomy i j with h | h | h
  · exact absurd e (key i j h hj)
  · exact h
  · exact absurd e.symm (key j i h hi)
theorem pc_surj (hS : SolOk z l) {p : Nat} (hp : p < z.pieces.length) : ∃ i, i < z.pieces.length ∧ pcN l i = p := by
  refine Classical.byContradiction fun hno => ?_
  have hnd : ∀ n, n ≤ z.pieces.length → ((List.range n).map (pcN l)).Nodup := by
    intro n
    induction n with
    | zero => intro _; exact List.nodup_nil
    | succ n ih =>
      intro hn
      rw [List.range_succ, List.map_append]
      refine List.nodup_append.2 ⟨ih (by omega), by simp, fun x hx y hy e => ?_⟩
      obtain ⟨i, hi, rfl⟩ := List.mem_map.1 hx
      simp at hy
      have hi := List.mem_range.1 hi
      have := pc_inj hS (i := i) (j := n) (by omega) (by omega) (e.trans hy)
      omega
  have := nodup_len (l := p :: (List.range z.pieces.length).map (pcN l)) (m := List.range z.pieces.length) (List.nodup_cons.2 ⟨fun hm => by
    obtain ⟨i, hi, e⟩ := List.mem_map.1 hm
    exact hno ⟨i, List.mem_range.1 hi, e⟩, hnd _ (Nat.le_refl _)⟩) (fun x hx => by
    rcases List.mem_cons.1 hx with rfl | hx
    · exact List.mem_range.2 hp
    · obtain ⟨i, hi, rfl⟩ := List.mem_map.1 hx
      exact List.mem_range.2 (hS.pc i (List.mem_range.1 hi)))
  simp at this
  omega
theorem cutT_F (hF : PzF z) (hS : SolOk z l) : CtF (cutT z l) where
  w1 := hF.w.1
  w2 := by have := hF.w.2; show z.wide ≤ 12; omega
  h1 := hF.h.1
  h2 := by have := hF.h.2; show z.high ≤ 12; omega
  len := by rw [cutT_len, hS.len]; exact hF.nn.symm
  bd := fun k hk => by
    obtain ⟨x, hx, rfl⟩ := List.mem_map.1 hk
    have h1 := (hS.mem x hx).1
    have h2 := hF.n
    omega
theorem cell_at (hF : PzF z) (hS : SolOk z l) {i : Nat} (hi : i < z.pieces.length) : inC (cutT z l) (cellAt (cutT z l) i) ∧ atC (cutT z l) (cellAt (cutT z l) i) = ((pcN l i : Nat) : Int) := by
  have h := cutT_F hF hS
  have hl := hS.len
  have hc := cutT_len z l
  exact ⟨(idx_cell h (by omega)).1, by rw [atC_cell h (by omega), cutT_at (by omega)]⟩
theorem in_cell (hF : PzF z) (hS : SolOk z l) {p : Int × Int} (hp : inC (cutT z l) p) : ∃ i, i < z.pieces.length ∧ cellAt (cutT z l) i = p := by
  have h := cutT_F hF hS
  have hl := hS.len
  have hc := cutT_len z l
  obtain ⟨h1, h2⟩ := cell_idx h hp
  exact ⟨_, by omega, h2⟩
theorem nP_T (hF : PzF z) (hS : SolOk z l) : nP (cutT z l) = z.pieces.length := by
  have h := cutT_F hF hS
  have hl := hS.len
  have hc := cutT_len z l
  have h3 := nP_eq h
  have hn := hF.n
  obtain ⟨k, hk, he⟩ := pc_surj hS (p := z.pieces.length - 1) (by omega)
  have h4 := nP_all h _ (cell_at hF hS hk).1
  rw [(cell_at hF hS hk).2, he] at h4
  obtain ⟨i, hi, h5⟩ := mxK_in (cutT z l).piece ((cutT z l).piece.length - 1)
  rw [cutT_at (by omega)] at h5
  have h6 := hS.pc i (by omega)
  have h7 : ((pcN l i : Nat) : Int) < z.pieces.length := by unfold pcN; omega
  omega
theorem dist_T (hF : PzF z) (hS : SolOk z l) : Dist (cutT z l) := by
  have h := cutT_F hF hS
  have hinj : ∀ p q, inC (cutT z l) p → inC (cutT z l) q → atC (cutT z l) p = atC (cutT z l) q → p = q := fun p q hp hq e => by
    obtain ⟨i, hi, rfl⟩ := in_cell hF hS hp
    obtain ⟨j, hj, rfl⟩ := in_cell hF hS hq
    rw [(cell_at hF hS hi).2, (cell_at hF hS hj).2] at e
    rw [pc_inj hS hi hj (by omega)]
  refine ⟨⟨h, fun k hk => ?_, nP_all h, fun p q hp hq e => by rw [hinj p q hp hq e]; exact .refl⟩, hinj⟩
  rw [nP_T hF hS] at hk
  obtain ⟨i, hi, e⟩ := pc_surj hS hk
  exact ⟨_, (cell_at hF hS hi).1, by rw [(cell_at hF hS hi).2, e]⟩
/-! ### rows and columns -/
theorem rc_eq (hF : PzF z) (j : Nat) : (j : Int) = rowI z j * z.wide + colI z j ∧ (0 ≤ colI z j ∧ colI z j < z.wide) ∧ 0 ≤ rowI z j := by
  have hw := hF.w
  have h1 := Int.mul_ediv_add_emod (j : Int) z.wide
  rw [Int.mul_comm] at h1
  exact ⟨h1.symm, ⟨Int.emod_nonneg _ (by omega), Int.emod_lt_of_pos _ (by omega)⟩, Int.ediv_nonneg (by omega) (by omega)⟩
theorem rc_of (hF : PzF z) {j : Nat} {r q : Int} (e : (j : Int) = r * z.wide + q) (h : 0 ≤ q ∧ q < z.wide) : rowI z j = r ∧ colI z j = q := by
  have hw := hF.w
  unfold rowI colI
  rw [e]
  constructor
  · rw [Int.add_comm, Int.add_mul_ediv_right _ _ (by omega), Int.ediv_eq_zero_of_lt h.1 h.2]; omega
  · rw [Int.add_comm, Int.add_mul_emod_self_right]; exact Int.emod_eq_of_lt h.1 h.2
theorem row_lt (hF : PzF z) {j : Nat} (hj : j < z.pieces.length) : rowI z j < z.high := by
  have hw := hF.w
  have h1 := rc_eq hF j
  have hn := hF.nn
  refine Classical.byContradiction fun hc => ?_
  have h2 : z.high * z.wide ≤ rowI z j * z.wide := Int.mul_le_mul_of_nonneg_right (by omega) (by omega)
  rw [Int.mul_comm] at h2
  omega
theorem down_lt (hF : PzF z) {j : Nat} (hj : j < z.pieces.length) : j + z.wide.toNat < z.pieces.length ↔ rowI z j ≠ z.high - 1 := by
  have hw := hF.w
  have h1 := rc_eq hF j
  have hn := hF.nn
  have hr := row_lt hF hj
  have hm : (z.high - 1) * z.wide = z.wide * z.high - z.wide := by rw [Int.sub_mul, Int.one_mul, Int.mul_comm]
  have hm2 : (z.high - 2) * z.wide = z.wide * z.high - 2 * z.wide := by rw [Int.sub_mul, Int.mul_comm z.high]
  constructor
  · intro h e
    rw [e, hm] at h1
    omega
  · intro h
    have h2 : rowI z j * z.wide ≤ (z.high - 2) * z.wide := Int.mul_le_mul_of_nonneg_right (by omega) (by omega)
    rw [hm2] at h2
    omega
theorem right_lt (hF : PzF z) {j : Nat} (hj : j < z.pieces.length) (h : colI z j ≠ z.wide - 1) : j + 1 < z.pieces.length := by
  have hw := hF.w
  have h1 := rc_eq hF j
  have hn := hF.nn
  have hr := row_lt hF hj
  have hm : (z.high - 1) * z.wide = z.wide * z.high - z.wide := by rw [Int.sub_mul, Int.one_mul, Int.mul_comm]
  have h2 : rowI z j * z.wide ≤ (z.high - 1) * z.wide := Int.mul_le_mul_of_nonneg_right (by omega) (by omega)
  rw [hm] at h2
  omega
theorem rc_right (hF : PzF z) {j : Nat} (h : colI z j ≠ z.wide - 1) : rowI z (j + 1) = rowI z j ∧ colI z (j + 1) = colI z j + 1 := by
  have h1 := rc_eq hF j
  exact rc_of hF (by omega) (by omega)
theorem rc_left (hF : PzF z) {j : Nat} (h : colI z j ≠ 0) : 1 ≤ j ∧ rowI z (j - 1) = rowI z j ∧ colI z (j - 1) = colI z j - 1 := by
  have h1 := rc_eq hF j
  have hj : 1 ≤ j := col_ge h
  exact ⟨hj, rc_of hF (by omega) (by omega)⟩
theorem rc_down (hF : PzF z) (j : Nat) : rowI z (j + z.wide.toNat) = rowI z j + 1 ∧ colI z (j + z.wide.toNat) = colI z j := by
  have hw := hF.w
  have h1 := rc_eq hF j
  have hm : (rowI z j + 1) * z.wide = rowI z j * z.wide + z.wide := by rw [Int.add_mul, Int.one_mul]
  exact rc_of hF (by rw [hm]; omega) (by omega)
theorem rc_up (hF : PzF z) {j : Nat} (h : rowI z j ≠ 0) : z.wide.toNat ≤ j ∧ rowI z (j - z.wide.toNat) = rowI z j - 1 ∧ colI z (j - z.wide.toNat) = colI z j := by
  have hw := hF.w
  have h1 := rc_eq hF j
  have hg := row_ge hF (n := j) (by omega)
  have hm : (rowI z j - 1) * z.wide = rowI z j * z.wide - z.wide := by rw [Int.sub_mul, Int.one_mul]
  exact ⟨by omega, rc_of hF (by rw [hm]; omega) (by omega)⟩
theorem at_rc (hF : PzF z) (hS : SolOk z l) {i : Nat} (hi : i < z.pieces.length) {x y : Int} (hx : x = colI z i) (hy : y = rowI z i) : atC (cutT z l) (x, y) = ((pcN l i : Nat) : Int) := by
  subst hx
  subst hy
  exact (cell_at hF hS hi).2
theorem at_out {c : Ct} {p : Int × Int} (h : ¬ inC c p) : atC c p = -1 := if_neg h
/-! ### neighbours -/
def adjR (z : Pz) (j i : Nat) : Prop := colI z j ≠ z.wide - 1 ∧ i = j + 1
def adjD (z : Pz) (j i : Nat) : Prop := i = j + z.wide.toNat
instance (z : Pz) (j i : Nat) : Decidable (adjR z j i) := by unfold adjR; exact inferInstance
instance (z : Pz) (j i : Nat) : Decidable (adjD z j i) := by unfold adjD; exact inferInstance
def b2n (p : Prop) [Decidable p] : Nat := if p then 1 else 0
theorem b2n_congr {p q : Prop} [Decidable p] [Decidable q] (h : p ↔ q) : b2n p = b2n q := by
  unfold b2n
  by_cases hp : p
  · rw [if_pos hp, if_pos (h.1 hp)]
  · rw [if_neg hp, if_neg (fun k => hp (h.2 k))]
theorem nb_R (hF : PzF z) (hS : SolOk z l) {j : Nat} (hj : j < z.pieces.length) : atC (cutT z l) (nb (cellAt (cutT z l) j) 1) = if colI z j = z.wide - 1 then -1 else ((pcN l (j + 1) : Nat) : Int) := by
  have h1 := rc_eq hF j
  show atC (cutT z l) (colI z j + 1, rowI z j + 0) = _
  split
  · rename_i h
    exact at_out fun hc => by have h2 : colI z j + 1 < z.wide := hc.2.1; omega
  · rename_i h
    exact at_rc hF hS (right_lt hF hj h) (rc_right hF h).2.symm (by rw [(rc_right hF h).1]; omega)
theorem nb_L (hF : PzF z) (hS : SolOk z l) {j : Nat} (hj : j < z.pieces.length) : atC (cutT z l) (nb (cellAt (cutT z l) j) 0) = if colI z j = 0 then -1 else ((pcN l (j - 1) : Nat) : Int) := by
  have h1 := rc_eq hF j
  show atC (cutT z l) (colI z j + -1, rowI z j + 0) = _
  split
  · rename_i h
    exact at_out fun hc => by have h2 : 0 ≤ colI z j + -1 := hc.1; omega
  · rename_i h
    obtain ⟨a, b, c⟩ := rc_left hF h
    exact at_rc hF hS (by omega) (by rw [c]; omega) (by rw [b]; omega)
theorem nb_U (hF : PzF z) (hS : SolOk z l) {j : Nat} (hj : j < z.pieces.length) : atC (cutT z l) (nb (cellAt (cutT z l) j) 2) = if rowI z j = 0 then -1 else ((pcN l (j - z.wide.toNat) : Nat) : Int) := by
  have h1 := rc_eq hF j
  show atC (cutT z l) (colI z j + 0, rowI z j + -1) = _
  split
  · rename_i h
    exact at_out fun hc => by have h2 : 0 ≤ rowI z j + -1 := hc.2.2.1; omega
  · rename_i h
    obtain ⟨a, b, c⟩ := rc_up hF h
    exact at_rc hF hS (by omega) (by rw [c]; omega) (by rw [b]; omega)
theorem nb_D (hF : PzF z) (hS : SolOk z l) {j : Nat} (hj : j < z.pieces.length) : atC (cutT z l) (nb (cellAt (cutT z l) j) 3) = if rowI z j = z.high - 1 then -1 else ((pcN l (j + z.wide.toNat) : Nat) : Int) := by
  have h1 := rc_eq hF j
  show atC (cutT z l) (colI z j + 0, rowI z j + 1) = _
  split
  · rename_i h
    exact at_out fun hc => by have h2 : rowI z j + 1 < z.high := hc.2.2.2; omega
  · rename_i h
    exact at_rc hF hS ((down_lt hF hj).2 h) (by rw [(rc_down hF j).2]; omega) (by rw [(rc_down hF j).1])
/-! ### edges -/
theorem sum_single {n j : Nat} {f : Nat → Nat} (hj : j < n) (h : ∀ i, i < n → i ≠ j → f i = 0) : ((List.range n).map f).sum = f j := by
  have key : ∀ m, m ≤ n → ((List.range m).map f).sum = if j < m then f j else 0 := by
    intro m
    induction m with
    | zero => intro _; rfl
    | succ m ih =>
      intro hm
      rw [List.range_succ, List.map_append, List.sum_append_nat, ih (by omega)]
      simp only [List.map_cons, List.map_nil, List.sum_cons, List.sum_nil]
      rcases Nat.lt_trichotomy j m with h1 | h1 | h1
      · rw [if_pos h1, if_pos (by omega), h m (by omega) (by omega)]; omega
      · rw [if_neg (by omega), if_pos (by omega), h1]; omega
      · rw [if_neg (by omega), if_neg (by omega), h m (by omega) (by omega)]; rfl
  rw [key n (Nat.le_refl _), if_pos hj]
theorem edge_e4 (hF : PzF z) (hS : SolOk z l) {j : Nat} (hj : j < z.pieces.length) (a : Int) : edgeN (cutT z l) a (pcN l j : Nat) = e4 (cutT z l) (cellAt (cutT z l) j) 4 a (pcN l j : Nat) := by
  have hl := hS.len
  have hc := cutT_len z l
  unfold edgeN eS
  refine sum_single (f := fun i => e4 (cutT z l) (cellAt (cutT z l) i) 4 a (pcN l j : Nat)) (by omega) (fun i hi hne => ?_)
  have h1 : ¬ atC (cutT z l) (cellAt (cutT z l) i) = ((pcN l j : Nat) : Int) := fun e => by
    rw [(cell_at hF hS (by omega)).2] at e
    exact hne (pc_inj hS (by omega) hj (by omega))
  have h2 : ∀ k, e1 (cutT z l) (cellAt (cutT z l) i) k a (pcN l j : Nat) = 0 := fun k => if_neg fun h => h1 h.2.1
  show ((0 + e1 _ _ 0 a _) + e1 _ _ 1 a _ + e1 _ _ 2 a _) + e1 _ _ 3 a _ = 0
  rw [h2, h2, h2, h2]
theorem e1_b2n (hF : PzF z) (hS : SolOk z l) {j : Nat} (hj : j < z.pieces.length) {a : Int} (ha : a ≠ (pcN l j : Nat)) (k : Nat) : e1 (cutT z l) (cellAt (cutT z l) j) k a (pcN l j : Nat) = b2n (atC (cutT z l) (nb (cellAt (cutT z l) j) k) = a) := by
  unfold e1 b2n
  by_cases h : atC (cutT z l) (nb (cellAt (cutT z l) j) k) = a
  · rw [if_pos h, if_pos ⟨h, (cell_at hF hS hj).2, ha⟩]
  · rw [if_neg h, if_neg (fun h2 => h h2.1)]
theorem edge_sum (hF : PzF z) (hS : SolOk z l) {j : Nat} (hj : j < z.pieces.length) {a : Int} (ha : a ≠ (pcN l j : Nat)) : edgeN (cutT z l) a (pcN l j : Nat) = b2n ((if colI z j = 0 then -1 else ((pcN l (j - 1) : Nat) : Int)) = a) + b2n ((if colI z j = z.wide - 1 then -1 else ((pcN l (j + 1) : Nat) : Int)) = a) + b2n ((if rowI z j = 0 then -1 else ((pcN l (j - z.wide.toNat) : Nat) : Int)) = a) + b2n ((if rowI z j = z.high - 1 then -1 else ((pcN l (j + z.wide.toNat) : Nat) : Int)) = a) := by
  rw [edge_e4 hF hS hj]
  show ((0 + e1 _ _ 0 a _) + e1 _ _ 1 a _ + e1 _ _ 2 a _) + e1 _ _ 3 a _ = _
  rw [e1_b2n hF hS hj ha, e1_b2n hF hS hj ha, e1_b2n hF hS hj ha, e1_b2n hF hS hj ha, nb_L hF hS hj, nb_R hF hS hj, nb_U hF hS hj, nb_D hF hS hj, Nat.zero_add]
theorem edge_adj (hF : PzF z) (hS : SolOk z l) {i j : Nat} (hi : i < z.pieces.length) (hj : j < z.pieces.length) (hne : i ≠ j) : edgeN (cutT z l) (pcN l i : Nat) (pcN l j : Nat) = b2n (adjR z i j) + b2n (adjR z j i) + b2n (adjD z i j) + b2n (adjD z j i) := by
  have ha : ((pcN l i : Nat) : Int) ≠ (pcN l j : Nat) := fun e => hne (pc_inj hS hi hj (by omega))
  have hw := hF.w
  rw [edge_sum hF hS hj ha]
  refine congr (congrArg _ (congr (congrArg _ (congr (congrArg _ (b2n_congr ?_)) (b2n_congr ?_))) (b2n_congr ?_))) (b2n_congr ?_)
  · unfold adjR
    have h1 := rc_eq hF i
    split
    · rename_i h
      constructor
      · intro e; omega
      · rintro ⟨h2, rfl⟩
        have := (rc_right hF h2).2
        omega
    · rename_i h
      obtain ⟨a, b, c⟩ := rc_left hF h
      have h3 := rc_eq hF j
      constructor
      · intro e
        have := pc_inj hS (i := j - 1) (j := i) (by omega) hi (by omega)
        subst this
        exact ⟨by rw [c]; omega, by omega⟩
      · rintro ⟨h2, rfl⟩
        rfl
  · unfold adjR
    split
    · rename_i h
      exact ⟨fun e => by omega, fun h2 => absurd h h2.1⟩
    · rename_i h
      have hr := right_lt hF hj h
      constructor
      · intro e; exact ⟨h, (pc_inj hS hr hi (by omega)).symm⟩
      · rintro ⟨_, rfl⟩; rfl
  · unfold adjD
    split
    · rename_i h
      constructor
      · intro e; omega
      · rintro rfl
        have := (rc_down hF i).1
        have := (rc_eq hF i).2.2
        omega
    · rename_i h
      obtain ⟨a, b, c⟩ := rc_up hF h
      constructor
      · intro e
        have := pc_inj hS (i := j - z.wide.toNat) (j := i) (by omega) hi (by omega)
        omega
      · rintro rfl
        rw [Nat.add_sub_cancel]
  · unfold adjD
    split
    · rename_i h
      constructor
      · intro e; omega
      · rintro rfl
        exact absurd h ((down_lt hF hj).1 hi)
    · rename_i h
      have hd := (down_lt hF hj).2 h
      constructor
      · intro e; exact (pc_inj hS hd hi (by omega)).symm
      · rintro rfl; rfl
end
end Go.Proofs.Ytfceajkofpafpaa
