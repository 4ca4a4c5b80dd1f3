/- Merged by merge.py: LawE, LawG, Walk24, LawP, LawQ, Walk25, LawH, Walk26, Walk27. -/
import Derived.Test.YtpijahglojichaaDoorWalk23
import Derived.Test.YtpijahglojichaaDoorLawC
import Derived.Test.YtpijahglojichaaDoorWalk10
import Derived.Test.YtpijahglojichaaDoorLawM
import Derived.Test.YtpijahglojichaaDoorWalk12
/- All orders, one after another: which there are, and how they follow. -/
namespace Go.Proofs.YtpijahglojichaaDoor
open Go.Eng
theorem cmpL_app : ∀ (b s t : List Int), cmpL (b ++ s) (b ++ t) = cmpL s t
  | [], _, _ => rfl
  | x :: b, s, t => by
    show (if x < x then -1 else if x < x then 1 else cmpL (b ++ s) (b ++ t)) = _
    rw [if_neg (Int.lt_irrefl _), if_neg (Int.lt_irrefl _), cmpL_app b s t]
theorem exO_mem {n : Nat} : ∀ (r : Nat) (b : List Int), b.Nodup → ∀ o, o ∈ exO n r b ↔ ∃ s : List Int, o = b ++ s ∧ s.length = r ∧ (b ++ s).Nodup ∧ ∀ x, x ∈ s → 0 ≤ x ∧ x < (n : Int)
  | 0, b, hb, o => by
    constructor
    · intro h
      have h : o = b := by simpa [exO] using h
      exact ⟨[], by simp [h], rfl, by simpa using hb, fun _ h => by cases h⟩
    · rintro ⟨s, h1, h2, _, _⟩
      have := List.eq_nil_of_length_eq_zero h2
      subst this
      simp [exO, h1]
  | r + 1, b, hb, o => by
    constructor
    · intro h
      obtain ⟨k, hk, h⟩ := List.mem_flatMap.1 h
      by_cases hin : (k : Int) ∈ b
      · rw [if_pos hin] at h; cases h
      · rw [if_neg hin] at h
        have hnd : (b ++ [(k : Int)]).Nodup := by
          rw [List.nodup_append]
          exact ⟨hb, by simp, fun x hx y hy e => by simp at hy; subst hy; subst e; exact hin hx⟩
        obtain ⟨s, h1, h2, h3, h4⟩ := (exO_mem r _ hnd o).1 h
        refine ⟨(k : Int) :: s, by rw [h1]; simp, by simp [h2], by simpa using h3, fun x hx => ?_⟩
        rcases List.mem_cons.1 hx with rfl | hx
        · have := List.mem_range.1 hk; omega
        · exact h4 x hx
    · rintro ⟨s, h1, h2, h3, h4⟩
      cases s with
      | nil => simp at h2
      | cons x s =>
        have hx := h4 x (List.mem_cons_self ..)
        obtain ⟨k, rfl⟩ : ∃ k : Nat, x = (k : Int) := ⟨x.toNat, by omega⟩
        have hin : ¬ (k : Int) ∈ b := fun hin => by
          rw [List.nodup_append] at h3
          exact h3.2.2 _ hin _ (List.mem_cons_self ..) rfl
        have e : b ++ (k : Int) :: s = b ++ [(k : Int)] ++ s := by simp
        have hnd : (b ++ [(k : Int)]).Nodup := by
          rw [e] at h3
          exact h3.sublist (List.sublist_append_left _ _)
        refine List.mem_flatMap.2 ⟨k, List.mem_range.2 (by omega), ?_⟩
        rw [if_neg hin]
        exact (exO_mem r _ hnd o).2 ⟨s, by rw [h1, e], by simpa using h2, by rw [← e]; exact h3, fun y hy => h4 y (List.mem_cons_of_mem _ hy)⟩
theorem exO_sorted {n : Nat} : ∀ (r : Nat) (b : List Int), b.Nodup → (exO n r b).Pairwise fun x y => cmpL x y < 0
  | 0, _, _ => List.pairwise_singleton ..
  | r + 1, b, hb => by
    have hnd : ∀ k : Nat, ¬ (k : Int) ∈ b → (b ++ [(k : Int)]).Nodup := fun k hin => by
      rw [List.nodup_append]
      exact ⟨hb, by simp, fun x hx y hy e => by simp at hy; subst hy; subst e; exact hin hx⟩
    have key : ∀ j, (exK n r b j).Pairwise (fun x y => cmpL x y < 0) ∧ ∀ o, o ∈ exK n r b j → ∃ (k : Nat) (s : List Int), k < j ∧ o = b ++ (k : Int) :: s := fun j => by
      induction j with
      | zero => exact ⟨by simp [exK], fun o h => by simp [exK] at h⟩
      | succ j ih =>
        rw [exK_succ]
        by_cases hin : (j : Int) ∈ b
        · rw [if_pos hin, List.append_nil]
          exact ⟨ih.1, fun o h => by obtain ⟨k, s, h1, h2⟩ := ih.2 o h; exact ⟨k, s, by omega, h2⟩⟩
        · rw [if_neg hin]
          have hm : ∀ o, o ∈ exO n r (b ++ [(j : Int)]) → ∃ s : List Int, o = b ++ (j : Int) :: s := fun o h => by
            obtain ⟨s, h1, _⟩ := (exO_mem r _ (hnd j hin) o).1 h
            exact ⟨s, by rw [h1]; simp⟩
          refine ⟨List.pairwise_append.2 ⟨ih.1, exO_sorted r _ (hnd j hin), fun x hx y hy => ?_⟩, fun o h => ?_⟩
          · obtain ⟨k, s, h1, rfl⟩ := ih.2 x hx
            obtain ⟨s2, rfl⟩ := hm y hy
            rw [cmpL_app]
            show (if (k : Int) < (j : Int) then (-1 : Int) else _) < 0
            rw [if_pos (by omega)]; decide
          · rcases List.mem_append.1 h with h | h
            · obtain ⟨k, s, h1, h2⟩ := ih.2 o h; exact ⟨k, s, by omega, h2⟩
            · obtain ⟨s, h1⟩ := hm o h; exact ⟨j, s, by omega, h1⟩
    rw [← exK_all]
    exact (key n).1
theorem rngI_nodup (n : Nat) : (rngI n).Nodup := by unfold rngI; exact List.Pairwise.map _ (fun a b h e => h (by omega)) List.nodup_range
theorem ord_exO {n : Nat} {o : List Int} : o ∈ exO n n [] ↔ ordB o n = true := by
  rw [exO_mem n [] List.nodup_nil, ordB_iff]
  constructor
  · rintro ⟨s, h1, h2, h3, h4⟩
    simp at h1 h3
    subst h1
    refine perm_rngI n o (fun k hk => ?_) h2
    have hin : (k : Int) ∈ o := Classical.byContradiction fun hno => by
      have hnat : ((k :: o.map Int.toNat) : List Nat).Nodup := by
        rw [List.nodup_cons]
        refine ⟨fun hm => ?_, ?_⟩
        · obtain ⟨x, hx, e⟩ := List.mem_map.1 hm
          have := h4 x hx
          exact hno (by rw [show (k : Int) = x by omega]; exact hx)
        · refine List.pairwise_map.2 (List.Pairwise.imp_of_mem (fun {a b} ha hb hne e => hne ?_) h3)
          have := h4 a ha
          have := h4 b hb
          omega
      have := nodup_lt n _ hnat fun x hx => by
        rcases List.mem_cons.1 hx with rfl | hx
        · exact hk
        · obtain ⟨y, hy, rfl⟩ := List.mem_map.1 hx
          have := h4 y hy
          omega
      rw [List.length_cons, List.length_map] at this
      omega
    rw [h3.count, if_pos hin]
  · intro h
    exact ⟨o, rfl, by rw [h.length_eq, rngI_len], by simpa using h.nodup_iff.2 (rngI_nodup n), fun x hx => mem_rngI.1 (h.mem_iff.1 hx)⟩
end Go.Proofs.YtpijahglojichaaDoor

/- The document's choice among all orders. -/
namespace Go.Proofs.YtpijahglojichaaDoor
open Go.Eng
def longO (o : List Int) : Int := longN (getN o) o.length o.length
theorem longN_le {g : Nat → Nat} {n : Nat} {c : Int} (hc : 0 ≤ c) : ∀ k, (∀ i, i < k → ((per g n i : Nat) : Int) ≤ c) → longN g n k ≤ c
  | 0, _ => hc
  | k + 1, h => by
    have h1 := longN_le hc k fun i hi => h i (by omega)
    have h2 := h k (by omega)
    unfold longN; omega
theorem long_le {n : Nat} {o : List Int} (ho : ordB o n = true) : longO o ≤ (n : Int) := by
  have hl := ord_len ho
  rw [← hl] at ho
  have hp := ord_pm ho
  unfold longO
  rw [← hl]
  exact longN_le (by omega) _ fun i hi => by have := (hp.perF hi).le; omega
theorem long_id (n : Nat) : longO (rngI n) ≤ 1 := by
  have ho : ordB (rngI n) (rngI n).length = true := by rw [rngI_len]; exact ord_id n
  have hp := ord_pm ho
  unfold longO
  refine longN_le (by decide) _ fun i hi => ?_
  have hF := hp.perF hi
  have hfix : getN (rngI n) i = i := getN_id (by rw [rngI_len] at hi; exact hi)
  have : ¬ 1 < per (getN (rngI n)) (rngI n).length i := fun h => hF.first 1 (Nat.le_refl _) h hfix
  omega
def passB (m : Mt) (long : Int) (o : List Int) : Bool := decide (fairI m o < 0) && decide (longO o ≤ long)
structure Sel (m : Mt) (long : Int) (L : List (List Int)) (i : Nat) (k : Int) : Prop where
  no : k < 0 → k = -1 ∧ ∀ j, j < i → passB m long (L.getD j []) = false
  yes : 0 ≤ k → k.toNat < i ∧ passB m long (L.getD k.toNat []) = true ∧ (∀ j, j < i → passB m long (L.getD j []) = true → worthL m (L.getD j []) ≤ worthL m (L.getD k.toNat [])) ∧ ∀ j, j < k.toNat → passB m long (L.getD j []) = true → worthL m (L.getD j []) < worthL m (L.getD k.toNat [])
def takeB (m : Mt) (long : Int) (L : List (List Int)) (i : Nat) (k : Int) : Bool := passB m long (L.getD i []) && (decide (k < 0) || decide (worthL m (L.getD k.toNat []) < worthL m (L.getD i [])))
theorem Sel.zero (m : Mt) (long : Int) (L : List (List Int)) : Sel m long L 0 (-1) := ⟨fun _ => ⟨rfl, fun j h => absurd h (Nat.not_lt_zero j)⟩, fun h => absurd h (by decide)⟩
theorem Sel.take {m : Mt} {long : Int} {L : List (List Int)} {i : Nat} {k : Int} (h : Sel m long L i k) (ht : takeB m long L i k = true) : Sel m long L (i + 1) (i : Int) := by
  unfold takeB at ht
  rw [Bool.and_eq_true, Bool.or_eq_true, decide_eq_true_eq, decide_eq_true_eq] at ht
  refine ⟨fun hk => absurd hk (by omega), fun _ => ?_⟩
  rw [Int.toNat_natCast]
  have hlt : ∀ j, j < i → passB m long (L.getD j []) = true → worthL m (L.getD j []) < worthL m (L.getD i []) := fun j hj hp => by
    rcases Int.lt_or_le k 0 with hk | hk
    · have := (h.no hk).2 j hj; rw [hp] at this; cases this
    · have h1 := (h.yes hk).2.2.1 j hj hp
      rcases ht.2 with h2 | h2 <;> omega
  refine ⟨by omega, ht.1, fun j hj hp => ?_, hlt⟩
  rcases Nat.lt_or_ge j i with hj2 | hj2
  · exact Int.le_of_lt (hlt j hj2 hp)
  · have : j = i := by omega
    rw [this]; exact Int.le_refl _
theorem Sel.keep {m : Mt} {long : Int} {L : List (List Int)} {i : Nat} {k : Int} (h : Sel m long L i k) (ht : takeB m long L i k = false) : Sel m long L (i + 1) k := by
  unfold takeB at ht
  refine ⟨fun hk => ⟨(h.no hk).1, fun j hj => ?_⟩, fun hk => ?_⟩
  · rcases Nat.lt_or_ge j i with hj2 | hj2
    · exact (h.no hk).2 j hj2
    · have : j = i := by omega
      subst this
      rw [decide_eq_true hk, Bool.true_or, Bool.and_true] at ht; exact ht
  · obtain ⟨h1, h2, h3, h4⟩ := h.yes hk
    refine ⟨by omega, h2, fun j hj hp => ?_, h4⟩
    rcases Nat.lt_or_ge j i with hj2 | hj2
    · exact h3 j hj2 hp
    · have : j = i := by omega
      subst this
      rw [hp, Bool.true_and, Bool.or_eq_false_iff, decide_eq_false_iff_not, decide_eq_false_iff_not] at ht
      omega
/-- the best of those whose rings are short enough -/
structure RefF (m : Mt) (long : Int) (o : List Int) : Prop where
  ord : ordB o m.length = true
  fair : fairI m o < 0
  short : longO o ≤ long
  top : ∀ e, ordB e m.length = true → fairI m e < 0 → longO e ≤ long → Geq ⟨o, worthL m o⟩ ⟨e, worthL m e⟩
theorem Sel.done {m : Mt} {long : Int} (h1 : 1 ≤ long) {k : Int} (h : Sel m long (exO m.length m.length []) (exO m.length m.length []).length k) : 0 ≤ k ∧ k.toNat < (exO m.length m.length []).length ∧ RefF m long ((exO m.length m.length []).getD k.toNat []) := by
  have hs := exO_sorted (n := m.length) m.length [] List.nodup_nil
  have hmem : ∀ o, o ∈ exO m.length m.length [] ↔ ordB o m.length = true := fun o => ord_exO
  generalize exO m.length m.length [] = L at *
  have hidx : ∀ o, ordB o m.length = true → ∃ j, j < L.length ∧ L.getD j [] = o := fun o ho => by
    obtain ⟨j, hj, e⟩ := List.mem_iff_getElem.1 ((hmem o).2 ho)
    exact ⟨j, hj, by rw [getD_of (List.getElem?_eq_getElem hj)]; exact e⟩
  have hk : 0 ≤ k := by
    apply Classical.byContradiction
    intro hk
    obtain ⟨j, hj, e⟩ := hidx _ (ord_id m.length)
    have := (h.no (by omega)).2 j hj
    rw [e] at this
    unfold passB at this
    rw [decide_eq_true (fair_id m), decide_eq_true (Int.le_trans (long_id m.length) h1)] at this
    cases this
  obtain ⟨h2, h3, h4, h5⟩ := h.yes hk
  have h3' := h3
  unfold passB at h3'
  rw [Bool.and_eq_true, decide_eq_true_eq, decide_eq_true_eq] at h3'
  refine ⟨hk, h2, ⟨(hmem _).1 (getD_mem h2), h3'.1, h3'.2, fun e he hf hl => ?_⟩⟩
  obtain ⟨j, hj, rfl⟩ := hidx e he
  have hp : passB m long (L.getD j []) = true := by unfold passB; rw [decide_eq_true hf, decide_eq_true hl]; rfl
  have h6 := h4 j hj hp
  rcases Int.lt_or_eq_of_le h6 with h7 | h7
  · exact .inr ((better_iff _ _).2 (.inl h7))
  · rcases Nat.lt_trichotomy j k.toNat with h8 | h8 | h8
    · have := h5 j h8 hp; omega
    · rw [h8]; exact .inl rfl
    · refine .inr ((better_iff _ _).2 (.inr ⟨h7.symm, ?_⟩))
      have := List.pairwise_iff_getElem.1 hs k.toNat j h2 hj h8
      dsimp only
      rw [getD_of (List.getElem?_eq_getElem h2), getD_of (List.getElem?_eq_getElem hj)]
      exact this
theorem ref_best {m : Mt} (hm : MkF m) {o : List Int} (h : RefF m 7 o) : o = (bestX m).gets ∧ worthL m o = (bestX m).worth := by
  have hB : BestF m ⟨o, worthL m o⟩ := ⟨h.ord, h.fair, rfl, fun e he hf => h.top e he hf (Int.le_trans (long_le he) (by have := hm.n7; omega))⟩
  have := hB.unique (bestX_F hm)
  rw [← this]; exact ⟨rfl, rfl⟩
end Go.Proofs.YtpijahglojichaaDoor

/- The walk of the document's best exchange. -/
namespace Go.Proofs.YtpijahglojichaaDoor
open Go Go.Eng Go.RowKit Go.Proofs
set_option maxRecDepth 100000
abbrev ivD : (Option Addr × Nat) × List Int := ((none, 0), [])

theorem best54 (w : World) (z : MA) (m : Mt) (hz : MtA 0 w z m) (hm : MkF m) (long : Int) (hlong : 1 ≤ long) : Calls Tryd.prog 54 #[.agg (mV z m).toArray, .int .i64 long] w fun e w' => ∃ r : (Option Addr × Nat) × List Int, e = .returned (.tuple #[.slice r.1.1 r.2.length r.1.2, .int .i64 (worthL m r.2)]) ∧ Below w.heap.size w w' ∧ RowsA iRow 1 w.heap.size w' r.1.1 r.2 ∧ RefF m long r.2 := by
  have hn7 := hm.n7
  have hlen := hz.len
  have hcap : ([] : Iv).length + 8 ^ m.length ≤ 10000000 := by
    have := Nat.pow_le_pow_right (n := 8) (by decide) hn7
    simp; omega
  refine calls_of_SC (args := [.agg (mV z m).toArray, .int .i64 long]) Tryd.func54 rfl Tryd.ntmps54 rfl ?_
  simp only [argL, Nat.zero_add]
  refine sc_seq ?_
  refine sc_region ?_
  refine sq_box RF rfl (fun b2 => ?_)
  refine qs (y_assign RF) ?_
  refine qs (y_assign RF) ?_
  refine sq_nil ?_
  refine sx_then ?_
  refine sc_seq ?_
  refine sc_nil_own 25 1 ?_
  refine sc_set0 (fun wS0 => ?_)
  refine sc_region ?_
  refine qs FA24_22 ?_
  refine qs LD22 ?_
  refine qs (y_len Tryd.underlying22 RF) ?_
  refine sq_call_fr (first := []) (caps := []) (vs := [.int .i64 (m.length : Int), .slice none 0 0, .slice none 0 0]) (rs1 := .own (.slice none 0 0) 25 1 0 [] :: .set (fun _ => False) wS0 :: .reg 0 w :: []) (Z := ExS) (fun q => q.v) (fun q => .own q.v 25 1 q.iv.length (q.iv.map slV) :: .set q.D q.w :: .reg 0 w :: []) (fun q => ExOk (exO m.length m.length []) [] (fun _ => False) wS0 q) RF Tryd.call81 E3 (by repeat (first | exact Rems.nil | apply Rems.cons (by repeat (first | exact Rem.here | apply Rem.there)))) (fun w1 hw1 => (exAll w hn7 m.length [] 0 none 0 (.slice none 0 0) [] (fun _ => False) wS0 _ w1 rfl (by omega) hcap rfl ⟨fun i x h => by simp at h, by simp⟩ (fun x hx => by cases hx) hw1).mono (fun e w' h => h)) rfl (fun q hq => ?_)
  obtain ⟨v6, iv, Dq, wq⟩ := q
  obtain ⟨hv61, hls, hgq, hIq⟩ := hq
  have hL : iv.map (·.2) = (exO m.length m.length []) := by simpa using hls
  refine sq_own_dest (v := v6) (e := 25) (sz := 1) (m := iv.length) (xs := iv.map slV) MM (fun a6 c6 hv6 hmc6 hn6 => ?_)
  subst hv6
  refine qs (y_assign RF) ?_
  refine sq_nil ?_
  refine sx_then ?_
  refine sc_seq ?_
  have hlx : iv.length = (exO m.length m.length []).length := by rw [← hL, List.length_map]
  have hil : iv.length ≤ 10000000 := by
    have h1 := exO_len hn7 m.length []
    simp at hcap
    omega
  refine sc_region ?_
  refine qs (y_assign RF) ?_
  refine sq_nil ?_
  refine sx_then ?_
  refine sc_seq ?_
  refine sc_seq ?_
  refine sc_region ?_
  refine qs (y_assign RF) ?_
  refine sq_nil ?_
  refine sx_then ?_
  refine sc_block ?_
  refine sc_loop (σ := Nat × Int)
    (fun s_ => [(1, .int .i64 long), (2, .pointer (some ⟨b2, 0, none⟩)), (6, .slice a6 iv.length c6), (7, .int .i64 s_.2), (8, .int .i64 s_.1)])
    (fun s_ => [.own (.slice a6 iv.length c6) 25 1 iv.length (iv.map slV), .set Dq wq, .blk b2 (.cells (mV z m).toArray 24 (0, 0)), .reg 0 w])
    (fun s_ => s_.1 ≤ iv.length ∧ Sel m long (exO m.length m.length []) s_.1 s_.2)
    (fun s_ => iv.length - s_.1)
    ((0, -1)) ?_ SU SR ?_
  · exact ⟨Nat.zero_le _, Sel.zero _ _ _⟩
  rintro ⟨i, at_⟩ ⟨hi, hsel⟩
  dsimp only at hi hsel ⊢
  refine sc_seq ?_
  refine sc_seq ?_
  refine sc_region ?_
  refine qs (y_move RF) ?_
  refine qs (y_move RF) ?_
  refine qs (y_len Tryd.underlying22 RF) ?_
  refine qs (y_lss RF RF) ?_
  refine sq_nil ?_
  refine sx_then ?_
  refine scp (fun hc0 => ?_) (fun hc0 => ?_)
  ·
    have hi' : i < iv.length := by omega
    have hqi : iv[i]? = some (iv.getD i ivD) := get_of_lt ivD hi'
    have hmi := List.mem_of_getElem? hqi
    have hrowi : RowsS iRow 1 Dq wq (iv.getD i ivD).1.1 (iv.getD i ivD).2 := hIq _ hmi
    have hLi : (exO m.length m.length []).getD i [] = (iv.getD i ivD).2 := (by rw [← hL]; exact getD_of (by rw [List.getElem?_map, hqi]; rfl))
    have hori : ordB (iv.getD i ivD).2 m.length = true := ord_exO.1 (by rw [← hL]; exact List.mem_map.2 ⟨_, hmi, rfl⟩)
    have holi := ord_len hori
    have ha6i : a6.isSome = true := (by cases a6 <;> first | rfl | exact absurd (hn6 rfl) (by omega))
    refine sc_skip ?_
    refine sx_then ?_
    refine sc_seq ?_
    refine sc_block ?_
    refine sc_seq ?_
    refine sc_midE (Z := {v : Bool // v = takeB m long (exO m.length m.length []) i at_}) (fun v => [(1, .int .i64 long), (2, .pointer (some ⟨b2, 0, none⟩)), (6, .slice a6 iv.length c6), (7, .int .i64 at_), (8, .int .i64 i), (53, .bool v.1)]) (fun _ => [.own (.slice a6 iv.length c6) 25 1 iv.length (iv.map slV), .set Dq wq, .blk b2 (.cells (mV z m).toArray 24 (0, 0)), .reg 0 w]) ?_ ?_
    ·
      refine sc_drawX ([.own (.slice a6 iv.length c6) 25 1 iv.length (iv.map slV), .set Dq wq, .blk b2 (.cells (mV z m).toArray 24 (0, 0)), .reg 0 w]) (by kernel_rfl) ?_
      refine xj_s 0 RF (by kernel_rfl) SR LD24 rfl ?_
      refine xj_s 1 RF (by kernel_rfl) SR (y_move RF) rfl ?_
      refine xj_s 2 RF (by kernel_rfl) SR (y_move RF) rfl ?_
      refine xj_s 3 RF (by kernel_rfl) SR (y_ia_el (i := i) Tryd.underlying22 Tryd.sizeOf25 RF RF (by omega) ha6i) rfl ?_
      refine xj_s 4 RF (by kernel_rfl) SR (by first | exact y_load_own0 (v := .slice a6 iv.length c6) (u := slV (iv.getD i ivD)) Tryd.underlying25 rfl RF MM (by omega) (by rw [Nat.mul_one, List.getElem?_map, hqi]; rfl) | exact LD25) rfl ?_
      refine xj_one 5 RF (by kernel_rfl) ?_
      refine qy (yc Tryd.call32 E2 (fun w1 hw1 => fair32 w1 z m (hz.at hw1 MM) hm _ _ (iv.getD i ivD).2 (hrowi.at hw1 MM) hori)) ?_
      refine sq_nil ?_
      refine sx_xp SR ?_
      refine xj_s 6 RF (by kernel_rfl) SR (y_lss RF RF) rfl ?_
      refine xj_s 7 RF (by kernel_rfl) SR (y_move RF) rfl ?_
      first | refine xj_splitd (tt := 26) RF (fun hg6_7 => ?_) (fun hg6_7 => ?_) | refine xj_splitn (tt := 26) RF (fun hg6_7 => ?_) (fun hg6_7 => ?_) | refine xj_split (tt := 26) RF (fun hg6_7 => ?_) (fun hg6_7 => ?_)
      ·
        refine xj_gt 8 RF RF RF (by kernel_rfl) SR (y_move RF) rfl ?_
        refine xj_gt 9 RF RF RF (by kernel_rfl) SR (y_move RF) rfl ?_
        refine xj_gt 10 RF RF RF (by kernel_rfl) SR (y_ia_el (i := i) Tryd.underlying22 Tryd.sizeOf25 RF RF (by omega) ha6i) rfl ?_
        refine xj_gt 11 RF RF RF (by kernel_rfl) SR (by first | exact y_load_own0 (v := .slice a6 iv.length c6) (u := slV (iv.getD i ivD)) Tryd.underlying25 rfl RF MM (by omega) (by rw [Nat.mul_one, List.getElem?_map, hqi]; rfl) | exact LD25) rfl ?_
        refine xj_gt 13 RF RF RF (by kernel_rfl) SR (y_move RF) rfl ?_
        refine xj_one 12 RF (by kernel_rfl) ?_
        refine sq_gt RF RF (y_call (first := []) (caps := []) RF Tryd.call82 (EvL.cons RF EvL.nil) (fun w1 hw1 => longest82 w1 _ _ (iv.getD i ivD).2 (hrowi.at hw1 MM) (by rw [holi]; exact hori) (by omega))) rfl ?_
        refine sq_nil ?_
        refine sx_xp SR ?_
        refine xj_gt 14 RF RF RF (by kernel_rfl) SR (y_leq RF RF) rfl ?_
        refine xj_s 15 RF (by kernel_rfl) SR (y_pick_t RF RF) rfl ?_
        refine xj_s 16 RF (by kernel_rfl) SR (y_move RF) rfl ?_
        first | refine xj_splitd (tt := 35) RF (fun hg6_16 => ?_) (fun hg6_16 => ?_) | refine xj_splitn (tt := 35) RF (fun hg6_16 => ?_) (fun hg6_16 => ?_) | refine xj_split (tt := 35) RF (fun hg6_16 => ?_) (fun hg6_16 => ?_)
        ·
          refine xj_gt 17 RF RF RF (by kernel_rfl) SR (y_move RF) rfl ?_
          refine xj_gt 18 RF RF RF (by kernel_rfl) SR (y_lss RF RF) rfl ?_
          refine xj_gt 19 RF RF RF (by kernel_rfl) SR (y_move RF) rfl ?_
          first | refine xj_splitd (tt := 38) RF (fun hg6_19 => ?_) (fun hg6_19 => ?_) | refine xj_splitn (tt := 38) RF (fun hg6_19 => ?_) (fun hg6_19 => ?_) | refine xj_split (tt := 38) RF (fun hg6_19 => ?_) (fun hg6_19 => ?_)
          ·
            first | (replace hg6_19 : ¬ at_ < 0 := hg6_19; obtain ⟨ka, rfl⟩ : ∃ ka : Nat, at_ = (ka : Int) := ⟨at_.toNat, by omega⟩; have hka := (hsel.yes (by omega)).1; rw [Int.toNat_natCast] at hka; have hqa : iv[ka]? = some (iv.getD ka ivD) := get_of_lt ivD (by omega); have hma := List.mem_of_getElem? hqa; have hrowa : RowsS iRow 1 Dq wq (iv.getD ka ivD).1.1 (iv.getD ka ivD).2 := hIq _ hma; have hLa : (exO m.length m.length []).getD ka [] = (iv.getD ka ivD).2 := (by rw [← hL]; exact getD_of (by rw [List.getElem?_map, hqa]; rfl)); have hora : ordB (iv.getD ka ivD).2 m.length = true := ord_exO.1 (by rw [← hL]; exact List.mem_map.2 ⟨_, hma, rfl⟩); have hola := ord_len hora; have ha6a : a6.isSome = true := (by cases a6 <;> first | rfl | exact absurd (hn6 rfl) (by omega))) | skip
            refine xj_gf 20 RF RF RF rfl (by kernel_rfl) SR rfl ?_
            refine xj_gf 21 RF RF RF rfl (by kernel_rfl) SR rfl ?_
            refine xj_gf 22 RF RF RF rfl (by kernel_rfl) SR rfl ?_
            refine xj_gf 23 RF RF RF rfl (by kernel_rfl) SR rfl ?_
            refine xj_gf 24 RF RF RF rfl (by kernel_rfl) SR rfl ?_
            refine xj_gf 25 RF RF RF rfl (by kernel_rfl) SR rfl ?_
            refine xj_gf 26 RF RF RF rfl (by kernel_rfl) SR rfl ?_
            refine xj_gf 27 RF RF RF rfl (by kernel_rfl) SR rfl ?_
            refine xj_gf 28 RF RF RF rfl (by kernel_rfl) SR rfl ?_
            refine xj_gf 29 RF RF RF rfl (by kernel_rfl) SR rfl ?_
            refine xj_gf 30 RF RF RF rfl (by kernel_rfl) SR rfl ?_
            refine xj_gf 31 RF RF RF rfl (by kernel_rfl) SR rfl ?_
            refine xj_gf 32 RF RF RF rfl (by kernel_rfl) SR rfl ?_
            refine xj_gt 33 RF RF RF (by kernel_rfl) SR (y_pick_t RF RF) rfl ?_
            refine xj_s 34 RF (by kernel_rfl) SR (y_pick_t RF RF) rfl ?_
            refine xj_done (by kernel_rfl) ?_
            exact sx_midE (⟨true, by unfold takeB passB; rw [hLi, decide_eq_true hg6_7, decide_eq_true (show longO (iv.getD i ivD).2 ≤ long from hg6_16), decide_eq_true hg6_19]; rfl⟩) SU SR
          ·
            first | (replace hg6_19 : ¬ at_ < 0 := hg6_19; obtain ⟨ka, rfl⟩ : ∃ ka : Nat, at_ = (ka : Int) := ⟨at_.toNat, by omega⟩; have hka := (hsel.yes (by omega)).1; rw [Int.toNat_natCast] at hka; have hqa : iv[ka]? = some (iv.getD ka ivD) := get_of_lt ivD (by omega); have hma := List.mem_of_getElem? hqa; have hrowa : RowsS iRow 1 Dq wq (iv.getD ka ivD).1.1 (iv.getD ka ivD).2 := hIq _ hma; have hLa : (exO m.length m.length []).getD ka [] = (iv.getD ka ivD).2 := (by rw [← hL]; exact getD_of (by rw [List.getElem?_map, hqa]; rfl)); have hora : ordB (iv.getD ka ivD).2 m.length = true := ord_exO.1 (by rw [← hL]; exact List.mem_map.2 ⟨_, hma, rfl⟩); have hola := ord_len hora; have ha6a : a6.isSome = true := (by cases a6 <;> first | rfl | exact absurd (hn6 rfl) (by omega))) | skip
            refine xj_gt 20 RF RF RF (by kernel_rfl) SR LD24 rfl ?_
            refine xj_gt 21 RF RF RF (by kernel_rfl) SR (y_move RF) rfl ?_
            refine xj_gt 22 RF RF RF (by kernel_rfl) SR (y_move RF) rfl ?_
            refine xj_gt 23 RF RF RF (by kernel_rfl) SR (y_ia_el (i := i) Tryd.underlying22 Tryd.sizeOf25 RF RF (by omega) ha6i) rfl ?_
            refine xj_gt 24 RF RF RF (by kernel_rfl) SR (by first | exact y_load_own0 (v := .slice a6 iv.length c6) (u := slV (iv.getD i ivD)) Tryd.underlying25 rfl RF MM (by omega) (by rw [Nat.mul_one, List.getElem?_map, hqi]; rfl) | exact LD25) rfl ?_
            refine xj_gt 26 RF RF RF (by kernel_rfl) SR LD24 rfl ?_
            refine xj_gt 27 RF RF RF (by kernel_rfl) SR (y_move RF) rfl ?_
            refine xj_gt 28 RF RF RF (by kernel_rfl) SR (y_move RF) rfl ?_
            refine xj_gt 29 RF RF RF (by kernel_rfl) SR (y_ia_el (i := ka) Tryd.underlying22 Tryd.sizeOf25 RF RF (by omega) ha6a) rfl ?_
            refine xj_gt 30 RF RF RF (by kernel_rfl) SR (by first | exact y_load_own0 (v := .slice a6 iv.length c6) (u := slV (iv.getD ka ivD)) Tryd.underlying25 rfl RF MM (by omega) (by rw [Nat.mul_one, List.getElem?_map, hqa]; rfl) | exact LD25) rfl ?_
            refine xj_one 25 RF (by kernel_rfl) ?_
            refine sq_gt RF RF (y_call (first := []) (caps := []) RF Tryd.call34 (EvL.cons RF (EvL.cons RF EvL.nil)) (fun w1 hw1 => worth34 w1 z m (hz.at hw1 MM) hm _ _ (iv.getD i ivD).2 (hrowi.at hw1 MM) hori)) rfl ?_
            refine sq_nil ?_
            refine sx_xp SR ?_
            refine xj_one 31 RF (by kernel_rfl) ?_
            refine sq_gt RF RF (y_call (first := []) (caps := []) RF Tryd.call34 (EvL.cons RF (EvL.cons RF EvL.nil)) (fun w1 hw1 => worth34 w1 z m (hz.at hw1 MM) hm _ _ (iv.getD ka ivD).2 (hrowa.at hw1 MM) hora)) rfl ?_
            refine sq_nil ?_
            refine sx_xp SR ?_
            refine xj_gt 32 RF RF RF (by kernel_rfl) SR (y_gtr RF RF) rfl ?_
            refine xj_gt 33 RF RF RF (by kernel_rfl) SR (y_pick_f RF RF) rfl ?_
            refine xj_s 34 RF (by kernel_rfl) SR (y_pick_t RF RF) rfl ?_
            refine xj_done (by kernel_rfl) ?_
            exact sx_midE (⟨decide (worthL m (iv.getD ka ivD).2 < worthL m (iv.getD i ivD).2), by unfold takeB passB; rw [Int.toNat_natCast, hLi, hLa, decide_eq_true hg6_7, decide_eq_true (show longO (iv.getD i ivD).2 ≤ long from hg6_16), decide_eq_false hg6_19, Bool.false_or]; rfl⟩) SU SR
        ·
          refine xj_gf 17 RF RF RF rfl (by kernel_rfl) SR rfl ?_
          refine xj_gf 18 RF RF RF rfl (by kernel_rfl) SR rfl ?_
          refine xj_gf 19 RF RF RF rfl (by kernel_rfl) SR rfl ?_
          first | (replace hg6_19 : ¬ at_ < 0 := hg6_19; obtain ⟨ka, rfl⟩ : ∃ ka : Nat, at_ = (ka : Int) := ⟨at_.toNat, by omega⟩; have hka := (hsel.yes (by omega)).1; rw [Int.toNat_natCast] at hka; have hqa : iv[ka]? = some (iv.getD ka ivD) := get_of_lt ivD (by omega); have hma := List.mem_of_getElem? hqa; have hrowa : RowsS iRow 1 Dq wq (iv.getD ka ivD).1.1 (iv.getD ka ivD).2 := hIq _ hma; have hLa : (exO m.length m.length []).getD ka [] = (iv.getD ka ivD).2 := (by rw [← hL]; exact getD_of (by rw [List.getElem?_map, hqa]; rfl)); have hora : ordB (iv.getD ka ivD).2 m.length = true := ord_exO.1 (by rw [← hL]; exact List.mem_map.2 ⟨_, hma, rfl⟩); have hola := ord_len hora; have ha6a : a6.isSome = true := (by cases a6 <;> first | rfl | exact absurd (hn6 rfl) (by omega))) | skip
          refine xj_gu 20 RF RF RF (by kernel_rfl) SR rfl ?_
          refine xj_gu 21 RF RF RF (by kernel_rfl) SR rfl ?_
          refine xj_gu 22 RF RF RF (by kernel_rfl) SR rfl ?_
          refine xj_gu 23 RF RF RF (by kernel_rfl) SR rfl ?_
          refine xj_gu 24 RF RF RF (by kernel_rfl) SR rfl ?_
          refine xj_gu 25 RF RF RF (by kernel_rfl) SR rfl ?_
          refine xj_gu 26 RF RF RF (by kernel_rfl) SR rfl ?_
          refine xj_gu 27 RF RF RF (by kernel_rfl) SR rfl ?_
          refine xj_gu 28 RF RF RF (by kernel_rfl) SR rfl ?_
          refine xj_gu 29 RF RF RF (by kernel_rfl) SR rfl ?_
          refine xj_gu 30 RF RF RF (by kernel_rfl) SR rfl ?_
          refine xj_gu 31 RF RF RF (by kernel_rfl) SR rfl ?_
          refine xj_gu 32 RF RF RF (by kernel_rfl) SR rfl ?_
          refine xj_gf 33 RF RF RF rfl (by kernel_rfl) SR rfl ?_
          refine xj_s 34 RF (by kernel_rfl) SR (y_pick_f RF RF) rfl ?_
          refine xj_done (by kernel_rfl) ?_
          exact sx_midE (⟨false, by unfold takeB passB; rw [hLi, decide_eq_true hg6_7, decide_eq_false (show ¬ longO (iv.getD i ivD).2 ≤ long from hg6_16)]; rfl⟩) SU SR
      ·
        refine xj_gf 8 RF RF RF rfl (by kernel_rfl) SR rfl ?_
        refine xj_gf 9 RF RF RF rfl (by kernel_rfl) SR rfl ?_
        refine xj_gf 10 RF RF RF rfl (by kernel_rfl) SR rfl ?_
        refine xj_gf 11 RF RF RF rfl (by kernel_rfl) SR rfl ?_
        refine xj_gf 12 RF RF RF rfl (by kernel_rfl) SR rfl ?_
        refine xj_gf 13 RF RF RF rfl (by kernel_rfl) SR rfl ?_
        refine xj_gf 14 RF RF RF rfl (by kernel_rfl) SR rfl ?_
        refine xj_s 15 RF (by kernel_rfl) SR (y_pick_f RF RF) rfl ?_
        refine xj_s 16 RF (by kernel_rfl) SR (y_move RF) rfl ?_
        refine xj_gf 17 RF RF RF rfl (by kernel_rfl) SR rfl ?_
        refine xj_gf 18 RF RF RF rfl (by kernel_rfl) SR rfl ?_
        refine xj_gf 19 RF RF RF rfl (by kernel_rfl) SR rfl ?_
        first | (replace hg6_19 : ¬ at_ < 0 := hg6_19; obtain ⟨ka, rfl⟩ : ∃ ka : Nat, at_ = (ka : Int) := ⟨at_.toNat, by omega⟩; have hka := (hsel.yes (by omega)).1; rw [Int.toNat_natCast] at hka; have hqa : iv[ka]? = some (iv.getD ka ivD) := get_of_lt ivD (by omega); have hma := List.mem_of_getElem? hqa; have hrowa : RowsS iRow 1 Dq wq (iv.getD ka ivD).1.1 (iv.getD ka ivD).2 := hIq _ hma; have hLa : (exO m.length m.length []).getD ka [] = (iv.getD ka ivD).2 := (by rw [← hL]; exact getD_of (by rw [List.getElem?_map, hqa]; rfl)); have hora : ordB (iv.getD ka ivD).2 m.length = true := ord_exO.1 (by rw [← hL]; exact List.mem_map.2 ⟨_, hma, rfl⟩); have hola := ord_len hora; have ha6a : a6.isSome = true := (by cases a6 <;> first | rfl | exact absurd (hn6 rfl) (by omega))) | skip
        refine xj_gu 20 RF RF RF (by kernel_rfl) SR rfl ?_
        refine xj_gu 21 RF RF RF (by kernel_rfl) SR rfl ?_
        refine xj_gu 22 RF RF RF (by kernel_rfl) SR rfl ?_
        refine xj_gu 23 RF RF RF (by kernel_rfl) SR rfl ?_
        refine xj_gu 24 RF RF RF (by kernel_rfl) SR rfl ?_
        refine xj_gu 25 RF RF RF (by kernel_rfl) SR rfl ?_
        refine xj_gu 26 RF RF RF (by kernel_rfl) SR rfl ?_
        refine xj_gu 27 RF RF RF (by kernel_rfl) SR rfl ?_
        refine xj_gu 28 RF RF RF (by kernel_rfl) SR rfl ?_
        refine xj_gu 29 RF RF RF (by kernel_rfl) SR rfl ?_
        refine xj_gu 30 RF RF RF (by kernel_rfl) SR rfl ?_
        refine xj_gu 31 RF RF RF (by kernel_rfl) SR rfl ?_
        refine xj_gu 32 RF RF RF (by kernel_rfl) SR rfl ?_
        refine xj_gf 33 RF RF RF rfl (by kernel_rfl) SR rfl ?_
        refine xj_s 34 RF (by kernel_rfl) SR (y_pick_f RF RF) rfl ?_
        refine xj_done (by kernel_rfl) ?_
        exact sx_midE (⟨false, by unfold takeB passB; rw [hLi, decide_eq_false hg6_7]; rfl⟩) SU SR
    rintro ⟨vb, hvb⟩
    try dsimp only
    refine sx_then ?_
    refine scp (fun hc1 => ?_) (fun hc1 => ?_)
    ·
      have htk : takeB m long (exO m.length m.length []) i at_ = true := by rw [← hvb]; exact hc1
      refine sc_region ?_
      refine qs (y_move RF) ?_
      refine qs (y_assign RF) ?_
      refine sq_nil ?_
      refine sx_blk ?_
      refine sx_then ?_
      refine sc_region ?_
      refine qs (y_move RF) ?_
      refine qs (y_add RF RF (by omega)) ?_
      refine qs (y_assign RF) ?_
      refine sq_nil ?_
      refine sx_round ((i + 1, (i : Int))) ?_ ?_ SU SR
      · exact ⟨by dsimp only; omega, hsel.take htk⟩
      · dsimp only; omega
    ·
      have htk : takeB m long (exO m.length m.length []) i at_ = false := by rw [← hvb]; exact hc1
      refine sc_skip ?_
      refine sx_blk ?_
      refine sx_then ?_
      refine sc_region ?_
      refine qs (y_move RF) ?_
      refine qs (y_add RF RF (by omega)) ?_
      refine qs (y_assign RF) ?_
      refine sq_nil ?_
      refine sx_round ((i + 1, at_)) ?_ ?_ SU SR
      · exact ⟨by dsimp only; omega, hsel.keep htk⟩
      · dsimp only; omega
  ·
    have hin : i = iv.length := by omega
    subst hin
    rw [hlx] at hsel
    obtain ⟨hk0, hk1, hR⟩ := hsel.done hlong
    obtain ⟨ka, rfl⟩ : ∃ ka : Nat, at_ = (ka : Int) := ⟨at_.toNat, by omega⟩
    rw [Int.toNat_natCast] at hk1 hR
    have hka : ka < iv.length := by omega
    have hqa : iv[ka]? = some (iv.getD ka ivD) := get_of_lt ivD hka
    have hma := List.mem_of_getElem? hqa
    have hrowa : RowsS iRow 1 Dq wq (iv.getD ka ivD).1.1 (iv.getD ka ivD).2 := hIq _ hma
    have hLa : (exO m.length m.length []).getD ka [] = (iv.getD ka ivD).2 := (by rw [← hL]; exact getD_of (by rw [List.getElem?_map, hqa]; rfl))
    have hora : ordB (iv.getD ka ivD).2 m.length = true := ord_exO.1 (by rw [← hL]; exact List.mem_map.2 ⟨_, hma, rfl⟩)
    have hola := ord_len hora
    have ha6a : a6.isSome = true := (by cases a6 <;> first | rfl | exact absurd (hn6 rfl) (by omega))
    rw [hLa] at hR
    refine sc_exit ?_
    refine sx_then_exit ?_
    refine sx_round_exit ?_
    refine sx_blk_hit ?_
    refine sx_then ?_
    refine sc_seq ?_
    refine sc_drawX ([.own (.slice a6 iv.length c6) 25 1 iv.length (iv.map slV), .set Dq wq, .blk b2 (.cells (mV z m).toArray 24 (0, 0)), .reg 0 w]) (by kernel_rfl) ?_
    refine xj_s 0 RF (by kernel_rfl) SR (y_move RF) rfl ?_
    refine xj_s 1 RF (by kernel_rfl) SR (y_move RF) rfl ?_
    refine xj_s 2 RF (by kernel_rfl) SR (y_ia_el (i := ka) Tryd.underlying22 Tryd.sizeOf25 RF RF (by omega) ha6a) rfl ?_
    refine xj_s 3 RF (by kernel_rfl) SR (by first | exact y_load_own0 (v := .slice a6 iv.length c6) (u := slV (iv.getD ka ivD)) Tryd.underlying25 rfl RF MM (by omega) (by rw [Nat.mul_one, List.getElem?_map, hqa]; rfl) | exact LD25) rfl ?_
    refine xj_s 4 RF (by kernel_rfl) SR LD24 rfl ?_
    refine xj_s 5 RF (by kernel_rfl) SR (y_move RF) rfl ?_
    refine xj_s 6 RF (by kernel_rfl) SR (y_move RF) rfl ?_
    refine xj_s 7 RF (by kernel_rfl) SR (y_ia_el (i := ka) Tryd.underlying22 Tryd.sizeOf25 RF RF (by omega) ha6a) rfl ?_
    refine xj_s 8 RF (by kernel_rfl) SR (by first | exact y_load_own0 (v := .slice a6 iv.length c6) (u := slV (iv.getD ka ivD)) Tryd.underlying25 rfl RF MM (by omega) (by rw [Nat.mul_one, List.getElem?_map, hqa]; rfl) | exact LD25) rfl ?_
    refine xj_one 9 RF (by kernel_rfl) ?_
    refine qy (yc Tryd.call34 E2 (fun w1 hw1 => worth34 w1 z m (hz.at hw1 MM) hm _ _ (iv.getD ka ivD).2 (hrowa.at hw1 MM) hora)) ?_
    refine sq_nil ?_
    refine sx_xp SR ?_
    refine xj_s 10 RF (by kernel_rfl) SR (y_assign RF) rfl ?_
    refine xj_s 11 RF (by kernel_rfl) SR (y_assign RF) rfl ?_
    refine xj_done (by kernel_rfl) ?_
    refine sx_then ?_
    refine sc_ret ?_
    refine sx_ret2 (.inl rfl) rfl Tryd.results54 RF RF ?_
    intro w' hw'
    exact ⟨(iv.getD ka ivD), rfl, hw'.below MM, hrowa.new iRow_ne hw' MM MM, hR⟩
end Go.Proofs.YtpijahglojichaaDoor

/- Prices: simple ways, no circle that gains, least solution. No program in sight. -/
namespace Go.Proofs.YtpijahglojichaaDoor
open Go.Eng
def Edg (m : Mt) (o : List Int) (u v : Nat) (d : Int) : Prop := ∃ i, i < m.length ∧ getN o i = u ∧ v < m.length ∧ wantsB m i v = true ∧ d = wv m i v - wv m i u
/-- a way to v: the puzzles before it, the last first; what the prices bear at each -/
inductive Rea (m : Mt) (o ps : List Int) : Nat → List Nat → Int → Prop
  | nil {v : Nat} : v < m.length → 0 ≤ ps.getD v 0 → Rea m o ps v [] 0
  | cons {u v : Nat} {l : List Nat} {c d : Int} : Rea m o ps u l c → Edg m o u v d → c + d ≤ ps.getD v 0 → Rea m o ps v (u :: l) (c + d)
inductive Pth (m : Mt) (o : List Int) (k : Nat) : Nat → List Nat → Int → Prop
  | nil : Pth m o k k [] 0
  | cons {u v : Nat} {l : List Nat} {c d : Int} : Pth m o k u l c → Edg m o u v d → Pth m o k v (u :: l) (c + d)
section
variable {m : Mt} {o ps ps' : List Int}
theorem Rea.le {v : Nat} {l : List Nat} {c : Int} (h : Rea m o ps v l c) : c ≤ ps.getD v 0 := by
  cases h with
  | nil _ h2 => exact h2
  | cons _ _ h3 => exact h3
theorem Rea.mono (hp : ∀ k, ps.getD k 0 ≤ ps'.getD k 0) {v : Nat} {l : List Nat} {c : Int} (h : Rea m o ps v l c) : Rea m o ps' v l c := by
  induction h with
  | nil h1 h2 => exact .nil h1 (Int.le_trans h2 (hp _))
  | cons _ h2 h3 ih => exact .cons ih h2 (Int.le_trans h3 (hp _))
theorem Rea.lt {v : Nat} {l : List Nat} {c : Int} (h : Rea m o ps v l c) : v < m.length ∧ ∀ x, x ∈ l → x < m.length := by
  induction h with
  | nil h1 _ => exact ⟨h1, fun _ h => by cases h⟩
  | cons _ h2 _ ih =>
    obtain ⟨_, _, _, h3, _⟩ := h2
    exact ⟨h3, fun x hx => by rcases List.mem_cons.1 hx with rfl | hx; exact ih.1; exact ih.2 x hx⟩
theorem Rea.bd (hm : MkF m) {v : Nat} {l : List Nat} {c : Int} (h : Rea m o ps v l c) : c ≤ 1000 * (l.length : Int) := by
  induction h with
  | nil _ _ => simp
  | @cons u v l c d _ h2 _ ih =>
    obtain ⟨i, _, _, _, _, hd⟩ := h2
    have h4 := hm.bd i v
    have h5 := hm.bd i u
    rw [List.length_cons]; omega
theorem Rea.split {u : Nat} {l : List Nat} {c : Int} (h : Rea m o ps u l c) {k : Nat} (hk : k ∈ u :: l) : ∃ l' c1 c2, Pth m o k u l' c2 ∧ c1 ≤ ps.getD k 0 ∧ c = c1 + c2 ∧ l' <+: l := by
  induction h with
  | @nil v h1 h2 =>
    obtain rfl : k = v := by simpa using hk
    exact ⟨[], 0, 0, .nil, h2, rfl, List.nil_prefix⟩
  | @cons u v l c d h1 h2 h3 ih =>
    rcases List.mem_cons.1 hk with rfl | hk
    · exact ⟨[], c + d, 0, .nil, h3, by omega, List.nil_prefix⟩
    · obtain ⟨l', c1, c2, g1, g2, g3, g4⟩ := ih hk
      exact ⟨u :: l', c1, c2 + d, .cons g1 h2, g2, by omega, by rw [List.cons_prefix_cons]; exact ⟨rfl, g4⟩⟩
end
theorem worth_set (m : Mt) (o : List Int) {p : Nat} (v : Nat) (hp : p < o.length) : worthL m (o.set p (v : Int)) = worthL m o + wv m p v - wv m p (getN o p) := by
  have key : ∀ j, worthN m (o.set p (v : Int)) j = worthN m o j + (if p < j then wv m p v - wv m p (getN o p) else 0) := fun j => by
    induction j with
    | zero => simp [worthN]
    | succ j ih =>
      have hg : getN (o.set p (v : Int)) j = if j = p then v else getN o j := by
        unfold getN
        rw [getD_set o 0 p j (v : Int) hp]
        by_cases e : j = p
        · rw [if_pos e, if_pos e, Int.toNat_natCast]
        · rw [if_neg e, if_neg e]
      show worthN m (o.set p (v : Int)) j + wv m j (getN (o.set p (v : Int)) j) = worthN m o j + wv m j (getN o j) + _
      rw [ih, hg]
      by_cases e : j = p
      · subst e; rw [if_pos rfl, if_neg (by omega), if_pos (by omega)]; omega
      · rw [if_neg e]
        by_cases e2 : p < j
        · rw [if_pos e2, if_pos (by omega)]; omega
        · rw [if_neg e2, if_neg (by omega)]; omega
  unfold worthL
  rw [List.length_set, key, if_pos hp]; omega
structure Rot (m : Mt) (o : List Int) (k v : Nat) (l : List Nat) (c : Int) (o' : List Int) : Prop where
  len : o'.length = m.length
  worth : worthL m o' = worthL m o + c
  cnt : ∀ x : Int, o'.count x + (if (k : Int) = x then 1 else 0) = o.count x + (if (v : Int) = x then 1 else 0)
  same : ∀ p, p < m.length → getN o p ∉ l → o'.getD p 0 = o.getD p 0
  fair : ∀ p, p < m.length → wantsB m p (getN o' p) = true
theorem cnt_set {o : List Int} {p : Nat} {a v : Int} (hp : p < o.length) (ha : o.getD p 0 = a) (x : Int) : (o.set p v).count x + (if a = x then 1 else 0) = o.count x + (if v = x then 1 else 0) := by
  have he : o[p] = a := by rw [← ha]; exact (getD_of (List.getElem?_eq_getElem hp)).symm
  have h1 := List.count_set (a := v) (b := x) (l := o) (i := p) hp
  rw [he] at h1
  have hpos : a = x → 0 < o.count x := fun e => by
    subst e; rw [← he]; exact List.count_pos_iff.2 (List.getElem_mem hp)
  by_cases e1 : a = x
  · have := hpos e1
    by_cases e2 : v = x
    · simp [e1, e2] at h1 ⊢; omega
    · simp [e1, e2] at h1 ⊢; omega
  · by_cases e2 : v = x
    · simp [e1, e2] at h1 ⊢; omega
    · simp [e1, e2] at h1 ⊢; omega
theorem rot_step {m : Mt} {o : List Int} (ho : ordB o m.length = true) {k u v : Nat} {l : List Nat} {c d : Int} {o' : List Int} (h : Rot m o k u l c o') (hn : (u :: l).Nodup) (he : Edg m o u v d) : ∃ o2, Rot m o k v (u :: l) (c + d) o2 := by
  obtain ⟨p, hp, hg, hv, hw, hd⟩ := he
  have hpl : p < o'.length := by rw [h.len]; exact hp
  have hul : u ∉ l := (List.nodup_cons.1 hn).1
  have hsame := h.same p hp (by rw [hg]; exact hul)
  have hop : o.getD p 0 = (u : Int) := by rw [(ord_get ho hp).1, hg]
  have hgn : getN o' p = u := by unfold getN; rw [hsame, hop, Int.toNat_natCast]
  refine ⟨o'.set p (v : Int), ⟨by rw [List.length_set]; exact h.len, ?_, fun x => ?_, fun q hq hql => ?_, fun q hq => ?_⟩⟩
  · rw [worth_set m o' v hpl, h.worth, hgn]; omega
  · have h1 := cnt_set (v := (v : Int)) hpl (show o'.getD p 0 = (u : Int) by rw [hsame, hop]) x
    have h2 := h.cnt x
    omega
  · rw [getD_set o' 0 p q (v : Int) hpl]
    have hqp : q ≠ p := fun e => by subst e; exact hql (by rw [hg]; exact List.mem_cons_self ..)
    rw [if_neg hqp]
    exact h.same q hq fun hx => hql (List.mem_cons_of_mem _ hx)
  · have hgq : getN (o'.set p (v : Int)) q = if q = p then v else getN o' q := by
      unfold getN
      rw [getD_set o' 0 p q (v : Int) hpl]
      by_cases e : q = p
      · rw [if_pos e, if_pos e, Int.toNat_natCast]
      · rw [if_neg e, if_neg e]
    rw [hgq]
    by_cases e : q = p
    · rw [if_pos e, e]; exact hw
    · rw [if_neg e]; exact h.fair q hq
theorem Pth.rot {m : Mt} {o : List Int} (ho : ordB o m.length = true) (hf : fairI m o < 0) {k v : Nat} {l : List Nat} {c : Int} (h : Pth m o k v l c) (hn : (v :: l).Nodup) : ∃ o', Rot m o k v l c o' := by
  induction h with
  | nil => exact ⟨o, ⟨ord_len ho, by omega, fun x => rfl, fun p _ _ => rfl, fun p hp => fair_iff.1 hf p (by rw [ord_len ho]; exact hp)⟩⟩
  | cons _ h2 ih =>
    have hn2 := (List.nodup_cons.1 hn).2
    obtain ⟨o', h3⟩ := ih hn2
    exact rot_step ho h3 hn2 h2
/-- no circle gains -/
theorem circle_le {m : Mt} {t : Td} (B : BestF m t) {k u : Nat} {l : List Nat} {c d : Int} (h : Pth m t.gets k u l c) (hn : (u :: l).Nodup) (he : Edg m t.gets u k d) : c + d ≤ 0 := by
  obtain ⟨o', h1⟩ := h.rot B.ord B.fair hn
  obtain ⟨o2, h2⟩ := rot_step B.ord h1 hn he
  have hperm : o2.Perm t.gets := List.perm_iff_count.2 fun x => by have := h2.cnt x; omega
  have hord : ordB o2 m.length = true := (ordB_iff _ _).2 (hperm.trans ((ordB_iff _ _).1 B.ord))
  have hfair : fairI m o2 < 0 := fair_iff.2 fun p hp => h2.fair p (by rw [← h2.len]; exact hp)
  have h3 := (B.top o2 hord hfair).worth
  have h4 := h2.worth
  have h5 := B.worth
  dsimp only at h3
  omega
/-! ### one rule -/
def Rul (m : Mt) (x : Nat × Nat) : Prop := x.1 < m.length ∧ x.2 < m.length ∧ wantsB m x.1 x.2 = true
theorem relax_get {m : Mt} (o ps : List Int) {x : Nat × Nat} (hx : x.2 < ps.length) (k : Nat) : (relaxP m o ps x).getD k 0 = if k = x.2 then max (ps.getD x.2 0) (mustP m o ps x) else ps.getD k 0 := getD_set ps 0 x.2 k _ hx
theorem relax_up {m : Mt} (o ps : List Int) {x : Nat × Nat} (hx : x.2 < ps.length) (k : Nat) : ps.getD k 0 ≤ (relaxP m o ps x).getD k 0 := by
  rw [relax_get o ps hx]
  by_cases e : k = x.2
  · rw [if_pos e, e]; omega
  · rw [if_neg e]; exact Int.le_refl _
structure Inv (m : Mt) (o ps : List Int) : Prop where
  len : ps.length = m.length
  way : ∀ k, k < m.length → ∃ l, Rea m o ps k l (ps.getD k 0) ∧ (k :: l).Nodup
theorem Inv.relax {m : Mt} {t : Td} (B : BestF m t) {ps : List Int} (h : Inv m t.gets ps) {x : Nat × Nat} (hx : Rul m x) : Inv m t.gets (relaxP m t.gets ps x) := by
  obtain ⟨h1, h2, h3⟩ := hx
  have hup := relax_up (m := m) t.gets ps (x := x) (by rw [h.len]; exact h2)
  have hg := (ord_get B.ord h1).2
  refine ⟨by rw [relax_len]; exact h.len, fun k hk => ?_⟩
  rw [relax_get t.gets ps (by rw [h.len]; exact h2)]
  by_cases e : k = x.2
  · rw [if_pos e]
    subst e
    rcases Int.le_total (mustP m t.gets ps x) (ps.getD x.2 0) with hle | hgt
    · rw [Int.max_eq_left hle]
      obtain ⟨l, g1, g2⟩ := h.way x.2 hk
      exact ⟨l, g1.mono hup, g2⟩
    · rw [Int.max_eq_right hgt]
      obtain ⟨l, g1, g2⟩ := h.way _ hg
      have hedge : Edg m t.gets (getN t.gets x.1) x.2 (wv m x.1 x.2 - wv m x.1 (getN t.gets x.1)) := ⟨x.1, h1, rfl, h2, h3, rfl⟩
      have hm2 : mustP m t.gets ps x = ps.getD (getN t.gets x.1) 0 + (wv m x.1 x.2 - wv m x.1 (getN t.gets x.1)) := by unfold mustP; omega
      by_cases hin : x.2 ∈ getN t.gets x.1 :: l
      · obtain ⟨l', c1, c2, q1, q2, q3, q4⟩ := g1.split hin
        have hnd : (getN t.gets x.1 :: l').Nodup := g2.sublist (by rw [List.cons_sublist_cons]; exact q4.sublist)
        have hc := circle_le B q1 hnd hedge
        have heq : mustP m t.gets ps x = ps.getD x.2 0 := by omega
        rw [heq]
        obtain ⟨l, g1, g2⟩ := h.way x.2 hk
        exact ⟨l, g1.mono hup, g2⟩
      · refine ⟨getN t.gets x.1 :: l, ?_, List.nodup_cons.2 ⟨hin, g2⟩⟩
        rw [hm2]
        refine .cons (g1.mono hup) hedge ?_
        rw [relax_get t.gets ps (by rw [h.len]; exact h2), if_pos rfl, ← hm2]
        omega
  · rw [if_neg e]
    obtain ⟨l, g1, g2⟩ := h.way k hk
    exact ⟨l, g1.mono hup, g2⟩
theorem Inv.foldl {m : Mt} {t : Td} (B : BestF m t) : ∀ (L : List (Nat × Nat)) {ps : List Int}, Inv m t.gets ps → (∀ x, x ∈ L → Rul m x) → Inv m t.gets (L.foldl (relaxP m t.gets) ps)
  | [], _, h, _ => h
  | x :: L, _, h, hL => Inv.foldl B L (h.relax B (hL x (List.mem_cons_self ..))) fun y hy => hL y (List.mem_cons_of_mem _ hy)
theorem foldl_up {m : Mt} (o : List Int) : ∀ (L : List (Nat × Nat)) (ps : List Int), ps.length = m.length → (∀ x, x ∈ L → Rul m x) → ∀ k, ps.getD k 0 ≤ (L.foldl (relaxP m o) ps).getD k 0
  | [], _, _, _, _ => Int.le_refl _
  | x :: L, ps, hl, hL, k => Int.le_trans (relax_up o ps (by rw [hl]; exact (hL x (List.mem_cons_self ..)).2.1) k) (foldl_up o L _ (by rw [relax_len]; exact hl) (fun y hy => hL y (List.mem_cons_of_mem _ hy)) k)
theorem foldl_rule {m : Mt} (o : List Int) : ∀ (L : List (Nat × Nat)) (ps : List Int), ps.length = m.length → (∀ x, x ∈ L → Rul m x) → ∀ x, x ∈ L → mustP m o ps x ≤ (L.foldl (relaxP m o) ps).getD x.2 0
  | [], _, _, _, x, hx => by cases hx
  | y :: L, ps, hl, hL, x, hx => by
    have hy := hL y (List.mem_cons_self ..)
    have hyl : y.2 < ps.length := by rw [hl]; exact hy.2.1
    have hl2 : (relaxP m o ps y).length = m.length := by rw [relax_len]; exact hl
    have hL2 : ∀ z, z ∈ L → Rul m z := fun z hz => hL z (List.mem_cons_of_mem _ hz)
    rcases List.mem_cons.1 hx with rfl | hx
    · refine Int.le_trans ?_ (foldl_up o L _ hl2 hL2 _)
      rw [relax_get o ps hyl, if_pos rfl]; omega
    · refine Int.le_trans ?_ (foldl_rule o L _ hl2 hL2 x hx)
      have := relax_up (m := m) o ps hyl (getN o x.1)
      unfold mustP
      omega
theorem foldl_least {m : Mt} {o qs : List Int} (hq : ∀ x, Rul m x → mustP m o qs x ≤ qs.getD x.2 0) : ∀ (L : List (Nat × Nat)) (ps : List Int), ps.length = m.length → (∀ x, x ∈ L → Rul m x) → (∀ k, ps.getD k 0 ≤ qs.getD k 0) → ∀ k, (L.foldl (relaxP m o) ps).getD k 0 ≤ qs.getD k 0
  | [], _, _, _, h => h
  | x :: L, ps, hl, hL, h => by
    have hx := hL x (List.mem_cons_self ..)
    refine foldl_least hq L _ (by rw [relax_len]; exact hl) (fun y hy => hL y (List.mem_cons_of_mem _ hy)) fun k => ?_
    rw [relax_get o ps (by rw [hl]; exact hx.2.1)]
    by_cases e : k = x.2
    · rw [if_pos e, e]
      have h1 := hq x hx
      have h2 := h x.2
      have h3 := h (getN o x.1)
      unfold mustP at h1 ⊢
      omega
    · rw [if_neg e]; exact h k
end Go.Proofs.YtpijahglojichaaDoor

/- Prices: the rounds, and where they end. -/
namespace Go.Proofs.YtpijahglojichaaDoor
open Go.Eng
theorem rulesN_of {m : Mt} {n : Nat} {x : Nat × Nat} : ∀ {i : Nat}, x.1 < i → x.2 < n → wantsB m x.1 x.2 = true → x ∈ rulesN m n i
  | 0, h, _, _ => absurd h (Nat.not_lt_zero _)
  | i + 1, h, h2, h3 => by
    unfold rulesN
    rcases Nat.lt_or_ge x.1 i with h4 | h4
    · exact List.mem_append_left _ (rulesN_of h4 h2 h3)
    · refine List.mem_append_right _ ?_
      have e : x.1 = i := by omega
      subst e
      unfold rulesI
      exact List.mem_map.2 ⟨x.2, List.mem_filter.2 ⟨List.mem_range.2 h2, h3⟩, rfl⟩
theorem rules_rul {m : Mt} : ∀ x, x ∈ rulesL m → Rul m x := fun _ hx => rulesN_mem hx
theorem rul_rules {m : Mt} {x : Nat × Nat} (h : Rul m x) : x ∈ rulesL m := rulesN_of h.1 h.2.1 h.2.2
theorem price_up (m : Mt) (o : List Int) (r k : Nat) : (priceN m o r).getD k 0 ≤ (priceN m o (r + 1)).getD k 0 := foldl_up o _ _ (priceN_len m o r) rules_rul k
theorem price_lo (m : Mt) (o : List Int) : ∀ r k, 0 ≤ (priceN m o r).getD k 0
  | 0, k => by
    unfold priceN
    rw [List.getD_eq_getElem?_getD, List.getElem?_replicate]
    by_cases h : k < m.length
    · rw [if_pos h]; exact Int.le_refl _
    · rw [if_neg h]; exact Int.le_refl _
  | r + 1, k => Int.le_trans (price_lo m o r k) (price_up m o r k)
theorem price_inv {m : Mt} {t : Td} (B : BestF m t) : ∀ r, Inv m t.gets (priceN m t.gets r)
  | 0 => ⟨priceN_len _ _ _, fun k hk => ⟨[], by
      have h0 : (priceN m t.gets 0).getD k 0 = 0 := by
        unfold priceN
        rw [List.getD_eq_getElem?_getD, List.getElem?_replicate, if_pos hk]; rfl
      rw [h0]
      exact .nil hk (by rw [h0]; exact Int.le_refl _), by simp⟩⟩
  | r + 1 => (price_inv B r).foldl B _ rules_rul
theorem price_reach {m : Mt} {o ps : List Int} {v : Nat} {l : List Nat} {c : Int} (h : Rea m o ps v l c) : ∀ r, l.length ≤ r → c ≤ (priceN m o r).getD v 0 := by
  induction h with
  | nil _ _ => exact fun r _ => price_lo m o r _
  | @cons u v l c d _ h2 _ ih =>
    intro r hr
    obtain ⟨i, g1, g2, g3, g4, g5⟩ := h2
    cases r with
    | zero => simp at hr
    | succ r =>
      have h3 := ih r (by simpa using hr)
      have h4 := foldl_rule o (rulesL m) (priceN m o r) (priceN_len m o r) rules_rul (i, v) (rul_rules ⟨g1, g3, g4⟩)
      show c + d ≤ (roundP m o (priceN m o r)).getD v 0
      refine Int.le_trans ?_ h4
      show c + d ≤ (priceN m o r).getD (getN o i) 0 + wv m i v - wv m i (getN o i)
      rw [g2]
      omega
theorem price_stable {m : Mt} {t : Td} (B : BestF m t) {r : Nat} (hr : m.length ≤ r + 1) : priceN m t.gets (r + 1) = priceN m t.gets r := by
  apply List.ext_getElem?
  intro k
  rcases Nat.lt_or_ge k m.length with hk | hk
  · rw [get_of_lt 0 (by rw [priceN_len]; exact hk), get_of_lt 0 (by rw [priceN_len]; exact hk)]
    obtain ⟨l, h1, h2⟩ := (price_inv B (r + 1)).way k hk
    have hlt := h1.lt
    have hlen := nodup_lt m.length (k :: l) h2 fun x hx => by rcases List.mem_cons.1 hx with rfl | hx; exact hk; exact hlt.2 x hx
    have h3 := price_reach h1 r (by rw [List.length_cons] at hlen; omega)
    have h4 := price_up m t.gets r k
    rw [Int.le_antisymm h3 h4]
  · rw [List.getElem?_eq_none (by rw [priceN_len]; exact hk), List.getElem?_eq_none (by rw [priceN_len]; exact hk)]
theorem price_more {m : Mt} {t : Td} (B : BestF m t) {r s : Nat} (h : m.length ≤ r + 1) : priceN m t.gets (r + s) = priceN m t.gets r := by
  induction s with
  | zero => rfl
  | succ s ih => rw [← Nat.add_assoc, price_stable B (by omega), ih]
/-- a round that changes nothing is the last one -/
theorem price_end {m : Mt} {o : List Int} {r : Nat} (h : priceN m o (r + 1) = priceN m o r) : ∀ s, priceN m o (r + s) = priceN m o r
  | 0 => rfl
  | s + 1 => by
    have ih := price_end h s
    show roundP m o (priceN m o (r + s)) = _
    rw [ih]; exact h
structure PriceF (m : Mt) (o ps : List Int) : Prop where
  len : ps.length = m.length
  lo : ∀ k, 0 ≤ ps.getD k 0
  hi : ∀ k, ps.getD k 0 ≤ 6000
  rule : ∀ x, Rul m x → mustP m o ps x ≤ ps.getD x.2 0
  least : ∀ qs : List Int, (∀ k, 0 ≤ qs.getD k 0) → (∀ x, Rul m x → mustP m o qs x ≤ qs.getD x.2 0) → ∀ k, ps.getD k 0 ≤ qs.getD k 0
theorem price_F {m : Mt} (hm : MkF m) {t : Td} (B : BestF m t) : PriceF m t.gets (priceN m t.gets m.length) := by
  have hn := hm.n7
  refine ⟨priceN_len _ _ _, price_lo _ _ _, fun k => ?_, fun x hx => ?_, fun qs h1 h2 => ?_⟩
  · rcases Nat.lt_or_ge k m.length with hk | hk
    · obtain ⟨l, h1, h2⟩ := (price_inv B m.length).way k hk
      have hlt := h1.lt
      have hlen := nodup_lt m.length (k :: l) h2 fun x hx => by rcases List.mem_cons.1 hx with rfl | hx; exact hk; exact hlt.2 x hx
      have h3 := h1.bd hm
      rw [List.length_cons] at hlen
      omega
    · rw [getD_big (by rw [priceN_len]; exact hk)]; omega
  · have h := foldl_rule t.gets (rulesL m) (priceN m t.gets m.length) (priceN_len _ _ _) rules_rul x (rul_rules hx)
    rw [show (rulesL m).foldl (relaxP m t.gets) (priceN m t.gets m.length) = priceN m t.gets (m.length + 1) from rfl, price_stable B (by omega)] at h
    exact h
  · have key : ∀ r k, (priceN m t.gets r).getD k 0 ≤ qs.getD k 0 := fun r => by
      induction r with
      | zero =>
        intro k
        refine Int.le_trans ?_ (h1 k)
        unfold priceN
        rw [List.getD_eq_getElem?_getD, List.getElem?_replicate]
        by_cases h : k < m.length
        · rw [if_pos h]; exact Int.le_refl _
        · rw [if_neg h]; exact Int.le_refl _
      | succ r ih => exact foldl_least h2 _ _ (priceN_len _ _ _) rules_rul ih
    exact key _
end Go.Proofs.YtpijahglojichaaDoor

/- The walks of the document's Best and Prices. -/
namespace Go.Proofs.YtpijahglojichaaDoor
open Go Go.Eng Go.RowKit Go.Proofs
set_option maxRecDepth 100000

theorem Best24 (w : World) (z : MA) (m : Mt) (hz : MtA 0 w z m) : Calls Tryd.prog 24 #[.agg (mV z m).toArray] w fun e w' => ∃ y : Option Addr × Nat, e = .returned (.tuple #[.slice y.1 (bestA m).1.length y.2, .int .i64 (bestA m).2.1, .int .i64 (bestA m).2.2]) ∧ Below w.heap.size w w' ∧ RowsA iRow 1 w.heap.size w' y.1 (bestA m).1 := by
  refine calls_of_SC (args := [.agg (mV z m).toArray]) Tryd.func24 rfl Tryd.ntmps24 rfl ?_
  simp only [argL]
  refine sc_seq ?_
  refine sc_region ?_
  refine sq_box RF rfl (fun b1 => ?_)
  refine qs (y_assign RF) ?_
  refine qs (y_assign RF) ?_
  refine qs (y_assign RF) ?_
  refine sq_nil ?_
  refine sx_then ?_
  refine sc_seq ?_
  refine sc_seq ?_
  refine sc_region ?_
  refine qs LD24 ?_
  refine qy (yc Tryd.call30 E1 (fun w1 hw1 => market30 w1 z m (hz.at hw1 MM))) ?_
  refine qs (y_not RF) ?_
  refine sq_nil ?_
  refine sx_then ?_
  refine scp (fun hc0 => ?_) (fun hc0 => ?_)
  ·
    refine sc_seq ?_
    refine sc_region ?_
    refine qs (y_assign RF) ?_
    refine qs (y_assign RF) ?_
    refine qs (y_assign RF) ?_
    refine sq_nil ?_
    refine sx_then ?_
    refine sc_ret ?_
    refine sx_then_ret ?_
    refine sx_ret3 (.inl rfl) rfl Tryd.results24 RF RF RF ?_
    intro w' hw'
    have hb : mkB m = false := by simpa using hc0
    rw [bestA_no hb]
    exact ⟨(none, 0), rfl, hw'.below MM, RowsA.nil _ _⟩
  ·
    refine sc_skip ?_
    refine sx_then ?_
    refine sc_seq ?_
    have hb : mkB m = true := by simpa using hc0
    have hm := mkF hb
    refine sc_region ?_
    refine qs LD24 ?_
    refine sq_call_new (first := []) (caps := []) (Z := (Option Addr × Nat) × List Int) (fun r => .tuple #[.slice r.1.1 r.2.length r.1.2, .int .i64 (worthL m r.2)]) (fun lo w' r => w.heap.size ≤ lo ∧ RowsA iRow 1 lo w' r.1.1 r.2 ∧ RefF m 7 r.2) RF Tryd.call54 (EvL.cons RF (EvL.cons RF EvL.nil)) (fun w1 hw1 => (best54 w1 z m (hz.at hw1 MM) hm 7 (by decide)).mono (fun e w' ⟨r, h1, h2, h3, h4⟩ => ⟨r, h1, h2, hw1.size, h3, h4⟩)) rfl (fun lo3 wr3 r3 hr3 => ?_)
    refine qs (y_move RF) ?_
    refine qs (y_extract RF RF) ?_
    refine qs (y_extract RF RF) ?_
    refine qs (y_assign RF) ?_
    refine qs (y_assign RF) ?_
    refine sq_nil ?_
    refine sx_then ?_
    refine sc_seq ?_
    refine sc_region ?_
    refine qs (y_move RF) ?_
    refine qs (y_move RF) ?_
    refine qs (y_assign RF) ?_
    refine qs (y_assign RF) ?_
    refine qs (y_assign RF) ?_
    refine sq_nil ?_
    refine sx_then ?_
    refine sc_ret ?_
    refine sx_ret3 (.inl rfl) rfl Tryd.results24 RF RF RF ?_
    intro w' hw'
    obtain ⟨h1, h2⟩ := ref_best hm hr3.2.2
    have h3 := hr3.2.1
    rw [bestA_ok hb]
    rw [h1] at h3 ⊢
    rw [h1] at h2
    rw [h2]
    exact ⟨r3.1, rfl, hw'.below MM, rowsA_keep h3 hw' MM hr3.1⟩
end Go.Proofs.YtpijahglojichaaDoor

/- Prices, one rule after another, as the document goes. -/
namespace Go.Proofs.YtpijahglojichaaDoor
open Go.Eng
def curP (m : Mt) (o ps : List Int) (i k : Nat) : List Int := (rulesN m m.length i ++ rulesI m i k).foldl (relaxP m o) ps
theorem cur_zero (m : Mt) (o ps : List Int) : curP m o ps 0 0 = ps := rfl
theorem cur_next (m : Mt) (o ps : List Int) (i : Nat) : curP m o ps i m.length = curP m o ps (i + 1) 0 := by
  unfold curP
  show _ = ((rulesN m m.length i ++ rulesI m i m.length) ++ rulesI m (i + 1) 0).foldl (relaxP m o) ps
  rw [show rulesI m (i + 1) 0 = [] from rfl, List.append_nil]
theorem cur_all (m : Mt) (o ps : List Int) : curP m o ps m.length 0 = roundP m o ps := by
  unfold curP
  rw [show rulesI m m.length 0 = [] from rfl, List.append_nil]; rfl
theorem cur_yes {m : Mt} (o ps : List Int) {i k : Nat} (h : wantsB m i k = true) : curP m o ps i (k + 1) = relaxP m o (curP m o ps i k) (i, k) := by
  unfold curP
  rw [rulesI_succ, if_pos h, ← List.append_assoc, List.foldl_append]; rfl
theorem cur_no {m : Mt} (o ps : List Int) {i k : Nat} (h : wantsB m i k = false) : curP m o ps i (k + 1) = curP m o ps i k := by
  unfold curP
  rw [rulesI_succ, if_neg (by simp [h])]
theorem cur_len (m : Mt) (o ps : List Int) (i k : Nat) : (curP m o ps i k).length = ps.length := foldl_relax_len m o _ ps
theorem relax_same {m : Mt} {o ps : List Int} {x : Nat × Nat} (hx : x.2 < ps.length) (h : mustP m o ps x ≤ ps.getD x.2 0) : relaxP m o ps x = ps := by
  unfold relaxP
  rw [Int.max_eq_left h]
  apply List.ext_getElem?
  intro j
  rw [List.getElem?_set]
  by_cases e : x.2 = j
  · subst e; rw [if_pos rfl, if_pos hx, get_of_lt 0 hx]
  · rw [if_neg e]
theorem relax_set {m : Mt} {o ps : List Int} {x : Nat × Nat} (h : ps.getD x.2 0 ≤ mustP m o ps x) : relaxP m o ps x = ps.set x.2 (mustP m o ps x) := by
  unfold relaxP; rw [Int.max_eq_right h]
theorem cur_rul {m : Mt} {i k : Nat} (hi : i < m.length) (hk : k ≤ m.length) : ∀ x, x ∈ rulesN m m.length i ++ rulesI m i k → Rul m x := fun x hx => by
  rcases List.mem_append.1 hx with h | h
  · have := rulesN_mem h; exact ⟨by omega, this.2⟩
  · have := rulesI_mem h; exact ⟨by omega, by omega, this.2.2⟩
theorem cur_up {m : Mt} (o : List Int) {ps : List Int} (hl : ps.length = m.length) {i k : Nat} (hi : i < m.length) (hk : k ≤ m.length) (j : Nat) : ps.getD j 0 ≤ (curP m o ps i k).getD j 0 := foldl_up o _ ps hl (cur_rul hi hk) j
theorem cur_hi {m : Mt} (hm : MkF m) {t : Td} (B : BestF m t) (r : Nat) {i k : Nat} (hi : i < m.length) (hk : k ≤ m.length) (j : Nat) : (curP m t.gets (priceN m t.gets r) i k).getD j 0 ≤ 6000 := by
  have hF := price_F hm B
  refine Int.le_trans (foldl_least hF.rule _ _ (priceN_len _ _ _) (cur_rul hi hk) (fun j => ?_) j) (hF.hi j)
  have key : ∀ r j, (priceN m t.gets r).getD j 0 ≤ (priceN m t.gets m.length).getD j 0 := fun r => by
    induction r with
    | zero =>
      intro j
      refine Int.le_trans ?_ (hF.lo j)
      unfold priceN
      rw [List.getD_eq_getElem?_getD, List.getElem?_replicate]
      by_cases h : j < m.length
      · rw [if_pos h]; exact Int.le_refl _
      · rw [if_neg h]; exact Int.le_refl _
    | succ r ih => exact foldl_least hF.rule _ _ (priceN_len _ _ _) rules_rul ih
  exact key r j
theorem cur_lo {m : Mt} (o : List Int) (r : Nat) {i k : Nat} (hi : i < m.length) (hk : k ≤ m.length) (j : Nat) : 0 ≤ (curP m o (priceN m o r) i k).getD j 0 := Int.le_trans (price_lo m o r j) (cur_up o (priceN_len _ _ _) hi hk j)
end Go.Proofs.YtpijahglojichaaDoor

/- The walk of the document's Prices. -/
namespace Go.Proofs.YtpijahglojichaaDoor
open Go Go.Eng Go.RowKit Go.Proofs
set_option maxRecDepth 100000

theorem Prices26 (w : World) (z : MA) (m : Mt) (hz : MtA 0 w z m) : Calls Tryd.prog 26 #[.agg (mV z m).toArray] w fun e w' => ∃ y : Option Addr × Nat, e = .returned (.tuple #[.slice y.1 (priceA m).1.length y.2, .int .i64 (priceA m).2]) ∧ Below w.heap.size w w' ∧ RowsA iRow 1 w.heap.size w' y.1 (priceA m).1 := by
  refine calls_of_SC (args := [.agg (mV z m).toArray]) Tryd.func26 rfl Tryd.ntmps26 rfl ?_
  simp only [argL]
  refine sc_seq ?_
  refine sc_region ?_
  refine sq_box RF rfl (fun b1 => ?_)
  refine qs (y_assign RF) ?_
  refine qs (y_assign RF) ?_
  refine sq_nil ?_
  refine sx_then ?_
  refine sc_seq ?_
  refine sc_seq ?_
  refine sc_region ?_
  refine qs LD24 ?_
  refine qy (yc Tryd.call30 E1 (fun w1 hw1 => market30 w1 z m (hz.at hw1 MM))) ?_
  refine qs (y_not RF) ?_
  refine sq_nil ?_
  refine sx_then ?_
  refine scp (fun hc0 => ?_) (fun hc0 => ?_)
  ·
    refine sc_seq ?_
    refine sc_region ?_
    refine qs (y_assign RF) ?_
    refine qs (y_assign RF) ?_
    refine sq_nil ?_
    refine sx_then ?_
    refine sc_ret ?_
    refine sx_then_ret ?_
    refine sx_ret2 (.inl rfl) rfl Tryd.results26 RF RF ?_
    intro w' hw'
    have hb : mkB m = false := by simpa using hc0
    rw [priceA_no hb]
    exact ⟨(none, 0), rfl, hw'.below MM, RowsA.nil _ _⟩
  ·
    refine sc_skip ?_
    refine sx_then ?_
    refine sc_seq ?_
    have hb : mkB m = true := by simpa using hc0
    have hm := mkF hb
    have hn7 := hm.n7
    refine sc_region ?_
    refine qs LD24 ?_
    refine sq_call_new (first := []) (caps := []) (Z := (Option Addr × Nat) × List Int) (fun r => .tuple #[.slice r.1.1 r.2.length r.1.2, .int .i64 (worthL m r.2)]) (fun lo w' r => RowsA iRow 1 lo w' r.1.1 r.2 ∧ RefF m 7 r.2) RF Tryd.call54 (EvL.cons RF (EvL.cons RF EvL.nil)) (fun w1 hw1 => best54 w1 z m (hz.at hw1 MM) hm 7 (by decide)) rfl (fun lo3 wr3 r3 hr3 => ?_)
    refine qs (y_move RF) ?_
    refine qs (y_extract RF RF) ?_
    refine qs (y_extract RF RF) ?_
    refine qs (y_assign RF) ?_
    refine qs (y_assign RF) ?_
    refine sq_nil ?_
    refine sx_then ?_
    refine sc_seq ?_
    obtain ⟨h1, h2⟩ := ref_best hm hr3.2
    have h3 := hr3.1
    rw [h1] at h3
    have B : BestF m (bestM m) := bestX_F hm
    have hgl := ord_len B.ord
    have hrl : r3.2.length = m.length := by rw [h1]; exact hgl
    rw [hrl]
    replace h3 : RowsA iRow 1 lo3 wr3 r3.1.1 (bestM m).gets := h3
    refine sc_region ?_
    refine qs (y_move RF) ?_
    refine qs (y_len Tryd.underlying25 RF) ?_
    refine qs (y_assign RF) ?_
    refine sq_nil ?_
    refine sx_then ?_
    refine sc_seq ?_
    refine sc_region ?_
    refine qs (y_move RF) ?_
    refine sq_make Tryd.underlying25 ei3 RF RF (by omega) (by omega) (by omega) rfl (fun b23 => ?_)
    rw [irep]
    refine sq_blk_own (n := m.length) (sz := 1) (xs := (List.replicate m.length (0 : Int)).flatMap iRow) RM (by rw [iflat_len]; simp) (by unfold maxLen; omega) ?_
    rw [show List.replicate m.length (0 : Int) = priceN m (bestM m).gets 0 from rfl]
    refine qs (y_assign RF) ?_
    refine sq_nil ?_
    refine sx_then ?_
    refine sc_seq ?_
    refine sc_seq ?_
    refine sc_region ?_
    refine qs (y_assign RF) ?_
    refine sq_nil ?_
    refine sx_then ?_
    refine sc_block ?_
    refine sc_loop (σ := Nat × Bool)
      (fun s_ => [(1, .pointer (some ⟨b1, 0, none⟩)), (4, .slice r3.1.1 m.length r3.1.2), (6, .int .i64 m.length), (7, .slice (some ⟨b23, 0, none⟩) m.length m.length), (8, .bool s_.2)])
      (fun s_ => [.own (.slice (some ⟨b23, 0, none⟩) m.length m.length) 3 1 m.length ((priceN m (bestM m).gets s_.1).flatMap iRow), .blk b1 (.cells (mV z m).toArray 24 (0, 0)), .reg lo3 wr3, .reg 0 w])
      (fun s_ => s_.1 ≤ m.length + 1 ∧ (s_.2 = false → 0 < s_.1 ∧ (priceN m (bestM m).gets s_.1) = (priceN m (bestM m).gets (s_.1 - 1))) ∧ (s_.2 = true → s_.1 = 0 ∨ s_.1 < m.length))
      (fun s_ => m.length + 2 - s_.1)
      ((0, true)) ?_ SU SR ?_
    · exact ⟨Nat.zero_le _, fun h => (by cases h), fun _ => .inl rfl⟩
    rintro ⟨r, b0⟩ ⟨hr, hfix, hgo⟩
    dsimp only at hr hfix hgo ⊢
    refine sc_seq ?_
    refine sc_seq ?_
    refine sc_region ?_
    refine qs (y_move RF) ?_
    refine sq_nil ?_
    refine sx_then ?_
    refine scp (fun hc1 => ?_) (fun hc1 => ?_)
    ·
      have hb0 : b0 = true := by simpa using hc1
      have hgo2 := hgo hb0
      refine sc_skip ?_
      refine sx_then ?_
      refine sc_block ?_
      refine sc_seq ?_
      refine sc_region ?_
      refine qs (y_assign RF) ?_
      refine sq_nil ?_
      refine sx_then ?_
      refine sc_seq ?_
      refine sc_region ?_
      refine qs (y_assign RF) ?_
      refine sq_nil ?_
      refine sx_then ?_
      refine sc_block ?_
      rw [← cur_zero m (bestM m).gets (priceN m (bestM m).gets r)]
      refine sc_loop (σ := Nat × Bool)
        (fun s_ => [(1, .pointer (some ⟨b1, 0, none⟩)), (4, .slice r3.1.1 m.length r3.1.2), (6, .int .i64 m.length), (7, .slice (some ⟨b23, 0, none⟩) m.length m.length), (8, .bool s_.2), (9, .int .i64 s_.1)])
        (fun s_ => [.own (.slice (some ⟨b23, 0, none⟩) m.length m.length) 3 1 m.length ((curP m (bestM m).gets (priceN m (bestM m).gets r) s_.1 0).flatMap iRow), .blk b1 (.cells (mV z m).toArray 24 (0, 0)), .reg lo3 wr3, .reg 0 w])
        (fun s_ => s_.1 ≤ m.length ∧ (s_.2 = false → (curP m (bestM m).gets (priceN m (bestM m).gets r) s_.1 0) = (priceN m (bestM m).gets r)) ∧ (s_.2 = true → (curP m (bestM m).gets (priceN m (bestM m).gets r) s_.1 0) ≠ (priceN m (bestM m).gets r)))
        (fun s_ => m.length - s_.1)
        ((0, false)) ?_ SU SR ?_
      · exact ⟨Nat.zero_le _, fun _ => rfl, fun h => (by cases h)⟩
      rintro ⟨i, f1⟩ ⟨hi, hch⟩
      dsimp only at hi hch ⊢
      refine sc_seq ?_
      refine sc_seq ?_
      refine sc_region ?_
      refine qs (y_move RF) ?_
      refine qs (y_move RF) ?_
      refine qs (y_lss RF RF) ?_
      refine sq_nil ?_
      refine sx_then ?_
      refine scp (fun hc2 => ?_) (fun hc2 => ?_)
      ·
        have hi' : i < m.length := by omega
        obtain ⟨hs1, hr1, hrow⟩ := hz.row hi'
        have hrli := hm.row i hi'
        obtain ⟨hge, hgl2⟩ := ord_get B.ord hi'
        obtain ⟨_, _, hs2, hwg⟩ := hz.cell hi' (show getN (bestM m).gets i < (m.getD i []).length by omega)
        have hs3 := (h3.get 0 (show i < (bestM m).gets.length by omega)).1
        have hcg := (h3.get 0 (show i < (bestM m).gets.length by omega)).2
        rw [hge] at hcg
        refine sc_skip ?_
        refine sx_then ?_
        refine sc_seq ?_
        refine sc_block ?_
        refine sc_seq ?_
        refine sc_region ?_
        refine qs (y_assign RF) ?_
        refine sq_nil ?_
        refine sx_then ?_
        refine sc_block ?_
        refine sc_loop (σ := Nat × Bool)
          (fun s_ => [(1, .pointer (some ⟨b1, 0, none⟩)), (4, .slice r3.1.1 m.length r3.1.2), (6, .int .i64 m.length), (7, .slice (some ⟨b23, 0, none⟩) m.length m.length), (8, .bool s_.2), (9, .int .i64 i), (10, .int .i64 s_.1)])
          (fun s_ => [.own (.slice (some ⟨b23, 0, none⟩) m.length m.length) 3 1 m.length ((curP m (bestM m).gets (priceN m (bestM m).gets r) i s_.1).flatMap iRow), .blk b1 (.cells (mV z m).toArray 24 (0, 0)), .reg lo3 wr3, .reg 0 w])
          (fun s_ => s_.1 ≤ m.length ∧ (s_.2 = false → (curP m (bestM m).gets (priceN m (bestM m).gets r) i s_.1) = (priceN m (bestM m).gets r)) ∧ (s_.2 = true → (curP m (bestM m).gets (priceN m (bestM m).gets r) i s_.1) ≠ (priceN m (bestM m).gets r)))
          (fun s_ => m.length - s_.1)
          ((0, f1)) ?_ SU SR ?_
        · exact ⟨Nat.zero_le _, hch⟩
        rintro ⟨k, f2⟩ ⟨hk, hch2⟩
        dsimp only at hk hch2 ⊢
        refine sc_seq ?_
        refine sc_seq ?_
        refine sc_region ?_
        refine qs (y_move RF) ?_
        refine qs (y_move RF) ?_
        refine qs (y_lss RF RF) ?_
        refine sq_nil ?_
        refine sx_then ?_
        refine scp (fun hc3 => ?_) (fun hc3 => ?_)
        ·
          have hk' : k < m.length := by omega
          have hcl : (curP m (bestM m).gets (priceN m (bestM m).gets r) i k).length = m.length := by rw [cur_len, priceN_len]
          obtain ⟨_, _, _, hwk⟩ := hz.cell hi' (show k < (m.getD i []).length by omega)
          have hb1 := hm.bd i k
          have hb2 := hm.bd i (getN (bestM m).gets i)
          have hb3 := cur_lo (bestM m).gets r hi' (Nat.le_of_lt hk') (getN (bestM m).gets i)
          have hb4 := cur_hi hm B r hi' (Nat.le_of_lt hk') (getN (bestM m).gets i)
          refine sc_skip ?_
          refine sx_then ?_
          refine sc_seq ?_
          refine sc_block ?_
          refine sc_seq ?_
          refine sc_drawX ([.own (.slice (some ⟨b23, 0, none⟩) m.length m.length) 3 1 m.length ((curP m (bestM m).gets (priceN m (bestM m).gets r) i k).flatMap iRow), .blk b1 (.cells (mV z m).toArray 24 (0, 0)), .reg lo3 wr3, .reg 0 w]) (by kernel_rfl) ?_
          refine xj_s 0 RF (by kernel_rfl) SR (y_move RF) rfl ?_
          refine xj_s 1 RF (by kernel_rfl) SR (y_move RF) rfl ?_
          refine xj_s 2 RF (by kernel_rfl) SR (y_move RF) rfl ?_
          refine xj_s 3 RF (by kernel_rfl) SR IA25 rfl ?_
          refine xj_s 4 RF (by kernel_rfl) SR (by first | exact y_load_ca0 Tryd.underlying3 rfl RF MM hcg rfl | exact LD3) rfl ?_
          refine xj_s 5 RF (by kernel_rfl) SR (y_ia_own (v := .slice (some ⟨b23, 0, none⟩) m.length m.length) (i := getN (bestM m).gets i) Tryd.underlying25 Tryd.sizeOf3 RF MM RF (by omega)) rfl ?_
          refine xj_s 6 RF (by kernel_rfl) SR (by first | exact y_load_own0 (v := .slice (some ⟨b23, 0, none⟩) m.length m.length) (u := .int .i64 ((curP m (bestM m).gets (priceN m (bestM m).gets r) i k).getD (getN (bestM m).gets i) 0)) Tryd.underlying3 rfl RF MM (by omega) (flat_iget (get_of_lt 0 (by rw [hcl]; omega))) | exact LD3) rfl ?_
          refine xj_s 7 RF (by kernel_rfl) SR FA24_22 rfl ?_
          refine xj_s 8 RF (by kernel_rfl) SR LD22 rfl ?_
          refine xj_s 9 RF (by kernel_rfl) SR (y_move RF) rfl ?_
          refine xj_s 10 RF (by kernel_rfl) SR IA22 rfl ?_
          refine xj_s 11 RF (by kernel_rfl) SR (by first | exact y_load_ca0 Tryd.underlying25 rfl RF MM hr1 rfl | exact LD25) rfl ?_
          refine xj_s 12 RF (by kernel_rfl) SR (y_move RF) rfl ?_
          refine xj_s 13 RF (by kernel_rfl) SR IA25 rfl ?_
          refine xj_s 14 RF (by kernel_rfl) SR (by first | exact y_load_ca0 Tryd.underlying3 rfl RF MM hwk rfl | exact LD3) rfl ?_
          refine xj_s 15 RF (by kernel_rfl) SR (y_add RF RF (by omega)) rfl ?_
          refine xj_s 16 RF (by kernel_rfl) SR FA24_22 rfl ?_
          refine xj_s 17 RF (by kernel_rfl) SR LD22 rfl ?_
          refine xj_s 18 RF (by kernel_rfl) SR (y_move RF) rfl ?_
          refine xj_s 19 RF (by kernel_rfl) SR IA22 rfl ?_
          refine xj_s 20 RF (by kernel_rfl) SR (by first | exact y_load_ca0 Tryd.underlying25 rfl RF MM hr1 rfl | exact LD25) rfl ?_
          refine xj_s 21 RF (by kernel_rfl) SR (y_move RF) rfl ?_
          refine xj_s 22 RF (by kernel_rfl) SR (y_move RF) rfl ?_
          refine xj_s 23 RF (by kernel_rfl) SR IA25 rfl ?_
          refine xj_s 24 RF (by kernel_rfl) SR (by first | exact y_load_ca0 Tryd.underlying3 rfl RF MM hcg rfl | exact LD3) rfl ?_
          refine xj_s 25 RF (by kernel_rfl) SR IA25 rfl ?_
          refine xj_s 26 RF (by kernel_rfl) SR (by first | exact y_load_ca0 Tryd.underlying3 rfl RF MM hwg rfl | exact LD3) rfl ?_
          refine xj_s 27 RF (by kernel_rfl) SR (y_sub RF RF (by omega)) rfl ?_
          rw [show (curP m (bestM m).gets (priceN m (bestM m).gets r) i k).getD (getN (bestM m).gets i) 0 + wv m i k - wv m i (getN (bestM m).gets i) = (mustP m (bestM m).gets (curP m (bestM m).gets (priceN m (bestM m).gets r) i k) (i, k)) from rfl]
          refine xj_s 28 RF (by kernel_rfl) SR (y_assign RF) rfl ?_
          refine xj_done (by kernel_rfl) ?_
          refine sx_then ?_
          refine sc_seq ?_
          refine sc_midE (Z := {v : Bool // v = (wantsB m i k && decide ((curP m (bestM m).gets (priceN m (bestM m).gets r) i k).getD k 0 < (mustP m (bestM m).gets (curP m (bestM m).gets (priceN m (bestM m).gets r) i k) (i, k))))}) (fun v => [(1, .pointer (some ⟨b1, 0, none⟩)), (4, .slice r3.1.1 m.length r3.1.2), (6, .int .i64 m.length), (7, .slice (some ⟨b23, 0, none⟩) m.length m.length), (8, .bool f2), (9, .int .i64 i), (10, .int .i64 k), (11, .int .i64 (mustP m (bestM m).gets (curP m (bestM m).gets (priceN m (bestM m).gets r) i k) (i, k))), (74, .bool v.1)]) (fun _ => [.own (.slice (some ⟨b23, 0, none⟩) m.length m.length) 3 1 m.length ((curP m (bestM m).gets (priceN m (bestM m).gets r) i k).flatMap iRow), .blk b1 (.cells (mV z m).toArray 24 (0, 0)), .reg lo3 wr3, .reg 0 w]) ?_ ?_
          ·
            refine sc_region ?_
            refine qs LD24 ?_
            refine qs (y_move RF) ?_
            refine qs (y_move RF) ?_
            refine qy (yc Tryd.call51 E3 (fun w1 hw1 => wants51 w1 z m (hz.at hw1 MM) i k hi' (by omega))) ?_
            refine qs (y_move RF) ?_
            refine sp 67 (fun hg16_4 => ?_) (fun hg16_4 => ?_)
            ·
              refine qg (y_move RF) ?_
              refine qg (y_move RF) ?_
              refine qg (y_ia_own (v := .slice (some ⟨b23, 0, none⟩) m.length m.length) (i := k) Tryd.underlying25 Tryd.sizeOf3 RF MM RF hk') ?_
              refine qg (by first | exact y_load_own0 (v := .slice (some ⟨b23, 0, none⟩) m.length m.length) (u := .int .i64 ((curP m (bestM m).gets (priceN m (bestM m).gets r) i k).getD k 0)) Tryd.underlying3 rfl RF MM (by omega) (flat_iget (get_of_lt 0 (by rw [hcl]; omega))) | exact LD3) ?_
              refine qg (y_move RF) ?_
              refine qg (y_lss RF RF) ?_
              refine qs (y_pick_t RF RF) ?_
              refine sq_nil ?_
              exact sx_midE (⟨decide ((curP m (bestM m).gets (priceN m (bestM m).gets r) i k).getD k 0 < (mustP m (bestM m).gets (curP m (bestM m).gets (priceN m (bestM m).gets r) i k) (i, k))), by rw [hg16_4, Bool.true_and]⟩) SU SR
            ·
              refine qf ?_
              refine qf ?_
              refine qf ?_
              refine qf ?_
              refine qf ?_
              refine qf ?_
              refine qs (y_pick_f RF RF) ?_
              refine sq_nil ?_
              exact sx_midE (⟨false, by rw [hg16_4, Bool.false_and]⟩) SU SR
          rintro ⟨vb, hvb⟩
          try dsimp only
          refine sx_then ?_
          refine scp (fun hc4 => ?_) (fun hc4 => ?_)
          ·
            have hv : wantsB m i k = true ∧ (curP m (bestM m).gets (priceN m (bestM m).gets r) i k).getD k 0 < (mustP m (bestM m).gets (curP m (bestM m).gets (priceN m (bestM m).gets r) i k) (i, k)) := by
              have h : vb = true := hc4
              rw [hvb, Bool.and_eq_true, decide_eq_true_eq] at h; exact h
            have hset : (curP m (bestM m).gets (priceN m (bestM m).gets r) i (k + 1)) = (curP m (bestM m).gets (priceN m (bestM m).gets r) i k).set k (mustP m (bestM m).gets (curP m (bestM m).gets (priceN m (bestM m).gets r) i k) (i, k)) := by rw [cur_yes _ _ hv.1]; exact relax_set (Int.le_of_lt hv.2)
            have hne : (curP m (bestM m).gets (priceN m (bestM m).gets r) i (k + 1)) ≠ (priceN m (bestM m).gets r) := fun e => by
              have h1 := congrArg (fun l => l.getD k 0) (hset.symm.trans e)
              rw [getD_set _ 0 k k _ (by rw [hcl]; exact hk'), if_pos rfl] at h1
              have h2 := cur_up (bestM m).gets (priceN_len m (bestM m).gets r) hi' (Nat.le_of_lt hk') k
              omega
            refine sc_seq ?_
            refine sc_region ?_
            refine qs (y_move RF) ?_
            refine qs (y_move RF) ?_
            refine qs (y_move RF) ?_
            refine qs (y_ia_own (v := .slice (some ⟨b23, 0, none⟩) m.length m.length) (i := k) Tryd.underlying25 Tryd.sizeOf3 RF MM RF hk') ?_
            refine sq_store_own (v := .slice (some ⟨b23, 0, none⟩) m.length m.length) (i := k) (j := 0) (sz := 1) Tryd.sizeOf3 RF RF rfl RM (by omega) (by decide) ?_
            rw [iset, ← hset]
            refine sq_nil ?_
            refine sx_then ?_
            refine sc_region ?_
            refine qs (y_assign RF) ?_
            refine sq_nil ?_
            refine sx_blk ?_
            refine sx_then ?_
            refine sc_region ?_
            refine qs (y_move RF) ?_
            refine qs (y_add RF RF (by omega)) ?_
            refine qs (y_assign RF) ?_
            refine sq_nil ?_
            refine sx_round ((k + 1, true)) ?_ ?_ SU SR
            · exact ⟨by dsimp only; omega, fun h => (by cases h), fun _ => hne⟩
            · dsimp only; omega
          ·
            have hsame : (curP m (bestM m).gets (priceN m (bestM m).gets r) i (k + 1)) = (curP m (bestM m).gets (priceN m (bestM m).gets r) i k) := by
              have h : vb = false := hc4
              rw [hvb] at h
              cases hw : wantsB m i k with
              | false => exact cur_no _ _ hw
              | true =>
                rw [hw, Bool.true_and, decide_eq_false_iff_not] at h
                rw [cur_yes _ _ hw]
                exact relax_same (by rw [hcl]; exact hk') (Int.not_lt.1 h)
            rw [← hsame]
            refine sc_skip ?_
            refine sx_blk ?_
            refine sx_then ?_
            refine sc_region ?_
            refine qs (y_move RF) ?_
            refine qs (y_add RF RF (by omega)) ?_
            refine qs (y_assign RF) ?_
            refine sq_nil ?_
            refine sx_round ((k + 1, f2)) ?_ ?_ SU SR
            · refine ⟨by dsimp only; omega, ?_⟩
              dsimp only
              rw [hsame]; exact hch2
            · dsimp only; omega
        ·
          have hkn : k = m.length := by omega
          subst hkn
          rw [cur_next]
          refine sc_exit ?_
          refine sx_then_exit ?_
          refine sx_round_exit ?_
          refine sx_blk_hit ?_
          refine sx_blk ?_
          refine sx_then ?_
          refine sc_region ?_
          refine qs (y_move RF) ?_
          refine qs (y_add RF RF (by omega)) ?_
          refine qs (y_assign RF) ?_
          refine sq_nil ?_
          refine sx_round ((i + 1, f2)) ?_ ?_ SU SR
          · refine ⟨by dsimp only; omega, ?_⟩
            dsimp only
            rw [← cur_next]; exact hch2
          · dsimp only; omega
      ·
        have hin : i = m.length := by omega
        subst hin
        rw [cur_all] at hch ⊢
        refine sc_exit ?_
        refine sx_then_exit ?_
        refine sx_round_exit ?_
        refine sx_blk_hit ?_
        refine sx_blk ?_
        refine sx_round ((r + 1, f1)) ?_ ?_ SU SR
        · refine ⟨by dsimp only; omega, fun h => ⟨by dsimp only; omega, hch.1 h⟩, fun h => .inr (Classical.byContradiction fun hn => hch.2 h (price_stable B (by dsimp only at hn; omega)))⟩
        · dsimp only; omega
    ·
      refine sc_exit ?_
      refine sx_then_exit ?_
      refine sx_round_exit ?_
      refine sx_blk_hit ?_
      refine sx_then ?_
      refine sc_seq ?_
      refine sc_region ?_
      refine qs (y_move RF) ?_
      refine qs (y_assign RF) ?_
      refine qs (y_assign RF) ?_
      refine sq_nil ?_
      refine sx_then ?_
      refine sc_ret ?_
      refine sx_ret2 (.inl rfl) rfl Tryd.results26 RF RF ?_
      intro w' hw'
      have hb0 : b0 = false := by simpa using hc1
      obtain ⟨hr0, hq⟩ := hfix hb0
      have hfin : (priceN m (bestM m).gets r) = (priceN m (bestM m).gets m.length) := by
        have h9 := price_end (m := m) (o := (bestM m).gets) (r := r - 1) (by rw [show r - 1 + 1 = r by omega]; exact hq)
        rcases Nat.le_total r m.length with h | h
        · have := h9 (m.length - (r - 1)); rw [show r - 1 + (m.length - (r - 1)) = m.length by omega] at this; rw [this]; exact hq
        · have := price_more B (r := m.length) (s := r - m.length) (by omega); rw [show m.length + (r - m.length) = r by omega] at this; exact this
      rw [priceA_ok hb, ← hfin]
      have ho := own_new_mem hw' (v := .slice (some ⟨b23, 0, none⟩) m.length m.length) (xs := (priceN m (bestM m).gets r).flatMap iRow) MM MM
      obtain ⟨a2, c2, hv2, _, hr⟩ := own_rowsA (row := iRow) iRow_len ho (priceN_len _ _ _) (by omega)
      injection hv2 with e1 e2 e3
      subst e1
      exact ⟨(some ⟨b23, 0, none⟩, m.length), by rw [priceN_len], hw'.below MM, hr⟩
end Go.Proofs.YtpijahglojichaaDoor

/- The walk of the law RingBests. -/
namespace Go.Proofs.YtpijahglojichaaDoor
open Go Go.Eng Go.RowKit Go.Proofs
set_option maxRecDepth 100000

theorem bests4 (w : World) (z : MA) (m : Mt) (hz : MtA 0 w z m) (hT : TabAt w) : Calls Tryd.prog 4 #[.agg (mV z m).toArray] w fun e w' => e = .returned (.bool true) ∧ Below w.heap.size w w' := by
  refine calls_of_SC (args := [.agg (mV z m).toArray]) Tryd.func4 rfl Tryd.ntmps4 rfl ?_
  simp only [argL]
  refine sc_seq ?_
  refine sc_region ?_
  refine sq_box RF rfl (fun b1 => ?_)
  refine qs (y_assign RF) ?_
  refine sq_nil ?_
  refine sx_then ?_
  refine sc_seq ?_
  refine sc_seq ?_
  have hlen := hz.len
  refine sc_region ?_
  refine qs LD24 ?_
  refine qy (yc Tryd.call14 E1 (fun w1 hw1 => far14 w1 z m (hz.at hw1 MM))) ?_
  refine qs (y_move RF) ?_
  refine sp 15 (fun hg1_2 => ?_) (fun hg1_2 => ?_)
  ·
    refine qf ?_
    refine qf ?_
    refine qf ?_
    refine qf ?_
    refine qf ?_
    refine sq_gu RF RF rfl ?_
    refine sq_gu RF RF rfl ?_
    refine sq_gu RF RF rfl ?_
    refine sq_gu RF RF rfl ?_
    refine qf ?_
    refine qs (y_pick_t RF RF) ?_
    refine sq_nil ?_
    refine sx_then ?_
    refine sc_t RF ?_
    refine sc_seq ?_
    refine sc_region ?_
    refine qy (yc Tryd.call15 E0 (fun w1 hw1 => awake15 w1 (CA.at hT hw1 MM))) ?_
    refine qs (y_assign RF) ?_
    refine sq_nil ?_
    refine sx_then ?_
    refine sc_ret ?_
    refine sx_then_ret ?_
    refine sx_ret1 (.inl rfl) rfl Tryd.results4 RF ?_
    intro w' hw'
    exact ⟨rfl, hw'.below MM⟩
  ·
    refine qg FA24_22 ?_
    refine qg LD22 ?_
    refine qg (y_len Tryd.underlying22 RF) ?_
    refine qg (y_gtr RF RF) ?_
    refine qg (y_move RF) ?_
    refine sp 20 (fun hg1_7 => ?_) (fun hg1_7 => ?_)
    ·
      refine qg FA24_22 ?_
      refine qg LD22 ?_
      refine qg (y_len Tryd.underlying22 RF) ?_
      refine qg (y_leq RF RF) ?_
      refine qg (y_pick_t RF RF) ?_
      refine qs (y_pick_f RF RF) ?_
      refine sq_nil ?_
      refine sx_then ?_
      refine scp (fun hc0 => ?_) (fun hc0 => ?_)
      ·
        refine sc_seq ?_
        refine sc_region ?_
        refine qy (yc Tryd.call15 E0 (fun w1 hw1 => awake15 w1 (CA.at hT hw1 MM))) ?_
        refine qs (y_assign RF) ?_
        refine sq_nil ?_
        refine sx_then ?_
        refine sc_ret ?_
        refine sx_then_ret ?_
        refine sx_ret1 (.inl rfl) rfl Tryd.results4 RF ?_
        intro w' hw'
        exact ⟨rfl, hw'.below MM⟩
      ·
        refine sc_skip ?_
        refine sx_then ?_
        refine sc_seq ?_
        refine sc_region ?_
        refine qs LD24 ?_
        refine sq_call_new (first := []) (caps := []) (Z := Option Addr × Nat) (fun q => .tuple #[.slice q.1 (bestA m).1.length q.2, .int .i64 (bestA m).2.1, .int .i64 (bestA m).2.2]) (fun lo w' q => RowsA iRow 1 lo w' q.1 (bestA m).1) RF Tryd.call23 (EvL.cons RF EvL.nil) (fun w1 hw1 => Best23 w1 z m (hz.at hw1 MM) (CA.at hT hw1 MM)) rfl (fun lo3 wr3 y3 hy3 => ?_)
        refine qs (y_move RF) ?_
        refine qs (y_extract RF RF) ?_
        refine qs (y_extract RF RF) ?_
        refine qs (y_extract RF RF) ?_
        refine qs (y_assign RF) ?_
        refine qs (y_assign RF) ?_
        refine qs (y_assign RF) ?_
        refine sq_nil ?_
        refine sx_then ?_
        refine sc_seq ?_
        refine sc_region ?_
        refine qs LD24 ?_
        refine sq_call_new (first := []) (caps := []) (Z := Option Addr × Nat) (fun q => .tuple #[.slice q.1 (bestA m).1.length q.2, .int .i64 (bestA m).2.1, .int .i64 (bestA m).2.2]) (fun lo w' q => RowsA iRow 1 lo w' q.1 (bestA m).1) RF Tryd.call24 (EvL.cons RF EvL.nil) (fun w1 hw1 => Best24 w1 z m (hz.at hw1 MM)) rfl (fun lo4 wr4 y4 hy4 => ?_)
        refine qs (y_move RF) ?_
        refine qs (y_extract RF RF) ?_
        refine qs (y_extract RF RF) ?_
        refine qs (y_extract RF RF) ?_
        refine qs (y_assign RF) ?_
        refine qs (y_assign RF) ?_
        refine qs (y_assign RF) ?_
        refine sq_nil ?_
        refine sx_then ?_
        refine sc_seq ?_
        refine sc_region ?_
        refine qs LD24 ?_
        refine sq_call_new (first := []) (caps := []) (Z := Option Addr × Nat) (fun q => .tuple #[.slice q.1 (priceA m).1.length q.2, .int .i64 (priceA m).2]) (fun lo w' q => RowsA iRow 1 lo w' q.1 (priceA m).1) RF Tryd.call25 (EvL.cons RF EvL.nil) (fun w1 hw1 => Prices25 w1 z m (hz.at hw1 MM) (CA.at hT hw1 MM)) rfl (fun lo5 wr5 y5 hy5 => ?_)
        refine qs (y_move RF) ?_
        refine qs (y_extract RF RF) ?_
        refine qs (y_extract RF RF) ?_
        refine qs (y_assign RF) ?_
        refine qs (y_assign RF) ?_
        refine sq_nil ?_
        refine sx_then ?_
        refine sc_seq ?_
        refine sc_region ?_
        refine qs LD24 ?_
        refine sq_call_new (first := []) (caps := []) (Z := Option Addr × Nat) (fun q => .tuple #[.slice q.1 (priceA m).1.length q.2, .int .i64 (priceA m).2]) (fun lo w' q => RowsA iRow 1 lo w' q.1 (priceA m).1) RF Tryd.call26 (EvL.cons RF EvL.nil) (fun w1 hw1 => Prices26 w1 z m (hz.at hw1 MM)) rfl (fun lo6 wr6 y6 hy6 => ?_)
        refine qs (y_move RF) ?_
        refine qs (y_extract RF RF) ?_
        refine qs (y_extract RF RF) ?_
        refine qs (y_assign RF) ?_
        refine qs (y_assign RF) ?_
        refine sq_nil ?_
        refine sx_then ?_
        refine sc_seq ?_
        refine sc_region ?_
        refine qs (y_move RF) ?_
        refine qs (y_move RF) ?_
        refine qy (yc Tryd.call27 E2 (fun w1 hw1 => ints27 w1 y3.1 y4.1 y3.2 y4.2 _ _ (hy3.at hw1 MM) (hy4.at hw1 MM))) ?_
        refine qs (y_move RF) ?_
        refine sq_known (tt := 53) (b' := true) RF (by simp) ?_
        refine qg (y_move RF) ?_
        refine qg (y_move RF) ?_
        refine qg (y_eql RF RF) ?_
        refine qs (y_pick_t RF RF) ?_
        refine qs (y_move RF) ?_
        refine sq_known (tt := 58) (b' := true) RF (by simp) ?_
        refine qg (y_move RF) ?_
        refine qg (y_move RF) ?_
        refine qg (y_eql RF RF) ?_
        refine qs (y_pick_t RF RF) ?_
        refine qs (y_move RF) ?_
        refine sq_known (tt := 63) (b' := true) RF (by simp) ?_
        refine qg (y_move RF) ?_
        refine qg (y_move RF) ?_
        refine sq_gt RF RF (y_call (first := []) (caps := []) RF Tryd.call27 (EvL.cons RF (EvL.cons RF EvL.nil)) (fun w1 hw1 => ints27 w1 y5.1 y6.1 y5.2 y6.2 _ _ (hy5.at hw1 MM) (hy6.at hw1 MM))) rfl ?_
        refine qs (y_pick_t RF RF) ?_
        refine qs (y_move RF) ?_
        refine sq_known (tt := 68) (b' := true) RF (by simp) ?_
        refine qg (y_move RF) ?_
        refine qg (y_move RF) ?_
        refine qg (y_eql RF RF) ?_
        refine qs (y_pick_t RF RF) ?_
        refine qs (y_move RF) ?_
        refine sq_known (tt := 73) (b' := true) RF (by simp) ?_
        refine sq_gt RF RF (y_call (first := []) (caps := []) RF Tryd.call15 EvL.nil (fun w1 hw1 => awake15 w1 (CA.at hT hw1 MM))) rfl ?_
        refine qs (y_pick_t RF RF) ?_
        refine qs (y_assign RF) ?_
        refine sq_nil ?_
        refine sx_then ?_
        refine sc_ret ?_
        refine sx_ret1 (.inl rfl) rfl Tryd.results4 RF ?_
        intro w' hw'
        exact ⟨rfl, hw'.below MM⟩
    ·
      refine qf ?_
      refine qf ?_
      refine qf ?_
      refine qf ?_
      refine qg (y_pick_f RF RF) ?_
      refine qs (y_pick_f RF RF) ?_
      refine sq_nil ?_
      refine sx_then ?_
      refine sc_f RF ?_
      refine sc_skip ?_
      refine sx_then ?_
      refine sc_seq ?_
      refine sc_region ?_
      refine qs LD24 ?_
      refine sq_call_new (first := []) (caps := []) (Z := Option Addr × Nat) (fun q => .tuple #[.slice q.1 (bestA m).1.length q.2, .int .i64 (bestA m).2.1, .int .i64 (bestA m).2.2]) (fun lo w' q => RowsA iRow 1 lo w' q.1 (bestA m).1) RF Tryd.call23 (EvL.cons RF EvL.nil) (fun w1 hw1 => Best23 w1 z m (hz.at hw1 MM) (CA.at hT hw1 MM)) rfl (fun lo3 wr3 y3 hy3 => ?_)
      refine qs (y_move RF) ?_
      refine qs (y_extract RF RF) ?_
      refine qs (y_extract RF RF) ?_
      refine qs (y_extract RF RF) ?_
      refine qs (y_assign RF) ?_
      refine qs (y_assign RF) ?_
      refine qs (y_assign RF) ?_
      refine sq_nil ?_
      refine sx_then ?_
      refine sc_seq ?_
      refine sc_region ?_
      refine qs LD24 ?_
      refine sq_call_new (first := []) (caps := []) (Z := Option Addr × Nat) (fun q => .tuple #[.slice q.1 (bestA m).1.length q.2, .int .i64 (bestA m).2.1, .int .i64 (bestA m).2.2]) (fun lo w' q => RowsA iRow 1 lo w' q.1 (bestA m).1) RF Tryd.call24 (EvL.cons RF EvL.nil) (fun w1 hw1 => Best24 w1 z m (hz.at hw1 MM)) rfl (fun lo4 wr4 y4 hy4 => ?_)
      refine qs (y_move RF) ?_
      refine qs (y_extract RF RF) ?_
      refine qs (y_extract RF RF) ?_
      refine qs (y_extract RF RF) ?_
      refine qs (y_assign RF) ?_
      refine qs (y_assign RF) ?_
      refine qs (y_assign RF) ?_
      refine sq_nil ?_
      refine sx_then ?_
      refine sc_seq ?_
      refine sc_region ?_
      refine qs LD24 ?_
      refine sq_call_new (first := []) (caps := []) (Z := Option Addr × Nat) (fun q => .tuple #[.slice q.1 (priceA m).1.length q.2, .int .i64 (priceA m).2]) (fun lo w' q => RowsA iRow 1 lo w' q.1 (priceA m).1) RF Tryd.call25 (EvL.cons RF EvL.nil) (fun w1 hw1 => Prices25 w1 z m (hz.at hw1 MM) (CA.at hT hw1 MM)) rfl (fun lo5 wr5 y5 hy5 => ?_)
      refine qs (y_move RF) ?_
      refine qs (y_extract RF RF) ?_
      refine qs (y_extract RF RF) ?_
      refine qs (y_assign RF) ?_
      refine qs (y_assign RF) ?_
      refine sq_nil ?_
      refine sx_then ?_
      refine sc_seq ?_
      refine sc_region ?_
      refine qs LD24 ?_
      refine sq_call_new (first := []) (caps := []) (Z := Option Addr × Nat) (fun q => .tuple #[.slice q.1 (priceA m).1.length q.2, .int .i64 (priceA m).2]) (fun lo w' q => RowsA iRow 1 lo w' q.1 (priceA m).1) RF Tryd.call26 (EvL.cons RF EvL.nil) (fun w1 hw1 => Prices26 w1 z m (hz.at hw1 MM)) rfl (fun lo6 wr6 y6 hy6 => ?_)
      refine qs (y_move RF) ?_
      refine qs (y_extract RF RF) ?_
      refine qs (y_extract RF RF) ?_
      refine qs (y_assign RF) ?_
      refine qs (y_assign RF) ?_
      refine sq_nil ?_
      refine sx_then ?_
      refine sc_seq ?_
      refine sc_region ?_
      refine qs (y_move RF) ?_
      refine qs (y_move RF) ?_
      refine qy (yc Tryd.call27 E2 (fun w1 hw1 => ints27 w1 y3.1 y4.1 y3.2 y4.2 _ _ (hy3.at hw1 MM) (hy4.at hw1 MM))) ?_
      refine qs (y_move RF) ?_
      refine sq_known (tt := 53) (b' := true) RF (by simp) ?_
      refine qg (y_move RF) ?_
      refine qg (y_move RF) ?_
      refine qg (y_eql RF RF) ?_
      refine qs (y_pick_t RF RF) ?_
      refine qs (y_move RF) ?_
      refine sq_known (tt := 58) (b' := true) RF (by simp) ?_
      refine qg (y_move RF) ?_
      refine qg (y_move RF) ?_
      refine qg (y_eql RF RF) ?_
      refine qs (y_pick_t RF RF) ?_
      refine qs (y_move RF) ?_
      refine sq_known (tt := 63) (b' := true) RF (by simp) ?_
      refine qg (y_move RF) ?_
      refine qg (y_move RF) ?_
      refine sq_gt RF RF (y_call (first := []) (caps := []) RF Tryd.call27 (EvL.cons RF (EvL.cons RF EvL.nil)) (fun w1 hw1 => ints27 w1 y5.1 y6.1 y5.2 y6.2 _ _ (hy5.at hw1 MM) (hy6.at hw1 MM))) rfl ?_
      refine qs (y_pick_t RF RF) ?_
      refine qs (y_move RF) ?_
      refine sq_known (tt := 68) (b' := true) RF (by simp) ?_
      refine qg (y_move RF) ?_
      refine qg (y_move RF) ?_
      refine qg (y_eql RF RF) ?_
      refine qs (y_pick_t RF RF) ?_
      refine qs (y_move RF) ?_
      refine sq_known (tt := 73) (b' := true) RF (by simp) ?_
      refine sq_gt RF RF (y_call (first := []) (caps := []) RF Tryd.call15 EvL.nil (fun w1 hw1 => awake15 w1 (CA.at hT hw1 MM))) rfl ?_
      refine qs (y_pick_t RF RF) ?_
      refine qs (y_assign RF) ?_
      refine sq_nil ?_
      refine sx_then ?_
      refine sc_ret ?_
      refine sx_ret1 (.inl rfl) rfl Tryd.results4 RF ?_
      intro w' hw'
      exact ⟨rfl, hw'.below MM⟩
end Go.Proofs.YtpijahglojichaaDoor

