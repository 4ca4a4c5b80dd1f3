/- The best exchange is what it is said to be. No program in sight. -/
import Derived.Test.YtpijahglojichaaDoorLawB
namespace Go.Proofs.YtpijahglojichaaDoor
open Go.Eng
/-! ### the order of lists and of trades -/
theorem cmpL_self : ∀ l : List Int, cmpL l l = 0
  | [] => rfl
  | a :: l => by unfold cmpL; rw [if_neg (by omega), if_neg (by omega)]; exact cmpL_self l
theorem cmpL_three : ∀ a b : List Int, cmpL a b < 0 ∨ a = b ∨ cmpL b a < 0
  | [], [] => .inr (.inl rfl)
  | [], _ :: _ => .inl (show (-1 : Int) < 0 by decide)
  | _ :: _, [] => .inr (.inr (show (-1 : Int) < 0 by decide))
  | a :: l, b :: r => by
    unfold cmpL
    rcases Int.lt_trichotomy a b with h | h | h
    · exact .inl (by rw [if_pos h]; decide)
    · subst h
      rw [if_neg (by omega), if_neg (by omega), if_neg (by omega), if_neg (by omega)]
      rcases cmpL_three l r with h | h | h
      · exact .inl h
      · exact .inr (.inl (by rw [h]))
      · exact .inr (.inr h)
    · exact .inr (.inr (by rw [if_pos h]; decide))
theorem cmpL_trans : ∀ {a b c : List Int}, cmpL a b < 0 → cmpL b c < 0 → cmpL a c < 0
  | [], [], _, h, _ => by exact absurd h (by decide)
  | [], _ :: _, [], _, h => by exact absurd h (by unfold cmpL; decide)
  | [], _ :: _, _ :: _, _, _ => by unfold cmpL; decide
  | _ :: _, [], _, h, _ => by exact absurd h (by unfold cmpL; decide)
  | _ :: _, _ :: _, [], _, h => by exact absurd h (by unfold cmpL; decide)
  | a :: l, b :: r, c :: s, h1, h2 => by
    unfold cmpL at h1 h2 ⊢
    by_cases e1 : a < b
    · by_cases e2 : b < c
      · rw [if_pos (by omega)]; decide
      · rw [if_neg e2] at h2
        by_cases e3 : c < b
        · rw [if_pos e3] at h2; omega
        · rw [if_pos (by omega)]; decide
    · rw [if_neg e1] at h1
      by_cases e4 : b < a
      · rw [if_pos e4] at h1; omega
      · rw [if_neg e4] at h1
        by_cases e2 : b < c
        · rw [if_pos (by omega)]; decide
        · rw [if_neg e2] at h2
          by_cases e3 : c < b
          · rw [if_pos e3] at h2; omega
          · rw [if_neg e3] at h2
            rw [if_neg (by omega), if_neg (by omega)]
            exact cmpL_trans h1 h2
theorem cmpL_irrefl {a : List Int} (h : cmpL a a < 0) : False := by rw [cmpL_self] at h; omega
theorem better_iff (t o : Td) : betterB t o = true ↔ o.worth < t.worth ∨ (t.worth = o.worth ∧ cmpL t.gets o.gets < 0) := by
  unfold betterB
  by_cases h : t.worth = o.worth
  · rw [if_neg (fun h' => h' h), decide_eq_true_eq]
    constructor
    · intro h1; exact .inr ⟨h, h1⟩
    · rintro (h1 | ⟨_, h1⟩)
      · omega
      · exact h1
  · rw [if_pos h, decide_eq_true_eq]
    constructor
    · exact .inl
    · rintro (h1 | ⟨h1, _⟩)
      · exact h1
      · exact absurd h1 h
theorem better_irrefl {t : Td} (h : betterB t t = true) : False := by
  rcases (better_iff t t).1 h with h | ⟨_, h⟩
  · omega
  · exact cmpL_irrefl h
theorem better_trans {a b c : Td} (h1 : betterB a b = true) (h2 : betterB b c = true) : betterB a c = true := by
  rw [better_iff] at *
  rcases h1 with h1 | ⟨e1, h1⟩ <;> rcases h2 with h2 | ⟨e2, h2⟩
  · exact .inl (by omega)
  · exact .inl (by omega)
  · exact .inl (by omega)
  · exact .inr ⟨by omega, cmpL_trans h1 h2⟩
theorem better_three (a b : Td) : betterB a b = true ∨ a = b ∨ betterB b a = true := by
  rw [better_iff, better_iff]
  rcases Int.lt_trichotomy a.worth b.worth with h | h | h
  · exact .inr (.inr (.inl h))
  · rcases cmpL_three a.gets b.gets with h1 | h1 | h1
    · exact .inl (.inr ⟨h, h1⟩)
    · refine .inr (.inl ?_)
      cases a; cases b; simp at h h1; simp [h, h1]
    · exact .inr (.inr (.inr ⟨h.symm, h1⟩))
  · exact .inl (.inl h)
/-- as good, or better -/
def Geq (t o : Td) : Prop := o = t ∨ betterB t o = true
theorem Geq.refl (t : Td) : Geq t t := .inl rfl
theorem Geq.trans {a b c : Td} (h1 : Geq a b) (h2 : Geq b c) : Geq a c := by
  rcases h1 with rfl | h1
  · exact h2
  · rcases h2 with rfl | h2
    · exact .inr h1
    · exact .inr (better_trans h1 h2)
theorem Geq.antisymm {a b : Td} (h1 : Geq a b) (h2 : Geq b a) : a = b := by
  rcases h1 with h1 | h1
  · exact h1.symm
  · rcases h2 with h2 | h2
    · exact h2
    · exact (better_irrefl (better_trans h1 h2)).elim
theorem Geq.worth {a b : Td} (h : Geq a b) : b.worth ≤ a.worth := by
  rcases h with rfl | h
  · omega
  · rcases (better_iff a b).1 h with h | h <;> omega
theorem Geq.cons {t o : Td} (h : Geq t o) (k a : Int) : Geq ⟨k :: t.gets, a + t.worth⟩ ⟨k :: o.gets, a + o.worth⟩ := by
  rcases h with rfl | h
  · exact .inl rfl
  · right
    rw [better_iff] at h ⊢
    dsimp only
    rcases h with h | ⟨e, h⟩
    · left; omega
    · right
      refine ⟨by omega, ?_⟩
      unfold cmpL
      rw [if_neg (by omega), if_neg (by omega)]; exact h
/-! ### the best of a list -/
def bestOf (l : List Td) : Option Td := l.foldl offer none
theorem offer_geq (h : Option Td) (t : Td) : ∃ r, offer h t = some r ∧ Geq r t ∧ (∀ o, h = some o → Geq r o) ∧ (r = t ∨ h = some r) := by
  unfold offer
  cases h with
  | none => exact ⟨t, if_pos rfl, Geq.refl t, fun o ho => (by cases ho), .inl rfl⟩
  | some o =>
    by_cases hb : betterB t o = true
    · exact ⟨t, if_pos hb, Geq.refl t, fun o' ho => (by cases ho; exact .inr hb), .inl rfl⟩
    · refine ⟨o, if_neg hb, ?_, fun o' ho => (by cases ho; exact Geq.refl o), .inr rfl⟩
      rcases better_three t o with h1 | h1 | h1
      · exact absurd h1 hb
      · exact .inl h1
      · exact .inr h1
theorem foldl_offer : ∀ (l : List Td) (h : Option Td), (l = [] ∧ l.foldl offer h = h) ∨ ∃ r, l.foldl offer h = some r ∧ (∀ o, o ∈ l → Geq r o) ∧ (∀ o, h = some o → Geq r o) ∧ (r ∈ l ∨ h = some r)
  | [], h => .inl ⟨rfl, rfl⟩
  | t :: l, h => by
    right
    obtain ⟨r, h1, h2, h3, h4⟩ := offer_geq h t
    rw [List.foldl_cons, h1]
    rcases foldl_offer l (some r) with ⟨rfl, h5⟩ | ⟨q, h5, h6, h7, h8⟩
    · refine ⟨r, h5, fun o ho => ?_, h3, ?_⟩
      · simp at ho; subst ho; exact h2
      · rcases h4 with rfl | h4
        · exact .inl (List.mem_cons_self ..)
        · exact .inr h4
    · refine ⟨q, h5, fun o ho => ?_, fun o ho => (h7 r rfl).trans (h3 o ho), ?_⟩
      · rcases List.mem_cons.1 ho with rfl | ho
        · exact (h7 r rfl).trans h2
        · exact h6 o ho
      · rcases h8 with h8 | h8
        · exact .inl (List.mem_cons_of_mem _ h8)
        · have := Option.some.inj h8
          subst this
          rcases h4 with rfl | h4
          · exact .inl (List.mem_cons_self ..)
          · exact .inr h4
theorem bestOf_some {l : List Td} {t : Td} (h : bestOf l = some t) : t ∈ l ∧ ∀ o, o ∈ l → Geq t o := by
  rcases foldl_offer l none with ⟨rfl, _⟩ | ⟨r, h1, h2, _, h4⟩
  · cases h
  · unfold bestOf at h
    rw [h1] at h
    cases h
    rcases h4 with h4 | h4
    · exact ⟨h4, h2⟩
    · cases h4
theorem bestOf_none {l : List Td} (h : bestOf l = none) : l = [] := by
  rcases foldl_offer l none with ⟨h1, _⟩ | ⟨r, h1, _⟩
  · exact h1
  · unfold bestOf at h; rw [h1] at h; cases h
/-! ### what can follow from a person on -/
def wF (m : Mt) : Nat → List Int → Int
  | _, [] => 0
  | p, k :: l => wv m p k.toNat + wF m (p + 1) l
def fairF (m : Mt) : Nat → List Int → Prop
  | _, [] => True
  | p, k :: l => wantsB m p k.toNat = true ∧ fairF m (p + 1) l
def setI (left : Nat) : List Int := (memL left).map fun (i : Nat) => (i : Int)
def Comp (m : Mt) (p left : Nat) (l : List Int) : Prop := l.Perm (setI left) ∧ fairF m p l
def candD (m : Mt) (p left k : Nat) : Option Td := if wantsB m p k = true ∧ 0 ≤ (bestT m (p + 1) (dropN left k)).worth then some ⟨(k : Int) :: (bestT m (p + 1) (dropN left k)).gets, wv m p k + (bestT m (p + 1) (dropN left k)).worth⟩ else none
theorem foldH_eq (m : Mt) (p left : Nat) (ds : List Nat) : foldH m (fun k => bestT m (p + 1) (dropN left k)) p ds = bestOf (ds.filterMap (candD m p left)) := by
  have key : ∀ (ds : List Nat) (h : Option Td), ds.foldl (stepH m (fun k => bestT m (p + 1) (dropN left k)) p) h = (ds.filterMap (candD m p left)).foldl offer h := by
    intro ds
    induction ds with
    | nil => intro h; rfl
    | cons k ds ih =>
      intro h
      rw [List.foldl_cons, List.filterMap_cons]
      by_cases hc : wantsB m p k = true ∧ 0 ≤ (bestT m (p + 1) (dropN left k)).worth
      · rw [show candD m p left k = some _ from if_pos hc, show stepH m (fun k => bestT m (p + 1) (dropN left k)) p h k = _ from if_pos hc, List.foldl_cons, ih]
      · rw [show candD m p left k = none from if_neg hc, show stepH m (fun k => bestT m (p + 1) (dropN left k)) p h k = _ from if_neg hc, ih]
  exact key ds none
structure CompF (m : Mt) (p left : Nat) : Prop where
  is : 0 ≤ (bestT m p left).worth → Comp m p left (bestT m p left).gets ∧ (bestT m p left).worth = wF m p (bestT m p left).gets
  top : ∀ l, Comp m p left l → 0 ≤ (bestT m p left).worth ∧ Geq (bestT m p left) ⟨l, wF m p l⟩
theorem memL_nodup : ∀ left, left < 128 → (memL left).Nodup := by decide +kernel
theorem setI_drop {left : Nat} (hl : left < 128) {k : Nat} (hk : k ∈ memL left) : (setI left).Perm ((k : Int) :: setI (dropN left k)) := by
  have h7 := memL_seven left hl k hk
  have hd := dropN_ok left hl k h7.1
  have hn := memL_nodup left hl
  have h1 : (memL left).Perm (k :: (memL left).erase k) := List.perm_cons_erase hk
  rw [hn.erase_eq_filter] at h1
  unfold setI
  rw [hd.2.1]
  exact h1.map (fun (i : Nat) => (i : Int))
theorem compF {m : Mt} (hm : MkF m) : ∀ r p left, p + r = m.length → left < 128 → (memL left).length = r → CompF m p left
  | 0, p, left, hp, _, hl => by
    have e := bestT_end (m := m) (p := p) (left := left) (by omega)
    have e0 : setI left = [] := by unfold setI; rw [List.eq_nil_of_length_eq_zero hl]; rfl
    refine ⟨fun _ => by rw [e]; exact ⟨⟨by rw [e0]; exact List.Perm.refl _, trivial⟩, rfl⟩, fun l hc => ?_⟩
    have : l = [] := by have := hc.1; rw [e0] at this; exact this.eq_nil
    subst this
    rw [e]; exact ⟨Int.le_refl _, .inl rfl⟩
  | r + 1, p, left, hp, hl128, hl => by
    have hstep := bestT_step (m := m) (p := p) (left := left) (by omega)
    rw [foldH_eq] at hstep
    have ih : ∀ k, k ∈ memL left → CompF m (p + 1) (dropN left k) := fun k hk => by
      have h7 := memL_seven left hl128 k hk
      have hd := dropN_ok left hl128 k h7.1
      refine compF hm r (p + 1) (dropN left k) (by omega) hd.1 ?_
      have := (setI_drop hl128 hk).length_eq
      unfold setI at this
      simp at this; omega
    have hmem : ∀ t, t ∈ (memL left).filterMap (candD m p left) → Comp m p left t.gets ∧ t.worth = wF m p t.gets ∧ 0 ≤ t.worth := fun t ht => by
      obtain ⟨k, hk, hc⟩ := List.mem_filterMap.1 ht
      unfold candD at hc
      split at hc
      · rename_i hw
        have hc := (Option.some.inj hc).symm
        subst hc
        obtain ⟨h1, h2⟩ := (ih k hk).is hw.2
        have hb := hm.bd p k
        refine ⟨⟨((h1.1.cons _).trans (setI_drop hl128 hk).symm), ?_, h1.2⟩, ?_, by dsimp only; omega⟩
        · rw [Int.toNat_natCast]; exact hw.1
        · show wv m p k + _ = wv m p (k : Int).toNat + _
          rw [Int.toNat_natCast, h2]
      · cases hc
    have htop : ∀ l, Comp m p left l → ∃ t, t ∈ (memL left).filterMap (candD m p left) ∧ Geq t ⟨l, wF m p l⟩ := fun l hc => by
      cases l with
      | nil =>
        have := hc.1.length_eq
        unfold setI at this; simp at this; omega
      | cons x l =>
        have hx : x ∈ setI left := hc.1.mem_iff.1 (List.mem_cons_self ..)
        unfold setI at hx
        obtain ⟨k, hk, rfl⟩ := List.mem_map.1 hx
        have hw : wantsB m p k = true := by have := hc.2.1; rw [Int.toNat_natCast] at this; exact this
        have hc2 : Comp m (p + 1) (dropN left k) l := ⟨(hc.1.trans (setI_drop hl128 hk)).cons_inv, hc.2.2⟩
        obtain ⟨h1, h2⟩ := (ih k hk).top l hc2
        refine ⟨⟨(k : Int) :: (bestT m (p + 1) (dropN left k)).gets, wv m p k + (bestT m (p + 1) (dropN left k)).worth⟩, List.mem_filterMap.2 ⟨k, hk, if_pos ⟨hw, h1⟩⟩, ?_⟩
        have := h2.cons (k : Int) (wv m p k)
        show Geq _ ⟨(k : Int) :: l, wv m p (k : Int).toNat + wF m (p + 1) l⟩
        rw [Int.toNat_natCast]; exact this
    cases hb : bestOf ((memL left).filterMap (candD m p left)) with
    | none =>
      have he := bestOf_none hb
      rw [hb] at hstep
      rw [he] at htop
      refine ⟨fun h0 => by rw [hstep] at h0; exact absurd h0 (by decide), fun l hc => ?_⟩
      obtain ⟨t, ht, _⟩ := htop l hc
      cases ht
    | some t =>
      obtain ⟨h1, h2⟩ := bestOf_some hb
      rw [hb] at hstep
      have hstep : bestT m p left = t := hstep
      rw [← hstep] at h1 h2
      obtain ⟨h3, h4, h5⟩ := hmem _ h1
      refine ⟨fun _ => ⟨h3, h4⟩, fun l hc => ⟨h5, ?_⟩⟩
      obtain ⟨q, hq, hg⟩ := htop l hc
      exact (h2 q hq).trans hg
/-! ### in the words of the document -/
theorem wF_append (m : Mt) : ∀ (l pre : List Int), worthN m (pre ++ l) (pre.length + l.length) = worthN m (pre ++ l) pre.length + wF m pre.length l
  | [], pre => by simp [wF]
  | k :: l, pre => by
    have ih := wF_append m l (pre ++ [k])
    have hg : getN (pre ++ k :: l) pre.length = k.toNat := by
      unfold getN; rw [List.getD_eq_getElem?_getD, List.getElem?_append_right (Nat.le_refl _)]; simp
    rw [List.append_assoc, List.singleton_append, List.length_append, List.length_singleton] at ih
    rw [List.length_cons, show pre.length + (l.length + 1) = pre.length + 1 + l.length by omega, ih]
    show worthN m (pre ++ k :: l) pre.length + wv m pre.length (getN (pre ++ k :: l) pre.length) + wF m (pre.length + 1) l = _
    rw [hg]
    show _ = worthN m (pre ++ k :: l) pre.length + (wv m pre.length k.toNat + wF m (pre.length + 1) l)
    omega
theorem wF_eq (m : Mt) (l : List Int) : wF m 0 l = worthL m l := by
  have := wF_append m l []
  simp only [List.nil_append, List.length_nil, Nat.zero_add] at this
  unfold worthL
  rw [this]
  show _ = (0 : Int) + _
  omega
theorem fairF_iff (m : Mt) : ∀ (l : List Int) (p : Nat), fairF m p l ↔ ∀ j, j < l.length → wantsB m (p + j) (getN l j) = true
  | [], p => ⟨fun _ j hj => absurd hj (Nat.not_lt_zero j), fun _ => trivial⟩
  | k :: l, p => by
    have ih := fairF_iff m l (p + 1)
    constructor
    · rintro ⟨h1, h2⟩ j hj
      cases j with
      | zero => exact h1
      | succ j =>
        have := ih.1 h2 j (by simpa using hj)
        rw [show p + (j + 1) = p + 1 + j by omega]; exact this
    · intro h
      refine ⟨h 0 (by simp), ih.2 fun j hj => ?_⟩
      have := h (j + 1) (by simpa using hj)
      rw [show p + (j + 1) = p + 1 + j by omega] at this; exact this
theorem fairF_zero (m : Mt) (l : List Int) : fairF m 0 l ↔ fairI m l < 0 := by
  rw [fairF_iff, fair_iff]
  constructor
  · intro h i hi; have := h i hi; rwa [Nat.zero_add] at this
  · intro h i hi; rw [Nat.zero_add]; exact h i hi
theorem setI_full {n : Nat} (h : n ≤ 7) : setI (2 ^ n - 1) = rngI n := by
  have : ∀ n, n ≤ 7 → memL (2 ^ n - 1) = List.range n := by decide +kernel
  unfold setI rngI; rw [this n h]
theorem comp_iff {m : Mt} (hm : MkF m) (l : List Int) : Comp m 0 (2 ^ m.length - 1) l ↔ ordB l m.length = true ∧ fairI m l < 0 := by
  unfold Comp
  rw [setI_full hm.n7, ordB_iff, fairF_zero]
/-- the best exchange of all -/
def bestX (m : Mt) : Td := bestT m 0 (2 ^ m.length - 1)
structure BestF (m : Mt) (t : Td) : Prop where
  ord : ordB t.gets m.length = true
  fair : fairI m t.gets < 0
  worth : t.worth = worthL m t.gets
  top : ∀ o, ordB o m.length = true → fairI m o < 0 → Geq t ⟨o, worthL m o⟩
theorem ord_id (n : Nat) : ordB (rngI n) n = true := (ordB_iff _ _).2 (List.Perm.refl _)
theorem getN_id {n i : Nat} (h : i < n) : getN (rngI n) i = i := by
  unfold getN; rw [getD_of (rngI_get h), Int.toNat_natCast]
theorem fair_id (m : Mt) : fairI m (rngI m.length) < 0 := fair_iff.2 fun i hi => by
  rw [rngI_len] at hi
  rw [getN_id hi]; unfold wantsB; simp
theorem pow7 : ∀ n, n ≤ 7 → 2 ^ n - 1 < 128 ∧ (memL (2 ^ n - 1)).length = n := by decide +kernel
theorem bestX_F {m : Mt} (hm : MkF m) : BestF m (bestX m) := by
  have h7 := pow7 m.length hm.n7
  have hc := compF hm m.length 0 (2 ^ m.length - 1) (Nat.zero_add _) h7.1 h7.2
  obtain ⟨h0, _⟩ := hc.top _ ((comp_iff hm _).2 ⟨ord_id _, fair_id m⟩)
  obtain ⟨h1, h2⟩ := hc.is h0
  obtain ⟨h3, h4⟩ := (comp_iff hm _).1 h1
  refine ⟨h3, h4, by rw [← wF_eq]; exact h2, fun o ho hf => ?_⟩
  have := (hc.top o ((comp_iff hm o).2 ⟨ho, hf⟩)).2
  rwa [wF_eq] at this
theorem BestF.unique {m : Mt} {t u : Td} (h : BestF m t) (k : BestF m u) : t = u := by
  have h1 := h.top _ k.ord k.fair
  have h2 := k.top _ h.ord h.fair
  rw [← k.worth] at h1
  rw [← h.worth] at h2
  exact h1.antisymm h2
end Go.Proofs.YtpijahglojichaaDoor
