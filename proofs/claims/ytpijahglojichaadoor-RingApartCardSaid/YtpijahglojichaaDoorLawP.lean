/- Prices: simple ways, no circle that gains, least solution. No program in sight. -/
import Derived.Test.YtpijahglojichaaDoorLawM
import Derived.Test.YtpijahglojichaaDoorWalk12
namespace Go.Proofs.YtpijahglojichaaDoor
open Go.Eng
def Edg (m : Mt) (o : List Int) (u v : Nat) (d : Int) : Prop := ∃ i, i < m.length ∧ getN o i = u ∧ v < m.length ∧ wantsB m i v = true ∧ d = wv m i v - wv m i u
/-- a way to v: the puzzles before it, the last first; what the prices bear at each -/
inductive Rea (m : Mt) (o ps : List Int) : Nat → List Nat → Int → Prop
  | nil {v : Nat} : v < m.length → 0 ≤ ps.getD v 0 → Rea m o ps v [] 0
  | cons {u v : Nat} {l : List Nat} {c d : Int} : Rea m o ps u l c → Edg m o u v d → c + d ≤ ps.getD v 0 → Rea m o ps v (u :: l) (c + d)
inductive Pth (m : Mt) (o : List Int) (k : Nat) : Nat → List Nat → Int → Prop
  | nil : Pth m o k k [] 0
  | cons {u v : Nat} {l : List Nat} {c d : Int} : Pth m o k u l c → Edg m o u v d → Pth m o k v (u :: l) (c + d)
section
variable {m : Mt} {o ps ps' : List Int}
theorem Rea.le {v : Nat} {l : List Nat} {c : Int} (h : Rea m o ps v l c) : c ≤ ps.getD v 0 := by
  cases h with
  | nil _ h2 => exact h2
  | cons _ _ h3 => exact h3
theorem Rea.mono (hp : ∀ k, ps.getD k 0 ≤ ps'.getD k 0) {v : Nat} {l : List Nat} {c : Int} (h : Rea m o ps v l c) : Rea m o ps' v l c := by
  induction h with
  | nil h1 h2 => exact .nil h1 (Int.le_trans h2 (hp _))
  | cons _ h2 h3 ih => exact .cons ih h2 (Int.le_trans h3 (hp _))
theorem Rea.lt {v : Nat} {l : List Nat} {c : Int} (h : Rea m o ps v l c) : v < m.length ∧ ∀ x, x ∈ l → x < m.length := by
  induction h with
  | nil h1 _ => exact ⟨h1, fun _ h => by cases h⟩
  | cons _ h2 _ ih =>
    obtain ⟨_, _, _, h3, _⟩ := h2
    exact ⟨h3, fun x hx => by rcases List.mem_cons.1 hx with rfl | hx; exact ih.1; exact ih.2 x hx⟩
theorem Rea.bd (hm : MkF m) {v : Nat} {l : List Nat} {c : Int} (h : Rea m o ps v l c) : c ≤ 1000 * (l.length : Int) := by
  induction h with
  | nil _ _ => simp
  | @cons u v l c d _ h2 _ ih =>
    obtain ⟨i, _, _, _, _, hd⟩ := h2
    have h4 := hm.bd i v
    have h5 := hm.bd i u
    rw [List.length_cons]; omega
theorem Rea.split {u : Nat} {l : List Nat} {c : Int} (h : Rea m o ps u l c) {k : Nat} (hk : k ∈ u :: l) : ∃ l' c1 c2, Pth m o k u l' c2 ∧ c1 ≤ ps.getD k 0 ∧ c = c1 + c2 ∧ l' <+: l := by
  induction h with
  | @nil v h1 h2 =>
    obtain rfl : k = v := by simpa using hk
    exact ⟨[], 0, 0, .nil, h2, rfl, List.nil_prefix⟩
  | @cons u v l c d h1 h2 h3 ih =>
    rcases List.mem_cons.1 hk with rfl | hk
    · exact ⟨[], c + d, 0, .nil, h3, by omega, List.nil_prefix⟩
    · obtain ⟨l', c1, c2, g1, g2, g3, g4⟩ := ih hk
      exact ⟨u :: l', c1, c2 + d, .cons g1 h2, g2, by omega, by rw [List.cons_prefix_cons]; exact ⟨rfl, g4⟩⟩
end
theorem worth_set (m : Mt) (o : List Int) {p : Nat} (v : Nat) (hp : p < o.length) : worthL m (o.set p (v : Int)) = worthL m o + wv m p v - wv m p (getN o p) := by
  have key : ∀ j, worthN m (o.set p (v : Int)) j = worthN m o j + (if p < j then wv m p v - wv m p (getN o p) else 0) := fun j => by
    induction j with
    | zero => simp [worthN]
    | succ j ih =>
      have hg : getN (o.set p (v : Int)) j = if j = p then v else getN o j := by
        unfold getN
        rw [getD_set o 0 p j (v : Int) hp]
        by_cases e : j = p
        · rw [if_pos e, if_pos e, Int.toNat_natCast]
        · rw [if_neg e, if_neg e]
      show worthN m (o.set p (v : Int)) j + wv m j (getN (o.set p (v : Int)) j) = worthN m o j + wv m j (getN o j) + _
      rw [ih, hg]
      by_cases e : j = p
      · subst e; rw [if_pos rfl, if_neg (by omega), if_pos (by omega)]; omega
      · rw [if_neg e]
        by_cases e2 : p < j
        · rw [if_pos e2, if_pos (by omega)]; omega
        · rw [if_neg e2, if_neg (by omega)]; omega
  unfold worthL
  rw [List.length_set, key, if_pos hp]; omega
structure Rot (m : Mt) (o : List Int) (k v : Nat) (l : List Nat) (c : Int) (o' : List Int) : Prop where
  len : o'.length = m.length
  worth : worthL m o' = worthL m o + c
  cnt : ∀ x : Int, o'.count x + (if (k : Int) = x then 1 else 0) = o.count x + (if (v : Int) = x then 1 else 0)
  same : ∀ p, p < m.length → getN o p ∉ l → o'.getD p 0 = o.getD p 0
  fair : ∀ p, p < m.length → wantsB m p (getN o' p) = true
theorem cnt_set {o : List Int} {p : Nat} {a v : Int} (hp : p < o.length) (ha : o.getD p 0 = a) (x : Int) : (o.set p v).count x + (if a = x then 1 else 0) = o.count x + (if v = x then 1 else 0) := by
  have he : o[p] = a := by rw [← ha]; exact (getD_of (List.getElem?_eq_getElem hp)).symm
  have h1 := List.count_set (a := v) (b := x) (l := o) (i := p) hp
  rw [he] at h1
  have hpos : a = x → 0 < o.count x := fun e => by
    subst e; rw [← he]; exact List.count_pos_iff.2 (List.getElem_mem hp)
  by_cases e1 : a = x
  · have := hpos e1
    by_cases e2 : v = x
    · simp [e1, e2] at h1 ⊢; omega
    · simp [e1, e2] at h1 ⊢; omega
  · by_cases e2 : v = x
    · simp [e1, e2] at h1 ⊢; omega
    · simp [e1, e2] at h1 ⊢; omega
theorem rot_step {m : Mt} {o : List Int} (ho : ordB o m.length = true) {k u v : Nat} {l : List Nat} {c d : Int} {o' : List Int} (h : Rot m o k u l c o') (hn : (u :: l).Nodup) (he : Edg m o u v d) : ∃ o2, Rot m o k v (u :: l) (c + d) o2 := by
  obtain ⟨p, hp, hg, hv, hw, hd⟩ := he
  have hpl : p < o'.length := by rw [h.len]; exact hp
  have hul : u ∉ l := (List.nodup_cons.1 hn).1
  have hsame := h.same p hp (by rw [hg]; exact hul)
  have hop : o.getD p 0 = (u : Int) := by rw [(ord_get ho hp).1, hg]
  have hgn : getN o' p = u := by unfold getN; rw [hsame, hop, Int.toNat_natCast]
  refine ⟨o'.set p (v : Int), ⟨by rw [List.length_set]; exact h.len, ?_, fun x => ?_, fun q hq hql => ?_, fun q hq => ?_⟩⟩
  · rw [worth_set m o' v hpl, h.worth, hgn]; omega
  · have h1 := cnt_set (v := (v : Int)) hpl (show o'.getD p 0 = (u : Int) by rw [hsame, hop]) x
    have h2 := h.cnt x
    omega
  · rw [getD_set o' 0 p q (v : Int) hpl]
    have hqp : q ≠ p := fun e => by subst e; exact hql (by rw [hg]; exact List.mem_cons_self ..)
    rw [if_neg hqp]
    exact h.same q hq fun hx => hql (List.mem_cons_of_mem _ hx)
  · have hgq : getN (o'.set p (v : Int)) q = if q = p then v else getN o' q := by
      unfold getN
      rw [getD_set o' 0 p q (v : Int) hpl]
      by_cases e : q = p
      · rw [if_pos e, if_pos e, Int.toNat_natCast]
      · rw [if_neg e, if_neg e]
    rw [hgq]
    by_cases e : q = p
    · rw [if_pos e, e]; exact hw
    · rw [if_neg e]; exact h.fair q hq
theorem Pth.rot {m : Mt} {o : List Int} (ho : ordB o m.length = true) (hf : fairI m o < 0) {k v : Nat} {l : List Nat} {c : Int} (h : Pth m o k v l c) (hn : (v :: l).Nodup) : ∃ o', Rot m o k v l c o' := by
  induction h with
  | nil => exact ⟨o, ⟨ord_len ho, by omega, fun x => rfl, fun p _ _ => rfl, fun p hp => fair_iff.1 hf p (by rw [ord_len ho]; exact hp)⟩⟩
  | cons _ h2 ih =>
    have hn2 := (List.nodup_cons.1 hn).2
    obtain ⟨o', h3⟩ := ih hn2
    exact rot_step ho h3 hn2 h2
/-- no circle gains -/
theorem circle_le {m : Mt} {t : Td} (B : BestF m t) {k u : Nat} {l : List Nat} {c d : Int} (h : Pth m t.gets k u l c) (hn : (u :: l).Nodup) (he : Edg m t.gets u k d) : c + d ≤ 0 := by
  obtain ⟨o', h1⟩ := h.rot B.ord B.fair hn
  obtain ⟨o2, h2⟩ := rot_step B.ord h1 hn he
  have hperm : o2.Perm t.gets := List.perm_iff_count.2 fun x => by have := h2.cnt x; omega
  have hord : ordB o2 m.length = true := (ordB_iff _ _).2 (hperm.trans ((ordB_iff _ _).1 B.ord))
  have hfair : fairI m o2 < 0 := fair_iff.2 fun p hp => h2.fair p (by rw [← h2.len]; exact hp)
  have h3 := (B.top o2 hord hfair).worth
  have h4 := h2.worth
  have h5 := B.worth
  dsimp only at h3
  omega
/-! ### one rule -/
def Rul (m : Mt) (x : Nat × Nat) : Prop := x.1 < m.length ∧ x.2 < m.length ∧ wantsB m x.1 x.2 = true
theorem relax_get {m : Mt} (o ps : List Int) {x : Nat × Nat} (hx : x.2 < ps.length) (k : Nat) : (relaxP m o ps x).getD k 0 = if k = x.2 then max (ps.getD x.2 0) (mustP m o ps x) else ps.getD k 0 := getD_set ps 0 x.2 k _ hx
theorem relax_up {m : Mt} (o ps : List Int) {x : Nat × Nat} (hx : x.2 < ps.length) (k : Nat) : ps.getD k 0 ≤ (relaxP m o ps x).getD k 0 := by
  rw [relax_get o ps hx]
  by_cases e : k = x.2
  · rw [if_pos e, e]; omega
  · rw [if_neg e]; exact Int.le_refl _
structure Inv (m : Mt) (o ps : List Int) : Prop where
  len : ps.length = m.length
  way : ∀ k, k < m.length → ∃ l, Rea m o ps k l (ps.getD k 0) ∧ (k :: l).Nodup
theorem Inv.relax {m : Mt} {t : Td} (B : BestF m t) {ps : List Int} (h : Inv m t.gets ps) {x : Nat × Nat} (hx : Rul m x) : Inv m t.gets (relaxP m t.gets ps x) := by
  obtain ⟨h1, h2, h3⟩ := hx
  have hup := relax_up (m := m) t.gets ps (x := x) (by rw [h.len]; exact h2)
  have hg := (ord_get B.ord h1).2
  refine ⟨by rw [relax_len]; exact h.len, fun k hk => ?_⟩
  rw [relax_get t.gets ps (by rw [h.len]; exact h2)]
  by_cases e : k = x.2
  · rw [if_pos e]
    subst e
    rcases Int.le_total (mustP m t.gets ps x) (ps.getD x.2 0) with hle | hgt
    · rw [Int.max_eq_left hle]
      obtain ⟨l, g1, g2⟩ := h.way x.2 hk
      exact ⟨l, g1.mono hup, g2⟩
    · rw [Int.max_eq_right hgt]
      obtain ⟨l, g1, g2⟩ := h.way _ hg
      have hedge : Edg m t.gets (getN t.gets x.1) x.2 (wv m x.1 x.2 - wv m x.1 (getN t.gets x.1)) := ⟨x.1, h1, rfl, h2, h3, rfl⟩
      have hm2 : mustP m t.gets ps x = ps.getD (getN t.gets x.1) 0 + (wv m x.1 x.2 - wv m x.1 (getN t.gets x.1)) := by unfold mustP; omega
      by_cases hin : x.2 ∈ getN t.gets x.1 :: l
      · obtain ⟨l', c1, c2, q1, q2, q3, q4⟩ := g1.split hin
        have hnd : (getN t.gets x.1 :: l').Nodup := g2.sublist (by rw [List.cons_sublist_cons]; exact q4.sublist)
        have hc := circle_le B q1 hnd hedge
        have heq : mustP m t.gets ps x = ps.getD x.2 0 := by omega
        rw [heq]
        obtain ⟨l, g1, g2⟩ := h.way x.2 hk
        exact ⟨l, g1.mono hup, g2⟩
      · refine ⟨getN t.gets x.1 :: l, ?_, List.nodup_cons.2 ⟨hin, g2⟩⟩
        rw [hm2]
        refine .cons (g1.mono hup) hedge ?_
        rw [relax_get t.gets ps (by rw [h.len]; exact h2), if_pos rfl, ← hm2]
        omega
  · rw [if_neg e]
    obtain ⟨l, g1, g2⟩ := h.way k hk
    exact ⟨l, g1.mono hup, g2⟩
theorem Inv.foldl {m : Mt} {t : Td} (B : BestF m t) : ∀ (L : List (Nat × Nat)) {ps : List Int}, Inv m t.gets ps → (∀ x, x ∈ L → Rul m x) → Inv m t.gets (L.foldl (relaxP m t.gets) ps)
  | [], _, h, _ => h
  | x :: L, _, h, hL => Inv.foldl B L (h.relax B (hL x (List.mem_cons_self ..))) fun y hy => hL y (List.mem_cons_of_mem _ hy)
theorem foldl_up {m : Mt} (o : List Int) : ∀ (L : List (Nat × Nat)) (ps : List Int), ps.length = m.length → (∀ x, x ∈ L → Rul m x) → ∀ k, ps.getD k 0 ≤ (L.foldl (relaxP m o) ps).getD k 0
  | [], _, _, _, _ => Int.le_refl _
  | x :: L, ps, hl, hL, k => Int.le_trans (relax_up o ps (by rw [hl]; exact (hL x (List.mem_cons_self ..)).2.1) k) (foldl_up o L _ (by rw [relax_len]; exact hl) (fun y hy => hL y (List.mem_cons_of_mem _ hy)) k)
theorem foldl_rule {m : Mt} (o : List Int) : ∀ (L : List (Nat × Nat)) (ps : List Int), ps.length = m.length → (∀ x, x ∈ L → Rul m x) → ∀ x, x ∈ L → mustP m o ps x ≤ (L.foldl (relaxP m o) ps).getD x.2 0
  | [], _, _, _, x, hx => by cases hx
  | y :: L, ps, hl, hL, x, hx => by
    have hy := hL y (List.mem_cons_self ..)
    have hyl : y.2 < ps.length := by rw [hl]; exact hy.2.1
    have hl2 : (relaxP m o ps y).length = m.length := by rw [relax_len]; exact hl
    have hL2 : ∀ z, z ∈ L → Rul m z := fun z hz => hL z (List.mem_cons_of_mem _ hz)
    rcases List.mem_cons.1 hx with rfl | hx
    · refine Int.le_trans ?_ (foldl_up o L _ hl2 hL2 _)
      rw [relax_get o ps hyl, if_pos rfl]; omega
    · refine Int.le_trans ?_ (foldl_rule o L _ hl2 hL2 x hx)
      have := relax_up (m := m) o ps hyl (getN o x.1)
      unfold mustP
      omega
theorem foldl_least {m : Mt} {o qs : List Int} (hq : ∀ x, Rul m x → mustP m o qs x ≤ qs.getD x.2 0) : ∀ (L : List (Nat × Nat)) (ps : List Int), ps.length = m.length → (∀ x, x ∈ L → Rul m x) → (∀ k, ps.getD k 0 ≤ qs.getD k 0) → ∀ k, (L.foldl (relaxP m o) ps).getD k 0 ≤ qs.getD k 0
  | [], _, _, _, h => h
  | x :: L, ps, hl, hL, h => by
    have hx := hL x (List.mem_cons_self ..)
    refine foldl_least hq L _ (by rw [relax_len]; exact hl) (fun y hy => hL y (List.mem_cons_of_mem _ hy)) fun k => ?_
    rw [relax_get o ps (by rw [hl]; exact hx.2.1)]
    by_cases e : k = x.2
    · rw [if_pos e, e]
      have h1 := hq x hx
      have h2 := h x.2
      have h3 := h (getN o x.1)
      unfold mustP at h1 ⊢
      omega
    · rw [if_neg e]; exact h k
end Go.Proofs.YtpijahglojichaaDoor
