/- Markets side by side, and a market less a person. No program in sight. -/
import Derived.Test.YtpijahglojichaaDoorLawU
import Derived.Test.YtpijahglojichaaDoorLawQ
namespace Go.Proofs.YtpijahglojichaaDoor
open Go.Eng
/-! ### two markets side by side -/
def apartX (m o : Mt) (i : Nat) : List Int := if i < m.length then m.getD i [] ++ List.replicate o.length 0 else List.replicate m.length 0 ++ o.getD (i - m.length) []
def apartM (m o : Mt) : Mt := (List.range (m.length + o.length)).map (apartX m o)
theorem getD_appL {l r : List Int} {i : Nat} (h : i < l.length) : (l ++ r).getD i 0 = l.getD i 0 := by
  rw [List.getD_eq_getElem?_getD, List.getD_eq_getElem?_getD, List.getElem?_append_left h]
theorem getD_appR {l r : List Int} {i : Nat} (h : l.length ≤ i) : (l ++ r).getD i 0 = r.getD (i - l.length) 0 := by
  rw [List.getD_eq_getElem?_getD, List.getD_eq_getElem?_getD, List.getElem?_append_right h]
theorem getD_rep (n i : Nat) : (List.replicate n (0 : Int)).getD i 0 = 0 := by
  rw [List.getD_eq_getElem?_getD, List.getElem?_replicate]; split <;> rfl
section
variable {m o : Mt}
theorem apartM_len : (apartM m o).length = m.length + o.length := by simp [apartM]
theorem apartX_len (hm : MkF m) (ho : MkF o) {i : Nat} (hi : i < m.length + o.length) : (apartX m o i).length = m.length + o.length := by
  unfold apartX
  split
  · rename_i h; rw [List.length_append, hm.row i h, List.length_replicate]
  · rename_i h; rw [List.length_append, ho.row _ (by omega), List.length_replicate]
theorem apart_row {i : Nat} (hi : i < m.length + o.length) : (apartM m o).getD i [] = apartX m o i := by
  unfold apartM; rw [List.getD_eq_getElem?_getD]; simp [hi]
theorem apart_ll (hm : MkF m) {i k : Nat} (hi : i < m.length) (hk : k < m.length) : wv (apartM m o) i k = wv m i k := by
  unfold wv
  rw [apart_row (by omega)]
  unfold apartX
  rw [if_pos hi, getD_appL (by rw [hm.row i hi]; exact hk)]
theorem apart_lr (hm : MkF m) {i k : Nat} (hi : i < m.length) (hk : m.length ≤ k) : wv (apartM m o) i k = 0 := by
  unfold wv
  rw [apart_row (by omega)]
  unfold apartX
  rw [if_pos hi, getD_appR (by rw [hm.row i hi]; exact hk), getD_rep]
theorem apart_rl {i k : Nat} (hi : m.length ≤ i) (hk : k < m.length) : wv (apartM m o) i k = 0 := by
  rcases Nat.lt_or_ge i (m.length + o.length) with h | h
  · unfold wv
    rw [apart_row h]
    unfold apartX
    rw [if_neg (by omega), getD_appL (by simpa using hk), getD_rep]
  · exact wv_out (by rw [apartM_len]; exact h)
theorem apart_rr {i k : Nat} (hi : i < o.length) : wv (apartM m o) (m.length + i) (m.length + k) = wv o i k := by
  unfold wv
  rw [apart_row (by omega)]
  unfold apartX
  rw [if_neg (by omega), getD_appR (by rw [List.length_replicate]; omega), List.length_replicate, Nat.add_sub_cancel_left, Nat.add_sub_cancel_left]
theorem apart_mk (hm : mkB m = true) (ho : mkB o = true) (h7 : m.length + o.length ≤ 7) : mkB (apartM m o) = true := by
  have hF := mkF hm
  have hG := mkF ho
  unfold mkB
  rw [apartM_len, decide_eq_true h7, Bool.and_true]
  refine rowsB_yes fun a ha => ?_
  rw [apartM_len] at ha
  have hw : ∀ b, (apartX m o a).getD b 0 = wv (apartM m o) a b := fun b => by unfold wv; rw [apart_row ha]
  have hbd : ∀ b, 0 ≤ wv (apartM m o) a b ∧ wv (apartM m o) a b ≤ 1000 := fun b => by
    rcases Nat.lt_or_ge a m.length with h1 | h1 <;> rcases Nat.lt_or_ge b m.length with h2 | h2
    · rw [apart_ll hF h1 h2]; exact hF.bd a b
    · rw [apart_lr hF h1 h2]; omega
    · rw [apart_rl h1 h2]; omega
    · obtain ⟨i, rfl⟩ := Nat.exists_eq_add_of_le h1
      obtain ⟨k, rfl⟩ := Nat.exists_eq_add_of_le h2
      rw [apart_rr (by omega)]; exact hG.bd i k
  unfold rowB
  rw [apart_row ha, apartX_len hF hG ha, apartM_len, decide_eq_true rfl, Bool.true_and]
  rw [decide_eq_true (show (apartX m o a).getD a 0 = 0 by
    rw [hw]
    rcases Nat.lt_or_ge a m.length with h1 | h1
    · rw [apart_ll hF h1 h1]; exact hF.diag a
    · obtain ⟨i, rfl⟩ := Nat.exists_eq_add_of_le h1
      rw [apart_rr (by omega)]; exact hG.diag i), Bool.and_true]
  refine List.all_eq_true.2 fun x hx => ?_
  obtain ⟨b, hb, rfl⟩ := List.mem_iff_getElem.1 hx
  have e := hw b
  rw [getD_of (List.getElem?_eq_getElem hb)] at e
  rw [e]
  exact decide_eq_true (hbd b)
/-- both exchanges, side by side -/
def joinO (n : Nat) (a b : List Int) : List Int := a ++ b.map fun x => (n : Int) + x
theorem joinO_len (n : Nat) (a b : List Int) : (joinO n a b).length = a.length + b.length := by simp [joinO]
theorem joinO_l {n : Nat} {a b : List Int} {i : Nat} (h : i < a.length) : (joinO n a b).getD i 0 = a.getD i 0 := getD_appL h
theorem joinO_r {n : Nat} {a b : List Int} {i : Nat} (h : i < b.length) : (joinO n a b).getD (a.length + i) 0 = (n : Int) + b.getD i 0 := by
  unfold joinO
  rw [getD_appR (by omega), Nat.add_sub_cancel_left, List.getD_eq_getElem?_getD, List.getD_eq_getElem?_getD, List.getElem?_map, List.getElem?_eq_getElem h]; rfl
theorem join_ord {n k : Nat} {a b : List Int} (ha : ordB a n = true) (hb : ordB b k = true) : ordB (joinO n a b) (n + k) = true := by
  have h1 := ord_len ha
  have h2 := ord_len hb
  have hpa := ord_pm2 ha
  have hpb := ord_pm2 hb
  have hl : ∀ i, i < n → (joinO n a b).getD i 0 = (getN a i : Int) ∧ getN a i < n := fun i hi => by
    rw [joinO_l (by omega)]; exact ord_get ha hi
  have hr : ∀ i, i < k → (joinO n a b).getD (n + i) 0 = ((n + getN b i : Nat) : Int) ∧ getN b i < k := fun i hi => by
    have h3 := joinO_r (n := n) (a := a) (b := b) (i := i) (by omega)
    have h4 := ord_get hb hi
    rw [h1] at h3
    rw [h3, h4.1]
    exact ⟨by omega, h4.2⟩
  refine ord_of (by rw [joinO_len]; omega) (fun i hi => ?_) fun i j hi hj e => ?_
  · rcases Nat.lt_or_ge i n with h | h
    · have := hl i h; omega
    · obtain ⟨i, rfl⟩ := Nat.exists_eq_add_of_le h
      have := hr i (by omega); omega
  · rcases Nat.lt_or_ge i n with h | h <;> rcases Nat.lt_or_ge j n with h' | h'
    · have e1 := hl i h
      have e2 := hl j h'
      exact hpa.inj i j h h' (by omega)
    · obtain ⟨j, rfl⟩ := Nat.exists_eq_add_of_le h'
      have e1 := hl i h
      have e2 := hr j (by omega)
      omega
    · obtain ⟨i, rfl⟩ := Nat.exists_eq_add_of_le h
      have e1 := hr i (by omega)
      have e2 := hl j h'
      omega
    · obtain ⟨i, rfl⟩ := Nat.exists_eq_add_of_le h
      obtain ⟨j, rfl⟩ := Nat.exists_eq_add_of_le h'
      have e1 := hr i (by omega)
      have e2 := hr j (by omega)
      have := hpb.inj i j (by omega) (by omega) (by omega)
      omega
theorem join_getl {n : Nat} {a b : List Int} {i : Nat} (h : i < a.length) : getN (joinO n a b) i = getN a i := getN_eq (joinO_l h)
theorem join_getr {n k : Nat} {a b : List Int} (ha : ordB a n = true) (hb : ordB b k = true) {i : Nat} (h : i < k) : getN (joinO n a b) (n + i) = n + getN b i := by
  have h3 := joinO_r (n := n) (a := a) (b := b) (i := i) (by rw [ord_len hb]; exact h)
  rw [ord_len ha] at h3
  have h4 := ord_get hb h
  show ((joinO n a b).getD (n + i) 0).toNat = _
  rw [h3, h4.1]; omega
theorem join_worth (hm : MkF m) {a b : List Int} (ha : ordB a m.length = true) (hb : ordB b o.length = true) : worthL (apartM m o) (joinO m.length a b) = worthL m a + worthL o b := by
  have h1 := ord_len ha
  have h2 := ord_len hb
  have hl : ∀ i, i ≤ m.length → worthN (apartM m o) (joinO m.length a b) i = worthN m a i := fun i => by
    induction i with
    | zero => intro _; rfl
    | succ i ih =>
      intro hi
      show worthN _ _ i + _ = worthN m a i + _
      rw [ih (by omega), join_getl (by omega), apart_ll hm (by omega) (ord_get ha (by omega)).2]
  have hr : ∀ i, i ≤ o.length → worthN (apartM m o) (joinO m.length a b) (m.length + i) = worthN m a m.length + worthN o b i := fun i => by
    induction i with
    | zero => intro _; rw [Nat.add_zero, hl _ (Nat.le_refl _)]; show _ = _ + (0 : Int); omega
    | succ i ih =>
      intro hi
      show worthN (apartM m o) (joinO m.length a b) (m.length + i) + wv (apartM m o) (m.length + i) (getN (joinO m.length a b) (m.length + i)) = worthN m a m.length + (worthN o b i + wv o i (getN b i))
      rw [ih (by omega), join_getr ha hb (by omega), apart_rr (by omega)]; omega
  unfold worthL
  rw [joinO_len, h1, h2]; exact hr _ (Nat.le_refl _)
theorem join_fair (hm : MkF m) {a b : List Int} (ha : ordB a m.length = true) (hb : ordB b o.length = true) (fa : fairI m a < 0) (fb : fairI o b < 0) : fairI (apartM m o) (joinO m.length a b) < 0 := fair_iff.2 fun i hi => by
  have h1 := ord_len ha
  have h2 := ord_len hb
  rw [joinO_len] at hi
  rcases Nat.lt_or_ge i m.length with h | h
  · rw [join_getl (by omega)]
    have := fair_iff.1 fa i (by omega)
    unfold wantsB at this ⊢
    rw [apart_ll hm h (ord_get ha h).2]; exact this
  · obtain ⟨i, rfl⟩ := Nat.exists_eq_add_of_le h
    rw [join_getr ha hb (by omega)]
    have := fair_iff.1 fb i (by omega)
    unfold wantsB at this ⊢
    rw [apart_rr (by omega)]
    rw [Bool.or_eq_true, decide_eq_true_eq] at this ⊢
    rcases this with h | h
    · left; omega
    · exact .inr h
/-- an exchange that is fair parts in two -/
theorem part_all (hm : MkF m) {e : List Int} (he : ordB e (m.length + o.length) = true) (hf : fairI (apartM m o) e < 0) : ∃ a b, e = joinO m.length a b ∧ ordB a m.length = true ∧ ordB b o.length = true ∧ fairI m a < 0 ∧ fairI o b < 0 := by
  have hl := ord_len he
  have hp := ord_pm2 he
  have hw : ∀ i, i < m.length + o.length → wantsB (apartM m o) i (getN e i) = true := fun i hi => fair_iff.1 hf i (by omega)
  have hL : ∀ i, i < m.length → getN e i < m.length := fun i hi => by
    have := hw i (by omega)
    unfold wantsB at this
    rw [Bool.or_eq_true, decide_eq_true_eq, decide_eq_true_eq] at this
    rcases Nat.lt_or_ge (getN e i) m.length with h | h
    · exact h
    · rw [apart_lr hm hi h] at this; omega
  have hR : ∀ i, i < o.length → m.length ≤ getN e (m.length + i) ∧ getN e (m.length + i) < m.length + o.length := fun i hi => by
    have := hw (m.length + i) (by omega)
    unfold wantsB at this
    rw [Bool.or_eq_true, decide_eq_true_eq, decide_eq_true_eq] at this
    refine ⟨?_, (ord_get he (by omega)).2⟩
    rcases Nat.lt_or_ge (getN e (m.length + i)) m.length with h | h
    · rw [apart_rl (by omega) h] at this; omega
    · exact h
  have ha : ∀ i, i < m.length → ((List.range m.length).map fun i => ((getN e i : Nat) : Int)).getD i 0 = ((getN e i : Nat) : Int) := fun i hi => by
    rw [List.getD_eq_getElem?_getD]; simp [hi]
  have hb : ∀ i, i < o.length → ((List.range o.length).map fun i => ((getN e (m.length + i) - m.length : Nat) : Int)).getD i 0 = ((getN e (m.length + i) - m.length : Nat) : Int) := fun i hi => by
    rw [List.getD_eq_getElem?_getD]; simp [hi]
  have hga : ∀ i, i < m.length → getN ((List.range m.length).map fun i => ((getN e i : Nat) : Int)) i = getN e i := fun i hi => by
    show (((List.range m.length).map fun i => ((getN e i : Nat) : Int)).getD i 0).toNat = _
    rw [ha i hi, Int.toNat_natCast]
  have hgb : ∀ i, i < o.length → getN ((List.range o.length).map fun i => ((getN e (m.length + i) - m.length : Nat) : Int)) i = getN e (m.length + i) - m.length := fun i hi => by
    show (((List.range o.length).map fun i => ((getN e (m.length + i) - m.length : Nat) : Int)).getD i 0).toNat = _
    rw [hb i hi, Int.toNat_natCast]
  refine ⟨(List.range m.length).map fun i => ((getN e i : Nat) : Int), (List.range o.length).map fun i => ((getN e (m.length + i) - m.length : Nat) : Int), ?_, ?_, ?_, ?_, ?_⟩
  · refine ext0 hl (by rw [joinO_len]; simp) fun i hi => ?_
    rw [(ord_get he hi).1]
    rcases Nat.lt_or_ge i m.length with h | h
    · rw [joinO_l (by simpa using h), ha i h]
    · obtain ⟨i, rfl⟩ := Nat.exists_eq_add_of_le h
      have h3 := joinO_r (n := m.length) (a := (List.range m.length).map fun i => ((getN e i : Nat) : Int)) (b := (List.range o.length).map fun i => ((getN e (m.length + i) - m.length : Nat) : Int)) (i := i) (by simp; omega)
      rw [show ((List.range m.length).map fun i => ((getN e i : Nat) : Int)).length = m.length by simp] at h3
      rw [h3, hb i (by omega)]
      have := hR i (by omega)
      omega
  · refine ord_of (by simp) (fun i hi => ?_) fun i j hi hj eq => ?_
    · rw [ha i hi]; have := hL i hi; omega
    · rw [ha i hi, ha j hj] at eq
      exact hp.inj i j (by omega) (by omega) (by omega)
  · refine ord_of (by simp) (fun i hi => ?_) fun i j hi hj eq => ?_
    · rw [hb i hi]; have := hR i hi; omega
    · rw [hb i hi, hb j hj] at eq
      have h1 := hR i hi
      have h2 := hR j hj
      have := hp.inj (m.length + i) (m.length + j) (by omega) (by omega) (by omega)
      omega
  · refine fair_iff.2 fun i hi => ?_
    have hi : i < m.length := by simpa using hi
    rw [hga i hi]
    have := hw i (by omega)
    unfold wantsB at this ⊢
    rw [apart_ll hm hi (hL i hi)] at this; exact this
  · refine fair_iff.2 fun i hi => ?_
    have hi : i < o.length := by simpa using hi
    rw [hgb i hi]
    have h1 := hR i hi
    have := hw (m.length + i) (by omega)
    unfold wantsB at this ⊢
    rw [show getN e (m.length + i) = m.length + (getN e (m.length + i) - m.length) by omega, apart_rr hi] at this
    rw [Bool.or_eq_true, decide_eq_true_eq] at this ⊢
    rcases this with h | h
    · left; omega
    · exact .inr h
theorem cmpL_len : ∀ (a c b d : List Int), a.length = c.length → cmpL (a ++ b) (c ++ d) = if cmpL a c = 0 then cmpL b d else cmpL a c
  | [], [], b, d, _ => rfl
  | [], _ :: _, _, _, h => by cases h
  | _ :: _, [], _, _, h => by cases h
  | x :: a, y :: c, b, d, h => by
    have ih := cmpL_len a c b d (by simpa using h)
    show (if x < y then (-1 : Int) else if y < x then 1 else cmpL (a ++ b) (c ++ d)) = if (if x < y then (-1 : Int) else if y < x then 1 else cmpL a c) = 0 then cmpL b d else (if x < y then (-1 : Int) else if y < x then 1 else cmpL a c)
    by_cases h1 : x < y
    · rw [if_pos h1, if_pos h1, if_neg (by decide)]
    · rw [if_neg h1, if_neg h1]
      by_cases h2 : y < x
      · rw [if_pos h2, if_pos h2, if_neg (by decide)]
      · rw [if_neg h2, if_neg h2]; exact ih
theorem cmpL_shift (n : Int) : ∀ a b : List Int, cmpL (a.map fun x => n + x) (b.map fun x => n + x) = cmpL a b
  | [], [] => rfl
  | [], _ :: _ => rfl
  | _ :: _, [] => rfl
  | x :: a, y :: b => by
    show (if n + x < n + y then (-1 : Int) else if n + y < n + x then 1 else cmpL (a.map fun x => n + x) (b.map fun x => n + x)) = if x < y then (-1 : Int) else if y < x then 1 else cmpL a b
    rw [cmpL_shift n a b]
    by_cases h1 : x < y
    · rw [if_pos h1, if_pos (by omega)]
    · rw [if_neg h1, if_neg (by omega)]
      by_cases h2 : y < x
      · rw [if_pos h2, if_pos (by omega)]
      · rw [if_neg h2, if_neg (by omega)]
theorem join_geq {n : Nat} {a b c d : List Int} {p q r s : Int} (hac : a.length = c.length) (h : Geq ⟨a, p⟩ ⟨c, r⟩) (k : Geq ⟨b, q⟩ ⟨d, s⟩) : Geq ⟨joinO n a b, p + q⟩ ⟨joinO n c d, r + s⟩ := by
  rcases h with h | h
  · cases h
    rcases k with k | k
    · cases k; exact .inl rfl
    · right
      rw [better_iff] at k ⊢
      dsimp only at k ⊢
      rcases k with k | ⟨k1, k2⟩
      · left; omega
      · refine .inr ⟨by omega, ?_⟩
        unfold joinO
        rw [cmpL_app, cmpL_shift]; exact k2
  · right
    rw [better_iff] at h ⊢
    have hk : s ≤ q := k.worth
    dsimp only at h ⊢
    rcases h with h | ⟨h1, h2⟩
    · left; omega
    · rcases Int.lt_or_eq_of_le hk with h3 | h3
      · left; omega
      · refine .inr ⟨by omega, ?_⟩
        unfold joinO
        rw [cmpL_len _ _ _ _ hac, if_neg (by omega)]; exact h2
theorem apart_best (hm : MkF m) {t u : Td} (B : BestF m t) (C : BestF o u) : BestF (apartM m o) ⟨joinO m.length t.gets u.gets, t.worth + u.worth⟩ := by
  refine ⟨by rw [apartM_len]; exact join_ord B.ord C.ord, join_fair hm B.ord C.ord B.fair C.fair, ?_, fun e he hf => ?_⟩
  · show _ = worthL _ _
    rw [join_worth hm B.ord C.ord, B.worth, C.worth]
  · rw [apartM_len] at he
    obtain ⟨a, b, rfl, ha, hb, fa, fb⟩ := part_all hm he hf
    rw [join_worth hm ha hb]
    exact join_geq (by rw [ord_len B.ord, ord_len ha]) (B.top a ha fa) (C.top b hb fb)
theorem PriceF.unique {x : Mt} {g p q : List Int} (h : PriceF x g p) (k : PriceF x g q) : p = q :=
  ext0 h.len k.len fun i _ => Int.le_antisymm (h.least q k.lo k.rule i) (k.least p h.lo h.rule i)
theorem must_ll (hm : MkF m) {a b : List Int} (ha : ordB a m.length = true) {p : List Int} {x : Nat × Nat} (h1 : x.1 < m.length) (h2 : x.2 < m.length) {p1 : List Int} (hp : ∀ i, i < m.length → p.getD i 0 = p1.getD i 0) : mustP (apartM m o) (joinO m.length a b) p x = mustP m a p1 x := by
  have hg := (ord_get ha h1).2
  unfold mustP
  rw [join_getl (by rw [ord_len ha]; exact h1), apart_ll hm h1 h2, apart_ll hm h1 hg, hp _ hg]
theorem must_rr {a b : List Int} (ha : ordB a m.length = true) (hb : ordB b o.length = true) {p : List Int} {i k : Nat} (h1 : i < o.length) {p2 : List Int} (hp : ∀ i, i < o.length → p.getD (m.length + i) 0 = p2.getD i 0) : mustP (apartM m o) (joinO m.length a b) p (m.length + i, m.length + k) = mustP o b p2 (i, k) := by
  have hg := (ord_get hb h1).2
  unfold mustP
  dsimp only
  rw [join_getr ha hb h1, apart_rr h1, apart_rr h1, hp _ hg]
theorem apart_price (hm : MkF m) {a b p q : List Int} (ha : ordB a m.length = true) (hb : ordB b o.length = true) (P : PriceF m a p) (R : PriceF o b q) : PriceF (apartM m o) (joinO m.length a b) (p ++ q) := by
  have hpl := P.len
  have hql := R.len
  have hL : ∀ i, i < m.length → (p ++ q).getD i 0 = p.getD i 0 := fun i hi => getD_appL (by omega)
  have hR : ∀ i, (p ++ q).getD (m.length + i) 0 = q.getD i 0 := fun i => by rw [getD_appR (by omega), hpl, Nat.add_sub_cancel_left]
  have hw : ∀ i k, wantsB (apartM m o) i k = true → (i < m.length ↔ k < m.length) := fun i k h => by
    unfold wantsB at h
    rw [Bool.or_eq_true, decide_eq_true_eq, decide_eq_true_eq] at h
    constructor
    · intro hi
      apply Classical.byContradiction
      intro hk
      rw [apart_lr hm hi (by omega)] at h; omega
    · intro hk
      apply Classical.byContradiction
      intro hi
      rw [apart_rl (by omega) hk] at h; omega
  have hall : ∀ i, (p ++ q).getD i 0 = if i < m.length then p.getD i 0 else q.getD (i - m.length) 0 := fun i => by
    split
    · rename_i h; exact hL i h
    · rename_i h
      have := hR (i - m.length)
      rw [show m.length + (i - m.length) = i by omega] at this; exact this
  refine ⟨by rw [List.length_append, apartM_len]; omega, fun i => ?_, fun i => ?_, ?_, ?_⟩
  · rw [hall]; split
    · exact P.lo i
    · exact R.lo _
  · rw [hall]; split
    · exact P.hi i
    · exact R.hi _
  · rintro ⟨i, k⟩ ⟨h1, h2, h3⟩
    dsimp only at h1 h2 h3
    have h4 := hw i k h3
    rw [apartM_len] at h1 h2
    rcases Nat.lt_or_ge i m.length with h | h
    · have hk := h4.1 h
      rw [must_ll hm ha (x := (i, k)) h hk hL, hL k hk]
      refine P.rule (i, k) ⟨h, hk, ?_⟩
      unfold wantsB at h3 ⊢
      rw [apart_ll hm h hk] at h3; exact h3
    · have hk : m.length ≤ k := Nat.le_of_not_lt fun e => by have := h4.2 e; omega
      obtain ⟨i, rfl⟩ := Nat.exists_eq_add_of_le h
      obtain ⟨k, rfl⟩ := Nat.exists_eq_add_of_le hk
      rw [must_rr ha hb (by omega) (fun i _ => hR i), hR k]
      refine R.rule (i, k) ⟨show i < o.length by omega, show k < o.length by omega, ?_⟩
      unfold wantsB at h3 ⊢
      rw [apart_rr (by omega), Bool.or_eq_true, decide_eq_true_eq] at h3
      rw [Bool.or_eq_true, decide_eq_true_eq]
      rcases h3 with h3 | h3
      · left; dsimp only; omega
      · exact .inr h3
  · intro qs q0 qr i
    rw [hall]
    split
    · refine P.least qs q0 (fun x hx => ?_) i
      have h3 : wantsB (apartM m o) x.1 x.2 = true := by
        have := hx.2.2
        unfold wantsB at this ⊢
        rw [apart_ll hm hx.1 hx.2.1]; exact this
      have := qr x ⟨by rw [apartM_len]; have := hx.1; omega, by rw [apartM_len]; have := hx.2.1; omega, h3⟩
      rw [must_ll hm ha hx.1 hx.2.1 (fun _ _ => rfl)] at this
      exact this
    · rename_i hi
      have hq2 : ∀ j, (qs.drop m.length).getD j 0 = qs.getD (m.length + j) 0 := fun j => by
        rw [List.getD_eq_getElem?_getD, List.getD_eq_getElem?_getD, List.getElem?_drop]
      have := R.least (qs.drop m.length) (fun j => by rw [hq2]; exact q0 _) (fun x hx => ?_) (i - m.length)
      · rw [hq2, show m.length + (i - m.length) = i by omega] at this; exact this
      · have h3 : wantsB (apartM m o) (m.length + x.1) (m.length + x.2) = true := by
          have := hx.2.2
          unfold wantsB at this ⊢
          rw [apart_rr hx.1]
          rw [Bool.or_eq_true, decide_eq_true_eq] at this ⊢
          rcases this with h | h
          · left; omega
          · exact .inr h
        have := qr (m.length + x.1, m.length + x.2) ⟨by rw [apartM_len]; have := hx.1; dsimp only; omega, by rw [apartM_len]; have := hx.2.1; dsimp only; omega, h3⟩
        rw [must_rr ha hb hx.1 (p2 := qs.drop m.length) (fun j _ => (hq2 j).symm)] at this
        rw [hq2]
        exact this
end
/-! ### a market less a person -/
def upN (g i : Nat) : Nat := if i < g then i else i + 1
def dnN (g i : Nat) : Nat := if i < g then i else i - 1
theorem up_ne (g i : Nat) : upN g i ≠ g := by unfold upN; split <;> omega
theorem dn_up (g i : Nat) : dnN g (upN g i) = i := by
  unfold upN; split
  · rename_i h; unfold dnN; rw [if_pos h]
  · unfold dnN; rw [if_neg (by omega)]; omega
theorem up_dn {g i : Nat} (h : i ≠ g) : upN g (dnN g i) = i := by
  unfold dnN; split
  · rename_i h1; unfold upN; rw [if_pos h1]
  · unfold upN; rw [if_neg (by omega)]; omega
/-- a row less what is wished of one -/
def cutR (g : Nat) (l : List Int) : List Int := l.take g ++ l.drop (g + 1)
theorem cutR_len {g : Nat} {l : List Int} (h : g < l.length) : (cutR g l).length = l.length - 1 := by unfold cutR; rw [List.length_append, List.length_take, List.length_drop]; omega
theorem cutR_at {g : Nat} {l : List Int} (h : g < l.length) (i : Nat) : (cutR g l).getD i 0 = l.getD (upN g i) 0 := by
  unfold cutR upN
  by_cases hi : i < g
  · rw [if_pos hi, getD_appL (by rw [List.length_take]; omega), List.getD_eq_getElem?_getD, List.getElem?_take, if_pos hi, ← List.getD_eq_getElem?_getD]
  · rw [if_neg hi, getD_appR (by rw [List.length_take]; omega), List.length_take, List.getD_eq_getElem?_getD, List.getElem?_drop, ← List.getD_eq_getElem?_getD, show g + 1 + (i - min g l.length) = i + 1 by omega]
def lessX (m : Mt) (g i : Nat) : List Int := cutR g (m.getD (upN g i) [])
def lessM (m : Mt) (g : Nat) : Mt := (List.range (m.length - 1)).map (lessX m g)
section
variable {m : Mt} {g : Nat}
theorem lessM_len : (lessM m g).length = m.length - 1 := by simp [lessM]
theorem up_lt {n i : Nat} (hg : g < n) (h : i < n - 1) : upN g i < n := by unfold upN; split <;> omega
theorem dn_lt {n i : Nat} (hg : g < n) (h : i < n) (hne : i ≠ g) : dnN g i < n - 1 := by unfold dnN; split <;> omega
theorem lessX_len (hm : MkF m) (hg : g < m.length) {i : Nat} (hi : i < m.length - 1) : (lessX m g i).length = m.length - 1 := by
  have := hm.row _ (up_lt hg hi)
  unfold lessX; rw [cutR_len (by omega), this]
theorem less_row {i : Nat} (hi : i < m.length - 1) : (lessM m g).getD i [] = lessX m g i := by
  unfold lessM; rw [List.getD_eq_getElem?_getD]; simp [hi]
theorem less_wv (hm : MkF m) (hg : g < m.length) {i : Nat} (hi : i < m.length - 1) (k : Nat) : wv (lessM m g) i k = wv m (upN g i) (upN g k) := by
  have := hm.row _ (up_lt hg hi)
  show ((lessM m g).getD i []).getD k 0 = _
  rw [less_row hi]
  unfold lessX
  rw [cutR_at (by omega)]; rfl
theorem less_mk (h : mkB m = true) (hg : g < m.length) : mkB (lessM m g) = true := by
  have hm := mkF h
  have h7 := hm.n7
  unfold mkB
  rw [lessM_len, decide_eq_true (by omega), Bool.and_true]
  refine rowsB_yes fun a ha => ?_
  rw [lessM_len] at ha
  have hw : ∀ b, (lessX m g a).getD b 0 = wv (lessM m g) a b := fun b => by unfold wv; rw [less_row ha]
  unfold rowB
  rw [less_row ha, lessX_len hm hg ha, lessM_len, decide_eq_true rfl, Bool.true_and, decide_eq_true (show (lessX m g a).getD a 0 = 0 by rw [hw, less_wv hm hg ha]; exact hm.diag _), Bool.and_true]
  refine List.all_eq_true.2 fun x hx => ?_
  obtain ⟨b, hb, rfl⟩ := List.mem_iff_getElem.1 hx
  have e := hw b
  rw [getD_of (List.getElem?_eq_getElem hb), less_wv hm hg ha] at e
  rw [e]
  exact decide_eq_true (hm.bd _ _)
def backO (m : Mt) (g : Nat) (o : List Int) : List Int := (List.range m.length).map fun i => if i = g then (g : Int) else ((upN g (getN o (dnN g i)) : Nat) : Int)
theorem back_at (o : List Int) {i : Nat} (hi : i < m.length) : (backO m g o).getD i 0 = if i = g then (g : Int) else ((upN g (getN o (dnN g i)) : Nat) : Int) := by
  unfold backO; rw [List.getD_eq_getElem?_getD]; simp [hi]
theorem range_up (hg : g < m.length) : (List.range m.length).Perm (g :: (List.range (m.length - 1)).map (upN g)) := by
  have h1 : (g :: (List.range (m.length - 1)).map (upN g)).Nodup := by
    rw [List.nodup_cons]
    refine ⟨fun h => ?_, ?_⟩
    · obtain ⟨i, _, e⟩ := List.mem_map.1 h; exact up_ne g i e
    · rw [List.Nodup, List.pairwise_map]
      refine List.Pairwise.imp ?_ (List.nodup_range (n := m.length - 1))
      intro a b hne e
      exact hne (by rw [← dn_up g a, ← dn_up g b, e])
  rw [List.perm_iff_count]
  intro a
  have hmem : a ∈ List.range m.length ↔ a ∈ g :: (List.range (m.length - 1)).map (upN g) := by
    rw [List.mem_range, List.mem_cons]
    constructor
    · intro ha
      by_cases e : a = g
      · exact .inl e
      · exact .inr (List.mem_map.2 ⟨dnN g a, List.mem_range.2 (dn_lt hg ha e), up_dn e⟩)
    · rintro (rfl | h)
      · exact hg
      · obtain ⟨i, hi, rfl⟩ := List.mem_map.1 h; exact up_lt hg (List.mem_range.1 hi)
  rw [h1.count, List.nodup_range.count]
  by_cases hc : a ∈ List.range m.length
  · rw [if_pos hc, if_pos (hmem.1 hc)]
  · rw [if_neg hc, if_neg fun e => hc (hmem.2 e)]
theorem less_le (h : mkB m = true) (hg : g < m.length) {t u : Td} (B : BestF m t) (C : BestF (lessM m g) u) : u.worth ≤ t.worth := by
  have hm := mkF h
  have hco := C.ord
  rw [lessM_len] at hco
  have hol := ord_len hco
  have hp := ord_pm2 hco
  have hget : ∀ i, i < m.length → i ≠ g → getN (backO m g u.gets) i = upN g (getN u.gets (dnN g i)) := fun i hi hne => by
    show ((backO m g u.gets).getD i 0).toNat = _
    rw [back_at _ hi, if_neg hne, Int.toNat_natCast]
  have hgg : getN (backO m g u.gets) g = g := by
    show ((backO m g u.gets).getD g 0).toNat = _
    rw [back_at _ hg, if_pos rfl, Int.toNat_natCast]
  have hbl : (backO m g u.gets).length = m.length := by simp [backO]
  have hord : ordB (backO m g u.gets) m.length = true := by
    refine ord_of hbl (fun i hi => ?_) fun i j hi hj e => ?_
    · rw [back_at _ hi]
      split
      · omega
      · rename_i hne
        have := up_lt hg (hp.lt _ (dn_lt hg hi hne)); omega
    · rw [back_at _ hi, back_at _ hj] at e
      by_cases h1 : i = g <;> by_cases h2 : j = g
      · omega
      · rw [if_pos h1, if_neg h2] at e
        exact absurd (show upN g (getN u.gets (dnN g j)) = g by omega) (up_ne _ _)
      · rw [if_neg h1, if_pos h2] at e
        exact absurd (show upN g (getN u.gets (dnN g i)) = g by omega) (up_ne _ _)
      · rw [if_neg h1, if_neg h2] at e
        have e1 : getN u.gets (dnN g i) = getN u.gets (dnN g j) := by rw [← dn_up g (getN u.gets (dnN g i)), ← dn_up g (getN u.gets (dnN g j)), show upN g (getN u.gets (dnN g i)) = upN g (getN u.gets (dnN g j)) by omega]
        have e2 := hp.inj _ _ (dn_lt hg hi h1) (dn_lt hg hj h2) e1
        rw [← up_dn h1, ← up_dn h2, e2]
  have hfair : fairI m (backO m g u.gets) < 0 := fair_iff.2 fun i hi => by
    rw [hbl] at hi
    by_cases e : i = g
    · rw [e, hgg]; unfold wantsB; simp
    · rw [hget i hi e]
      have hd := dn_lt hg hi e
      have := fair_iff.1 C.fair (dnN g i) (by omega)
      unfold wantsB at this ⊢
      rw [less_wv hm hg hd, up_dn e, Bool.or_eq_true, decide_eq_true_eq] at this
      rw [Bool.or_eq_true, decide_eq_true_eq]
      rcases this with h1 | h1
      · left; rw [← h1, up_dn e]
      · exact .inr h1
  have hworth : worthL m (backO m g u.gets) = worthL (lessM m g) u.gets := by
    unfold worthL
    rw [hbl, hol, worthN_sum, worthN_sum, sumL_perm _ (range_up hg)]
    show _ + sumL _ _ = _
    rw [sumL_map]
    dsimp only
    rw [hgg, hm.diag, Int.zero_add]
    refine sumL_congr fun i hi => ?_
    have hi := List.mem_range.1 hi
    rw [hget _ (up_lt hg hi) (up_ne g i), dn_up, less_wv hm hg hi]
  have := (B.top _ hord hfair).worth
  rw [C.worth, ← hworth]; exact this
end
end Go.Proofs.YtpijahglojichaaDoor
