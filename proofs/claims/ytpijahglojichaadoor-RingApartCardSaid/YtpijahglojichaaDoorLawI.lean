/- The best exchange of short rings is what it is said to be. No program in sight. -/
import Derived.Test.YtpijahglojichaaDoorLawG
import Derived.Test.YtpijahglojichaaDoorLawS
namespace Go.Proofs.YtpijahglojichaaDoor
open Go.Eng
/-! ### what a search over candidates finds -/
structure Fld (h h' : Option Td) (C : Td → Prop) : Prop where
  cand : ∀ t, C t → ∃ u, h' = some u ∧ Geq u t
  old : ∀ o, h = some o → ∃ u, h' = some u ∧ Geq u o
  is : ∀ u, h' = some u → h = some u ∨ C u
theorem Fld.refl (h : Option Td) : Fld h h fun _ => False := ⟨fun _ h => h.elim, fun o e => ⟨o, e, Geq.refl o⟩, fun _ e => .inl e⟩
theorem Fld.trans {h h' h'' : Option Td} {C C' : Td → Prop} (a : Fld h h' C) (b : Fld h' h'' C') : Fld h h'' fun t => C t ∨ C' t := by
  refine ⟨fun t ht => ?_, fun o e => ?_, fun u e => ?_⟩
  · rcases ht with ht | ht
    · obtain ⟨u, h1, h2⟩ := a.cand t ht
      obtain ⟨v, h3, h4⟩ := b.old u h1
      exact ⟨v, h3, h4.trans h2⟩
    · exact b.cand t ht
  · obtain ⟨u, h1, h2⟩ := a.old o e
    obtain ⟨v, h3, h4⟩ := b.old u h1
    exact ⟨v, h3, h4.trans h2⟩
  · rcases b.is u e with h1 | h1
    · rcases a.is u h1 with h2 | h2
      · exact .inl h2
      · exact .inr (.inl h2)
    · exact .inr (.inr h1)
theorem Fld.to {h h' : Option Td} {C C' : Td → Prop} (a : Fld h h' C) (e : ∀ t, C t ↔ C' t) : Fld h h' C' :=
  ⟨fun t ht => a.cand t ((e t).2 ht), a.old, fun u hu => (a.is u hu).imp id (e u).1⟩
theorem Fld.offer (h : Option Td) (t : Td) : Fld h (offer h t) fun u => u = t := by
  obtain ⟨r, h1, h2, h3, h4⟩ := offer_geq h t
  refine ⟨fun u hu => ⟨r, h1, by rw [hu]; exact h2⟩, fun o ho => ⟨r, h1, h3 o ho⟩, fun u hu => ?_⟩
  rw [h1] at hu
  cases hu
  rcases h4 with h4 | h4
  · exact .inr h4
  · exact .inl h4
theorem Fld.fold {f : Option Td → Nat → Option Td} {C : Nat → Td → Prop} : ∀ (l : List Nat) (h : Option Td), (∀ k, k ∈ l → ∀ h, Fld h (f h k) (C k)) → Fld h (l.foldl f h) fun t => ∃ k, k ∈ l ∧ C k t
  | [], h, _ => (Fld.refl h).to fun t => ⟨fun e => e.elim, fun ⟨_, e, _⟩ => by cases e⟩
  | k :: l, h, hf => by
    rw [List.foldl_cons]
    refine ((hf k (List.mem_cons_self ..) h).trans (Fld.fold l (f h k) fun j hj => hf j (List.mem_cons_of_mem _ hj))).to fun t => ⟨?_, ?_⟩
    · rintro (e | ⟨j, hj, e⟩)
      · exact ⟨k, List.mem_cons_self .., e⟩
      · exact ⟨j, List.mem_cons_of_mem _ hj, e⟩
    · rintro ⟨j, hj, e⟩
      rcases List.mem_cons.1 hj with rfl | hj
      · exact .inl e
      · exact .inr ⟨j, hj, e⟩
/-- the ways to go on with a ring, and to close it -/
inductive Cand (m : Mt) (long : Nat) (S : Nat → Td) : List Nat → Nat → Td → Prop
  | here {r : List Nat} {rest : Nat} : 1 < r.length → wantsB m (lastN r) (r.headD 0) = true → Cand m long S r rest (ownT m r (S rest))
  | more {r : List Nat} {rest k : Nat} {t : Td} : r.length ≠ long → k ∈ memL rest → wantsB m (lastN r) k = true → Cand m long S (r ++ [k]) (dropN rest k) t → Cand m long S r rest t
theorem cand_iff {m : Mt} {long : Nat} {S : Nat → Td} {r : List Nat} {rest : Nat} {t : Td} : Cand m long S r rest t ↔ ((1 < r.length ∧ wantsB m (lastN r) (r.headD 0) = true) ∧ t = ownT m r (S rest)) ∨ (r.length ≠ long ∧ ∃ k, k ∈ memL rest ∧ wantsB m (lastN r) k = true ∧ Cand m long S (r ++ [k]) (dropN rest k) t) := by
  constructor
  · intro h
    cases h with
    | here h1 h2 => exact .inl ⟨⟨h1, h2⟩, rfl⟩
    | more h1 h2 h3 h4 => exact .inr ⟨h1, _, h2, h3, h4⟩
  · rintro (⟨⟨h1, h2⟩, rfl⟩ | ⟨h1, k, h2, h3, h4⟩)
    · exact .here h1 h2
    · exact .more h1 h2 h3 h4
theorem on_fld (m : Mt) (long : Nat) : ∀ N rest, rest < N → rest < 128 → ∀ r h, Fld h (onT m long r rest h) (Cand m long (shT m long) r rest)
  | 0, _, h, _ => absurd h (Nat.not_lt_zero _)
  | N + 1, rest, hN, hl => by
    intro r h
    rw [onT_step m long r h hl]
    unfold onStep
    have hA : Fld h (if 1 < r.length ∧ wantsB m (lastN r) (r.headD 0) = true then Go.Proofs.YtpijahglojichaaDoor.offer h (ownT m r (shT m long rest)) else h) fun t => (1 < r.length ∧ wantsB m (lastN r) (r.headD 0) = true) ∧ t = ownT m r (shT m long rest) := by
      split
      · rename_i hc
        exact (Fld.offer h _).to fun t => ⟨fun e => ⟨hc, e⟩, fun e => e.2⟩
      · rename_i hc
        exact (Fld.refl h).to fun t => ⟨fun e => e.elim, fun e => hc e.1⟩
    by_cases hlong : r.length = long
    · rw [if_pos hlong]
      refine hA.to fun t => ?_
      rw [cand_iff]
      exact ⟨fun e => .inl e, fun e => e.elim id fun e => absurd hlong e.1⟩
    · rw [if_neg hlong]
      have hB := Fld.fold (f := fun h k => if wantsB m (lastN r) k = true then onT m long (r ++ [k]) (dropN rest k) h else h) (C := fun k t => wantsB m (lastN r) k = true ∧ Cand m long (shT m long) (r ++ [k]) (dropN rest k) t) (memL rest) (if 1 < r.length ∧ wantsB m (lastN r) (r.headD 0) = true then Go.Proofs.YtpijahglojichaaDoor.offer h (ownT m r (shT m long rest)) else h) fun k hk h => by
        have h7 := memL_seven rest hl k hk
        have hd := card_drop rest hl k h7.1 h7.2
        split
        · rename_i hw
          exact (on_fld m long N (dropN rest k) (by omega) hd.1 (r ++ [k]) h).to fun t => ⟨fun e => ⟨hw, e⟩, fun e => e.2⟩
        · rename_i hw
          exact (Fld.refl h).to fun t => ⟨fun e => e.elim, fun e => hw e.1⟩
      refine (hA.trans hB).to fun t => ?_
      rw [cand_iff]
      constructor
      · rintro (e | ⟨k, h1, h2, h3⟩)
        · exact .inl e
        · exact .inr ⟨hlong, k, h1, h2, h3⟩
      · rintro (e | ⟨_, k, h1, h2, h3⟩)
        · exact .inl e
        · exact .inr ⟨k, h1, h2, h3⟩
/-! ### a ring laid over an exchange -/
theorem nd_inj {r : List Nat} (hd : r.Nodup) {i j : Nat} (hi : i < r.length) (hj : j < r.length) (e : r.getD i 0 = r.getD j 0) : i = j := by
  rw [getD_of (List.getElem?_eq_getElem hi), getD_of (List.getElem?_eq_getElem hj)] at e
  rcases Nat.lt_trichotomy i j with h | h | h
  · exact absurd e (List.pairwise_iff_getElem.1 hd i j hi hj h)
  · exact h
  · exact absurd e.symm (List.pairwise_iff_getElem.1 hd j i hj hi h)
theorem getN_eq {a b : List Int} {x y : Nat} (h : a.getD x 0 = b.getD y 0) : getN a x = getN b y := by unfold getN; rw [h]
theorem mod_next {a p : Nat} (h : a < p) : (a + 1) % p = if a + 1 = p then 0 else a + 1 := by
  split
  · rename_i e; rw [e, Nat.mod_self]
  · exact Nat.mod_eq_of_lt (by omega)
theorem setD (l : List Int) (x i : Nat) (v : Int) (hx : x < l.length) : (l.set x v).getD i 0 = if i = x then v else l.getD i 0 := by
  rw [List.getD_eq_getElem?_getD, List.getD_eq_getElem?_getD, List.getElem?_set]
  by_cases e : x = i
  · subst e; rw [if_pos rfl, if_pos hx, if_pos rfl]; rfl
  · rw [if_neg e, if_neg (fun h => e h.symm)]
theorem worth_set2 (m : Mt) (o : List Int) {p : Nat} (v : Nat) (hp : p < o.length) : worthL m (o.set p (v : Int)) = worthL m o + wv m p v - wv m p (getN o p) := by
  have key : ∀ j, worthN m (o.set p (v : Int)) j = worthN m o j + (if p < j then wv m p v - wv m p (getN o p) else 0) := fun j => by
    induction j with
    | zero => simp [worthN]
    | succ j ih =>
      have hg : getN (o.set p (v : Int)) j = if j = p then v else getN o j := by
        unfold getN
        rw [setD o p j (v : Int) hp]
        by_cases e : j = p
        · rw [if_pos e, if_pos e, Int.toNat_natCast]
        · rw [if_neg e, if_neg e]
      show worthN m (o.set p (v : Int)) j + wv m j (getN (o.set p (v : Int)) j) = worthN m o j + wv m j (getN o j) + _
      rw [ih, hg]
      by_cases e : j = p
      · subst e; rw [if_pos rfl, if_neg (by omega), if_pos (by omega)]; omega
      · rw [if_neg e]
        by_cases e2 : p < j
        · rw [if_pos e2, if_pos (by omega)]; omega
        · rw [if_neg e2, if_neg (by omega)]; omega
  unfold worthL
  rw [List.length_set, key, if_pos hp]; omega
theorem ringG_out (r : List Nat) (gs : List Int) {x : Nat} : ∀ i, (∀ j, j < i → r.getD j 0 < gs.length) → (∀ j, j < i → r.getD j 0 ≠ x) → (ringG r gs i).getD x 0 = gs.getD x 0
  | 0, _, _ => rfl
  | i + 1, hl, hn => by
    show ((ringG r gs i).set _ _).getD x 0 = _
    rw [setD _ _ _ _ (by rw [ringG_len]; exact hl i (by omega)), if_neg (fun e => hn i (by omega) e.symm)]
    exact ringG_out r gs i (fun j hj => hl j (by omega)) fun j hj => hn j (by omega)
theorem ringG_at {r : List Nat} {gs : List Int} (hd : r.Nodup) (hl : ∀ j, j < r.length → r.getD j 0 < gs.length) : ∀ i, i ≤ r.length → ∀ j, j < i → (ringG r gs i).getD (r.getD j 0) 0 = ((nextN r j : Nat) : Int)
  | 0, _, _, h => absurd h (Nat.not_lt_zero _)
  | i + 1, hi, j, hj => by
    show ((ringG r gs i).set _ _).getD _ 0 = _
    rw [setD _ _ _ _ (by rw [ringG_len]; exact hl i (by omega))]
    rcases Nat.lt_or_eq_of_le (Nat.le_of_lt_succ hj) with h | h
    · rw [if_neg (fun e => by have := nd_inj hd (by omega) (by omega) e; omega)]
      exact ringG_at hd hl i (by omega) j h
    · subst h; rw [if_pos rfl]
theorem ord_of {l : List Int} {n : Nat} (hl : l.length = n) (hb : ∀ i, i < n → 0 ≤ l.getD i 0 ∧ l.getD i 0 < (n : Int)) (hi : ∀ i j, i < n → j < n → l.getD i 0 = l.getD j 0 → i = j) : ordB l n = true := by
  rw [← ord_exO, exO_mem n [] List.nodup_nil]
  refine ⟨l, rfl, hl, ?_, fun x hx => ?_⟩
  · show (l).Nodup
    rw [List.Nodup, List.pairwise_iff_getElem]
    intro i j h1 h2 h3 e
    have := hi i j (by omega) (by omega) (by rw [getD_of (List.getElem?_eq_getElem h1), getD_of (List.getElem?_eq_getElem h2)]; exact e)
    omega
  · obtain ⟨i, h1, rfl⟩ := List.mem_iff_getElem.1 hx
    have := hb i (by omega)
    rwa [getD_of (List.getElem?_eq_getElem h1)] at this
/-- an exchange of the persons of a set: all others keep their own; no ring is too long -/
structure OkF (m : Mt) (long left : Nat) (o : List Int) : Prop where
  ord : ordB o m.length = true
  fix : ∀ i, i < m.length → i ∉ memL left → getN o i = i
  fair : fairI m o < 0
  short : ∀ i, i < m.length → per (getN o) m.length i ≤ long
theorem OkF.up {m : Mt} {long l l' : Nat} {o : List Int} (h : OkF m long l o) (hl : ∀ i, i ∈ memL l → i ∈ memL l') : OkF m long l' o :=
  ⟨h.ord, fun i hi hn => h.fix i hi fun e => hn (hl i e), h.fair, h.short⟩
theorem ord_pm2 {o : List Int} {n : Nat} (h : ordB o n = true) : Pm (getN o) n := by
  have hl := ord_len h
  subst hl; exact ord_pm h
theorem OkF.wants {m : Mt} {long l : Nat} {o : List Int} (h : OkF m long l o) {i : Nat} (hi : i < m.length) : wantsB m i (getN o i) = true := fair_iff.1 h.fair i (by rw [ord_len h.ord]; exact hi)
/-- a ring under way: who is in it, and who is left -/
structure RPth (m : Mt) (long : Nat) (r : List Nat) (rest : Nat) : Prop where
  nd : r.Nodup
  lt : ∀ x, x ∈ r → x < m.length
  out : ∀ x, x ∈ r → x ∉ memL rest
  ne : 0 < r.length
  chain : ∀ i, i + 1 < r.length → wantsB m (r.getD i 0) (r.getD (i + 1) 0) = true
  rin : ∀ x, x ∈ memL rest → x < m.length
  len : r.length ≤ long
  r128 : rest < 128
theorem mem_drop {x : Nat} (hx : x < 128) {k : Nat} (hk : k ∈ memL x) (i : Nat) : i ∈ memL (dropN x k) ↔ i ∈ memL x ∧ i ≠ k := by
  have h7 := memL_seven x hx k hk
  rw [(dropN_ok x hx k h7.1).2.1, List.mem_filter]; simp
theorem getD_app1 {r : List Nat} {s : List Nat} {i : Nat} (h : i < r.length) : (r ++ s).getD i 0 = r.getD i 0 := by
  rw [List.getD_eq_getElem?_getD, List.getD_eq_getElem?_getD, List.getElem?_append_left h]
theorem getD_app2 {r : List Nat} {k : Nat} {s : List Nat} : (r ++ k :: s).getD r.length 0 = k := by
  rw [List.getD_eq_getElem?_getD, List.getElem?_append_right (Nat.le_refl _)]; simp
theorem RPth.more {m : Mt} {long : Nat} {r : List Nat} {rest k : Nat} (h : RPth m long r rest) (hl : r.length ≠ long) (hk : k ∈ memL rest) (hw : wantsB m (lastN r) k = true) : RPth m long (r ++ [k]) (dropN rest k) := by
  have hmd := fun i => mem_drop h.r128 hk i
  refine ⟨?_, fun x hx => ?_, fun x hx => ?_, by simp, fun i hi => ?_, fun x hx => h.rin x ((hmd x).1 hx).1, ?_, ?_⟩
  · rw [List.nodup_append]
    exact ⟨h.nd, by simp, fun x hx y hy e => by simp at hy; subst hy; subst e; exact h.out x hx hk⟩
  · rcases List.mem_append.1 hx with hx | hx
    · exact h.lt x hx
    · simp at hx; subst hx; exact h.rin x hk
  · rcases List.mem_append.1 hx with hx | hx
    · exact fun e => h.out x hx ((hmd x).1 e).1
    · simp at hx; subst hx; exact fun e => ((hmd x).1 e).2 rfl
  · rw [List.length_append, List.length_singleton] at hi
    rcases Nat.lt_or_ge (i + 1) r.length with h1 | h1
    · rw [getD_app1 (by omega), getD_app1 h1]; exact h.chain i h1
    · have e : i + 1 = r.length := by omega
      rw [getD_app1 (by omega), e, getD_app2, show i = r.length - 1 by omega]; exact hw
  · have := h.len; rw [List.length_append, List.length_singleton]; omega
  · have h7 := memL_seven rest h.r128 k hk
    exact (card_drop rest h.r128 k h7.1 h7.2).1
section
variable {m : Mt} {long : Nat} {r : List Nat} {rest : Nat} {o : List Int}
theorem RPth.at (h : RPth m long r rest) {j : Nat} (hj : j < r.length) : r.getD j 0 ∈ r ∧ r.getD j 0 < m.length := ⟨getD_mem hj, h.lt _ (getD_mem hj)⟩
theorem mem_at {x : Nat} (h : x ∈ r) : ∃ j, j < r.length ∧ r.getD j 0 = x := by
  obtain ⟨j, hj, e⟩ := List.mem_iff_getElem.1 h
  exact ⟨j, hj, by rw [getD_of (List.getElem?_eq_getElem hj)]; exact e⟩
theorem per_congr {g g' : Nat → Nat} {n x : Nat} (h : ∀ j, it g' j x = it g j x) : per g' n x = per g n x := by
  unfold per
  rw [show (fun j => decide (it g' (j + 1) x = x)) = fun j => decide (it g (j + 1) x = x) from funext fun j => by rw [h]]
theorem ring_next (h : RPth m long r rest) (ho : OkF m long rest o) {j : Nat} (hj : j < r.length) : getN (ringG r o r.length) (r.getD j 0) = nextN r j := by
  unfold getN
  rw [ringG_at h.nd (fun i hi => by rw [ord_len ho.ord]; exact (h.at hi).2) r.length (Nat.le_refl _) j hj, Int.toNat_natCast]
theorem ring_else (h : RPth m long r rest) (ho : OkF m long rest o) {x : Nat} (hx : x ∉ r) : (ringG r o r.length).getD x 0 = o.getD x 0 :=
  ringG_out r o r.length (fun i hi => by rw [ord_len ho.ord]; exact (h.at hi).2) fun j hj e => hx (e ▸ (h.at hj).1)
theorem next_mem (h : RPth m long r rest) {j : Nat} : nextN r j ∈ r := getD_mem (Nat.mod_lt _ h.ne)
theorem own_ok (h : RPth m long r rest) (h1 : 1 < r.length) (hc : wantsB m (lastN r) (r.headD 0) = true) (ho : OkF m long rest o) {L : Nat} (hL : ∀ i, i ∈ memL rest → i ∈ memL L) (hr : ∀ x, x ∈ r → x ∈ memL L) : OkF m long L (ringG r o r.length) := by
  have hol := ord_len ho.ord
  have hpm := ord_pm2 ho.ord
  have hlen : (ringG r o r.length).length = m.length := by rw [ringG_len, hol]
  have hin : ∀ x, x ∈ r → getN o x = x := fun x hx => ho.fix x (h.lt x hx) (h.out x hx)
  have hval : ∀ x, x < m.length → (ringG r o r.length).getD x 0 = (getN (ringG r o r.length) x : Int) ∧ getN (ringG r o r.length) x < m.length := fun x hx => by
    by_cases hxr : x ∈ r
    · obtain ⟨j, hj, rfl⟩ := mem_at hxr
      rw [ring_next h ho hj, ringG_at h.nd (fun i hi => by rw [hol]; exact (h.at hi).2) r.length (Nat.le_refl _) j hj]
      exact ⟨rfl, h.lt _ (next_mem h)⟩
    · have := ord_get ho.ord hx
      have e : getN (ringG r o r.length) x = getN o x := getN_eq (ring_else h ho hxr)
      rw [e, ring_else h ho hxr]; exact this
  have hinj : ∀ x y, x < m.length → y < m.length → getN (ringG r o r.length) x = getN (ringG r o r.length) y → x = y := fun x y hx hy e => by
    have hel : ∀ z, z ∉ r → getN (ringG r o r.length) z = getN o z := fun z hz => getN_eq (ring_else h ho hz)
    have hmix : ∀ j y, j < r.length → y < m.length → y ∉ r → nextN r j = getN o y → False := fun j y hj hy hyr e => by
      have hn := next_mem h (j := j)
      have := hpm.inj (nextN r j) y (h.lt _ hn) hy (by rw [hin _ hn]; exact e)
      exact hyr (this ▸ hn)
    by_cases hxr : x ∈ r <;> by_cases hyr : y ∈ r
    · obtain ⟨a, ha, rfl⟩ := mem_at hxr
      obtain ⟨b, hb, rfl⟩ := mem_at hyr
      rw [ring_next h ho ha, ring_next h ho hb] at e
      have := nd_inj h.nd (Nat.mod_lt _ h.ne) (Nat.mod_lt _ h.ne) e
      rw [mod_next ha, mod_next hb] at this
      have : a = b := by split at this <;> split at this <;> omega
      rw [this]
    · obtain ⟨a, ha, rfl⟩ := mem_at hxr
      rw [ring_next h ho ha, hel y hyr] at e
      exact (hmix a y ha hy hyr e).elim
    · obtain ⟨b, hb, rfl⟩ := mem_at hyr
      rw [ring_next h ho hb, hel x hxr] at e
      exact (hmix b x hb hx hxr e.symm).elim
    · rw [hel x hxr, hel y hyr] at e
      exact hpm.inj x y hx hy e
  have hord : ordB (ringG r o r.length) m.length = true := ord_of hlen (fun i hi => by have := hval i hi; omega) fun i j hi hj e => hinj i j hi hj (getN_eq e)
  have hpm' := ord_pm2 hord
  refine ⟨hord, fun i hi hn => ?_, fair_iff.2 fun i hi => ?_, fun i hi => ?_⟩
  · have hir : i ∉ r := fun e => hn (hr i e)
    rw [getN_eq (ring_else h ho hir)]
    exact ho.fix i hi fun e => hn (hL i e)
  · rw [hlen] at hi
    by_cases hir : i ∈ r
    · obtain ⟨a, ha, rfl⟩ := mem_at hir
      rw [ring_next h ho ha]
      unfold nextN
      rw [mod_next ha]
      split
      · rename_i e
        have : r.headD 0 = r.getD 0 0 := by cases r <;> rfl
        unfold lastN at hc
        rw [this, show r.length - 1 = a by omega] at hc
        exact hc
      · exact h.chain a (by omega)
    · have : getN (ringG r o r.length) i = getN o i := getN_eq (ring_else h ho hir)
      rw [this]; exact ho.wants hi
  · by_cases hir : i ∈ r
    · obtain ⟨a, ha, rfl⟩ := mem_at hir
      have hit : ∀ j, it (getN (ringG r o r.length)) j (r.getD a 0) = r.getD ((a + j) % r.length) 0 := fun j => by
        induction j with
        | zero => show r.getD a 0 = _; rw [Nat.add_zero, Nat.mod_eq_of_lt ha]
        | succ j ih =>
          show getN _ (it _ j _) = _
          rw [ih, ring_next h ho (Nat.mod_lt _ h.ne)]
          unfold nextN
          rw [Nat.mod_add_mod, Nat.add_assoc]
      have hp := hpm'.perF hi
      have hb := hit r.length
      rw [Nat.add_mod_right, Nat.mod_eq_of_lt ha] at hb
      have : ¬ r.length < per (getN (ringG r o r.length)) m.length (r.getD a 0) := fun e => hp.first r.length (by omega) e hb
      have := h.len
      omega
    · have hit : ∀ j, it (getN (ringG r o r.length)) j i = it (getN o) j i ∧ it (getN o) j i ∉ r := fun j => by
        induction j with
        | zero => exact ⟨rfl, hir⟩
        | succ j ih =>
          have e : it (getN (ringG r o r.length)) (j + 1) i = it (getN o) (j + 1) i := by
            show getN _ (it _ j i) = getN o (it _ j i)
            rw [ih.1]
            exact getN_eq (ring_else h ho ih.2)
          refine ⟨e, fun hm => ?_⟩
          have h2 : getN o (it (getN o) (j + 1) i) = it (getN o) (j + 1) i := hin _ hm
          have h3 := hpm.inj _ _ (hpm.it_lt (j + 1) hi) (hpm.it_lt j hi) h2
          exact ih.2 (h3 ▸ hm)
      rw [per_congr fun j => (hit j).1]
      exact ho.short i hi
theorem own_worth (hm : MkF m) (h : RPth m long r rest) (ho : OkF m long rest o) : ∀ i, i ≤ r.length → worthL m (ringG r o i) = worthL m o + ringW m r i
  | 0, _ => by show worthL m o = worthL m o + 0; omega
  | i + 1, hi => by
    have ih := own_worth hm h ho i (by omega)
    have hl : (ringG r o i).length = m.length := by rw [ringG_len, ord_len ho.ord]
    have hx := h.at (show i < r.length by omega)
    have hg : getN (ringG r o i) (r.getD i 0) = r.getD i 0 := by
      unfold getN
      rw [ringG_out r o i (fun j hj => by rw [ord_len ho.ord]; exact (h.at (show j < r.length by omega)).2) fun j hj e => by have := nd_inj h.nd (by omega) (by omega) e; omega]
      exact ho.fix _ hx.2 (h.out _ hx.1)
    show worthL m ((ringG r o i).set _ _) = worthL m o + (ringW m r i + _)
    rw [worth_set2 m (ringG r o i) _ (by rw [hl]; exact hx.2), ih, hg, hm.diag]
    omega
end
theorem cmp_set : ∀ (a b : List Int) (i : Nat) (v : Int), a.length = b.length → a.getD i 0 = b.getD i 0 → cmpL (a.set i v) (b.set i v) = cmpL a b
  | [], [], _, _, _, _ => rfl
  | [], _ :: _, _, _, h, _ => by cases h
  | _ :: _, [], _, _, h, _ => by cases h
  | x :: a, y :: b, 0, v, _, e => by
    have e : x = y := e
    subst e
    show (if v < v then (-1 : Int) else if v < v then 1 else cmpL a b) = if x < x then (-1 : Int) else if x < x then 1 else cmpL a b
    rw [if_neg (Int.lt_irrefl _), if_neg (Int.lt_irrefl _), if_neg (Int.lt_irrefl _), if_neg (Int.lt_irrefl _)]
  | x :: a, y :: b, i + 1, v, h, e => by
    have ih := cmp_set a b i v (by simpa using h) e
    show (if x < y then (-1 : Int) else if y < x then 1 else cmpL (a.set i v) (b.set i v)) = if x < y then (-1 : Int) else if y < x then 1 else cmpL a b
    rw [ih]
theorem own_geq {m : Mt} {long : Nat} {r : List Nat} {rest : Nat} {t u : Td} (h : RPth m long r rest) (ht : OkF m long rest t.gets) (hu : OkF m long rest u.gets) (hg : Geq t u) : Geq (ownT m r t) (ownT m r u) := by
  have key : ∀ i, i ≤ r.length → cmpL (ringG r t.gets i) (ringG r u.gets i) = cmpL t.gets u.gets := fun i => by
    induction i with
    | zero => intro _; rfl
    | succ i ih =>
      intro hi
      have ih := ih (by omega)
      have hx := h.at (show i < r.length by omega)
      have hout : ∀ {o : List Int}, OkF m long rest o → (ringG r o i).getD (r.getD i 0) 0 = ((r.getD i 0 : Nat) : Int) := fun {o} ho => by
        rw [ringG_out r o i (fun j hj => by rw [ord_len ho.ord]; exact (h.at (show j < r.length by omega)).2) fun j hj e => by have := nd_inj h.nd (by omega) (by omega) e; omega, (ord_get ho.ord hx.2).1, ho.fix _ hx.2 (h.out _ hx.1)]
      show cmpL ((ringG r t.gets i).set _ _) ((ringG r u.gets i).set _ _) = _
      rw [cmp_set _ _ _ _ (by rw [ringG_len, ringG_len, ord_len ht.ord, ord_len hu.ord]) (by rw [hout ht, hout hu])]
      exact ih
  rcases hg with rfl | hg
  · exact .inl rfl
  · right
    rw [better_iff] at hg ⊢
    show _ + _ < _ + _ ∨ (_ + _ = _ + _ ∧ cmpL (ringG r t.gets r.length) (ringG r u.gets r.length) < 0)
    rw [key r.length (Nat.le_refl _)]
    rcases hg with h1 | ⟨h1, h2⟩
    · left; omega
    · exact .inr ⟨by omega, h2⟩
/-! ### what is found is an exchange -/
def Good (m : Mt) (long left : Nat) (t : Td) : Prop := OkF m long left t.gets ∧ t.worth = worthL m t.gets
theorem cand_good {m : Mt} (hm : MkF m) {long : Nat} {S : Nat → Td} {L : Nat} {r : List Nat} {rest : Nat} {t : Td} (hc : Cand m long S r rest t) : RPth m long r rest → (∀ i, i ∈ memL rest → i ∈ memL L) → (∀ x, x ∈ r → x ∈ memL L) → (∀ q, q ≤ rest → q < 128 → (∀ i, i ∈ memL q → i < m.length) → Good m long q (S q)) → Good m long L t := by
  induction hc with
  | @here r rest h1 h2 =>
    intro hp hL hr hS
    obtain ⟨h3, h4⟩ := hS rest (Nat.le_refl _) hp.r128 hp.rin
    refine ⟨own_ok hp h1 h2 h3 hL hr, ?_⟩
    show (S rest).worth + ringW m r r.length = worthL m (ringG r (S rest).gets r.length)
    rw [own_worth hm hp h3 r.length (Nat.le_refl _), h4]
  | @more r rest k t h1 h2 h3 _ ih =>
    intro hp hL hr hS
    have h7 := memL_seven rest hp.r128 k h2
    have hd := card_drop rest hp.r128 k h7.1 h7.2
    refine ih (hp.more h1 h2 h3) (fun i hi => hL i ((mem_drop hp.r128 h2 i).1 hi).1) (fun x hx => ?_) fun q hq => hS q (by omega)
    rcases List.mem_append.1 hx with hx | hx
    · exact hr x hx
    · simp at hx; subst hx; exact hL x h2
/-! ### each exchange is found -/
theorem cand_of {m : Mt} {long : Nat} {S : Nat → Td} : ∀ (s r : List Nat) (rest : Nat), rest < 128 → 0 < r.length → s.Nodup → (∀ x, x ∈ s → x ∈ memL rest) → (r ++ s).length ≤ long → (∀ i, i + 1 < (r ++ s).length → wantsB m ((r ++ s).getD i 0) ((r ++ s).getD (i + 1) 0) = true) → 1 < (r ++ s).length → wantsB m (lastN (r ++ s)) ((r ++ s).headD 0) = true → Cand m long S r rest (ownT m (r ++ s) (S (s.foldl dropN rest)))
  | [], r, rest, _, _, _, _, _, _, h1, h2 => by
    rw [List.append_nil] at h1 h2 ⊢
    exact .here h1 h2
  | k :: s, r, rest, h128, h0, hnd, hin, hl, hw, h1, h2 => by
    have e : r ++ k :: s = (r ++ [k]) ++ s := by simp
    have hk := hin k (List.mem_cons_self ..)
    have h7 := memL_seven rest h128 k hk
    have hd := card_drop rest h128 k h7.1 h7.2
    have hlen : (r ++ k :: s).length = r.length + s.length + 1 := by simp; omega
    have hwk := hw (r.length - 1) (by omega)
    rw [getD_app1 (by omega), show r.length - 1 + 1 = r.length by omega, getD_app2] at hwk
    rw [e] at hl hw h1 h2 ⊢
    rw [List.nodup_cons] at hnd
    refine .more (by rw [← e] at hl; omega) hk hwk ?_
    exact cand_of s (r ++ [k]) (dropN rest k) hd.1 (by simp) hnd.2 (fun x hx => (mem_drop h128 hk x).2 ⟨hin x (List.mem_cons_of_mem _ hx), fun ex => hnd.1 (ex ▸ hx)⟩) hl hw h1 h2
theorem drops_mem : ∀ (s : List Nat) (rest : Nat), rest < 128 → s.Nodup → (∀ x, x ∈ s → x ∈ memL rest) → s.foldl dropN rest < 128 ∧ s.foldl dropN rest ≤ rest ∧ ∀ i, i ∈ memL (s.foldl dropN rest) ↔ i ∈ memL rest ∧ i ∉ s
  | [], rest, h, _, _ => ⟨h, Nat.le_refl _, fun i => ⟨fun e => ⟨e, fun h => by cases h⟩, fun e => e.1⟩⟩
  | k :: s, rest, h128, hnd, hin => by
    have hk := hin k (List.mem_cons_self ..)
    have h7 := memL_seven rest h128 k hk
    have hd := card_drop rest h128 k h7.1 h7.2
    rw [List.nodup_cons] at hnd
    obtain ⟨h1, h2, h3⟩ := drops_mem s (dropN rest k) hd.1 hnd.2 fun x hx => (mem_drop h128 hk x).2 ⟨hin x (List.mem_cons_of_mem _ hx), fun ex => hnd.1 (ex ▸ hx)⟩
    rw [List.foldl_cons]
    refine ⟨h1, by omega, fun i => ?_⟩
    rw [h3 i, mem_drop h128 hk i]
    constructor
    · rintro ⟨⟨h4, h5⟩, h6⟩
      exact ⟨h4, fun e => by rcases List.mem_cons.1 e with e | e; exact h5 e; exact h6 e⟩
    · rintro ⟨h4, h5⟩
      exact ⟨⟨h4, fun e => h5 (e ▸ List.mem_cons_self ..)⟩, fun e => h5 (List.mem_cons_of_mem _ e)⟩
/-- the ring of a person, in whole numbers -/
def cycN (g : Nat → Nat) (n i : Nat) : List Nat := (List.range (per g n i)).map fun j => it g j i
theorem cycN_len (g : Nat → Nat) (n i : Nat) : (cycN g n i).length = per g n i := by unfold cycN; simp
theorem cycN_at {g : Nat → Nat} {n i j : Nat} (h : j < per g n i) : (cycN g n i).getD j 0 = it g j i := by
  unfold cycN; rw [List.getD_eq_getElem?_getD]; simp [h]
theorem cycN_nd {g : Nat → Nat} {n i : Nat} (h : Pm g n) (hi : i < n) : (cycN g n i).Nodup := by
  have hp := h.perF hi
  unfold cycN
  rw [List.Nodup, List.pairwise_map]
  refine List.Pairwise.imp_of_mem ?_ (List.pairwise_lt_range (n := per g n i))
  intro a b ha hb hab e
  have ha := List.mem_range.1 ha
  have hb := List.mem_range.1 hb
  have e2 : it g a i = it g a (it g (b - a) i) := by rw [← it_add, show a + (b - a) = b by omega]; exact e
  exact hp.first (b - a) (by omega) (by omega) (h.it_inj a hi (h.it_lt _ hi) e2).symm
theorem cycN_pre {g : Nat → Nat} {n i y : Nat} (h : Pm g n) (hi : i < n) (hy : y < n) (hm : g y ∈ cycN g n i) : y ∈ cycN g n i := by
  have hp := h.perF hi
  unfold cycN at hm ⊢
  obtain ⟨j, hj, e⟩ := List.mem_map.1 hm
  have hj := List.mem_range.1 hj
  cases j with
  | zero =>
    have e1 : g y = g (it g (per g n i - 1) i) := by
      rw [← e]
      show i = it g (per g n i - 1 + 1) i
      rw [show per g n i - 1 + 1 = per g n i by have := hp.pos; omega, hp.back]
    have := h.inj y _ hy (h.it_lt _ hi) e1
    exact List.mem_map.2 ⟨per g n i - 1, List.mem_range.2 (by have := hp.pos; omega), this.symm⟩
  | succ j =>
    have := h.inj y _ hy (h.it_lt _ hi) (show g y = g (it g j i) from e.symm)
    exact List.mem_map.2 ⟨j, List.mem_range.2 (by omega), this.symm⟩
theorem cycN_next {g : Nat → Nat} {n i : Nat} (h : Pm g n) (hi : i < n) {a : Nat} (ha : a < per g n i) : g (it g a i) = nextN (cycN g n i) a := by
  have hp := h.perF hi
  unfold nextN
  rw [cycN_len, mod_next ha]
  split
  · rename_i e
    rw [cycN_at (by omega)]
    show it g (a + 1) i = i
    rw [e, hp.back]
  · rw [cycN_at (by omega)]; rfl
/-- an exchange without one ring -/
def offO (o : List Int) (c : List Nat) : List Int := (List.range o.length).map fun i => if i ∈ c then (i : Int) else o.getD i 0
theorem offO_len (o : List Int) (c : List Nat) : (offO o c).length = o.length := by unfold offO; simp
theorem offO_at {o : List Int} {c : List Nat} {i : Nat} (h : i < o.length) : (offO o c).getD i 0 = if i ∈ c then (i : Int) else o.getD i 0 := by
  unfold offO; rw [List.getD_eq_getElem?_getD]; simp [h]
theorem off_ok {m : Mt} {long left : Nat} {o : List Int} (h : OkF m long left o) (h1 : 1 ≤ long) {i q : Nat} (hi : i < m.length) (hq : ∀ x, x ∈ memL left → x ∉ cycN (getN o) m.length i → x ∈ memL q) : OkF m long q (offO o (cycN (getN o) m.length i)) := by
  have hpm := ord_pm2 h.ord
  have hl := ord_len h.ord
  have hy : ∀ x, x < m.length → x ∈ cycN (getN o) m.length i → getN (offO o (cycN (getN o) m.length i)) x = x := fun x hx hc => by
    show ((offO o (cycN (getN o) m.length i)).getD x 0).toNat = x
    rw [offO_at (by omega), if_pos hc, Int.toNat_natCast]
  have hn : ∀ x, x < m.length → x ∉ cycN (getN o) m.length i → getN (offO o (cycN (getN o) m.length i)) x = getN o x := fun x hx hc => by
    exact getN_eq (by rw [offO_at (by omega), if_neg hc])
  have hval : ∀ x, x < m.length → (offO o (cycN (getN o) m.length i)).getD x 0 = (getN (offO o (cycN (getN o) m.length i)) x : Int) ∧ getN (offO o (cycN (getN o) m.length i)) x < m.length := fun x hx => by
    by_cases hc : x ∈ cycN (getN o) m.length i
    · rw [hy x hx hc, offO_at (by omega), if_pos hc]; exact ⟨rfl, hx⟩
    · rw [hn x hx hc, offO_at (by omega), if_neg hc]; exact ord_get h.ord hx
  have hord : ordB (offO o (cycN (getN o) m.length i)) m.length = true := by
    refine ord_of (by rw [offO_len, hl]) (fun x hx => by have := hval x hx; omega) fun x y hx hy2 e => ?_
    have e : getN (offO o (cycN (getN o) m.length i)) x = getN (offO o (cycN (getN o) m.length i)) y := getN_eq e
    by_cases hc : x ∈ cycN (getN o) m.length i <;> by_cases hd : y ∈ cycN (getN o) m.length i
    · rw [hy x hx hc, hy y hy2 hd] at e; exact e
    · rw [hy x hx hc, hn y hy2 hd] at e
      exact absurd (cycN_pre hpm hi hy2 (e ▸ hc)) hd
    · rw [hn x hx hc, hy y hy2 hd] at e
      exact absurd (cycN_pre hpm hi hx (e.symm ▸ hd)) hc
    · rw [hn x hx hc, hn y hy2 hd] at e
      exact hpm.inj x y hx hy2 e
  have hpm' := ord_pm2 hord
  refine ⟨hord, fun x hx hxq => ?_, fair_iff.2 fun x hx => ?_, fun x hx => ?_⟩
  · by_cases hc : x ∈ cycN (getN o) m.length i
    · exact hy x hx hc
    · rw [hn x hx hc]
      exact h.fix x hx fun e => hxq (hq x e hc)
  · rw [offO_len, hl] at hx
    by_cases hc : x ∈ cycN (getN o) m.length i
    · rw [hy x hx hc]; unfold wantsB; simp
    · rw [hn x hx hc]; exact h.wants hx
  · by_cases hc : x ∈ cycN (getN o) m.length i
    · have hF := hpm'.perF hx
      have : ¬ 1 < per (getN (offO o (cycN (getN o) m.length i))) m.length x := fun e => hF.first 1 (Nat.le_refl _) e (hy x hx hc)
      omega
    · have hit : ∀ j, it (getN (offO o (cycN (getN o) m.length i))) j x = it (getN o) j x ∧ it (getN o) j x ∉ cycN (getN o) m.length i := fun j => by
        induction j with
        | zero => exact ⟨rfl, hc⟩
        | succ j ih =>
          refine ⟨?_, fun hm => ih.2 (cycN_pre hpm hi (hpm.it_lt j hx) hm)⟩
          show getN _ (it _ j x) = getN o (it _ j x)
          rw [ih.1, hn _ (hpm.it_lt j hx) ih.2]
      rw [per_congr fun j => (hit j).1]
      exact h.short x hx
theorem off_back {m : Mt} {long left : Nat} {o : List Int} (h : OkF m long left o) {i : Nat} (hi : i < m.length) : ringG (cycN (getN o) m.length i) (offO o (cycN (getN o) m.length i)) (cycN (getN o) m.length i).length = o := by
  have hpm := ord_pm2 h.ord
  have hl := ord_len h.ord
  have hlt : ∀ j, j < (cycN (getN o) m.length i).length → (cycN (getN o) m.length i).getD j 0 < (offO o (cycN (getN o) m.length i)).length := fun j hj => by
    rw [cycN_len] at hj
    rw [offO_len, hl, cycN_at hj]; exact hpm.it_lt j hi
  apply List.ext_getElem?
  intro x
  rcases Nat.lt_or_ge x m.length with hx | hx
  · rw [get_of_lt 0 (by rw [ringG_len, offO_len, hl]; exact hx), get_of_lt 0 (by rw [hl]; exact hx)]
    congr 1
    by_cases hc : x ∈ cycN (getN o) m.length i
    · obtain ⟨a, ha, rfl⟩ := mem_at hc
      rw [ringG_at (cycN_nd hpm hi) hlt _ (Nat.le_refl _) a ha, (ord_get h.ord hx).1]
      rw [cycN_len] at ha
      rw [cycN_at ha, cycN_next hpm hi ha]
    · rw [ringG_out _ _ _ hlt fun j hj e => hc (by rw [← e]; exact getD_mem hj), offO_at (by omega), if_neg hc]
  · rw [List.getElem?_eq_none (by rw [ringG_len, offO_len, hl]; exact hx), List.getElem?_eq_none (by rw [hl]; exact hx)]
theorem head_cons {r : List Nat} (h : 0 < r.length) : r = r.getD 0 0 :: r.tail := by cases r with
  | nil => cases h
  | cons a r => rfl
theorem worth_id {m : Mt} (hm : MkF m) : worthL m (rngI m.length) = 0 := by
  have key : ∀ k, k ≤ m.length → worthN m (rngI m.length) k = 0 := fun k => by
    induction k with
    | zero => intro _; rfl
    | succ k ih =>
      intro hk
      show worthN m (rngI m.length) k + wv m k (getN (rngI m.length) k) = 0
      rw [ih (by omega), getN_id (by omega), hm.diag]; rfl
  unfold worthL; rw [rngI_len]; exact key _ (Nat.le_refl _)
theorem id_ok (m : Mt) {long left : Nat} (h : 1 ≤ long) : OkF m long left (rngI m.length) := by
  have hp := ord_pm2 (ord_id m.length)
  refine ⟨ord_id _, fun i hi _ => getN_id hi, fair_id m, fun i hi => ?_⟩
  have hF := hp.perF hi
  have : ¬ 1 < per (getN (rngI m.length)) m.length i := fun e => hF.first 1 (Nat.le_refl _) e (getN_id hi)
  omega
theorem sh_best {m : Mt} (hm : MkF m) {long : Nat} (h1 : 1 ≤ long) : ∀ N left, left < N → left < 128 → (∀ i, i ∈ memL left → i < m.length) → Good m long left (shT m long left) ∧ ∀ o, OkF m long left o → Geq (shT m long left) ⟨o, worthL m o⟩
  | 0, _, h, _, _ => absurd h (Nat.not_lt_zero _)
  | N + 1, left, hN, hl, hlm => by
    have ih : ∀ q, q < left → q < 128 → (∀ i, i ∈ memL q → i < m.length) → Good m long q (shT m long q) ∧ ∀ o, OkF m long q o → Geq (shT m long q) ⟨o, worthL m o⟩ := fun q hq => sh_best hm h1 N q (by omega)
    have hkeep : ∀ l, Good m long l (keepT m.length) := fun l => ⟨id_ok m h1, (worth_id hm).symm⟩
    rw [shT_step m long hl]
    unfold shStep
    by_cases h0 : left = 0
    · rw [if_pos h0]
      refine ⟨hkeep _, fun o ho => ?_⟩
      have : o = rngI m.length := by
        apply List.ext_getElem?
        intro i
        rcases Nat.lt_or_ge i m.length with hi | hi
        · rw [get_of_lt 0 (by rw [ord_len ho.ord]; exact hi), rngI_get hi, (ord_get ho.ord hi).1, ho.fix i hi (by subst h0; rw [show memL 0 = [] by decide]; exact fun h => by cases h)]
        · rw [List.getElem?_eq_none (by rw [ord_len ho.ord]; exact hi), List.getElem?_eq_none (by rw [rngI_len]; exact hi)]
      rw [this, worth_id hm]; exact .inl rfl
    · rw [if_neg h0]
      have hh := (card_le left hl).2 h0
      have h7 := memL_seven left hl _ hh
      have hd := card_drop left hl _ h7.1 h7.2
      have hmd := fun i => mem_drop hl hh i
      have hdm : ∀ i, i ∈ memL (dropN left (headN left)) → i < m.length := fun i hi => hlm i ((hmd i).1 hi).1
      have hF := (Fld.offer (some (keepT m.length)) (shT m long (dropN left (headN left)))).trans (on_fld m long 128 (dropN left (headN left)) hd.1 hd.1 [headN left] (Go.Proofs.YtpijahglojichaaDoor.offer (some (keepT m.length)) (shT m long (dropN left (headN left)))))
      have hP : RPth m long [headN left] (dropN left (headN left)) := ⟨by simp, fun x hx => by simp at hx; subst hx; exact hlm _ hh, fun x hx => by simp at hx; subst hx; exact fun e => ((hmd _).1 e).2 rfl, by simp, fun i hi => by simp at hi, hdm, by simpa using h1, hd.1⟩
      have hgood : ∀ q, q ≤ dropN left (headN left) → q < 128 → (∀ i, i ∈ memL q → i < m.length) → Good m long q (shT m long q) := fun q hq h2 h3 => (ih q (by omega) h2 h3).1
      obtain ⟨u, hu, _⟩ := hF.old _ rfl
      rw [hu]
      show Good m long left u ∧ ∀ o, OkF m long left o → Geq u ⟨o, worthL m o⟩
      constructor
      · rcases hF.is u hu with e | e | e
        · cases e; exact hkeep _
        · rw [e]
          obtain ⟨h2, h3⟩ := (ih _ hd.2.2 hd.1 hdm).1
          exact ⟨h2.up fun i hi => ((hmd i).1 hi).1, h3⟩
        · exact cand_good hm e hP (fun i hi => ((hmd i).1 hi).1) (fun x hx => by simp at hx; subst hx; exact hh) hgood
      · intro o ho
        have hfl := hlm _ hh
        have hpm := ord_pm2 ho.ord
        by_cases hfix : getN o (headN left) = headN left
        · have ho2 : OkF m long (dropN left (headN left)) o := ⟨ho.ord, fun i hi hn => by
            by_cases e : i = headN left
            · rw [e]; exact hfix
            · exact ho.fix i hi fun e2 => hn ((hmd i).2 ⟨e2, e⟩), ho.fair, ho.short⟩
          obtain ⟨v, h2, h3⟩ := hF.cand _ (.inl rfl)
          rw [hu] at h2
          cases h2
          exact h3.trans ((ih _ hd.2.2 hd.1 hdm).2 o ho2)
        · have hp := hpm.perF hfl
          have hlen := cycN_len (getN o) m.length (headN left)
          have hp2 : 1 < per (getN o) m.length (headN left) := by
            rcases Nat.lt_or_ge 1 (per (getN o) m.length (headN left)) with e | e
            · exact e
            · have : per (getN o) m.length (headN left) = 1 := by have := hp.pos; omega
              have hb := hp.back
              rw [this] at hb
              exact absurd hb hfix
          have hcons : cycN (getN o) m.length (headN left) = [headN left] ++ (cycN (getN o) m.length (headN left)).tail := by
            have := head_cons (r := cycN (getN o) m.length (headN left)) (by omega)
            rw [cycN_at (by omega)] at this
            exact this
          have hnd := cycN_nd hpm hfl
          have hmem : ∀ x, x ∈ cycN (getN o) m.length (headN left) → x ∈ memL left := fun x hx => by
            apply Classical.byContradiction
            intro hno
            obtain ⟨j, _, e⟩ := List.mem_map.1 (show x ∈ (List.range _).map _ from hx)
            have hxl : x < m.length := by rw [← e]; exact hpm.it_lt j hfl
            have hxf := ho.fix x hxl hno
            rw [← e] at hxf
            have e2 : it (getN o) j (getN o (headN left)) = it (getN o) j (headN left) := by rw [← it_succ]; exact hxf
            exact hfix (hpm.it_inj j (hpm.lt _ hfl) hfl e2)
          have hw : ∀ i, i + 1 < (cycN (getN o) m.length (headN left)).length → wantsB m ((cycN (getN o) m.length (headN left)).getD i 0) ((cycN (getN o) m.length (headN left)).getD (i + 1) 0) = true := fun i hi => by
            rw [hlen] at hi
            rw [cycN_at (by omega), cycN_at hi]
            exact ho.wants (hpm.it_lt i hfl)
          have hcl : wantsB m (lastN (cycN (getN o) m.length (headN left))) ((cycN (getN o) m.length (headN left)).headD 0) = true := by
            have e1 : (cycN (getN o) m.length (headN left)).headD 0 = headN left := by rw [hcons]; rfl
            unfold lastN
            rw [e1, hlen, cycN_at (by omega)]
            have h2 := ho.wants (hpm.it_lt (per (getN o) m.length (headN left) - 1) hfl)
            have h3 := hp.back
            rw [show per (getN o) m.length (headN left) = per (getN o) m.length (headN left) - 1 + 1 by omega] at h3
            rw [show getN o (it (getN o) (per (getN o) m.length (headN left) - 1) (headN left)) = headN left from h3] at h2
            exact h2
          have hle : (cycN (getN o) m.length (headN left)).length ≤ long := by rw [hlen]; exact ho.short _ hfl
          have hmd2 : ∀ i, i ∈ memL (dropN left (headN left)) ↔ i ∈ memL left ∧ i ≠ headN left := hmd
          have htail : ∀ x, x ∈ (cycN (getN o) m.length (headN left)).tail → x ∈ memL (dropN left (headN left)) := fun x hx => by
            refine (hmd x).2 ⟨hmem x (List.mem_of_mem_tail hx), fun e => ?_⟩
            rw [hcons, List.singleton_append, List.nodup_cons] at hnd
            exact hnd.1 (e ▸ hx)
          have hndt : (cycN (getN o) m.length (headN left)).tail.Nodup := by
            rw [hcons, List.singleton_append, List.nodup_cons] at hnd; exact hnd.2
          obtain ⟨hq1, hq2, hq3⟩ := drops_mem _ _ hd.1 hndt htail
          have hC := cand_of (m := m) (long := long) (S := shT m long) (cycN (getN o) m.length (headN left)).tail [headN left] (dropN left (headN left)) hd.1 (by simp) hndt htail (by rw [← hcons]; exact hle) (by rw [← hcons]; exact hw) (by rw [← hcons]; omega) (by rw [← hcons]; exact hcl)
          rw [← hcons] at hC
          obtain ⟨v, h2, h3⟩ := hF.cand _ (.inr hC)
          rw [hu] at h2
          cases h2
          refine h3.trans ?_
          have hqm : ∀ i, i ∈ memL ((cycN (getN o) m.length (headN left)).tail.foldl dropN (dropN left (headN left))) → i < m.length := fun i hi => hdm i ((hq3 i).1 hi).1
          have hoff := off_ok ho h1 hfl (q := (cycN (getN o) m.length (headN left)).tail.foldl dropN (dropN left (headN left))) fun x hx hc => by
            refine (hq3 x).2 ⟨(hmd x).2 ⟨hx, fun e => hc (by rw [e, hcons]; simp)⟩, fun e => hc (List.mem_of_mem_tail e)⟩
          have hPc : RPth m long (cycN (getN o) m.length (headN left)) ((cycN (getN o) m.length (headN left)).tail.foldl dropN (dropN left (headN left))) := by
            refine ⟨hnd, fun x hx => hlm x (hmem x hx), fun x hx e => ?_, by omega, hw, hqm, hle, hq1⟩
            have h4 := (hq3 x).1 e
            rw [hcons, List.singleton_append] at hx
            rcases List.mem_cons.1 hx with e2 | e2
            · exact ((hmd x).1 h4.1).2 e2
            · exact h4.2 e2
          obtain ⟨⟨h5, _⟩, h6⟩ := ih _ (by omega) hq1 hqm
          have h7 := own_geq hPc h5 hoff (h6 _ hoff)
          have e1 : ownT m (cycN (getN o) m.length (headN left)) ⟨offO o (cycN (getN o) m.length (headN left)), worthL m (offO o (cycN (getN o) m.length (headN left)))⟩ = ⟨o, worthL m o⟩ := by
            have h8 := own_worth hm hPc hoff _ (Nat.le_refl _)
            have h9 := off_back ho hfl
            rw [h9] at h8
            show (⟨ringG _ _ _, _ + _⟩ : Td) = _
            dsimp only
            rw [h9, h8]
          rw [e1] at h7
          exact h7
/-! ### in the words of the document -/
theorem longN_ge {g : Nat → Nat} {n : Nat} : ∀ k i, i < k → ((per g n i : Nat) : Int) ≤ longN g n k
  | 0, _, h => absurd h (Nat.not_lt_zero _)
  | k + 1, i, h => by
    unfold longN
    rcases Nat.lt_or_eq_of_le (Nat.le_of_lt_succ h) with h1 | h1
    · have := longN_ge (g := g) (n := n) k i h1; omega
    · subst h1; omega
theorem ok_full {m : Mt} (hm : MkF m) {long : Nat} {o : List Int} : OkF m long (pw2 m.length - 1) o ↔ ordB o m.length = true ∧ fairI m o < 0 ∧ longO o ≤ (long : Int) := by
  have hfull : memL (pw2 m.length - 1) = List.range m.length := by
    have : ∀ n, n ≤ 7 → memL (pw2 n - 1) = List.range n := by decide +kernel
    exact this _ hm.n7
  constructor
  · intro h
    refine ⟨h.ord, h.fair, ?_⟩
    unfold longO
    rw [ord_len h.ord]
    exact longN_le (by omega) _ fun i hi => by have := h.short i hi; omega
  · rintro ⟨h1, h2, h3⟩
    refine ⟨h1, fun i hi hn => absurd (by rw [hfull]; exact List.mem_range.2 hi) hn, h2, fun i hi => ?_⟩
    unfold longO at h3
    rw [ord_len h1] at h3
    have := longN_ge (g := getN o) (n := m.length) m.length i hi
    omega
/-- the best exchange of rings that are not too long -/
structure ShrF (m : Mt) (long : Nat) (t : Td) : Prop where
  ord : ordB t.gets m.length = true
  fair : fairI m t.gets < 0
  short : longO t.gets ≤ (long : Int)
  worth : t.worth = worthL m t.gets
  top : ∀ o, ordB o m.length = true → fairI m o < 0 → longO o ≤ (long : Int) → Geq t ⟨o, worthL m o⟩
theorem short_F {m : Mt} (hm : MkF m) {long : Nat} (h1 : 1 ≤ long) : ShrF m long (shT m long (pw2 m.length - 1)) := by
  have h2 : ∀ n, n ≤ 7 → memL (pw2 n - 1) = List.range n ∧ pw2 n - 1 < 128 := by decide +kernel
  obtain ⟨h3, h4⟩ := h2 _ hm.n7
  obtain ⟨⟨h5, h6⟩, h7⟩ := sh_best hm h1 128 (pw2 m.length - 1) h4 h4 fun i hi => by rw [h3] at hi; exact List.mem_range.1 hi
  obtain ⟨h8, h9, h10⟩ := (ok_full hm).1 h5
  exact ⟨h8, h9, h10, h6, fun o a b c => h7 o ((ok_full hm).2 ⟨a, b, c⟩)⟩
theorem ShrF.unique {m : Mt} {long : Nat} {t u : Td} (h : ShrF m long t) (k : ShrF m long u) : t = u := by
  have h1 := h.top _ k.ord k.fair k.short
  have h2 := k.top _ h.ord h.fair h.short
  rw [← k.worth] at h1
  rw [← h.worth] at h2
  exact h1.antisymm h2
theorem ref_short {m : Mt} (hm : MkF m) {long : Nat} (h1 : 1 ≤ long) {o : List Int} (h : RefF m (long : Int) o) : o = (shT m long (pw2 m.length - 1)).gets ∧ worthL m o = (shT m long (pw2 m.length - 1)).worth := by
  have hB : ShrF m long ⟨o, worthL m o⟩ := ⟨h.ord, h.fair, h.short, rfl, h.top⟩
  have := hB.unique (short_F hm h1)
  rw [← this]; exact ⟨rfl, rfl⟩
end Go.Proofs.YtpijahglojichaaDoor
