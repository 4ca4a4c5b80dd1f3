/- Narrower spans; one job more, one colour more, more sheets. No program in sight. -/
import Derived.Test.YtjlbpmcacopbpaaLawM
namespace Go.Proofs.Ytjlbpmcacopbpaa
/-- a job of narrower spans -/
def halfJ (b : Int) (j : Jb) : Jb := ⟨⟨j.print.lo, max j.print.lo (j.print.hi - b % 5)⟩, j.lay, j.due⟩
def thinJ (b : Int) (j : Jb) : Jb := ⟨⟨j.print.lo, max j.print.lo (j.print.hi - b % 5)⟩, ⟨min j.lay.hi (j.lay.lo + b % 3), j.lay.hi⟩, j.due⟩
def thinK (b : Int) (l : List Jb) (k : Nat) : List Jb := (l.take k).map (thinJ b) ++ l.drop k
theorem thinK_len (b : Int) (l : List Jb) (k : Nat) : (thinK b l k).length = l.length := by unfold thinK; simp; omega
theorem thinK_zero (b : Int) (l : List Jb) : thinK b l 0 = l := by unfold thinK; simp
theorem thinK_all (b : Int) (l : List Jb) {k : Nat} (h : k = l.length) : thinK b l k = l.map (thinJ b) := by
  unfold thinK; rw [List.take_of_length_le (by omega), List.drop_eq_nil_of_le (by omega), List.append_nil]
theorem thinK_at (b : Int) {l : List Jb} {k : Nat} (h : k < l.length) : thinK b l k = (l.take k).map (thinJ b) ++ l.getD k jb0 :: l.drop (k + 1) := by
  unfold thinK
  rw [List.drop_eq_getElem_cons h, List.getD_eq_getElem?_getD, List.getElem?_eq_getElem h]; rfl
theorem thinK_get (b : Int) {l : List Jb} {k : Nat} (h : k < l.length) : (thinK b l k)[k]? = some (l.getD k jb0) := by
  rw [thinK_at b h, List.getElem?_append_right (by simp; omega)]
  have : k - ((l.take k).map (thinJ b)).length = 0 := by simp; omega
  rw [this]; rfl
theorem thinK_set (b : Int) {l : List Jb} {k : Nat} (h : k < l.length) (x : Jb) : (thinK b l k).set k x = (l.take k).map (thinJ b) ++ x :: l.drop (k + 1) := by
  rw [thinK_at b h]
  have hl : ((l.take k).map (thinJ b)).length = k := by simp; omega
  rw [List.set_append_right _ _ (by omega), show k - ((l.take k).map (thinJ b)).length = 0 by omega]; rfl
theorem thinK_next (b : Int) {l : List Jb} {k : Nat} (h : k < l.length) (x : Jb) : ((thinK b l k).set k x).set k (thinJ b (l.getD k jb0)) = thinK b l (k + 1) := by
  rw [List.set_set, thinK_set b h]
  unfold thinK
  rw [List.take_add_one, get_of_lt jb0 h, List.map_append]
  simp
theorem thin_ok {l : List Jb} (hj : jobsB l = true) (b : Int) : jobsB (l.map (thinJ b)) = true := by
  have hp := jobsB_parts hj
  unfold jobsB
  rw [Bool.and_eq_true, List.length_map]
  refine ⟨decide_eq_true (by have := hp.1; omega), List.all_eq_true.2 fun x hx => ?_⟩
  obtain ⟨j, hjl, rfl⟩ := List.mem_map.1 hx
  have h := hp.2 j hjl
  have h5 := Int.emod_nonneg b (show (5 : Int) ≠ 0 by decide)
  have h3 := Int.emod_nonneg b (show (3 : Int) ≠ 0 by decide)
  unfold jbB spB inB thinJ
  dsimp only
  simp only [Bool.and_eq_true, decide_eq_true_eq]
  omega
theorem thin_le {l : List Jb} (hj : jobsB l = true) (b : Int) : LeL (l.map (timeV false)) ((l.map (thinJ b)).map (timeV false)) ∧ LeL ((l.map (thinJ b)).map (timeV true)) (l.map (timeV true)) := by
  have hp := jobsB_parts hj
  have h5 := Int.emod_nonneg b (show (5 : Int) ≠ 0 by decide)
  have h3 := Int.emod_nonneg b (show (3 : Int) ≠ 0 by decide)
  rw [List.map_map, List.map_map]
  refine ⟨LeL.of _ _ _ fun x hx => ?_, LeL.of _ _ _ fun x hx => ?_⟩
  · have h := hp.2 x hx
    unfold leT timeV thinJ; simp only [Function.comp, Bool.false_eq_true, if_false]; omega
  · have h := hp.2 x hx
    unfold leT timeV thinJ; simp only [Function.comp, if_true]; omega
theorem thin_span {l : List Jb} (hj : jobsB l = true) (b : Int) (o : List Int) (k : Nat) : (spanK l o k).lo ≤ (spanK (l.map (thinJ b)) o k).lo ∧ (spanK (l.map (thinJ b)) o k).hi ≤ (spanK l o k).hi :=
  ⟨ends_mono (thin_le hj b).1 o _ k, ends_mono (thin_le hj b).2 o _ k⟩
/-! ### one job more -/
theorem rich_jobs {l : List Jb} {m : Jb} (h : jobsB (l ++ [m]) = true) : jobsB l = true := by
  have hp := jobsB_parts h
  unfold jobsB at h ⊢
  rw [Bool.and_eq_true] at h ⊢
  refine ⟨decide_eq_true (by have := hp.1; rw [List.length_append] at this; omega), ?_⟩
  rw [List.all_append, Bool.and_eq_true] at h; exact h.2.1
theorem rich_perm {n : Nat} {o : List Int} (h : o.Perm (rngI n)) : (o ++ [(n : Int)]).Perm (rngI (n + 1)) := by rw [rngI_succ]; exact h.append_right _
theorem rich_ends {ts : List Tm} {t : Tm} {o : List Int} (hb : ∀ x, x ∈ o → 0 ≤ x ∧ x < (ts.length : Int)) (x : Int) : ∀ k, k ≤ o.length → ∀ i, i < ts.length → (endsK (ts ++ [t]) (o ++ [x]) k).getD i 0 = (endsK ts o k).getD i 0
  | 0, _, i, hi => by
    unfold endsK
    rw [List.getD_eq_getElem?_getD, List.getD_eq_getElem?_getD, List.getElem?_replicate, List.getElem?_replicate, if_pos (by rw [List.length_append]; omega), if_pos hi]
  | k + 1, h, i, hi => by
    have ih := rich_ends (t := t) hb x k (by omega) i hi
    have hk := hb _ (getD_mem (d := 0) (show k < o.length by omega))
    have hg : (o ++ [x]).getD k 0 = o.getD k 0 := by rw [List.getD_eq_getElem?_getD, List.getD_eq_getElem?_getD, List.getElem?_append_left (by omega)]
    have ht : ordT (ts ++ [t]) ((o ++ [x]).take (k + 1)) = ordT ts (o.take (k + 1)) := by
      rw [List.take_append_of_le_length h]
      unfold ordT
      refine List.map_congr_left fun y hy => ?_
      have := hb y (List.mem_of_mem_take hy)
      rw [List.getD_eq_getElem?_getD, List.getD_eq_getElem?_getD, List.getElem?_append_left (by omega)]
    unfold endsK
    rw [hg, ht, getD_set, getD_set, ih, endsK_len, endsK_len, List.length_append]
    by_cases e : (o.getD k 0).toNat = i
    · rw [if_pos ⟨e, by omega⟩, if_pos ⟨e, by omega⟩]
    · rw [if_neg (fun h => e h.1), if_neg (fun h => e h.1)]
theorem rich_last {ts : List Tm} {t : Tm} {o : List Int} (hb : ∀ x, x ∈ o → 0 ≤ x ∧ x < (ts.length : Int)) (hl : o.length = ts.length) {i : Nat} (hi : i < ts.length) : (endsV (ts ++ [t]) (o ++ [(ts.length : Int)])).getD i 0 = (endsV ts o).getD i 0 := by
  unfold endsV
  rw [List.length_append, List.length_singleton]
  have hg : (o ++ [(ts.length : Int)]).getD o.length 0 = (ts.length : Int) := by rw [List.getD_eq_getElem?_getD, List.getElem?_append_right (Nat.le_refl _)]; simp
  conv => { lhs; unfold endsK }
  rw [hg, getD_set, if_neg (by omega)]
  exact rich_ends hb _ o.length (Nat.le_refl _) i hi
theorem rich_span {l : List Jb} {m : Jb} {o : List Int} (hc : chkV l o = 0) {k : Nat} (hk : k < l.length) : spanK (l ++ [m]) (o ++ [(l.length : Int)]) k = spanK l o k := by
  obtain ⟨hj, ho⟩ := chkV_ok hc
  have hp := (ordB_iff o l.length).1 ho
  have hb : ∀ (hi : Bool) x, x ∈ o → 0 ≤ x ∧ x < ((l.map (timeV hi)).length : Int) := fun hi x hx => by rw [List.length_map]; exact mem_rngI.1 (hp.mem_iff.1 hx)
  have hl : ∀ hi : Bool, o.length = (l.map (timeV hi)).length := fun hi => by rw [List.length_map, hp.length_eq, rngI_len]
  unfold spanK
  have e : ∀ hi : Bool, (endsV ((l ++ [m]).map (timeV hi)) (o ++ [(l.length : Int)])).getD k 0 = (endsV (l.map (timeV hi)) o).getD k 0 := fun hi => by
    have := rich_last (t := timeV hi m) (hb hi) (hl hi) (i := k) (by rw [List.length_map]; exact hk)
    rw [List.length_map] at this
    rw [List.map_append, List.map_singleton]; exact this
  rw [e false, e true]
theorem rich_best {l : List Jb} {m : Jb} (h : jobsB (l ++ [m]) = true) : (bestR l).2.1 ≤ (bestR (l ++ [m])).2.1 := by
  have hj := rich_jobs h
  have hF := best_jobs hj
  have hG := best_jobs h
  have h7 := (jobsB_parts h).1
  rw [hF.hour, hG.hour]
  have hGp := hG.best.perm
  have hs : ∀ t, t ∈ (l ++ [m]).map (timeV true) → smT t := tm_smT h true
  have hq : ((bestR (l ++ [m])).1.erase (l.length : Int)).Perm (rngI l.length) := by
    have h1 := hGp.erase (l.length : Int)
    rw [List.length_append, List.length_singleton, rngI_succ] at h1
    refine h1.trans ?_
    have hno : (l.length : Int) ∉ rngI l.length := fun hm => by have := mem_rngI.1 hm; omega
    rw [List.erase_append_right _ hno]; simp
  refine Int.le_trans (hF.best.le _ hq) ?_
  rw [done_run (ordOk_perm (n := l.length) (List.length_map _) (by rw [List.length_append] at h7; omega) (tm_smT hj true) hq), done_run (ordOk_perm (n := (l ++ [m]).length) (List.length_map _) h7 hs hGp)]
  have e : ordT (l.map (timeV true)) ((bestR (l ++ [m])).1.erase (l.length : Int)) = ordT ((l ++ [m]).map (timeV true)) ((bestR (l ++ [m])).1.erase (l.length : Int)) := by
    unfold ordT
    refine List.map_congr_left fun y hy => ?_
    have := mem_rngI.1 (hq.mem_iff.1 hy)
    rw [List.map_append, List.getD_eq_getElem?_getD, List.getD_eq_getElem?_getD, List.getElem?_append_left (by rw [List.length_map]; omega)]
  rw [e]
  exact (run_sub ((List.erase_sublist ..).map _) (fun t ht => smT_pos (ordT_sm hs _ t ht)) (leT_refl _)).2
/-! ### one colour more -/
theorem gtV_sub {l m : List Int} {a b : Int} (ha : a ∈ l) (h : ∀ x, x ∈ l → x ∈ m) : gtV a l ≤ gtV b m := by
  have h1 : gtV a l ∈ l := by rcases gtV_at l a with e | e; · rw [e]; exact ha
                              · exact e
  exact (gtV_ge m b).2 _ (h _ h1)
theorem ltV_sub {l m : List Int} {a b : Int} (ha : a ∈ l) (h : ∀ x, x ∈ l → x ∈ m) : ltV b m ≤ ltV a l := by
  have h1 : ltV a l ∈ l := by rcases ltV_at l a with e | e; · rw [e]; exact ha
                              · exact e
  exact (ltV_le m b).2 _ (h _ h1)
theorem apart_app {l : List Sp} (h : 0 < l.length) (s : Sp) : (apartV l).lo ≤ (apartV (l ++ [s])).lo ∧ (apartV l).hi ≤ (apartV (l ++ [s])).hi := by
  have h1 := gtV_sub (l := l.map (·.lo)) (m := (l ++ [s]).map (·.lo)) (b := ((l ++ [s]).getD 0 sp0).lo) (List.mem_map.2 ⟨_, getD_mem (d := sp0) h, rfl⟩) (fun x hx => by rw [List.map_append]; exact List.mem_append_left _ hx)
  have h2 := ltV_sub (l := l.map (·.hi)) (m := (l ++ [s]).map (·.hi)) (b := ((l ++ [s]).getD 0 sp0).hi) (List.mem_map.2 ⟨_, getD_mem (d := sp0) h, rfl⟩) (fun x hx => by rw [List.map_append]; exact List.mem_append_left _ hx)
  refine ⟨?_, ?_⟩
  · show max 0 _ ≤ max 0 _
    omega
  · show farOut l l.length ≤ farOut (l ++ [s]) (l ++ [s]).length
    rw [farOut_eq, farOut_eq]
    have hge := maxOut_ge (farF (l ++ [s])) (l ++ [s]).length (l ++ [s]).length
    rcases maxOut_at (farF l) l.length l.length with e | ⟨i, k, hi, hk, hne, e⟩
    · rw [e]; exact hge.1
    · have := hge.2 i k (by rw [List.length_append]; omega) (by rw [List.length_append]; omega) hne
      rw [e]
      refine Int.le_trans (Int.le_of_eq ?_) this
      unfold farF
      rw [List.getD_eq_getElem?_getD, List.getD_eq_getElem?_getD, List.getD_eq_getElem?_getD (l := l ++ [s]), List.getD_eq_getElem?_getD (l := l ++ [s]), List.getElem?_append_left hi, List.getElem?_append_left hk]
theorem fringe_app {ls : List Sf} {k : Sf} (h1 : (fringeV ls).2.2 = 0) (h2 : (fringeV (ls ++ [k])).2.2 = 0) : ((fringeV ls).1.lo ≤ (fringeV (ls ++ [k])).1.lo ∧ (fringeV ls).1.hi ≤ (fringeV (ls ++ [k])).1.hi) ∧ (fringeV ls).2.1.lo ≤ (fringeV (ls ++ [k])).2.1.lo ∧ (fringeV ls).2.1.hi ≤ (fringeV (ls ++ [k])).2.1.hi := by
  have e1 : shB ls = true := by rw [← fringe_err]; exact decide_eq_true h1
  have e2 : shB (ls ++ [k]) = true := by rw [← fringe_err]; exact decide_eq_true h2
  have h0 := (shB_parts e1).1
  unfold fringeV
  rw [if_pos e1, if_pos e2]
  dsimp only
  rw [List.map_append, List.map_append, List.map_singleton, List.map_singleton]
  exact ⟨apart_app (by rw [List.length_map]; omega) _, apart_app (by rw [List.length_map]; omega) _⟩
theorem good_mono2 {s : Sp} (h0 : 0 ≤ s.lo) (h9 : s.lo ≤ 900) {n m : Int} (h : n ≤ m) : (goodV s n).hi ≤ (goodV s m).hi := by
  obtain ⟨k, rfl⟩ : ∃ k : Nat, m = n + k := ⟨(m - n).toNat, by omega⟩
  clear h
  induction k with
  | zero => simp
  | succ k ih =>
    refine Int.le_trans ih ?_
    unfold goodV
    dsimp only
    rw [show n + ((k + 1 : Nat) : Int) = (n + (k : Int)) + 1 by omega, Int.add_mul (n + (k : Int)) 1 s.lo, Int.one_mul]
    generalize (n + (k : Int)) * s.lo = q
    omega
end Go.Proofs.Ytjlbpmcacopbpaa
