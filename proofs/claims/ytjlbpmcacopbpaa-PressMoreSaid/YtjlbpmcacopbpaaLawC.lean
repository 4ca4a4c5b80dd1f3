/- The best order: words in a dictionary, when all is done, which order is kept. No program in sight. -/
import Derived.Test.YtjlbpmcacopbpaaWalk15
import Derived.Test.YtjlbpmcacopbpaaWalk12
namespace Go.Proofs.Ytjlbpmcacopbpaa
def lexI : List Int → List Int → Prop
  | x :: xs, y :: ys => x < y ∨ x = y ∧ lexI xs ys
  | _, _ => False
theorem lexI_app (A : List Int) {x y : List Int} (h : lexI x y) : lexI (A ++ x) (A ++ y) := by
  induction A with
  | nil => exact h
  | cons a A ih => exact .inr ⟨rfl, ih⟩
theorem refO_pre (n : Nat) : ∀ (k : Nat) (done : List Int) (h : List Int), h ∈ refO n k done → ∃ r, h = done ++ r
  | 0, done, h, hh => ⟨[], by rw [List.mem_singleton.1 hh, List.append_nil]⟩
  | k + 1, done, h, hh => by
    obtain ⟨j, _, hj⟩ := List.mem_flatMap.1 (show h ∈ (List.range n).flatMap _ from hh)
    split at hj
    · cases hj
    · obtain ⟨r, hr⟩ := refO_pre n k _ h hj
      exact ⟨(j : Int) :: r, by rw [hr, List.append_assoc]; rfl⟩
theorem refO_sorted (n : Nat) : ∀ (k : Nat) (done : List Int), (refO n k done).Pairwise lexI
  | 0, done => List.pairwise_singleton _ _
  | k + 1, done => by
    show ((List.range n).flatMap _).Pairwise lexI
    rw [List.pairwise_flatMap]
    refine ⟨fun j _ => ?_, List.pairwise_lt_range.imp fun {i j} hij x hx y hy => ?_⟩
    · split
      · exact .nil
      · exact refO_sorted n k _
    · split at hx
      · cases hx
      · split at hy
        · cases hy
        · obtain ⟨r, rfl⟩ := refO_pre n k _ x hx
          obtain ⟨r', rfl⟩ := refO_pre n k _ y hy
          rw [List.append_assoc, List.append_assoc]
          exact lexI_app done (.inl (by omega))
theorem lexI_nI : ∀ {x y : List Nat}, lexI (nI x) (nI y) ↔ lexL x y
  | [], _ => by unfold nI lexI lexL; simp
  | _ :: _, [] => by unfold nI lexI lexL; simp
  | x :: xs, y :: ys => by
    have ih := lexI_nI (x := xs) (y := ys)
    show ((x : Int) < y ∨ (x : Int) = y ∧ lexI (nI xs) (nI ys)) ↔ (x < y ∨ x = y ∧ lexL xs ys)
    rw [ih]
    constructor
    · rintro (h | ⟨h, h2⟩)
      · exact .inl (by omega)
      · exact .inr ⟨by omega, h2⟩
    · rintro (h | ⟨h, h2⟩)
      · exact .inl (by omega)
      · exact .inr ⟨by omega, h2⟩
theorem lexI_asymm : ∀ {x y : List Int}, lexI x y → ¬ lexI y x
  | [], _, h, _ => h
  | _ :: _, [], h, _ => h
  | x :: xs, y :: ys, h1, h2 => by
    rcases h1 with h1 | ⟨rfl, h1⟩
    · rcases h2 with h2 | ⟨h2, _⟩ <;> omega
    · rcases h2 with h2 | ⟨_, h2⟩
      · omega
      · exact lexI_asymm h1 h2
/-- when all is done, by an order -/
def doneO (ts : List Tm) (o : List Int) : Int := gtV 0 (endsV ts o)
/-- no other order is done earlier, nor as early and comes before -/
structure BestO (ts : List Tm) (n : Nat) (b : List Int) : Prop where
  perm : b.Perm (rngI n)
  le : ∀ q, q.Perm (rngI n) → doneO ts b ≤ doneO ts q
  lt : ∀ q, q.Perm (rngI n) → lexI q b → doneO ts b < doneO ts q
theorem best_ref {ts : List Tm} {n : Nat} (htl : ts.length = n) : BestO ts n ((refO n n []).getD (bestI ts) []) := by
  subst htl
  have hpos := refO_pos ts.length
  have hbi : bestI ts < (refO ts.length ts.length []).length := bestK_lt (hourK ts) _ hpos
  have hmin := bestK_min (hourK ts) (refO ts.length ts.length []).length
  have hat : ∀ q, q.Perm (rngI ts.length) → ∃ j, j < (refO ts.length ts.length []).length ∧ (refO ts.length ts.length []).getD j [] = q := fun q hq => by
    have := refO_mem ts.length ts.length [] q (by rw [hq.length_eq, rngI_len]) (by simpa using hq)
    obtain ⟨j, hj, hjq⟩ := List.getElem_of_mem this
    exact ⟨j, hj, by rw [List.getD_eq_getElem?_getD, List.getElem?_eq_getElem hj]; simpa using hjq⟩
  refine ⟨refO_perm _ _ [] (by simp) (by simp) (by simp) _ (List.mem_of_getElem? (get_of_lt [] hbi)), fun q hq => ?_, fun q hq hl => ?_⟩
  · obtain ⟨j, hj, rfl⟩ := hat q hq
    exact hmin.1 j hj
  · obtain ⟨j, hj, rfl⟩ := hat q hq
    rcases Nat.lt_trichotomy j (bestI ts) with h | h | h
    · exact hmin.2 j h
    · rw [h] at hl; exact absurd hl (lexI_asymm hl)
    · exfalso
      have hs := List.pairwise_iff_getElem.1 (refO_sorted ts.length ts.length []) (bestI ts) j hbi hj h
      refine lexI_asymm hs ?_
      rw [List.getD_eq_getElem?_getD, List.getD_eq_getElem?_getD, List.getElem?_eq_getElem hbi, List.getElem?_eq_getElem hj] at hl
      exact hl
theorem lexI_total : ∀ {x y : List Int}, x.length = y.length → lexI x y ∨ x = y ∨ lexI y x
  | [], [], _ => .inr (.inl rfl)
  | x :: xs, y :: ys, h => by
    rcases Int.lt_trichotomy x y with h1 | rfl | h1
    · exact .inl (.inl h1)
    · rcases lexI_total (x := xs) (y := ys) (by simpa using h) with h2 | rfl | h2
      · exact .inl (.inr ⟨rfl, h2⟩)
      · exact .inr (.inl rfl)
      · exact .inr (.inr (.inr ⟨rfl, h2⟩))
    · exact .inr (.inr (.inl h1))
/-- there is one -/
theorem best_one {ts : List Tm} {n : Nat} {a b : List Int} (ha : BestO ts n a) (hb : BestO ts n b) : a = b := by
  rcases lexI_total (x := a) (y := b) (by rw [ha.perm.length_eq, hb.perm.length_eq]) with h | h | h
  · have h1 := hb.lt a ha.perm h; have h2 := ha.le b hb.perm; omega
  · exact h
  · have h1 := ha.lt b hb.perm h; have h2 := hb.le a ha.perm; omega
theorem smT_pos {t : Tm} (h : smT t) : posT t := ⟨h.1.1, h.2.1⟩
theorem ends_le {ts : List Tm} (h : ∀ t, t ∈ ts → smT t) (o : List Int) : ∀ k, ∀ x, x ∈ endsK ts o k → x ≤ (runL (ordT ts o) (0, 0)).2
  | 0 => fun x hx => by
    unfold endsK at hx
    rw [(List.mem_replicate.1 hx).2]
    exact (run_take_le (fun t ht => smT_pos (ordT_sm h o t ht)) 0).2
  | k + 1 => fun x hx => by
    unfold endsK at hx
    rcases List.mem_or_eq_of_mem_set hx with h1 | h1
    · exact ends_le h o k x h1
    · rw [h1]
      have := (run_take_le (ts := ordT ts o) (fun t ht => smT_pos (ordT_sm h o t ht)) (k + 1)).2
      unfold ordT at this ⊢
      rw [List.map_take]; exact this
/-- when all is done -/
theorem done_run {ts : List Tm} {o : List Int} (hok : ordOk ts o) : doneO ts o = (runL (ordT ts o) (0, 0)).2 := by
  unfold doneO
  have hle : gtV 0 (endsV ts o) ≤ (runL (ordT ts o) (0, 0)).2 := by
    rcases gtV_at (endsV ts o) 0 with h | h
    · rw [h]; exact (run_take_le (ts := ordT ts o) (fun t ht => smT_pos (ordT_sm hok.sm o t ht)) 0).2
    · exact ends_le hok.sm o _ _ h
  have hge : (runL (ordT ts o) (0, 0)).2 ≤ gtV 0 (endsV ts o) := by
    rcases Nat.eq_zero_or_pos o.length with h0 | h0
    · rw [List.eq_nil_of_length_eq_zero h0]
      exact (gtV_ge _ 0).1
    · obtain ⟨k, hk⟩ : ∃ k, o.length = k + 1 := ⟨o.length - 1, by omega⟩
      refine (gtV_ge (endsV ts o) 0).2 _ ?_
      have hb := hok.bd _ (List.mem_of_getElem? (get_of_lt 0 (show k < o.length by omega)))
      unfold endsV
      rw [hk]
      unfold endsK
      have e : o.take (k + 1) = o := List.take_of_length_le (by omega)
      rw [e]
      exact List.mem_iff_getElem.2 ⟨(o.getD k 0).toNat, by rw [List.length_set, endsK_len]; omega, by simp⟩
  omega
def dnO (ts : List Tm) (o : List Nat) : Int := (runL (ordT ts (nI o)) (0, 0)).2
def ordZ : Option (List Nat) → List Int
  | none => []
  | some o => nI o
def hourZ (ts : List Tm) : Option (List Nat) → Int
  | none => 0
  | some o => dnO ts o
def InvB (ts : List Tm) (n : Nat) (H : List Nat → Prop) : Option (List Nat) → Prop
  | none => ∀ q, q.Perm (List.range n) → ¬ H q
  | some o => 0 < n ∧ o.Perm (List.range n) ∧ H o ∧ ∀ q, q.Perm (List.range n) → H q → dnO ts o ≤ dnO ts q ∧ (lexL q o → dnO ts o < dnO ts q)
theorem invB_cong {ts : List Tm} {n : Nat} {H H' : List Nat → Prop} {z : Option (List Nat)} (h : ∀ q, q.Perm (List.range n) → (H q ↔ H' q)) (hz : InvB ts n H z) : InvB ts n H' z := by
  cases z with
  | none => exact fun q hq hh => hz q hq ((h q hq).2 hh)
  | some o => exact ⟨hz.1, hz.2.1, (h o hz.2.1).1 hz.2.2.1, fun q hq hh => hz.2.2.2 q hq ((h q hq).2 hh)⟩
theorem invB_skip {ts : List Tm} {n : Nat} {cur : List Nat} {z : Option (List Nat)} (hz : InvB ts n (befL cur) z) (hs : z.isSome = true) (hd : hourZ ts z ≤ dnO ts cur) : InvB ts n (fun q => befL cur q ∨ q = cur) z := by
  cases z with
  | none => cases hs
  | some o =>
    refine ⟨hz.1, hz.2.1, .inl hz.2.2.1, fun q hq hh => ?_⟩
    rcases hh with hh | rfl
    · exact hz.2.2.2 q hq hh
    · exact ⟨hd, fun hl => absurd (lexL_trans hl hz.2.2.1) (lexL_irrefl _)⟩
theorem invB_take {ts : List Tm} {n : Nat} {cur : List Nat} {z : Option (List Nat)} (hz : InvB ts n (befL cur) z) (hn : 0 < n) (hc : cur.Perm (List.range n)) (hd : z.isSome = true → dnO ts cur < hourZ ts z) : InvB ts n (fun q => befL cur q ∨ q = cur) (some cur) := by
  refine ⟨hn, hc, .inr rfl, fun q hq hh => ?_⟩
  rcases hh with hh | rfl
  · cases z with
    | none => exact absurd hh (hz q hq)
    | some o =>
      have h1 := (hz.2.2.2 q hq hh).1
      have h2 : dnO ts cur < dnO ts o := hd rfl
      exact ⟨by omega, fun _ => by omega⟩
  · exact ⟨Int.le_refl _, fun hl => absurd hl (lexL_irrefl _)⟩
theorem nI_toNat {q : List Int} {n : Nat} (h : q.Perm (rngI n)) : ∃ q' : List Nat, q'.Perm (List.range n) ∧ nI q' = q := by
  have hq : nI (q.map Int.toNat) = q := by
    unfold nI
    rw [List.map_map]
    conv => { rhs; rw [← List.map_id q] }
    refine List.map_congr_left fun x hx => ?_
    have := mem_rngI.1 (h.mem_iff.1 hx)
    simp only [Function.comp, id]; omega
  refine ⟨q.map Int.toNat, ?_, hq⟩
  have h2 := h.map Int.toNat
  unfold rngI at h2
  rw [List.map_map] at h2
  have e : (List.range n).map (Int.toNat ∘ fun (i : Nat) => (i : Int)) = List.range n := by
    conv => { rhs; rw [← List.map_id (List.range n)] }
    exact List.map_congr_left fun x _ => by simp
  rw [e] at h2; exact h2
theorem nI_perm {o : List Nat} {n : Nat} (h : o.Perm (List.range n)) : (nI o).Perm (rngI n) := h.map _
theorem ordOk_perm {ts : List Tm} {n : Nat} (hl : ts.length = n) (h7 : n ≤ 7) (hsm : ∀ t, t ∈ ts → smT t) {q : List Int} (h : q.Perm (rngI n)) : ordOk ts q :=
  { len := by rw [h.length_eq, rngI_len, hl], le := by omega, bd := fun k hk => by rw [hl]; exact mem_rngI.1 (h.mem_iff.1 hk), sm := hsm }
theorem invB_best {ts : List Tm} {n : Nat} (hl : ts.length = n) (h7 : n ≤ 7) (hsm : ∀ t, t ∈ ts → smT t) {z : Option (List Nat)} (hz : InvB ts n (fun _ => True) z) : BestO ts n (ordZ z) ∧ hourZ ts z = doneO ts (ordZ z) ∧ (ordZ z).length = n := by
  cases z with
  | none => exact absurd trivial (hz (List.range n) (List.Perm.refl _))
  | some o =>
    have hdn : ∀ q : List Nat, q.Perm (List.range n) → doneO ts (nI q) = dnO ts q := fun q hq => done_run (ordOk_perm hl h7 hsm (nI_perm hq))
    refine ⟨⟨nI_perm hz.2.1, fun q hq => ?_, fun q hq hlx => ?_⟩, (hdn o hz.2.1).symm, by show (nI o).length = n; rw [nI_len, hz.2.1.length_eq, List.length_range]⟩
    · obtain ⟨q, hq', rfl⟩ := nI_toNat hq
      show doneO ts (nI o) ≤ _
      rw [hdn o hz.2.1, hdn q hq']; exact (hz.2.2.2 q hq' trivial).1
    · obtain ⟨q, hq', rfl⟩ := nI_toNat hq
      show doneO ts (nI o) < _
      rw [hdn o hz.2.1, hdn q hq']; exact (hz.2.2.2 q hq' trivial).2 (lexI_nI.1 hlx)
theorem best_nil {ts : List Tm} (hl : ts.length = 0) : BestO ts 0 [] ∧ doneO ts [] = 0 := by
  refine ⟨⟨List.Perm.refl _, fun q hq => ?_, fun q hq hlx => ?_⟩, ?_⟩
  · rw [show q = [] from hq.eq_nil]; exact Int.le_refl _
  · rw [show q = [] from hq.eq_nil] at hlx; exact hlx.elim
  · rw [List.eq_nil_of_length_eq_zero hl]; rfl
theorem bestR_of {l : List Jb} (hj : jobsB l = true) {b : List Int} (hb : BestO (l.map (timeV true)) l.length b) : bestR l = (b, doneO (l.map (timeV true)) b, 0) := by
  have h := best_one hb (best_ref (ts := l.map (timeV true)) (n := l.length) (List.length_map _))
  unfold bestR
  rw [if_neg (by simp [hj]), ← h]
  refine Prod.ext rfl (Prod.ext ?_ rfl)
  show hourK _ _ = _
  unfold hourK doneO
  rw [List.length_map, ← h]
theorem run_le_done {ts : List Tm} (hsm : ∀ t, t ∈ ts → smT t) (o : List Nat) (k : Nat) : (runL (ordT ts ((nI o).take k)) (0, 0)).2 ≤ dnO ts o := by
  have := (run_take_le (ts := ordT ts (nI o)) (fun t ht => smT_pos (ordT_sm hsm _ t ht)) k).2
  unfold dnO
  unfold ordT at this ⊢
  rw [List.map_take]; exact this
end Go.Proofs.Ytjlbpmcacopbpaa
