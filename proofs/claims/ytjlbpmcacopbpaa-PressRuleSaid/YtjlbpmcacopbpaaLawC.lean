/- Which order is kept while all are tried. No program in sight. -/
import Derived.Test.YtjlbpmcacopbpaaLawD
import Derived.Test.YtjlbpmcacopbpaaWalk12
namespace Go.Proofs.Ytjlbpmcacopbpaa
def dnO (ts : List Tm) (o : List Nat) : Int := (runL (ordT ts (nI o)) (0, 0)).2
def ordZ : Option (List Nat) → List Int
  | none => []
  | some o => nI o
def hourZ (ts : List Tm) : Option (List Nat) → Int
  | none => 0
  | some o => dnO ts o
def InvB (ts : List Tm) (n : Nat) (H : List Nat → Prop) : Option (List Nat) → Prop
  | none => ∀ q, q.Perm (List.range n) → ¬ H q
  | some o => 0 < n ∧ o.Perm (List.range n) ∧ H o ∧ ∀ q, q.Perm (List.range n) → H q → dnO ts o ≤ dnO ts q ∧ (lexL q o → dnO ts o < dnO ts q)
theorem invB_cong {ts : List Tm} {n : Nat} {H H' : List Nat → Prop} {z : Option (List Nat)} (h : ∀ q, q.Perm (List.range n) → (H q ↔ H' q)) (hz : InvB ts n H z) : InvB ts n H' z := by
  cases z with
  | none => exact fun q hq hh => hz q hq ((h q hq).2 hh)
  | some o => exact ⟨hz.1, hz.2.1, (h o hz.2.1).1 hz.2.2.1, fun q hq hh => hz.2.2.2 q hq ((h q hq).2 hh)⟩
theorem invB_skip {ts : List Tm} {n : Nat} {cur : List Nat} {z : Option (List Nat)} (hz : InvB ts n (befL cur) z) (hs : z.isSome = true) (hd : hourZ ts z ≤ dnO ts cur) : InvB ts n (fun q => befL cur q ∨ q = cur) z := by
  cases z with
  | none => cases hs
  | some o =>
    refine ⟨hz.1, hz.2.1, .inl hz.2.2.1, fun q hq hh => ?_⟩
    rcases hh with hh | rfl
    · exact hz.2.2.2 q hq hh
    · exact ⟨hd, fun hl => absurd (lexL_trans hl hz.2.2.1) (lexL_irrefl _)⟩
theorem invB_take {ts : List Tm} {n : Nat} {cur : List Nat} {z : Option (List Nat)} (hz : InvB ts n (befL cur) z) (hn : 0 < n) (hc : cur.Perm (List.range n)) (hd : z.isSome = true → dnO ts cur < hourZ ts z) : InvB ts n (fun q => befL cur q ∨ q = cur) (some cur) := by
  refine ⟨hn, hc, .inr rfl, fun q hq hh => ?_⟩
  rcases hh with hh | rfl
  · cases z with
    | none => exact absurd hh (hz q hq)
    | some o =>
      have h1 := (hz.2.2.2 q hq hh).1
      have h2 : dnO ts cur < dnO ts o := hd rfl
      exact ⟨by omega, fun _ => by omega⟩
  · exact ⟨Int.le_refl _, fun hl => absurd hl (lexL_irrefl _)⟩
theorem nI_toNat {q : List Int} {n : Nat} (h : q.Perm (rngI n)) : ∃ q' : List Nat, q'.Perm (List.range n) ∧ nI q' = q := by
  have hq : nI (q.map Int.toNat) = q := by
    unfold nI
    rw [List.map_map]
    conv => { rhs; rw [← List.map_id q] }
    refine List.map_congr_left fun x hx => ?_
    have := mem_rngI.1 (h.mem_iff.1 hx)
    simp only [Function.comp, id]; omega
  refine ⟨q.map Int.toNat, ?_, hq⟩
  have h2 := h.map Int.toNat
  unfold rngI at h2
  rw [List.map_map] at h2
  have e : (List.range n).map (Int.toNat ∘ fun (i : Nat) => (i : Int)) = List.range n := by
    conv => { rhs; rw [← List.map_id (List.range n)] }
    exact List.map_congr_left fun x _ => by simp
  rw [e] at h2; exact h2
theorem nI_perm {o : List Nat} {n : Nat} (h : o.Perm (List.range n)) : (nI o).Perm (rngI n) := h.map _
theorem ordOk_perm {ts : List Tm} {n : Nat} (hl : ts.length = n) (h7 : n ≤ 7) (hsm : ∀ t, t ∈ ts → smT t) {q : List Int} (h : q.Perm (rngI n)) : ordOk ts q :=
  { len := by rw [h.length_eq, rngI_len, hl], le := by omega, bd := fun k hk => by rw [hl]; exact mem_rngI.1 (h.mem_iff.1 hk), sm := hsm }
theorem invB_best {ts : List Tm} {n : Nat} (hl : ts.length = n) (h7 : n ≤ 7) (hsm : ∀ t, t ∈ ts → smT t) {z : Option (List Nat)} (hz : InvB ts n (fun _ => True) z) : BestO ts n (ordZ z) ∧ hourZ ts z = doneO ts (ordZ z) ∧ (ordZ z).length = n := by
  cases z with
  | none => exact absurd trivial (hz (List.range n) (List.Perm.refl _))
  | some o =>
    have hdn : ∀ q : List Nat, q.Perm (List.range n) → doneO ts (nI q) = dnO ts q := fun q hq => done_run (ordOk_perm hl h7 hsm (nI_perm hq))
    refine ⟨⟨nI_perm hz.2.1, fun q hq => ?_, fun q hq hlx => ?_⟩, (hdn o hz.2.1).symm, by show (nI o).length = n; rw [nI_len, hz.2.1.length_eq, List.length_range]⟩
    · obtain ⟨q, hq', rfl⟩ := nI_toNat hq
      show doneO ts (nI o) ≤ _
      rw [hdn o hz.2.1, hdn q hq']; exact (hz.2.2.2 q hq' trivial).1
    · obtain ⟨q, hq', rfl⟩ := nI_toNat hq
      show doneO ts (nI o) < _
      rw [hdn o hz.2.1, hdn q hq']; exact (hz.2.2.2 q hq' trivial).2 (lexI_nI.1 hlx)
theorem best_nil {ts : List Tm} (hl : ts.length = 0) : BestO ts 0 [] ∧ doneO ts [] = 0 := by
  refine ⟨⟨List.Perm.refl _, fun q hq => ?_, fun q hq hlx => ?_⟩, ?_⟩
  · rw [show q = [] from hq.eq_nil]; exact Int.le_refl _
  · rw [show q = [] from hq.eq_nil] at hlx; exact hlx.elim
  · rw [List.eq_nil_of_length_eq_zero hl]; rfl
theorem bestR_of {l : List Jb} (hj : jobsB l = true) {b : List Int} (hb : BestO (l.map (timeV true)) l.length b) : bestR l = (b, doneO (l.map (timeV true)) b, 0) := by
  have h := best_one hb (best_ref (ts := l.map (timeV true)) (n := l.length) (List.length_map _))
  unfold bestR
  rw [if_neg (by simp [hj]), ← h]
  refine Prod.ext rfl (Prod.ext ?_ rfl)
  show hourK _ _ = _
  unfold hourK doneO
  rw [List.length_map, ← h]
theorem run_le_done {ts : List Tm} (hsm : ∀ t, t ∈ ts → smT t) (o : List Nat) (k : Nat) : (runL (ordT ts ((nI o).take k)) (0, 0)).2 ≤ dnO ts o := by
  have := (run_take_le (ts := ordT ts (nI o)) (fun t ht => smT_pos (ordT_sm hsm _ t ht)) k).2
  unfold dnO
  unfold ordT at this ⊢
  rw [List.map_take]; exact this
end Go.Proofs.Ytjlbpmcacopbpaa
