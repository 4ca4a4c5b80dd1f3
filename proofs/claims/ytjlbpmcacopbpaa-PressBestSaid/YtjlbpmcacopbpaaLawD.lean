/- When all is done: the last job's end. No program in sight. -/
import Derived.Test.YtjlbpmcacopbpaaLawB
namespace Go.Proofs.Ytjlbpmcacopbpaa
theorem smT_pos {t : Tm} (h : smT t) : posT t := ⟨h.1.1, h.2.1⟩
theorem ends_le {ts : List Tm} (h : ∀ t, t ∈ ts → smT t) (o : List Int) : ∀ k, ∀ x, x ∈ endsK ts o k → x ≤ (runL (ordT ts o) (0, 0)).2
  | 0 => fun x hx => by
    unfold endsK at hx
    rw [(List.mem_replicate.1 hx).2]
    exact (run_take_le (fun t ht => smT_pos (ordT_sm h o t ht)) 0).2
  | k + 1 => fun x hx => by
    unfold endsK at hx
    rcases List.mem_or_eq_of_mem_set hx with h1 | h1
    · exact ends_le h o k x h1
    · rw [h1]
      have := (run_take_le (ts := ordT ts o) (fun t ht => smT_pos (ordT_sm h o t ht)) (k + 1)).2
      unfold ordT at this ⊢
      rw [List.map_take]; exact this
/-- when all is done -/
theorem done_run {ts : List Tm} {o : List Int} (hok : ordOk ts o) : doneO ts o = (runL (ordT ts o) (0, 0)).2 := by
  unfold doneO
  have hle : gtV 0 (endsV ts o) ≤ (runL (ordT ts o) (0, 0)).2 := by
    rcases gtV_at (endsV ts o) 0 with h | h
    · rw [h]; exact (run_take_le (ts := ordT ts o) (fun t ht => smT_pos (ordT_sm hok.sm o t ht)) 0).2
    · exact ends_le hok.sm o _ _ h
  have hge : (runL (ordT ts o) (0, 0)).2 ≤ gtV 0 (endsV ts o) := by
    rcases Nat.eq_zero_or_pos o.length with h0 | h0
    · rw [List.eq_nil_of_length_eq_zero h0]
      exact (gtV_ge _ 0).1
    · obtain ⟨k, hk⟩ : ∃ k, o.length = k + 1 := ⟨o.length - 1, by omega⟩
      refine (gtV_ge (endsV ts o) 0).2 _ ?_
      have hb := hok.bd _ (List.mem_of_getElem? (get_of_lt 0 (show k < o.length by omega)))
      unfold endsV
      rw [hk]
      unfold endsK
      have e : o.take (k + 1) = o := List.take_of_length_le (by omega)
      rw [e]
      exact List.mem_iff_getElem.2 ⟨(o.getD k 0).toNat, by rw [List.length_set, endsK_len]; omega, by simp⟩
  omega
end Go.Proofs.Ytjlbpmcacopbpaa
