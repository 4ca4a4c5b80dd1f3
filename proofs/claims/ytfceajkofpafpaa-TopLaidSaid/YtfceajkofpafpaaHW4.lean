/- The walks of the parts, and of what looks whether a cut is good. -/
import Derived.Test.YtfceajkofpafpaaHW3
namespace Go.Proofs.Ytfceajkofpafpaa
open Go Go.Eng Go.RowKit Go.Proofs
open Go.Proofs.Ytfceajkofpafpaa.Sc (iRow spRow sp0 Sp getD_of get_of_lt any_range_get all_not_any all_getD)
set_option maxRecDepth 100000
/-- how many parts each of the first pieces has -/
def cntL (c : Ct) (S : List (Int × Int)) (n : Nat) : List Int := (List.range n).map fun k => ((cntP c S k : Nat) : Int)
theorem cntL_len (c : Ct) (S : List (Int × Int)) (n : Nat) : (cntL c S n).length = n := by simp [cntL]
theorem cntL_at (c : Ct) (S : List (Int × Int)) {n k : Nat} (h : k < n) : (cntL c S n)[k]? = some ((cntP c S k : Nat) : Int) := by
  unfold cntL; rw [List.getElem?_map, List.getElem?_range h]; rfl
theorem cntL_take (c : Ct) (S : List (Int × Int)) {n m : Nat} (h : n ≤ m) : (cntL c S m).take n = cntL c S n := by
  apply List.ext_getElem?
  intro i
  rw [List.getElem?_take]
  split
  · rename_i hi; rw [cntL_at c S (show i < m by omega), cntL_at c S hi]
  · rename_i hi; rw [List.getElem?_eq_none (by rw [cntL_len]; omega)]
theorem cntL_mem {c : Ct} {S : List (Int × Int)} {n : Nat} {z : Int} : z ∈ cntL c S n ↔ ∃ k, k < n ∧ z = (cntP c S k : Nat) := by
  unfold cntL
  rw [List.mem_map]
  constructor
  · rintro ⟨k, h, rfl⟩; exact ⟨k, List.mem_range.1 h, rfl⟩
  · rintro ⟨k, h, rfl⟩; exact ⟨k, List.mem_range.2 h, rfl⟩
theorem cntL_add {c : Ct} {S : List (Int × Int)} {p : Int × Int} {n k : Nat} (h : atC c p = (k : Int)) : (cntL c S n).set k ((cntP c S k : Nat) + 1) = cntL c (p :: S) n := by
  apply List.ext_getElem?
  intro i
  rw [List.getElem?_set]
  rcases Nat.lt_or_ge i n with hi | hi
  · rw [cntL_at c (p :: S) hi]
    unfold cntP
    rw [List.countP_cons]
    by_cases e : k = i
    · subst e
      rw [if_pos rfl, if_pos (by rw [cntL_len]; exact hi), if_pos (decide_eq_true h)]; rfl
    · rw [if_neg e, cntL_at c S hi, if_neg (by rw [h]; simp; omega)]; rfl
  · rw [List.getElem?_eq_none (l := cntL c (p :: S) n) (by rw [cntL_len]; exact hi)]
    split
    · rw [if_neg (by rw [cntL_len]; omega)]
    · rw [List.getElem?_eq_none (by rw [cntL_len]; exact hi)]
def cntV (c : Ct) (S : List (Int × Int)) : List Value := (cntL c S 40).flatMap iRow
theorem cntV_len (c : Ct) (S : List (Int × Int)) : (cntV c S).length = 40 := by unfold cntV; rw [iflat_len, cntL_len]
theorem cntV_at (c : Ct) (S : List (Int × Int)) {k : Nat} (h : k < 40) : (cntV c S).toArray[0 + k * 1]? = some (.int .i64 ((cntP c S k : Nat) : Int)) := by
  rw [Nat.zero_add, List.getElem?_toArray]; exact flat_iget (cntL_at c S h)
theorem flat_imap (l : List Int) : l.flatMap iRow = l.map (fun n => Value.int .i64 n) := by induction l with | nil => rfl | cons a l ih => rw [List.flatMap_cons, ih]; rfl
theorem cntV_set {c : Ct} {S : List (Int × Int)} {p : Int × Int} {k : Nat} (h : atC c p = (k : Int)) : (cntV c S).toArray.setIfInBounds (0 + k * 1) (.int .i64 (((cntP c S k : Nat) : Int) + 1)) = (cntV c (p :: S)).toArray := by
  rw [Nat.zero_add, Nat.mul_one, List.setIfInBounds_toArray]
  unfold cntV
  rw [flat_imap, flat_imap, ← cntL_add h, List.map_set]
theorem cntV_one (c : Ct) (S : List (Int × Int)) : (cntV c S).all (·.oneCell') = true := List.all_eq_true.2 fun v hv => iflat_one _ v hv
/-- the cells where parts begin -/
def PartsOk (c : Ct) (S : List (Int × Int)) : Prop := ∃ R, Pts c R S ∧ ∀ p, inC c p → p ∈ R
theorem seen_lt {n : Nat} {ss : List Nat} (hn : ss.Nodup) (hs : ∀ i, i ∈ ss → i < n) {i : Nat} (hi : i < n) (hno : i ∉ ss) : ss.length + 1 ≤ n := by
  have := nodup_len (l := i :: ss) (m := List.range n) (List.nodup_cons.2 ⟨hno, hn⟩) (fun x hx => List.mem_range.2 (by
    rcases List.mem_cons.1 hx with rfl | hx
    · exact hi
    · exact hs x hx))
  simpa using this
theorem seen_snoc {ss : List Nat} (hn : ss.Nodup) {i : Nat} (hno : i ∉ ss) : (ss ++ [i]).Nodup := by
  rw [List.nodup_append]
  exact ⟨hn, by simp, fun a ha b hb e => hno (by simp at hb; rw [← hb, ← e]; exact ha)⟩
/-- the walk over a picture's map: what has been met -/
structure Met (c : Ct) (ss : List Nat) (R S : List (Int × Int)) : Prop where
  nd : ss.Nodup
  lt : ∀ i, i ∈ ss → i < c.piece.length
  inn : ∀ i, i ∈ ss → cellAt c i ∈ R
  pts : Pts c R S
  len : S.length ≤ ss.length
theorem Met.start (c : Ct) : Met c [] [] [] where
  nd := List.nodup_nil
  lt := fun _ h => by cases h
  inn := fun _ h => by cases h
  pts := Pts.nil c
  len := Nat.le_refl _
theorem Met.done {c : Ct} (h : CtF c) {ss : List Nat} {R S : List (Int × Int)} (m : Met c ss R S) (hall : ∀ i, i < c.piece.length → i ∈ ss) : PartsOk c S :=
  ⟨R, m.pts, fun p hp => by
    obtain ⟨h1, h2⟩ := cell_idx h hp
    rw [← h2]; exact m.inn _ (hall _ h1)⟩
theorem Met.old {c : Ct} {ss : List Nat} {R S : List (Int × Int)} (m : Met c ss R S) {i : Nat} (hi : i < c.piece.length) (hno : i ∉ ss) (hr : cellAt c i ∈ R) : Met c (ss ++ [i]) R S where
  nd := seen_snoc m.nd hno
  lt := fun j hj => by
    rcases List.mem_append.1 hj with hj | hj
    · exact m.lt j hj
    · simp at hj; omega
  inn := fun j hj => by
    rcases List.mem_append.1 hj with hj | hj
    · exact m.inn j hj
    · simp at hj; rw [hj]; exact hr
  pts := m.pts
  len := by have := m.len; simp; omega
theorem Met.new {c : Ct} {ss : List Nat} {R S R' : List (Int × Int)} (m : Met c ss R S) {i : Nat} (hi : i < c.piece.length) (hno : i ∉ ss) (hr : cellAt c i ∉ R) (k : Dfs c R (cellAt c i) R') : Met c (ss ++ [i]) R' (cellAt c i :: S) where
  nd := seen_snoc m.nd hno
  lt := fun j hj => by
    rcases List.mem_append.1 hj with hj | hj
    · exact m.lt j hj
    · simp at hj; omega
  inn := fun j hj => by
    rcases List.mem_append.1 hj with hj | hj
    · exact k.sub _ (m.inn j hj)
    · simp at hj; rw [hj]; exact k.here
  pts := m.pts.more hr k
  len := by have := m.len; simp; omega
theorem cntP_le (c : Ct) (S : List (Int × Int)) (k : Nat) : cntP c S k ≤ S.length := List.countP_le_length
theorem parts27 (w : World) (c : Ct) (h : CtF c) (a : Option Addr) (cp b : Nat) (hb : MpA 0 w b c) : Calls Try.prog 27 #[.agg (picV c a cp b).toArray] w fun e w' => ∃ S, PartsOk c S ∧ e = .returned (.agg (cntV c S).toArray) ∧ Below w.heap.size w w' := by
  have hn := h.n0
  have hz : (cntV c []).toArray = (Array.replicate 40 (.int .i64 0 : Value)) := by kernel_rfl
  have hlen : (cellsL c).length = c.piece.length := cellsN_len c _
  unfold picV
  refine calls_of_SC (args := [.agg #[.int .i64 c.wide, .int .i64 c.high, .slice a c.piece.length cp, .map (some b)]]) Try.func27 rfl Try.ntmps27 rfl ?_
  simp only [argL]
  refine sc_seq ?_
  refine sc_region ?_
  refine sq_box RF rfl (fun b1 => ?_)
  refine sq_alloc Try.zeroValue99 rfl (fun b2 => ?_)
  refine sq_nil ?_
  refine sx_then ?_
  refine sc_seq ?_
  refine sc_region ?_
  refine sq_alloc Try.zeroValue99 rfl (fun b3 => ?_)
  refine sq_nil ?_
  refine sx_then ?_
  refine sc_seq ?_
  refine sc_region ?_
  refine sq_makeMapV cK bV rfl (fun b8 => ?_)
  rw [show mvM cK bV ([] : List ((Int × Int) × Bool)) = mvM cK bV (rl []) from rfl]
  refine sq_alloc Try.zeroValue150 rfl (fun b4 => ?_)
  refine sq_store Try.sizeOf150 RF RF (by first | rfl | assumption) RM (by first | exact Nat.le_of_ble_eq_true rfl | simp | omega) ?_
  refine sq_nil ?_
  refine sx_then ?_
  refine sc_seq ?_
  refine sc_region ?_
  refine sq_alloc Try.zeroValue151 rfl (fun b5 => ?_)
  refine sq_nil ?_
  refine sx_then ?_
  refine sc_seq ?_
  refine sc_region ?_
  refine qs (y_makeFunc EvL.nil (EvL.cons RF (EvL.cons RF (EvL.cons RF EvL.nil)))) ?_
  refine sq_store Try.sizeOf151 RF RF (by first | rfl | assumption) RM (by first | exact Nat.le_of_ble_eq_true rfl | simp | omega) ?_
  refine sq_nil ?_
  refine sx_then ?_
  refine sc_seq ?_
  refine sc_seq ?_
  refine sc_region ?_
  refine qs FA90_88 ?_
  refine qs LD88 ?_
  refine sq_range (kf := cK) (vf := iV) (l := cellsL c) (b := b) Try.underlying88 RF (fun _ hw => hb.hp MM hw) rfl (fun r => ?_)
  refine sq_nil ?_
  refine sx_then ?_
  refine sc_block ?_
  refine sc_loop (σ := List Nat × List (Int × Int) × List (Int × Int))
    (fun s => [(1, .pointer (some ⟨b1, 0, none⟩)), (2, .pointer (some ⟨b2, 0, none⟩)), (3, .pointer (some ⟨b3, 0, none⟩)), (4, .pointer (some ⟨b4, 0, none⟩)), (5, .pointer (some ⟨b5, 0, none⟩)), (12, .pointer (some ⟨r, 0, none⟩))])
    (fun s => .blk r (iterObj b (cellsL c).length s.1) :: .blk b3 (.cells (cntV c s.2.2).toArray 99 (0, 0)) :: .blk b4 (.cells #[.map (some b8)] 150 (0, 0)) :: .blk b8 (mvM cK bV (rl s.2.1)) :: .blk b1 (.cells #[.int .i64 c.wide, .int .i64 c.high, .slice a c.piece.length cp, .map (some b)] 90 (0, 0)) :: .blk b5 (.cells #[.func (.func 60) #[] #[.pointer (some ⟨b4, 0, none⟩), .pointer (some ⟨b1, 0, none⟩), .pointer (some ⟨b5, 0, none⟩)]] 151 (0, 0)) :: .reg 0 w :: [.blk b2 (.cells (cntV c []).toArray 99 (0, 0))])
    (fun s => Met c s.1 s.2.1 s.2.2)
    (fun s => c.piece.length - s.1.length)
    (([], [], [])) ?_ SU SR ?_
  · exact Met.start c
  rintro ⟨ss, R, S⟩ hm
  dsimp only at hm ⊢
  refine sc_seq ?_
  skip
  refine sc_region ?_
  refine sq_next (kf := cK) (vf := iV) (l := cellsL c) (b := b) (ss := ss) RF RM (fun _ hw => hb.hp MM hw) rfl (fun o ho => ?_)
  refine qs (y_nextOk (kf := cK) (vf := iV) (l := cellsL c) (o := o) RF) ?_
  refine sq_nil ?_
  refine sx_then ?_
  refine sc_seq ?_
  refine scp (fun hc0 => ?_) (fun hc0 => ?_)
  ·
    obtain ⟨i, rfl⟩ := Option.isSome_iff_exists.1 hc0
    obtain ⟨hi', hno⟩ := ho
    rw [hlen] at hi'
    dsimp only [Option.toList]
    obtain ⟨p, hpe⟩ : ∃ p, p = cellAt c i := ⟨_, rfl⟩
    have hp : inC c p := by rw [hpe]; exact (idx_cell h hi').1
    have hat : atC c p = c.piece.getD i 0 := by rw [hpe]; exact atC_cell h hi'
    obtain ⟨k, hk⟩ : ∃ k : Nat, atC c p = (k : Int) := ⟨(atC c p).toNat, by have := (atC_in h).2 hp; omega⟩
    have hk40 : k < 40 := by have := (atC_bd h p).2; omega
    refine sc_skip ?_
    refine sx_then ?_
    refine sc_block ?_
    refine sc_seq ?_
    skip
    refine sc_region ?_
    refine qs (y_entry (kf := cK) (vf := iV) (l := cellsL c) (b := b) (i := i) (ss := ss) (x0 := cellAt c i) (b1 := c.piece.getD i 0) RF (fun _ hw => hw.ok (Res.blk r (iterObj b (cellsL c).length (ss ++ [i]))) MM) (fun _ hw => hb.hp MM hw) (cellsN_at c hi')) ?_
    rw [← hpe, ← hat, hk, show cK p = .agg #[.int .i64 p.1, .int .i64 p.2] from rfl]
    refine qs (y_extract RF RF) ?_
    refine qs (y_extract RF RF) ?_
    refine sq_alloc Try.zeroValue137 rfl (fun b6 => ?_)
    refine sq_store_all Try.sizeOf137 RF RF rfl RM rfl rfl ?_
    refine qs (y_assign RF) ?_
    refine sq_nil ?_
    refine sx_then ?_
    refine sc_seq ?_
    refine sc_region ?_
    refine qs LD150 ?_
    refine qs LD137 ?_
    refine qs (y_lookupV (kf := cK) (vf := bV) (x0 := p) (b0 := false) kv137.toKF (rl_ok h hm.pts.ins) (rl_nd hm.pts.nd) (okC_in h hp) Try.underlying150 Try.zeroValue4 RF (fun _ hw => hw.ok (Res.blk b8 (mvM cK bV (rl R))) MM) RF) ?_
    rw [rl_get]
    refine qs (y_not RF) ?_
    refine sq_nil ?_
    refine sx_then ?_
    refine scp (fun hc1 => ?_) (fun hc1 => ?_)
    ·
      refine sc_seq ?_
      refine sc_region ?_
      refine qs (y_move RF) ?_
      refine qs (y_ia_arr Try.underlying99 Try.sizeOf3 RF RF (by omega)) ?_
      refine qs (by first | exact y_load_blk Try.underlying3 rfl RF MM (cntV_at c S hk40) | exact LD3) ?_
      refine qs (y_add RF RF (by have := cntP_le c S k; have := hm.len; have := seen_lt hm.nd hm.lt hi' hno; omega)) ?_
      refine qs (y_ia_arr Try.underlying99 Try.sizeOf3 RF RF (by omega)) ?_
      refine sq_store Try.sizeOf3 RF RF rfl RM (by rw [List.size_toArray, cntV_len]; omega) ?_
      rw [cntV_set hk]
      refine sq_nil ?_
      refine sx_then ?_
      refine sc_region ?_
      refine qs LD151 ?_
      refine qs LD137 ?_
      refine sq_call (first := []) (caps := [.pointer (some ⟨b4, 0, none⟩), .pointer (some ⟨b1, 0, none⟩), .pointer (some ⟨b5, 0, none⟩)]) (Z := List (Int × Int)) (fun _ => .tuple #[]) (fun R2 => .blk b4 (.cells #[.map (some b8)] 150 (0, 0)) :: .blk b8 (mvM cK bV (rl R2)) :: .blk b1 (.cells #[.int .i64 c.wide, .int .i64 c.high, .slice a c.piece.length cp, .map (some b)] 90 (0, 0)) :: .blk b5 (.cells #[.func (.func 60) #[] #[.pointer (some ⟨b4, 0, none⟩), .pointer (some ⟨b1, 0, none⟩), .pointer (some ⟨b5, 0, none⟩)]] 151 (0, 0)) :: .reg 0 w :: (.blk b3 (.cells (cntV c (p :: S)).toArray 99 (0, 0)) :: .blk b6 (.cells #[.int .i64 p.1, .int .i64 p.2] 137 (0, 0)) :: .blk r (iterObj b (cellsL c).length (ss ++ [i])) :: [.blk b2 (.cells (cntV c []).toArray 99 (0, 0))])) (fun R2 => Dfs c R p R2) RF Try.call60 (EvL.cons RF EvL.nil) (fun w1 hw1 => on60 h hb c.piece.length R p (.blk b3 (.cells (cntV c (p :: S)).toArray 99 (0, 0)) :: .blk b6 (.cells #[.int .i64 p.1, .int .i64 p.2] 137 (0, 0)) :: .blk r (iterObj b (cellsL c).length (ss ++ [i])) :: [.blk b2 (.cells (cntV c []).toArray 99 (0, 0))]) w1 (by omega) hm.pts.nd hm.pts.ins hp hc1 (by unfold FO; exact hw1.sel SR)) rfl (fun R2 hR2 => ?_)
      refine sq_nil ?_
      refine sx_blk ?_
      refine sx_round ((ss ++ [i], R2, p :: S)) ?_ ?_ SU SR
      · rw [hpe]; exact hm.new hi' hno (by rw [← hpe]; exact hc1) (by rw [← hpe]; exact hR2)
      · have := seen_lt hm.nd hm.lt hi' hno; simp; omega
    ·
      refine sc_skip ?_
      refine sx_blk ?_
      refine sx_round ((ss ++ [i], R, S)) ?_ ?_ SU SR
      · exact hm.old hi' hno (by rw [← hpe]; exact hc1)
      · have := seen_lt hm.nd hm.lt hi' hno; simp; omega
  ·
    have hon : o = none := by cases o with
      | none => rfl
      | some i => cases hc0
    subst hon
    have hdone := hm.done h (fun i hi => ho i (by rw [hlen]; exact hi))
    refine sc_exit ?_
    refine sx_then_exit ?_
    refine sx_round_exit ?_
    refine sx_blk_hit ?_
    refine sx_then ?_
    refine sc_seq ?_
    refine sc_region ?_
    refine qs (by first | exact y_load_all (vs := cntV c S) Try.underlying99 rfl Try.sizeOf99 RF MM (cntV_len c S) | exact LD99) ?_
    refine sq_store_all Try.sizeOf99 RF RF rfl RM rfl rfl ?_
    refine sq_nil ?_
    refine sx_then ?_
    refine sc_ret ?_
    refine sx_retc (.inl rfl) rfl Try.results27 Try.underlying99 rfl Try.sizeOf99 RF MM (cntV_len c S) ?_
    intro w' hw'
    exact ⟨S, hdone, rfl, hw'.below MM⟩
end Go.Proofs.Ytfceajkofpafpaa
