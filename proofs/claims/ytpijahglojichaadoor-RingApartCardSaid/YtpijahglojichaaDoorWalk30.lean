/- The walk of the law RingTurned. -/
import Derived.Test.YtpijahglojichaaDoorWalk20
import Derived.Test.YtpijahglojichaaDoorLawU
namespace Go.Proofs.YtpijahglojichaaDoor
open Go Go.Eng Go.RowKit Go.Proofs
set_option maxRecDepth 100000
/-- headers of rows, of which so many have been made -/
def hdL (v : Nat → Value) (n i : Nat) : List Value := (List.range n).map fun a => if a < i then v a else .slice none 0 0
theorem hdL_len (v : Nat → Value) (n i : Nat) : (hdL v n i).length = n := by simp [hdL]
theorem hdL_get (v : Nat → Value) {n i a : Nat} (h : a < n) : (hdL v n i)[a * 1]? = some (if a < i then v a else .slice none 0 0) := by
  unfold hdL; rw [Nat.mul_one, List.getElem?_map, List.getElem?_range h]; rfl
theorem hdL_zero (v : Nat → Value) (n : Nat) : madeCells (Value.slice none 0 0).cells (n * 1) = (hdL v n 0).toArray := by
  rw [Nat.mul_one]
  show madeCells #[.slice none 0 0] n = _
  rw [madeCells_one]
  congr 1
  apply List.ext_getElem?
  intro a
  rcases Nat.lt_or_ge a n with h | h
  · have := hdL_get v (i := 0) h
    rw [Nat.mul_one, if_neg (Nat.not_lt_zero _)] at this
    rw [this, List.getElem?_replicate, if_pos h]
  · rw [List.getElem?_eq_none (by simpa using h), List.getElem?_eq_none (by rw [hdL_len]; exact h)]
theorem hdL_set (v : Nat → Value) (n : Nat) {i : Nat} (u : Value) : (hdL v n i).set (i * 1 + 0) u = hdL (updF v i u) n (i + 1) := by
  rw [Nat.mul_one, Nat.add_zero]
  apply List.ext_getElem?
  intro a
  rw [List.getElem?_set, hdL_len]
  rcases Nat.lt_or_ge a n with h | h
  · have h1 := hdL_get v (i := i) h
    have h2 := hdL_get (updF v i u) (i := i + 1) h
    rw [Nat.mul_one] at h1 h2
    rw [h1, h2]
    by_cases e : i = a
    · subst e; rw [if_pos rfl, if_pos h, if_pos (by omega), updF_at]
    · rw [if_neg e, updF_ne _ _ (fun h => e h.symm)]
      by_cases e2 : a < i
      · rw [if_pos e2, if_pos (by omega)]
      · rw [if_neg e2, if_neg (by omega)]
  · rw [List.getElem?_eq_none (l := hdL v n i) (by rw [hdL_len]; exact h), List.getElem?_eq_none (l := hdL (updF v i u) n (i + 1)) (by rw [hdL_len]; exact h)]
    by_cases e : i = a
    · rw [if_pos e, if_neg (by omega)]
    · rw [if_neg e]
theorem wflat2 (l : List Value) : l.flatMap wRow = l := by
  induction l with
  | nil => rfl
  | cons a l ih => rw [List.flatMap_cons, ih]; rfl
def slA : Value → Option Addr
  | .slice a _ _ => a
  | _ => none
def slC : Value → Nat
  | .slice _ _ c => c
  | _ => 0
/-- a market of own rows -/
theorem rows_at {w0 w : World} {rs : List Res} (hw : Hp w0 rs w) {A : Option Addr} {n c : Nat} {e1 e2 : TypeId} {v : Nat → Value} {X : Nat → List Int} (hX : ∀ a, a < n → (X a).length = n) (h1 : Res.own (.slice A n c) e1 1 n (hdL v n n) ∈ rs) (h2 : ∀ a, a < n → Res.own (v a) e2 1 n ((X a).flatMap iRow) ∈ rs) (h64 : n ≤ 9223372036854775807) : MtA 0 w ⟨A, c, fun a => slA (v a), fun a => slC (v a)⟩ ((List.range n).map X) := by
  obtain ⟨a', c', hv, _, hr1⟩ := own_rowsA (row := wRow) (l := hdL v n n) (fun _ => rfl) (by rw [wflat2]; exact hw.ok _ h1) (hdL_len ..) h64
  injection hv with e; subst e
  refine ⟨fun i r hi => ?_, by simpa using h64⟩
  have hil : i < n := by have := (List.getElem?_eq_some_iff.1 hi).1; simpa using this
  rw [List.getElem?_map, List.getElem?_range hil] at hi
  have hi := (Option.some.inj hi).symm
  subst hi
  obtain ⟨a2, c2, hv2, _, hr2⟩ := own_rowsA (row := iRow) (l := X i) iRow_len (hw.ok _ (h2 i hil)) (hX i hil) h64
  have h3 := hr1.el i (v i) (by have := hdL_get v (i := n) hil; rw [Nat.mul_one, if_pos hil] at this; exact this)
  show A.isSome = true ∧ CA 0 w (elt A i 1) [.slice (slA (v i)) (X i).length (slC (v i))] ∧ RowsA iRow 1 0 w (slA (v i)) (X i)
  rw [hv2, hX i hil] at *
  exact ⟨h3.1, h3.2, hr2⟩

theorem best23t (w : World) (z : MA) (m : Mt) (v : Nat → Nat) (hz : MtA 0 w z (turnM m v)) (hT : TabAt w) : Calls Tryd.prog 23 #[.agg #[.slice z.a m.length z.c]] w fun e w' => ∃ q : Option Addr × Nat, e = .returned (.tuple #[.slice q.1 (bestA (turnM m v)).1.length q.2, .int .i64 (bestA (turnM m v)).2.1, .int .i64 (bestA (turnM m v)).2.2]) ∧ Below w.heap.size w w' ∧ RowsA iRow 1 w.heap.size w' q.1 (bestA (turnM m v)).1 := by
  have h := Best23 w _ _ hz hT
  unfold mV at h
  rw [turnM_len] at h
  exact h
theorem short28t (w : World) (z : MA) (m : Mt) (v : Nat → Nat) (hz : MtA 0 w z (turnM m v)) (hT : TabAt w) (long : Int) : Calls Tryd.prog 28 #[.agg #[.slice z.a m.length z.c], .int .i64 long] w fun e w' => ∃ q : Option Addr × Nat, e = .returned (.tuple #[.slice q.1 (shortA (turnM m v) long).1.length q.2, .int .i64 (shortA (turnM m v) long).2.1, .int .i64 (shortA (turnM m v) long).2.2]) ∧ Below w.heap.size w w' ∧ RowsA iRow 1 w.heap.size w' q.1 (shortA (turnM m v) long).1 := by
  have h := Short28 w _ _ hz hT long
  unfold mV at h
  rw [turnM_len] at h
  exact h
theorem turned11 (w : World) (z : MA) (m : Mt) (hz : MtA 0 w z m) (hT : TabAt w) (long : Int) (ab : Option Addr) (cb : Nat) (by_ : List Nat) (hbb : RowsA uRow 1 0 w ab by_) (hby : ∀ x, x ∈ by_ → x ≤ 255) : Calls Tryd.prog 11 #[.agg (mV z m).toArray, .int .i64 long, .slice ab by_.length cb] w fun e w' => e = .returned (.bool true) ∧ Below w.heap.size w w' := by
  refine calls_of_SC (args := [.agg (mV z m).toArray, .int .i64 long, .slice ab by_.length cb]) Tryd.func11 rfl Tryd.ntmps11 rfl ?_
  simp only [argL, Nat.reduceAdd, Nat.zero_add]
  refine sc_seq ?_
  refine sc_region ?_
  refine sq_box RF rfl (fun b3 => ?_)
  refine qs (y_assign RF) ?_
  refine sq_nil ?_
  refine sx_then ?_
  refine sc_seq ?_
  refine sc_seq ?_
  refine sc_region ?_
  refine qs LD24 ?_
  refine qy (yc Tryd.call14 E1 (fun w1 hw1 => far14 w1 z m (hz.at hw1 MM))) ?_
  refine qs (y_move RF) ?_
  refine sp 27 (fun hg1_2 => ?_) (fun hg1_2 => ?_)
  ·
    refine qf ?_
    refine qf ?_
    refine qf ?_
    refine qs (y_pick_t RF RF) ?_
    refine sq_nil ?_
    refine sx_then ?_
    refine sc_t RF ?_
    refine sc_seq ?_
    refine sc_region ?_
    refine qy (yc Tryd.call15 E0 (fun w1 hw1 => awake15 w1 (CA.at hT hw1 MM))) ?_
    refine qs (y_assign RF) ?_
    refine sq_nil ?_
    refine sx_then ?_
    refine sc_ret ?_
    refine sx_then_ret ?_
    refine sx_ret1 (.inl rfl) rfl Tryd.results11 RF ?_
    intro w' hw'
    exact ⟨rfl, hw'.below MM⟩
  ·
    refine qg LD24 ?_
    refine sq_gt RF RF (y_call (first := []) (caps := []) RF Tryd.call30 (EvL.cons RF EvL.nil) (fun w1 hw1 => market30 w1 z m (hz.at hw1 MM))) rfl ?_
    refine qg (y_not RF) ?_
    refine qs (y_pick_f RF RF) ?_
    refine sq_nil ?_
    refine sx_then ?_
    refine scp (fun hc0 => ?_) (fun hc0 => ?_)
    ·
      refine sc_seq ?_
      refine sc_region ?_
      refine qy (yc Tryd.call15 E0 (fun w1 hw1 => awake15 w1 (CA.at hT hw1 MM))) ?_
      refine qs (y_assign RF) ?_
      refine sq_nil ?_
      refine sx_then ?_
      refine sc_ret ?_
      refine sx_then_ret ?_
      refine sx_ret1 (.inl rfl) rfl Tryd.results11 RF ?_
      intro w' hw'
      exact ⟨rfl, hw'.below MM⟩
    ·
      refine sc_skip ?_
      refine sx_then ?_
      refine sc_seq ?_
      have hb : mkB m = true := by simpa using hc0
      have hm := mkF hb
      have hn7 := hm.n7
      have hlen := hz.len
      refine sc_region ?_
      refine qs LD24 ?_
      refine qs (y_move RF) ?_
      refine sq_call_new (first := []) (caps := []) (Z := (Option Addr × Nat) × List Int) (fun r => .slice r.1.1 m.length r.1.2) (fun lo w' r => RowsA iRow 1 lo w' r.1.1 r.2 ∧ ordB r.2 m.length = true ∧ (false = true → fairI m r.2 < 0)) RF Tryd.call33 (EvL.cons RF (EvL.cons RF (EvL.cons RF EvL.nil))) (fun w1 hw1 => shuffled33 w1 z m (hz.at hw1 MM) hm false ab cb by_ (hbb.at hw1 MM) hby) rfl (fun lo7 wr7 r7 hr7 => ?_)
      refine qs (y_assign RF) ?_
      refine sq_nil ?_
      refine sx_then ?_
      refine sc_seq ?_
      have hnl := ord_len hr7.2.1
      have hp : Pm (getN r7.2) m.length := ord_pm2 hr7.2.1
      refine sc_region ?_
      refine qs FA24_22 ?_
      refine qs LD22 ?_
      refine qs (y_len Tryd.underlying22 RF) ?_
      refine qs (y_assign RF) ?_
      refine sq_nil ?_
      refine sx_then ?_
      refine sc_seq ?_
      refine sc_region ?_
      refine qs (y_move RF) ?_
      refine sq_make Tryd.underlying22 ei25 RF RF (by omega) (by omega) (by omega) rfl (fun b40 => ?_)
      rw [hdL_zero (fun _ => .nilFunc)]
      refine sq_blk_own (n := m.length) (sz := 1) (xs := hdL (fun _ => .nilFunc) m.length 0) RM (by rw [hdL_len, Nat.mul_one]) (by unfold maxLen; omega) ?_
      refine qs (y_build (cells := #[.slice (some ⟨b40, 0, none⟩) m.length m.length]) bt24 (EvP.cons RF EvP.nil) (by kernel_rfl)) ?_
      refine sq_alloc Tryd.zeroValue24 rfl (fun b9 => ?_)
      refine sq_store_all Tryd.sizeOf24 RF RF rfl RM rfl rfl ?_
      refine sq_nil ?_
      refine sx_then ?_
      refine sc_seq ?_
      refine sc_seq ?_
      refine sc_region ?_
      refine qs (y_assign RF) ?_
      refine sq_nil ?_
      refine sx_then ?_
      refine sc_block ?_
      refine sc_loop (σ := Nat × (Nat → Value))
        (fun s_ => [(1, .int .i64 long), (3, .pointer (some ⟨b3, 0, none⟩)), (7, .slice r7.1.1 m.length r7.1.2), (8, .int .i64 m.length), (9, .pointer (some ⟨b9, 0, none⟩)), (10, .int .i64 s_.1)])
        (fun s_ => [.own (.slice (some ⟨b40, 0, none⟩) m.length m.length) 25 1 m.length (hdL s_.2 m.length s_.1), .blk b9 (.cells #[.slice (some ⟨b40, 0, none⟩) m.length m.length] 24 (0, 0)), .blk b3 (.cells (mV z m).toArray 24 (0, 0)), .reg lo7 wr7, .reg 0 w] ++ famR 3 1 m.length s_.2 (fun a => (partX m (getN r7.2) 0 0 a).flatMap iRow) s_.1)
        (fun s_ => s_.1 ≤ m.length)
        (fun s_ => m.length - s_.1)
        ((0, fun _ => .nilFunc)) ?_ SU SR ?_
      · exact Nat.zero_le _
      rintro ⟨i, vf⟩ hi
      dsimp only at hi ⊢
      refine sc_seq ?_
      refine sc_seq ?_
      refine sc_region ?_
      refine qs (y_move RF) ?_
      refine qs (y_move RF) ?_
      refine qs (y_lss RF RF) ?_
      refine sq_nil ?_
      refine sx_then ?_
      refine scp (fun hc1 => ?_) (fun hc1 => ?_)
      ·
        have hi' : i < m.length := by omega
        refine sc_skip ?_
        refine sx_then ?_
        refine sc_seq ?_
        refine sc_block ?_
        refine sc_drawX (([.own (.slice (some ⟨b40, 0, none⟩) m.length m.length) 25 1 m.length (hdL vf m.length i), .blk b9 (.cells #[.slice (some ⟨b40, 0, none⟩) m.length m.length] 24 (0, 0)), .blk b3 (.cells (mV z m).toArray 24 (0, 0)), .reg lo7 wr7, .reg 0 w] ++ famR 3 1 m.length vf (fun a => (partX m (getN r7.2) 0 0 a).flatMap iRow) i)) (by kernel_rfl) ?_
        refine xj_s 0 RF (by kernel_rfl) SR FA24_22 rfl ?_
        refine xj_s 1 RF (by kernel_rfl) SR LD22 rfl ?_
        refine xj_s 2 RF (by kernel_rfl) SR (y_move RF) rfl ?_
        refine xj_s 3 RF (by kernel_rfl) SR (y_move RF) rfl ?_
        refine xj_one 4 RF (by kernel_rfl) ?_
        refine sq_make Tryd.underlying25 ei3 RF RF (by omega) (by omega) (by omega) rfl (fun b51 => ?_)
        rw [irep, ← partX_zero (v := (getN r7.2)) i]
        refine sq_blk_own (n := m.length) (sz := 1) (xs := (partX m (getN r7.2) 0 0 i).flatMap iRow) RM (by rw [iflat_len, partX_len, Nat.mul_one]) (by unfold maxLen; omega) ?_
        refine sq_nil ?_
        refine sx_xp SR ?_
        refine xj_s 5 RF (by kernel_rfl) SR (y_ia_own (v := .slice (some ⟨b40, 0, none⟩) m.length m.length) (i := i) Tryd.underlying22 Tryd.sizeOf25 RF MM RF hi') rfl ?_
        refine xj_one 6 RF (by kernel_rfl) ?_
        refine sq_store_own (v := .slice (some ⟨b40, 0, none⟩) m.length m.length) (i := i) (j := 0) (sz := 1) Tryd.sizeOf25 RF RF rfl RM hi' (by decide) ?_
        rw [hdL_set]
        refine sq_nil ?_
        refine sx_xpl (by kernel_rfl) ?_
        refine xj_done (by kernel_rfl) ?_
        refine sx_blk ?_
        refine sx_then ?_
        refine sc_region ?_
        refine qs (y_move RF) ?_
        refine qs (y_add RF RF (by omega)) ?_
        refine qs (y_assign RF) ?_
        refine sq_nil ?_
        refine sx_sub (rs' := .own (.slice (some ⟨b51, 0, none⟩) m.length m.length) 3 1 m.length ((partX m (getN r7.2) 0 0 i).flatMap iRow) :: ([.own (.slice (some ⟨b40, 0, none⟩) m.length m.length) 25 1 m.length (hdL (updF vf i (.slice (some ⟨b51, 0, none⟩) m.length m.length)) m.length (i + 1)), .blk b9 (.cells #[.slice (some ⟨b40, 0, none⟩) m.length m.length] 24 (0, 0)), .blk b3 (.cells (mV z m).toArray 24 (0, 0)), .reg lo7 wr7, .reg 0 w] ++ famR 3 1 m.length vf (fun a => (partX m (getN r7.2) 0 0 a).flatMap iRow) i)) (SubL.refl _) SR ?_
        have hfm := fam_more (e := 3) (sz := 1) (n := m.length) (k := i) (v := vf) (v' := updF vf i (.slice (some ⟨b51, 0, none⟩) m.length m.length)) (xs := fun a => (partX m (getN r7.2) 0 0 a).flatMap iRow) (xs' := fun a => (partX m (getN r7.2) 0 0 a).flatMap iRow) [.own (.slice (some ⟨b40, 0, none⟩) m.length m.length) 25 1 m.length (hdL (updF vf i (.slice (some ⟨b51, 0, none⟩) m.length m.length)) m.length (i + 1)), .blk b9 (.cells #[.slice (some ⟨b40, 0, none⟩) m.length m.length] 24 (0, 0)), .blk b3 (.cells (mV z m).toArray 24 (0, 0)), .reg lo7 wr7, .reg 0 w] fun j hj => ⟨updF_ne _ _ (by omega), rfl⟩
        rw [updF_at] at hfm
        refine sx_fam hfm ?_
        exact sx_round (i + 1, updF vf i (.slice (some ⟨b51, 0, none⟩) m.length m.length)) (by dsimp only; omega) (by dsimp only; omega) SU SR
      ·
        have hin : i = m.length := by omega
        subst hin
        refine sc_exit ?_
        refine sx_then_exit ?_
        refine sx_round_exit ?_
        refine sx_blk_hit ?_
        refine sx_then ?_
        refine sc_seq ?_
        refine sc_seq ?_
        refine sc_region ?_
        refine qs (y_assign RF) ?_
        refine sq_nil ?_
        refine sx_then ?_
        refine sc_block ?_
        refine sc_loop (σ := Nat)
          (fun s_ => [(1, .int .i64 long), (3, .pointer (some ⟨b3, 0, none⟩)), (7, .slice r7.1.1 m.length r7.1.2), (8, .int .i64 m.length), (9, .pointer (some ⟨b9, 0, none⟩)), (11, .int .i64 s_)])
          (fun s_ => [.own (.slice (some ⟨b40, 0, none⟩) m.length m.length) 25 1 m.length (hdL vf m.length m.length), .blk b9 (.cells #[.slice (some ⟨b40, 0, none⟩) m.length m.length] 24 (0, 0)), .blk b3 (.cells (mV z m).toArray 24 (0, 0)), .reg lo7 wr7, .reg 0 w] ++ famR 3 1 m.length vf (fun a => (partX m (getN r7.2) s_ 0 a).flatMap iRow) m.length)
          (fun s_ => s_ ≤ m.length)
          (fun s_ => m.length - s_)
          (0) ?_ SU SR ?_
        · exact Nat.zero_le _
        rintro i hi
        refine sc_seq ?_
        refine sc_seq ?_
        refine sc_region ?_
        refine qs (y_move RF) ?_
        refine qs (y_move RF) ?_
        refine qs (y_lss RF RF) ?_
        refine sq_nil ?_
        refine sx_then ?_
        refine scp (fun hc2 => ?_) (fun hc2 => ?_)
        ·
          have hi' : i < m.length := by omega
          obtain ⟨hs1, hr1, hrow⟩ := hz.row hi'
          have hrli := hm.row i hi'
          obtain ⟨hge, hvi⟩ := ord_get hr7.2.1 hi'
          have hsi := (hr7.1.get 0 (show i < r7.2.length by omega)).1
          have hci := (hr7.1.get 0 (show i < r7.2.length by omega)).2
          rw [hge] at hci
          refine sc_skip ?_
          refine sx_then ?_
          refine sc_seq ?_
          refine sc_block ?_
          refine sc_seq ?_
          refine sc_region ?_
          refine qs (y_assign RF) ?_
          refine sq_nil ?_
          refine sx_then ?_
          refine sc_block ?_
          refine sc_loop (σ := Nat)
            (fun s_ => [(1, .int .i64 long), (3, .pointer (some ⟨b3, 0, none⟩)), (7, .slice r7.1.1 m.length r7.1.2), (8, .int .i64 m.length), (9, .pointer (some ⟨b9, 0, none⟩)), (11, .int .i64 i), (12, .int .i64 s_)])
            (fun s_ => [.own (.slice (some ⟨b40, 0, none⟩) m.length m.length) 25 1 m.length (hdL vf m.length m.length), .blk b9 (.cells #[.slice (some ⟨b40, 0, none⟩) m.length m.length] 24 (0, 0)), .blk b3 (.cells (mV z m).toArray 24 (0, 0)), .reg lo7 wr7, .reg 0 w] ++ famR 3 1 m.length vf (fun a => (partX m (getN r7.2) i s_ a).flatMap iRow) m.length)
            (fun s_ => s_ ≤ m.length)
            (fun s_ => m.length - s_)
            (0) ?_ SU SR ?_
          · exact Nat.zero_le _
          rintro k hk
          refine sc_seq ?_
          refine sc_seq ?_
          refine sc_region ?_
          refine qs (y_move RF) ?_
          refine qs (y_move RF) ?_
          refine qs (y_lss RF RF) ?_
          refine sq_nil ?_
          refine sx_then ?_
          refine scp (fun hc3 => ?_) (fun hc3 => ?_)
          ·
            have hk' : k < m.length := by omega
            obtain ⟨_, _, hs3, hwk⟩ := hz.cell hi' (show k < (m.getD i []).length by omega)
            obtain ⟨hgk, hvk⟩ := ord_get hr7.2.1 hk'
            have hsk := (hr7.1.get 0 (show k < r7.2.length by omega)).1
            have hck := (hr7.1.get 0 (show k < r7.2.length by omega)).2
            rw [hgk] at hck
            refine sc_skip ?_
            refine sx_then ?_
            refine sc_seq ?_
            refine sc_block ?_
            refine sc_drawX (([.own (.slice (some ⟨b40, 0, none⟩) m.length m.length) 25 1 m.length (hdL vf m.length m.length), .blk b9 (.cells #[.slice (some ⟨b40, 0, none⟩) m.length m.length] 24 (0, 0)), .blk b3 (.cells (mV z m).toArray 24 (0, 0)), .reg lo7 wr7, .reg 0 w] ++ famR 3 1 m.length vf (fun a => (partX m (getN r7.2) i k a).flatMap iRow) m.length)) (by kernel_rfl) ?_
            refine xj_s 0 RF (by kernel_rfl) SR FA24_22 rfl ?_
            refine xj_s 1 RF (by kernel_rfl) SR LD22 rfl ?_
            refine xj_s 2 RF (by kernel_rfl) SR (y_move RF) rfl ?_
            refine xj_s 3 RF (by kernel_rfl) SR (y_move RF) rfl ?_
            refine xj_s 4 RF (by kernel_rfl) SR IA25 rfl ?_
            refine xj_s 5 RF (by kernel_rfl) SR (by first | exact y_load_ca0 Tryd.underlying3 rfl RF MM hci rfl | exact LD3) rfl ?_
            refine xj_s 6 RF (by kernel_rfl) SR (y_ia_own (v := .slice (some ⟨b40, 0, none⟩) m.length m.length) (i := (getN r7.2 i)) Tryd.underlying22 Tryd.sizeOf25 RF MM RF hvi) rfl ?_
            refine xj_s 7 RF (by kernel_rfl) SR (by first | exact y_load_own0 (v := .slice (some ⟨b40, 0, none⟩) m.length m.length) (u := vf (getN r7.2 i)) Tryd.underlying25 rfl RF MM hvi (by rw [hdL_get _ hvi, if_pos hvi]) | exact LD25) rfl ?_
            refine xj_s 8 RF (by kernel_rfl) SR (y_move RF) rfl ?_
            refine xj_s 9 RF (by kernel_rfl) SR (y_move RF) rfl ?_
            refine xj_s 10 RF (by kernel_rfl) SR IA25 rfl ?_
            refine xj_s 11 RF (by kernel_rfl) SR (by first | exact y_load_ca0 Tryd.underlying3 rfl RF MM hck rfl | exact LD3) rfl ?_
            refine xj_s 12 RF (by kernel_rfl) SR FA24_22 rfl ?_
            refine xj_s 13 RF (by kernel_rfl) SR LD22 rfl ?_
            refine xj_s 14 RF (by kernel_rfl) SR (y_move RF) rfl ?_
            refine xj_s 15 RF (by kernel_rfl) SR IA22 rfl ?_
            refine xj_s 16 RF (by kernel_rfl) SR (by first | exact y_load_ca0 Tryd.underlying25 rfl RF MM hr1 rfl | exact LD25) rfl ?_
            refine xj_s 17 RF (by kernel_rfl) SR (y_move RF) rfl ?_
            refine xj_s 18 RF (by kernel_rfl) SR IA25 rfl ?_
            refine xj_s 19 RF (by kernel_rfl) SR (by first | exact y_load_ca0 Tryd.underlying3 rfl RF MM hwk rfl | exact LD3) rfl ?_
            refine xj_s 20 RF (by kernel_rfl) SR (y_ia_own (v := vf (getN r7.2 i)) (i := (getN r7.2 k)) Tryd.underlying25 Tryd.sizeOf3 RF (by repeat (first | exact fam_mem hvi | refine .tail _ ?_)) RF hvk) rfl ?_
            refine xj_one 21 RF (by kernel_rfl) ?_
            refine sq_fam [.own (.slice (some ⟨b40, 0, none⟩) m.length m.length) 25 1 m.length (hdL vf m.length m.length), .blk b9 (.cells #[.slice (some ⟨b40, 0, none⟩) m.length m.length] 24 (0, 0)), .blk b3 (.cells (mV z m).toArray 24 (0, 0)), .reg lo7 wr7, .reg 0 w] hvi SR (fun F hF => ?_)
            refine sq_store_own (v := vf (getN r7.2 i)) (i := (getN r7.2 k)) (j := 0) (sz := 1) Tryd.sizeOf3 RF RF rfl RM hvk (by decide) ?_
            rw [iset, partX_set hp hi' hk']
            refine sq_nil ?_
            refine sx_xpl (by kernel_rfl) ?_
            refine xj_done (by kernel_rfl) ?_
            refine sx_blk ?_
            refine sx_then ?_
            refine sc_region ?_
            refine qs (y_move RF) ?_
            refine qs (y_add RF RF (by omega)) ?_
            refine qs (y_assign RF) ?_
            refine sq_nil ?_
            refine sx_fam (hF [.own (.slice (some ⟨b40, 0, none⟩) m.length m.length) 25 1 m.length (hdL vf m.length m.length), .blk b9 (.cells #[.slice (some ⟨b40, 0, none⟩) m.length m.length] 24 (0, 0)), .blk b3 (.cells (mV z m).toArray 24 (0, 0)), .reg lo7 wr7, .reg 0 w] (fun a => (partX m (getN r7.2) i (k + 1) a).flatMap iRow) fun a ha hne => by rw [partX_else hp ha hne]) ?_
            exact sx_round (k + 1) (by omega) (by omega) SU SR
          ·
            have hkn : k = m.length := by omega
            subst hkn
            rw [show (fun a => (partX m (getN r7.2) i m.length a).flatMap iRow) = fun a => (partX m (getN r7.2) (i + 1) 0 a).flatMap iRow from funext fun a => by rw [partX_next hp]]
            refine sc_exit ?_
            refine sx_then_exit ?_
            refine sx_round_exit ?_
            refine sx_blk_hit ?_
            refine sx_blk ?_
            refine sx_then ?_
            refine sc_region ?_
            refine qs (y_move RF) ?_
            refine qs (y_add RF RF (by omega)) ?_
            refine qs (y_assign RF) ?_
            refine sq_nil ?_
            refine sx_round (i + 1) ?_ ?_ SU SR
            · omega
            · omega
        ·
          have hin : i = m.length := by omega
          subst hin
          refine sc_exit ?_
          refine sx_then_exit ?_
          refine sx_round_exit ?_
          refine sx_blk_hit ?_
          refine sx_then ?_
          refine sc_seq ?_
          have hB := turn_bestA hb hp
          have hS := turn_shortA hb hp long
          refine sc_region ?_
          refine qs LD24 ?_
          refine sq_call_new (first := []) (caps := []) (Z := Option Addr × Nat) (fun q => .tuple #[.slice q.1 (bestA m).1.length q.2, .int .i64 (bestA m).2.1, .int .i64 (bestA m).2.2]) (fun lo w' q => RowsA iRow 1 lo w' q.1 (bestA m).1) RF Tryd.call23 (EvL.cons RF EvL.nil) (fun w1 hw1 => Best23 w1 z m (hz.at hw1 MM) (CA.at hT hw1 MM)) rfl (fun lo17 wr17 y17 hy17 => ?_)
          refine qs (y_move RF) ?_
          refine qs (y_extract RF RF) ?_
          refine qs (y_extract RF RF) ?_
          refine qs (y_extract RF RF) ?_
          refine qs (y_assign RF) ?_
          refine qs (y_assign RF) ?_
          refine qs (y_assign RF) ?_
          refine sq_nil ?_
          refine sx_then ?_
          refine sc_seq ?_
          refine sc_region ?_
          refine qs LD24 ?_
          refine sq_call_new (first := []) (caps := []) (Z := Option Addr × Nat) (fun q => .tuple #[.slice q.1 (bestA (turnM m (getN r7.2))).1.length q.2, .int .i64 (bestA (turnM m (getN r7.2))).2.1, .int .i64 (bestA (turnM m (getN r7.2))).2.2]) (fun lo w' q => RowsA iRow 1 lo w' q.1 (bestA (turnM m (getN r7.2))).1) RF Tryd.call23 (EvL.cons RF EvL.nil) (fun w1 hw1 => best23t w1 ⟨some ⟨b40, 0, none⟩, m.length, fun a => slA (vf a), fun a => slC (vf a)⟩ m (getN r7.2) (rows_at hw1 (e2 := 3) (n := m.length) (v := vf) (X := fun a => partX m (getN r7.2) m.length 0 a) (fun a _ => partX_len ..) MM (fun a ha => by repeat (first | exact fam_mem (v := vf) (xs := fun a => (partX m (getN r7.2) m.length 0 a).flatMap iRow) ha | refine .tail _ ?_)) (by omega)) (CA.at hT hw1 MM)) rfl (fun lo18 wr18 y18 hy18 => ?_)
          refine qs (y_move RF) ?_
          refine qs (y_extract RF RF) ?_
          refine qs (y_extract RF RF) ?_
          refine qs (y_extract RF RF) ?_
          refine qs (y_assign RF) ?_
          refine qs (y_assign RF) ?_
          refine qs (y_assign RF) ?_
          refine sq_nil ?_
          refine sx_then ?_
          refine sc_seq ?_
          refine sc_region ?_
          refine qs LD24 ?_
          refine qs (y_move RF) ?_
          refine sq_call_new (first := []) (caps := []) (Z := Option Addr × Nat) (fun q => .tuple #[.slice q.1 (shortA m long).1.length q.2, .int .i64 (shortA m long).2.1, .int .i64 (shortA m long).2.2]) (fun lo w' q => RowsA iRow 1 lo w' q.1 (shortA m long).1) RF Tryd.call28 (EvL.cons RF (EvL.cons RF EvL.nil)) (fun w1 hw1 => Short28 w1 z m (hz.at hw1 MM) (CA.at hT hw1 MM) long) rfl (fun lo19 wr19 y19 hy19 => ?_)
          refine qs (y_move RF) ?_
          refine qs (y_extract RF RF) ?_
          refine qs (y_extract RF RF) ?_
          refine qs (y_extract RF RF) ?_
          refine qs (y_assign RF) ?_
          refine qs (y_assign RF) ?_
          refine qs (y_assign RF) ?_
          refine sq_nil ?_
          refine sx_then ?_
          refine sc_seq ?_
          refine sc_region ?_
          refine qs LD24 ?_
          refine qs (y_move RF) ?_
          refine sq_call_new (first := []) (caps := []) (Z := Option Addr × Nat) (fun q => .tuple #[.slice q.1 (shortA (turnM m (getN r7.2)) long).1.length q.2, .int .i64 (shortA (turnM m (getN r7.2)) long).2.1, .int .i64 (shortA (turnM m (getN r7.2)) long).2.2]) (fun lo w' q => RowsA iRow 1 lo w' q.1 (shortA (turnM m (getN r7.2)) long).1) RF Tryd.call28 (EvL.cons RF (EvL.cons RF EvL.nil)) (fun w1 hw1 => short28t w1 ⟨some ⟨b40, 0, none⟩, m.length, fun a => slA (vf a), fun a => slC (vf a)⟩ m (getN r7.2) (rows_at hw1 (e2 := 3) (n := m.length) (v := vf) (X := fun a => partX m (getN r7.2) m.length 0 a) (fun a _ => partX_len ..) MM (fun a ha => by repeat (first | exact fam_mem (v := vf) (xs := fun a => (partX m (getN r7.2) m.length 0 a).flatMap iRow) ha | refine .tail _ ?_)) (by omega)) (CA.at hT hw1 MM) long) rfl (fun lo20 wr20 y20 hy20 => ?_)
          refine qs (y_move RF) ?_
          refine qs (y_extract RF RF) ?_
          refine qs (y_extract RF RF) ?_
          refine qs (y_extract RF RF) ?_
          refine qs (y_assign RF) ?_
          refine qs (y_assign RF) ?_
          refine qs (y_assign RF) ?_
          refine sq_nil ?_
          refine sx_then ?_
          refine sc_seq ?_
          refine sc_region ?_
          refine qs (y_move RF) ?_
          refine qs (y_move RF) ?_
          refine qs (y_eql RF RF) ?_
          refine qs (y_move RF) ?_
          refine sq_known (tt := 113) (b' := true) RF (decide_eq_true hB.1) ?_
          refine qg (y_move RF) ?_
          refine qg (y_move RF) ?_
          refine qg (y_eql RF RF) ?_
          refine qs (y_pick_t RF RF) ?_
          refine qs (y_move RF) ?_
          refine sq_known (tt := 118) (b' := true) RF (decide_eq_true hB.2) ?_
          refine qg (y_move RF) ?_
          refine qg (y_move RF) ?_
          refine qg (y_eql RF RF) ?_
          refine qs (y_pick_t RF RF) ?_
          refine qs (y_move RF) ?_
          refine sq_known (tt := 123) (b' := true) RF (decide_eq_true hS.1) ?_
          refine qg (y_move RF) ?_
          refine qg (y_move RF) ?_
          refine qg (y_eql RF RF) ?_
          refine qs (y_pick_t RF RF) ?_
          refine qs (y_move RF) ?_
          refine sq_known (tt := 128) (b' := true) RF (decide_eq_true hS.2) ?_
          refine sq_gt RF RF (y_call (first := []) (caps := []) RF Tryd.call15 EvL.nil (fun w1 hw1 => awake15 w1 (CA.at hT hw1 MM))) rfl ?_
          refine qs (y_pick_t RF RF) ?_
          refine qs (y_assign RF) ?_
          refine sq_nil ?_
          refine sx_then ?_
          refine sc_ret ?_
          refine sx_ret1 (.inl rfl) rfl Tryd.results11 RF ?_
          intro w' hw'
          exact ⟨rfl, hw'.below MM⟩
end Go.Proofs.YtpijahglojichaaDoor
