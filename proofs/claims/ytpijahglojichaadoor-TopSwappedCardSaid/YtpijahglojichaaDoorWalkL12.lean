/- The walk of the law TopSwapped. -/
import Derived.Test.YtpijahglojichaaDoorWalk19
import Derived.Test.YtpijahglojichaaDoorLawL
namespace Go.Proofs.YtpijahglojichaaDoor
open Go Go.Eng Go.RowKit Go.Proofs
set_option maxRecDepth 100000
def hRow (n : Nat) : List Value := [.int .u16 (n : Int)]
theorem hRow_len (n : Nat) : (hRow n).length = 1 := rfl
theorem sum_bit (a x k : Nat) : (a : Int) + ((((x : Int) / 2 ^ (k : Int).toNat).toNat &&& (1 : Int).toNat : Nat) : Int) = ((a + if x.testBit k = true then 1 else 0 : Nat) : Int) := by
  have h := bit_at x k
  have hle : ((x : Int) / 2 ^ (k : Int).toNat).toNat &&& (1 : Int).toNat ≤ 1 := Nat.and_le_right
  generalize ((x : Int) / 2 ^ (k : Int).toNat).toNat &&& (1 : Int).toNat = v at h hle ⊢
  cases hb : x.testBit k with
  | true =>
    rw [hb] at h
    have h2 : (v : Int) = 1 := of_decide_eq_true h
    rw [if_pos rfl]; omega
  | false =>
    rw [hb] at h
    have h2 : ¬ (v : Int) = 1 := of_decide_eq_false h
    rw [if_neg (by decide)]; omega
theorem lost_next (lost k : Nat) : lostC lost k + (if lost.testBit k = true then 1 else 0) = lostC lost (k + 1) := by
  show _ = if lost.testBit k = true then lostC lost k + 1 else lostC lost k
  split <;> rfl
theorem rep_adm (np : Nat) : List.replicate np (-1 : Int) = admL np np 0 := by
  apply List.ext_getElem?
  intro p
  rcases Nat.lt_or_ge p np with h | h
  · rw [get_of_lt (l := admL np np 0) 0 (by rw [admL_len]; exact h), admL_get h, if_neg (by omega), List.getElem?_replicate, if_pos h]
  · rw [List.getElem?_eq_none (by simpa using h), List.getElem?_eq_none (by rw [admL_len]; exact h)]
def looksV (many lost : Nat) : List Value := [.int .i64 20, .int .i64 ((andNotN (pw2 many - 1) lost : Nat) : Int), .int .i64 (lost : Int), .int .i64 10, .int .i64 ((pw2 many - 1 : Nat) : Int), .int .i64 0]
/-- the tale, in memory -/
theorem swap_at {w0 w : World} {rs : List Res} (hw : Hp w0 rs w) {np many lost : Nat} {hd : Int} {la aa : Option Addr} {lc ac b : Nat} {e1 e2 e3 : TypeId} {fz : Nat × Nat} (hnp : np ≤ 6) (h1 : Res.own (.slice la (loansH hd).length lc) e1 3 (loansH hd).length ((loansH hd).flatMap lnRow) ∈ rs) (h2 : Res.blk b (.cells (looksV many lost).toArray e2 fz) ∈ rs) (h3 : Res.own (.slice aa (admL np np 0).length ac) e3 1 (admL np np 0).length ((admL np np 0).flatMap iRow) ∈ rs) : TlAt 0 w ⟨la, lc, some ⟨b, 0, none⟩, 2, aa, ac⟩ (swapT np many lost hd) := by
  have hl1 : (loansH hd).length ≤ 1 := by unfold loansH; split <;> simp
  obtain ⟨a1, c1, hv1, _, r1⟩ := own_rowsA (row := lnRow) (l := loansH hd) lnRow_len (hw.ok _ h1) rfl (by omega)
  injection hv1 with e; subst e
  have hl3 : (admL np np 0).length = np := admL_len ..
  exact ⟨r1, lit_rowsA (row := sgRow) (l := [⟨20, andNotN (pw2 many - 1) lost, lost⟩, ⟨10, pw2 many - 1, 0⟩]) sgRow_len hw h2 rfl (by simp), own_at hw rfl h3 (by show (admL np np 0).length ≤ _; omega)⟩
theorem loans_one {hd : Int} (h : 0 ≤ hd) : [Value.int .i64 hd, .int .i64 10, .int .i64 20] = (loansH hd).flatMap lnRow ∧ 1 = (loansH hd).length ∧ (whoH hd : Int) = hd := by
  unfold loansH whoH
  rw [if_neg (by omega), if_neg (by omega)]
  refine ⟨?_, rfl, by omega⟩
  show _ = [Value.int .i64 ((hd.toNat : Nat) : Int), .int .i64 10, .int .i64 20]
  rw [show ((hd.toNat : Nat) : Int) = hd by omega]

theorem eql68 (a b c d : Int) : ∀ w, (binOp .eql 68 (.agg #[.int .i64 a, .int .i64 b]) (.agg #[.int .i64 c, .int .i64 d])).run Tryd.prog w = .ok (.bool (decide (a = c ∧ b = d))) w := fun w => by
  have h1 := Tryd.underlying68
  have h2 := Tryd.underlying3
  have h3 : Tryd.prog.stoodInHeld 68 = false := by kernel_rfl
  have hf : Tryd.prog.fieldsOf 68 = #[⟨"Lo", 3, 0, false, "", "", 0⟩, ⟨"Hi", 3, 1, false, "", "", 8⟩] := by kernel_rfl
  have h4 : Tryd.prog.underlying 68 = some (.struct (Tryd.prog.fieldsOf 68)) := by rw [hf]; exact h1
  rw [run_eql_struct, run_equalIn_struct w 9999 68 _ _ h4 h3, hf]
  by_cases e1 : a = c <;> by_cases e2 : b = d <;> simp [Op.eqFields, part, run_isAgg_scal h2 rfl, run_equalIn_int w _ 3 .i64 .i64 _ _ h2, e1, e2]
theorem neq68 (a b c d : Int) : ∀ w, (binOp .neq 68 (.agg #[.int .i64 a, .int .i64 b]) (.agg #[.int .i64 c, .int .i64 d])).run Tryd.prog w = .ok (.bool (!decide (a = c ∧ b = d))) w := fun w => by
  have h := eql68 a b c d w
  rw [run_eql_struct] at h
  rw [run_neq_struct]
  cases hr : (Op.equalIn 10000 68 (.agg #[.int .i64 a, .int .i64 b]) (.agg #[.int .i64 c, .int .i64 d])).run Tryd.prog w with
  | ok x w1 => rw [hr] at h; simp at h; obtain ⟨h5, h6⟩ := h; subst h6; simp [h5]
  | halt x w1 => rw [hr] at h; simp at h
theorem swapped13 (w : World) (z : MA) (m : Mt) (hz : MtA 0 w z m) (hT : TabAt w) (n1 : Nat) (hn1 : n1 ≤ 255) (ag : Option Addr) (cg : Nat) (gone : List Nat) (hg : RowsA hRow 1 0 w ag gone) (hgu : ∀ x, x ∈ gone → x ≤ 65535) : Calls Tryd.prog 13 #[.agg (mV z m).toArray, .int .u8 (n1 : Int), .slice ag gone.length cg] w fun e w' => e = .returned (.bool true) ∧ Below w.heap.size w w' := by
  have hgl := hg.len
  refine calls_of_SC (args := [.agg (mV z m).toArray, .int .u8 (n1 : Int), .slice ag gone.length cg]) Tryd.func13 rfl Tryd.ntmps13 rfl ?_
  simp only [argL, Nat.reduceAdd, Nat.zero_add]
  refine sc_seq ?_
  refine sc_region ?_
  refine sq_box RF rfl (fun b3 => ?_)
  refine qs (y_assign RF) ?_
  refine sq_nil ?_
  refine sx_then ?_
  refine sc_seq ?_
  refine sc_seq ?_
  have hlen := hz.len
  refine sc_region ?_
  refine qs FA24_22 ?_
  refine qs LD22 ?_
  refine qs (y_len Tryd.underlying22 RF) ?_
  refine qs (y_gtr RF RF) ?_
  refine qs (y_move RF) ?_
  refine sp 44 (fun hg1_4 => ?_) (fun hg1_4 => ?_)
  ·
    refine qf ?_
    refine qf ?_
    refine qf ?_
    refine qs (y_pick_t RF RF) ?_
    refine sq_nil ?_
    refine sx_then ?_
    refine sc_t RF ?_
    refine sc_seq ?_
    refine sc_region ?_
    refine qy (yc Tryd.call35 E0 (fun w1 hw1 => awake35 w1 (CA.at hT hw1 MM))) ?_
    refine qs (y_assign RF) ?_
    refine sq_nil ?_
    refine sx_then ?_
    refine sc_ret ?_
    refine sx_then_ret ?_
    refine sx_ret1 (.inl rfl) rfl Tryd.results13 RF ?_
    intro w' hw'
    exact ⟨rfl, hw'.below MM⟩
  ·
    refine qg (y_move RF) ?_
    refine qg (y_len Tryd.underlying55 RF) ?_
    refine qg (y_eql RF RF) ?_
    refine qs (y_pick_f RF RF) ?_
    refine sq_nil ?_
    refine sx_then ?_
    refine scp (fun hc0 => ?_) (fun hc0 => ?_)
    ·
      refine sc_seq ?_
      refine sc_region ?_
      refine qy (yc Tryd.call35 E0 (fun w1 hw1 => awake35 w1 (CA.at hT hw1 MM))) ?_
      refine qs (y_assign RF) ?_
      refine sq_nil ?_
      refine sx_then ?_
      refine sc_ret ?_
      refine sx_then_ret ?_
      refine sx_ret1 (.inl rfl) rfl Tryd.results13 RF ?_
      intro w' hw'
      exact ⟨rfl, hw'.below MM⟩
    ·
      refine sc_skip ?_
      refine sx_then ?_
      refine sc_seq ?_
      refine sc_region ?_
      refine qs LD24 ?_
      refine sq_call_new (first := []) (caps := []) (Z := Option Addr × Nat) (fun q => .tuple #[.slice q.1 (bestA m).1.length q.2, .int .i64 (bestA m).2.1, .int .i64 (bestA m).2.2]) (fun lo w' q => RowsA iRow 1 lo w' q.1 (bestA m).1) RF Tryd.call23 (EvL.cons RF EvL.nil) (fun w1 hw1 => Best23 w1 z m (hz.at hw1 MM) (CA.at hT hw1 MM)) rfl (fun lo3 wr3 y3 hy3 => ?_)
      refine qs (y_move RF) ?_
      refine qs (y_extract RF RF) ?_
      refine qs (y_extract RF RF) ?_
      refine qs (y_extract RF RF) ?_
      refine qs (y_assign RF) ?_
      refine qs (y_assign RF) ?_
      refine qs (y_assign RF) ?_
      refine sq_nil ?_
      refine sx_then ?_
      refine sc_seq ?_
      have hb1000 : (bestA m).1.length ≤ 1000 := by
        cases hb : mkB m with
        | false => rw [bestA_no hb]; exact Nat.zero_le _
        | true =>
          rw [bestA_ok hb]
          have h1 := ord_len (bestM_F (mkF hb)).ord
          have h2 := (mkF hb).n7
          show (bestM m).gets.length ≤ 1000
          omega
      refine sc_region ?_
      refine qs (y_move RF) ?_
      refine sq_call_new (first := []) (caps := []) (Z := (Option Addr × Nat) × (Nat → Option Addr) × (Nat → Nat)) (fun q => .tuple #[.slice q.1.1 (ringsR (bestA m).1).1.length q.1.2, .int .i64 (ringsR (bestA m).1).2]) (fun lo w' q => LsA lo w' q.1.1 q.2.1 q.2.2 (ringsR (bestA m).1).1) RF Tryd.call18 (EvL.cons RF EvL.nil) (fun w1 hw1 => Rings18 w1 y3.1 y3.2 (bestA m).1 (hy3.at hw1 MM) hb1000) rfl (fun lo4 wr4 q4 hq4 => ?_)
      refine qs (y_move RF) ?_
      refine qs (y_extract RF RF) ?_
      refine qs (y_extract RF RF) ?_
      refine qs (y_assign RF) ?_
      refine qs (y_assign RF) ?_
      refine sq_nil ?_
      refine sx_then ?_
      refine sc_seq ?_
      refine sc_seq ?_
      refine sc_region ?_
      refine qs (y_move RF) ?_
      refine qs (y_neq RF RF) ?_
      refine sq_nil ?_
      refine sx_then ?_
      refine scp (fun hc1 => ?_) (fun hc1 => ?_)
      ·
        refine sc_seq ?_
        have hE : (bestA m).1.length = 0 := by
          cases hb : mkB m with
          | false => rw [bestA_no hb]; rfl
          | true => rw [bestA_ok hb] at hc1; exact absurd rfl hc1
        refine sc_region ?_
        refine qs (y_move RF) ?_
        refine qs (y_len Tryd.underlying25 RF) ?_
        refine qs (y_eql RF RF) ?_
        refine qs (y_move RF) ?_
        refine sq_known (tt := 66) (b' := true) RF (decide_eq_true (by omega)) ?_
        refine sq_gt RF RF (y_call (first := []) (caps := []) RF Tryd.call35 EvL.nil (fun w1 hw1 => awake35 w1 (CA.at hT hw1 MM))) rfl ?_
        refine qs (y_pick_t RF RF) ?_
        refine qs (y_assign RF) ?_
        refine sq_nil ?_
        refine sx_then ?_
        refine sc_ret ?_
        refine sx_then_ret ?_
        refine sx_ret1 (.inl rfl) rfl Tryd.results13 RF ?_
        intro w' hw'
        exact ⟨rfl, hw'.below MM⟩
      ·
        refine sc_skip ?_
        refine sx_then ?_
        refine sc_seq ?_
        have hmk : mkB m = true := by
          cases hb : mkB m with
          | true => rfl
          | false => rw [bestA_no hb] at hc1; exact absurd hc1 (by decide)
        have hm := mkF hmk
        have B := bestM_F hm
        have hgl2 := ord_len B.ord
        have hn6 : m.length ≤ 6 := by omega
        have hgone : 0 < gone.length := by omega
        have hord : ordB (bestM m).gets (bestM m).gets.length = true := by rw [hgl2]; exact B.ord
        obtain ⟨R, hgr, hF⟩ : ∃ R, ringsR (bestM m).gets = (R, 0) ∧ RoundsF (bestM m).gets R := ⟨_, if_pos ⟨by omega, hord⟩, rounds_ok hord⟩
        have hb1 : (bestA m).1 = (bestM m).gets := by rw [bestA_ok hmk]
        rw [hb1] at hy3 hq4 ⊢
        rw [hgr] at hq4 ⊢
        replace hq4 : LsA lo4 wr4 q4.1.1 q4.2.1 q4.2.2 R := hq4
        have hRlen := hq4.len
        refine sc_region ?_
        refine qs FA24_22 ?_
        refine qs LD22 ?_
        refine qs (y_len Tryd.underlying22 RF) ?_
        refine qs (y_assign RF) ?_
        refine sq_nil ?_
        refine sx_then ?_
        refine sc_seq ?_
        refine sc_seq ?_
        refine sc_region ?_
        refine qs (y_move RF) ?_
        refine qs (y_neq RF RF) ?_
        refine qs (y_move RF) ?_
        refine sq_known (tt := 74) (b' := false) RF (rfl) ?_
        refine qg (y_move RF) ?_
        refine qg (y_len Tryd.underlying25 RF) ?_
        refine qg (y_move RF) ?_
        refine qg (y_neq RF RF) ?_
        refine qs (y_pick_f RF RF) ?_
        refine sq_nil ?_
        refine sx_then ?_
        refine sc_f (lk_bool rfl (by simp [hgl2])) ?_
        refine sc_skip ?_
        refine sx_then ?_
        refine sc_seq ?_
        refine sc_region ?_
        refine qs (y_move RF) ?_
        refine sq_make Tryd.underlying25 ei3 RF RF (by omega) (by omega) (by omega) rfl (fun b81 => ?_)
        rw [irep, show List.replicate m.length (0 : Int) = repT m.length 0 from by unfold repT; simp]
        refine sq_blk_own (n := m.length) (sz := 1) (xs := (repT m.length 0).flatMap iRow) RM (by rw [iflat_len, repT_len (Nat.zero_le _), Nat.mul_one]) (by unfold maxLen; omega) ?_
        refine qs (y_assign RF) ?_
        refine sq_nil ?_
        refine sx_then ?_
        refine sc_seq ?_
        refine sc_seq ?_
        refine sc_region ?_
        refine qs (y_move RF) ?_
        refine qs (y_len Tryd.underlying25 RF) ?_
        refine qs (y_move RF) ?_
        refine sq_nil ?_
        refine sx_then ?_
        refine sc_block ?_
        refine sc_loop (σ := Nat)
          (fun s_ => [(1, .int .u8 (n1 : Int)), (2, .slice ag gone.length cg), (12, .int .i64 m.length), (13, .slice (some ⟨b81, 0, none⟩) m.length m.length), (10, .slice q4.1.1 R.length q4.1.2), (83, .int .i64 m.length), (84, .int .i64 s_)])
          (fun s_ => [.own (.slice (some ⟨b81, 0, none⟩) m.length m.length) 3 1 m.length ((repT m.length s_).flatMap iRow), .reg lo4 wr4, .reg 0 w])
          (fun s_ => s_ ≤ m.length)
          (fun s_ => m.length - s_)
          (0) ?_ SU SR ?_
        · exact Nat.zero_le _
        rintro i hi
        refine sc_seq ?_
        refine sc_region ?_
        refine qs (y_lss RF RF) ?_
        refine sq_nil ?_
        refine sx_then ?_
        refine sc_seq ?_
        refine scp (fun hc3 => ?_) (fun hc3 => ?_)
        ·
          have hi' : i < m.length := by omega
          refine sc_skip ?_
          refine sx_then ?_
          refine sc_seq ?_
          refine sc_block ?_
          refine sc_seq ?_
          refine sc_region ?_
          refine qs (y_move RF) ?_
          refine qs (y_assign RF) ?_
          refine sq_nil ?_
          refine sx_then ?_
          refine sc_region ?_
          refine qs (y_move RF) ?_
          refine qs (y_move RF) ?_
          refine qs (y_ia_own (v := .slice (some ⟨b81, 0, none⟩) m.length m.length) (i := i) Tryd.underlying25 Tryd.sizeOf3 RF MM RF hi') ?_
          refine sq_store_own (v := .slice (some ⟨b81, 0, none⟩) m.length m.length) (i := i) (j := 0) (sz := 1) Tryd.sizeOf3 RF RF rfl RM hi' (by decide) ?_
          rw [iset, repT_set hi']
          refine sq_nil ?_
          refine sx_blk ?_
          refine sx_then ?_
          refine sc_region ?_
          refine qs (y_add RF RF (by omega)) ?_
          refine qs (y_move RF) ?_
          refine sq_nil ?_
          refine sx_round (i + 1) ?_ ?_ SU SR
          · omega
          · omega
        ·
          have hin : i = m.length := by omega
          subst hin
          refine sc_exit ?_
          refine sx_then_exit ?_
          refine sx_round_exit ?_
          refine sx_blk_hit ?_
          refine sx_then ?_
          refine sc_seq ?_
          refine sc_seq ?_
          rw [show repT m.length m.length = (hasL (bestM m).gets R 0 0) from by rw [hasL_zero, hgl2]]
          refine sc_region ?_
          refine qs (y_move RF) ?_
          refine qs (y_len Tryd.underlying22 RF) ?_
          refine qs (y_move RF) ?_
          refine sq_nil ?_
          refine sx_then ?_
          refine sc_block ?_
          refine sc_loop (σ := Nat)
            (fun s_ => [(1, .int .u8 (n1 : Int)), (2, .slice ag gone.length cg), (12, .int .i64 m.length), (13, .slice (some ⟨b81, 0, none⟩) m.length m.length), (91, .slice q4.1.1 R.length q4.1.2), (92, .int .i64 R.length), (93, .int .i64 s_)])
            (fun s_ => [.own (.slice (some ⟨b81, 0, none⟩) m.length m.length) 3 1 m.length ((hasL (bestM m).gets R s_ 0).flatMap iRow), .reg lo4 wr4, .reg 0 w])
            (fun s_ => s_ ≤ R.length)
            (fun s_ => R.length - s_)
            (0) ?_ SU SR ?_
          · exact Nat.zero_le _
          rintro j hj
          refine sc_seq ?_
          refine sc_region ?_
          refine qs (y_lss RF RF) ?_
          refine sq_nil ?_
          refine sx_then ?_
          refine sc_seq ?_
          refine scp (fun hc4 => ?_) (fun hc4 => ?_)
          ·
            have hj' : j < R.length := by omega
            have hls := hq4.get hj'
            have hrl := hF.len hj'
            have hrs := hls.1
            refine sc_skip ?_
            refine sx_then ?_
            refine sc_seq ?_
            refine sc_block ?_
            refine sc_seq ?_
            refine sc_region ?_
            refine qs IA22 ?_
            refine qs (by first | exact y_load_ca0 Tryd.underlying25 rfl RF MM hls.2.1 rfl | exact LD25) ?_
            refine qs (y_assign RF) ?_
            refine sq_nil ?_
            refine sx_then ?_
            refine sc_seq ?_
            refine sc_region ?_
            refine qs (y_move RF) ?_
            refine qs (y_len Tryd.underlying25 RF) ?_
            refine qs (y_move RF) ?_
            refine sq_nil ?_
            refine sx_then ?_
            refine sc_block ?_
            refine sc_loop (σ := Nat)
              (fun s_ => [(1, .int .u8 (n1 : Int)), (2, .slice ag gone.length cg), (12, .int .i64 m.length), (13, .slice (some ⟨b81, 0, none⟩) m.length m.length), (91, .slice q4.1.1 R.length q4.1.2), (92, .int .i64 R.length), (93, .int .i64 j), (16, .slice (q4.2.1 j) (R.getD j []).length (q4.2.2 j)), (97, .slice (q4.2.1 j) (R.getD j []).length (q4.2.2 j)), (98, .int .i64 (R.getD j []).length), (99, .int .i64 s_)])
              (fun s_ => [.own (.slice (some ⟨b81, 0, none⟩) m.length m.length) 3 1 m.length ((hasL (bestM m).gets R j s_).flatMap iRow), .reg lo4 wr4, .reg 0 w])
              (fun s_ => s_ ≤ (R.getD j []).length)
              (fun s_ => (R.getD j []).length - s_)
              (0) ?_ SU SR ?_
            · exact Nat.zero_le _
            rintro t ht
            refine sc_seq ?_
            refine sc_region ?_
            refine qs (y_lss RF RF) ?_
            refine sq_nil ?_
            refine sx_then ?_
            refine sc_seq ?_
            refine scp (fun hc5 => ?_) (fun hc5 => ?_)
            ·
              have ht' : t < (R.getD j []).length := by omega
              obtain ⟨k, hk⟩ := hF.ok hj' ht'
              have hkl := hk.lt
              have hst := (hls.2.2.get 0 ht').1
              have hct := (hls.2.2.get 0 ht').2
              rw [hk.at'] at hct
              have hmd : (t + 1) % (R.getD j []).length < (R.getD j []).length := Nat.mod_lt _ (by omega)
              have hsn := (hls.2.2.get 0 hmd).1
              have hcn := (hls.2.2.get 0 hmd).2
              obtain ⟨hgk, hgkl⟩ := ord_get B.ord (show k < m.length by omega)
              rw [← hk.next, hgk] at hcn
              refine sc_skip ?_
              refine sx_then ?_
              refine sc_seq ?_
              refine sc_block ?_
              refine sc_seq ?_
              refine sc_region ?_
              refine qs (y_move RF) ?_
              refine qs (y_ia_el (i := t) Tryd.underlying25 Tryd.sizeOf3 RF RF (by omega) hst) ?_
              refine qs (by first | exact y_load_ca0 Tryd.underlying3 rfl RF MM hct rfl | exact LD3) ?_
              refine qs (y_assign RF) ?_
              refine qs (y_assign RF) ?_
              refine sq_nil ?_
              refine sx_then ?_
              refine sc_seq ?_
              refine sc_region ?_
              refine qs (y_move RF) ?_
              refine qs (y_move RF) ?_
              refine qs (y_add RF RF (by omega)) ?_
              refine qs (y_move RF) ?_
              refine qs (y_len Tryd.underlying25 RF) ?_
              refine qs (y_rem RF RF (by omega) (by omega)) ?_
              rw [show (((t : Nat) : Int) + 1) % (((R.getD j []).length : Nat) : Int) = (((t + 1) % (R.getD j []).length : Nat) : Int) from (Int.natCast_emod (t + 1) (R.getD j []).length).symm]
              refine qs (y_ia_el (i := (t + 1) % (R.getD j []).length) Tryd.underlying25 Tryd.sizeOf3 RF RF (by omega) hsn) ?_
              refine qs (by first | exact y_load_ca0 Tryd.underlying3 rfl RF MM hcn rfl | exact LD3) ?_
              refine qs (y_assign RF) ?_
              refine sq_nil ?_
              refine sx_then ?_
              refine sc_seq ?_
              refine sc_seq ?_
              refine sc_region ?_
              refine qs (y_move RF) ?_
              refine qs (y_lss RF RF) ?_
              refine qs (y_move RF) ?_
              refine sq_known (tt := 114) (b' := false) RF (decide_eq_false (by omega)) ?_
              refine qg (y_move RF) ?_
              refine qg (y_move RF) ?_
              refine qg (y_geq RF RF) ?_
              refine qs (y_pick_f RF RF) ?_
              refine qs (y_move RF) ?_
              refine sq_known (tt := 119) (b' := false) RF (decide_eq_false (by omega)) ?_
              refine qg (y_move RF) ?_
              refine qg (y_lss RF RF) ?_
              refine qs (y_pick_f RF RF) ?_
              refine qs (y_move RF) ?_
              refine sq_known (tt := 123) (b' := false) RF (decide_eq_false (by omega)) ?_
              refine qg (y_move RF) ?_
              refine qg (y_move RF) ?_
              refine qg (y_geq RF RF) ?_
              refine qs (y_pick_f RF RF) ?_
              refine qs (y_move RF) ?_
              refine sq_known (tt := 128) (b' := false) RF (decide_eq_false (by omega)) ?_
              refine qg (y_move RF) ?_
              refine qg (y_move RF) ?_
              refine qg (y_ia_own (v := .slice (some ⟨b81, 0, none⟩) m.length m.length) (i := getN (bestM m).gets k) Tryd.underlying25 Tryd.sizeOf3 RF MM RF hgkl) ?_
              refine qg (by first | exact y_load_own0 (v := .slice (some ⟨b81, 0, none⟩) m.length m.length) (u := .int .i64 ((hasL (bestM m).gets R j t).getD (getN (bestM m).gets k) 0)) Tryd.underlying3 rfl RF MM hgkl (flat_iget (get_of_lt 0 (by rw [hasL_len]; omega))) | exact LD3) ?_
              refine qg (y_neq RF RF) ?_
              refine qs (y_pick_f RF RF) ?_
              refine sq_nil ?_
              refine sx_then ?_
              refine sc_f (lk_bool rfl (by rw [hasL_new hord (by omega) hk.new]; rfl)) ?_
              refine sc_skip ?_
              refine sx_then ?_
              refine sc_region ?_
              refine qs (y_move RF) ?_
              refine qs (y_move RF) ?_
              refine qs (y_move RF) ?_
              refine qs (y_ia_own (v := .slice (some ⟨b81, 0, none⟩) m.length m.length) (i := getN (bestM m).gets k) Tryd.underlying25 Tryd.sizeOf3 RF MM RF hgkl) ?_
              refine sq_store_own (v := .slice (some ⟨b81, 0, none⟩) m.length m.length) (i := getN (bestM m).gets k) (j := 0) (sz := 1) Tryd.sizeOf3 RF RF rfl RM hgkl (by decide) ?_
              rw [iset, hasL_set hord ht' hk.at' hkl]
              refine sq_nil ?_
              refine sx_blk ?_
              refine sx_then ?_
              refine sc_region ?_
              refine qs (y_add RF RF (by omega)) ?_
              refine qs (y_move RF) ?_
              refine sq_nil ?_
              refine sx_round (t + 1) ?_ ?_ SU SR
              · omega
              · omega
            ·
              have htn : t = (R.getD j []).length := by omega
              subst htn
              rw [show hasL (bestM m).gets R j (R.getD j []).length = hasL (bestM m).gets R (j + 1) 0 from by unfold hasL; simp only [seenV_ring R hj']]
              refine sc_exit ?_
              refine sx_then_exit ?_
              refine sx_round_exit ?_
              refine sx_blk_hit ?_
              refine sx_blk ?_
              refine sx_then ?_
              refine sc_region ?_
              refine qs (y_add RF RF (by omega)) ?_
              refine qs (y_move RF) ?_
              refine sq_nil ?_
              refine sx_round (j + 1) ?_ ?_ SU SR
              · omega
              · omega
          ·
            have hjn : j = R.length := by omega
            subst hjn
            refine sc_exit ?_
            refine sx_then_exit ?_
            refine sx_round_exit ?_
            refine sx_blk_hit ?_
            refine sx_then ?_
            refine sc_seq ?_
            refine sc_region ?_
            refine qs (y_move RF) ?_
            refine qs (y_conv Tryd.underlying5 Tryd.underlying3 RF (wrap64_in (by omega) (by omega))) ?_
            refine qs (y_rem RF RF (by omega) (by omega)) ?_
            refine qs (y_add RF RF (by omega)) ?_
            obtain ⟨many, hmn, hmany⟩ : ∃ many : Nat, (1 : Int) + (n1 : Int) % 16 = (many : Int) ∧ 1 ≤ many ∧ many ≤ 16 := ⟨1 + n1 % 16, by omega, by omega, by omega⟩
            rw [hmn]
            have hpw := pow16 hmany.2
            have hpw1 := pw2_pos many
            refine qs (y_assign RF) ?_
            refine sq_nil ?_
            refine sx_then ?_
            refine sc_seq ?_
            refine sc_region ?_
            refine qs (y_move RF) ?_
            refine qs (y_shl RF RF (by omega) (by rw [pw2_shl]; omega)) ?_
            rw [pw2_shl]
            refine qs (y_sub RF RF (by omega)) ?_
            rw [show ((pw2 many : Nat) : Int) - 1 = ((pw2 many - 1 : Nat) : Int) by omega]
            refine qs (y_assign RF) ?_
            refine sq_nil ?_
            refine sx_then ?_
            refine sc_seq ?_
            refine sc_seq ?_
            have hhb : ∀ p, p < m.length → -1 ≤ (hasL (bestM m).gets R R.length 0).getD p 0 ∧ (hasL (bestM m).gets R R.length 0).getD p 0 < (m.length : Int) := fun p hp => by
              rw [hasL_get _ _ _ _ (by omega)]
              have := (ord_pm hord).pinv_lt (x := p) (by omega)
              split <;> omega
            refine sc_region ?_
            refine qs (y_move RF) ?_
            refine qs (y_move RF) ?_
            refine sq_nil ?_
            refine sx_then ?_
            refine sc_block ?_
            refine sc_loop (σ := Nat)
              (fun s_ => [(2, .slice ag gone.length cg), (12, .int .i64 m.length), (13, .slice (some ⟨b81, 0, none⟩) m.length m.length), (20, .int .i64 (many : Int)), (21, .int .i64 ((pw2 many - 1 : Nat) : Int)), (148, .int .i64 m.length), (149, .int .i64 s_)])
              (fun s_ => [.own (.slice (some ⟨b81, 0, none⟩) m.length m.length) 3 1 m.length ((hasL (bestM m).gets R R.length 0).flatMap iRow), .reg 0 w])
              (fun s_ => s_ ≤ m.length)
              (fun s_ => m.length - s_)
              (0) ?_ SU SR ?_
            · exact Nat.zero_le _
            rintro p hp
            refine sc_seq ?_
            refine sc_region ?_
            refine qs (y_lss RF RF) ?_
            refine sq_nil ?_
            refine sx_then ?_
            refine sc_seq ?_
            refine scp (fun hc7 => ?_) (fun hc7 => ?_)
            ·
              have hp' : p < m.length := by omega
              obtain ⟨hd, hhd⟩ : ∃ hd : Int, hd = (hasL (bestM m).gets R R.length 0).getD p 0 := ⟨_, rfl⟩
              have hdb := hhb p hp'
              rw [← hhd] at hdb
              have hpg : p % gone.length < gone.length := Nat.mod_lt _ hgone
              have hsg := (hg.get 0 hpg).1
              have hcg := (hg.get 0 hpg).2
              have hgb := hgu _ (getD_mem (d := 0) hpg)
              refine sc_skip ?_
              refine sx_then ?_
              refine sc_seq ?_
              refine sc_block ?_
              refine sc_seq ?_
              refine sc_region ?_
              refine qs (y_move RF) ?_
              refine qs (y_assign RF) ?_
              refine sq_nil ?_
              refine sx_then ?_
              refine sc_seq ?_
              refine sc_region ?_
              refine qs (y_move RF) ?_
              refine qs (y_move RF) ?_
              refine qs (y_move RF) ?_
              refine qs (y_len Tryd.underlying55 RF) ?_
              refine qs (y_rem RF RF (by omega) (by omega)) ?_
              rw [show (p : Int) % (gone.length : Int) = ((p % gone.length : Nat) : Int) from (Int.natCast_emod _ _).symm]
              refine qs (y_ia_el (i := p % gone.length) Tryd.underlying55 Tryd.sizeOf48 RF RF (by omega) hsg) ?_
              refine qs (by first | exact y_load_ca0 Tryd.underlying48 rfl RF MM hcg rfl | exact LD48) ?_
              refine qs (y_conv Tryd.underlying48 Tryd.underlying3 RF (wrap64_in (by omega) (by omega))) ?_
              refine qs (y_move RF) ?_
              refine qs (y_and RF RF (by omega) (by omega)) ?_
              rw [Int.toNat_natCast, Int.toNat_natCast]
              obtain ⟨lost, hlost⟩ : ∃ l : Nat, l = gone.getD (p % gone.length) 0 &&& (pw2 many - 1) := ⟨_, rfl⟩
              rw [← hlost]
              have hll : lost < pw2 many := by
                have : lost ≤ pw2 many - 1 := by rw [hlost]; exact Nat.and_le_right
                omega
              refine qs (y_assign RF) ?_
              refine sq_nil ?_
              refine sx_then ?_
              refine sc_seq ?_
              refine sc_region ?_
              refine qs (y_move RF) ?_
              refine qs (y_move RF) ?_
              refine qs (y_move RF) ?_
              refine qs (y_andNot RF RF (by omega) (by omega)) ?_
              rw [Int.toNat_natCast, Int.toNat_natCast]
              refine qs (y_move RF) ?_
              refine qs (y_build (cells := #[.int .i64 20, .int .i64 ((andNotN (pw2 many - 1) lost : Nat) : Int), .int .i64 (lost : Int)]) bt57 (EvP.cons RF (EvP.cons RF (EvP.cons RF EvP.nil))) (by kernel_rfl)) ?_
              refine qs (y_move RF) ?_
              refine qs (y_build (cells := #[.int .i64 10, .int .i64 ((pw2 many - 1 : Nat) : Int), .int .i64 0]) bt57 (EvP.cons RF (EvP.cons RF EvP.nil)) (by kernel_rfl)) ?_
              refine sq_bs Tryd.underlying58 ei57 (EvI.cons RF (EvI.cons RF EvI.nil)) (by first | (simp [Value.cells]; done) | (simp [Value.cells]; rfl) | (simp [Value.cells]; and_intros <;> rfl)) rfl rfl rfl (fun b170 => ?_)
              refine qs (y_build (cells := #[.int .i64 (many : Int), .slice none 0 0, .slice (some ⟨b170, 0, none⟩) 2 2, .slice none 0 0]) bt61 (EvP.cons RF (EvP.cons RF EvP.nil)) (by kernel_rfl)) ?_
              refine sq_alloc Tryd.zeroValue61 rfl (fun b24 => ?_)
              refine sq_store_all Tryd.sizeOf61 RF RF rfl RM rfl rfl ?_
              refine sq_nil ?_
              refine sx_then ?_
              refine sc_seq ?_
              refine sc_seq ?_
              refine sc_nil_own 3 1 ?_
              refine sc_region ?_
              refine qs (y_move RF) ?_
              refine qs (y_move RF) ?_
              refine sq_nil ?_
              refine sx_then ?_
              refine sc_block ?_
              refine sc_loop (σ := Nat × Value)
                (fun s_ => [(2, .slice ag gone.length cg), (12, .int .i64 m.length), (13, .slice (some ⟨b81, 0, none⟩) m.length m.length), (20, .int .i64 (many : Int)), (21, .int .i64 ((pw2 many - 1 : Nat) : Int)), (148, .int .i64 m.length), (149, .int .i64 p), (22, .int .i64 p), (23, .int .i64 (lost : Int)), (24, .pointer (some ⟨b24, 0, none⟩)), (172, .int .i64 m.length), (173, .int .i64 s_.1)])
                (fun s_ => [.blk b24 (.cells #[.int .i64 (many : Int), .slice none 0 0, .slice (some ⟨b170, 0, none⟩) 2 2, s_.2] 61 (0, 0)), .own s_.2 3 1 (List.replicate s_.1 (-1 : Int)).length ((List.replicate s_.1 (-1 : Int)).flatMap iRow), .blk b170 (.cells (looksV many lost).toArray 57 (0, 0)), .own (.slice (some ⟨b81, 0, none⟩) m.length m.length) 3 1 m.length ((hasL (bestM m).gets R R.length 0).flatMap iRow), .reg 0 w])
                (fun s_ => s_.1 ≤ m.length ∧ s_.2.oneCell' = true)
                (fun s_ => m.length - s_.1)
                ((0, .slice none 0 0)) ?_ SU SR ?_
              · exact ⟨Nat.zero_le _, rfl⟩
              rintro ⟨s, av⟩ ⟨hs, hav1⟩
              dsimp only at hs hav1 ⊢
              refine sc_seq ?_
              refine sc_region ?_
              refine qs (y_lss RF RF) ?_
              refine sq_nil ?_
              refine sx_then ?_
              refine sc_seq ?_
              refine scp (fun hc8 => ?_) (fun hc8 => ?_)
              ·
                refine sc_skip ?_
                refine sx_then ?_
                refine sc_seq ?_
                refine sc_block ?_
                refine sc_region ?_
                refine qs FA61_25 ?_
                refine qs LD25 ?_
                refine sq_bs Tryd.underlying25 ei3 (EvI.cons RF EvI.nil) (by first | (simp [Value.cells]; done) | (simp [Value.cells]; rfl) | (simp [Value.cells]; and_intros <;> rfl)) rfl rfl rfl (fun b177 => ?_)
                refine sq_append (news := [Value.int .i64 (-1)]) Tryd.underlying25 ei3 rfl (by decide) RF RM RF rfl (fun _ hw => news_blk hw MM) (by simp [Value.oneCell']) (by rw [List.length_replicate]; omega) rfl (fun v178 ho178 => ?_)
                rw [show (List.replicate s (-1 : Int)).flatMap iRow ++ [Value.int .i64 (-1)] = (List.replicate (s + 1) (-1 : Int)).flatMap iRow from by rw [List.replicate_succ', List.flatMap_append]; rfl, show (List.replicate s (-1 : Int)).length + 1 = (List.replicate (s + 1) (-1 : Int)).length from by simp]
                refine qs FA61_25 ?_
                refine sq_store Tryd.sizeOf25 RF RF (by first | rfl | assumption) RM (by first | exact Nat.le_of_ble_eq_true rfl | simp | omega) ?_
                refine sq_nil ?_
                refine sx_blk ?_
                refine sx_then ?_
                refine sc_region ?_
                refine qs (y_add RF RF (by omega)) ?_
                refine qs (y_move RF) ?_
                refine sq_nil ?_
                refine sx_round ((s + 1, v178)) ?_ ?_ SU SR
                · exact ⟨by dsimp only; omega, ho178⟩
                · dsimp only; omega
              ·
                have hsn : s = m.length := by omega
                subst hsn
                refine sc_exit ?_
                refine sx_then_exit ?_
                refine sx_round_exit ?_
                refine sx_blk_hit ?_
                refine sx_then ?_
                refine sc_seq ?_
                rw [rep_adm]
                refine sc_region ?_
                refine qs (y_assign RF) ?_
                refine sq_nil ?_
                refine sx_then ?_
                refine sc_seq ?_
                refine sc_seq ?_
                refine sc_region ?_
                refine qs (y_move RF) ?_
                refine qs (y_move RF) ?_
                refine qs (y_ia_own (v := .slice (some ⟨b81, 0, none⟩) m.length m.length) (i := p) Tryd.underlying25 Tryd.sizeOf3 RF MM RF hp') ?_
                refine qs (by first | exact y_load_own0 (v := .slice (some ⟨b81, 0, none⟩) m.length m.length) (u := .int .i64 hd) Tryd.underlying3 rfl RF MM hp' (by rw [hhd]; exact flat_iget (get_of_lt 0 (by rw [hasL_len]; omega))) | exact LD3) ?_
                refine qs (y_neq RF RF) ?_
                refine sq_nil ?_
                refine sx_then ?_
                refine sc_midE (Z := {lv : Value // lv.oneCell' = true}) (fun lv => [(2, .slice ag gone.length cg), (12, .int .i64 m.length), (13, .slice (some ⟨b81, 0, none⟩) m.length m.length), (20, .int .i64 (many : Int)), (21, .int .i64 ((pw2 many - 1 : Nat) : Int)), (148, .int .i64 m.length), (149, .int .i64 p), (22, .int .i64 p), (23, .int .i64 (lost : Int)), (24, .pointer (some ⟨b24, 0, none⟩)), (25, .int .i64 (whoH hd : Int))]) (fun lv => [.blk b24 (.cells #[.int .i64 (many : Int), lv.1, .slice (some ⟨b170, 0, none⟩) 2 2, av] 61 (0, 0)), .own lv.1 63 3 (loansH hd).length ((loansH hd).flatMap lnRow), .own av 3 1 (admL m.length m.length 0).length ((admL m.length m.length 0).flatMap iRow), .blk b170 (.cells (looksV many lost).toArray 57 (0, 0)), .own (.slice (some ⟨b81, 0, none⟩) m.length m.length) 3 1 m.length ((hasL (bestM m).gets R R.length 0).flatMap iRow), .reg 0 w]) ?_ ?_
                ·
                  refine scp (fun hc9 => ?_) (fun hc9 => ?_)
                  ·
                    have hone := loans_one (hd := hd) (by omega)
                    refine sc_seq ?_
                    refine sc_region ?_
                    refine qs (y_move RF) ?_
                    refine qs (y_move RF) ?_
                    refine qs (y_ia_own (v := .slice (some ⟨b81, 0, none⟩) m.length m.length) (i := p) Tryd.underlying25 Tryd.sizeOf3 RF MM RF hp') ?_
                    refine qs (by first | exact y_load_own0 (v := .slice (some ⟨b81, 0, none⟩) m.length m.length) (u := .int .i64 hd) Tryd.underlying3 rfl RF MM hp' (by rw [hhd]; exact flat_iget (get_of_lt 0 (by rw [hasL_len]; omega))) | exact LD3) ?_
                    refine qs (y_assign RF) ?_
                    refine sq_nil ?_
                    refine sx_then ?_
                    refine sc_region ?_
                    refine qs (y_move RF) ?_
                    refine qs (y_build (cells := #[.int .i64 hd, .int .i64 10, .int .i64 20]) bt63 (EvP.cons RF (EvP.cons RF (EvP.cons RF EvP.nil))) (by kernel_rfl)) ?_
                    refine sq_bs Tryd.underlying59 ei63 (EvI.cons RF EvI.nil) (by first | (simp [Value.cells]; done) | (simp [Value.cells]; rfl) | (simp [Value.cells]; and_intros <;> rfl)) rfl rfl rfl (fun b192 => ?_)
                    refine sq_blk_own (n := 1) (sz := 3) (xs := [Value.int .i64 hd, .int .i64 10, .int .i64 20]) RM rfl (by decide) ?_
                    rw [show Res.own (.slice (some ⟨b192, 0, none⟩) 1 1) 63 3 1 [Value.int .i64 hd, .int .i64 10, .int .i64 20] = Res.own (.slice (some ⟨b192, 0, none⟩) 1 1) 63 3 (loansH hd).length ((loansH hd).flatMap lnRow) from by rw [← hone.1, ← hone.2.1]]
                    refine qs FA61_59 ?_
                    refine sq_store Tryd.sizeOf59 RF RF (by first | rfl | assumption) RM (by first | exact Nat.le_of_ble_eq_true rfl | simp | omega) ?_
                    refine sq_nil ?_
                    exact sx_midE (⟨.slice (some ⟨b192, 0, none⟩) 1 1, rfl⟩) SU SR
                  ·
                    have hdm : hd = -1 := by omega
                    refine sc_nil_own 63 3 ?_
                    rw [show Res.own (.slice none 0 0) 63 3 0 [] = .own (.slice none 0 0) 63 3 (loansH hd).length ((loansH hd).flatMap lnRow) from by rw [hdm]; rfl]
                    have hwho : whoH hd = 6 := if_pos hdm
                    refine sc_skip ?_
                    exact sx_midE (⟨.slice none 0 0, rfl⟩) SU SR
                rintro ⟨lv, hlv1⟩
                try dsimp only
                refine sx_then ?_
                refine sc_seq ?_
                refine sc_own_dest (v := lv) (e := 63) (sz := 3) (m := (loansH hd).length) (xs := (loansH hd).flatMap lnRow) MM (fun la lc hlv hlc1 hlc2 => ?_)
                subst hlv
                refine sc_own_dest (v := av) (e := 3) (sz := 1) (m := (admL m.length m.length 0).length) (xs := (admL m.length m.length 0).flatMap iRow) MM (fun aa ac hav hac1 hac2 => ?_)
                subst hav
                have F : TaF (swapT m.length many lost hd) m.length := swap_F hmany.1 hmany.2 (by omega) hn6 hll hdb
                have hwl := who_le hdb hn6
                refine sc_region ?_
                refine qs LD61 ?_
                refine qy (yc Tryd.call36 E2 (fun w1 hw1 => Holder36 w1 ⟨la, lc, some ⟨b170, 0, none⟩, 2, aa, ac⟩ (swapT m.length many lost hd) (swap_at hw1 hn6 MM MM MM) F.ok 15 (by decide) swap_in)) ?_
                refine qs (y_move RF) ?_
                refine qs (y_extract RF RF) ?_
                refine qs (y_extract RF RF) ?_
                refine qs (y_assign RF) ?_
                refine qs (y_assign RF) ?_
                refine sq_nil ?_
                refine sx_then ?_
                refine sc_seq ?_
                refine sc_region ?_
                refine qs LD61 ?_
                refine qy (yc Tryd.call37 E1 (fun w1 hw1 => Clash37 w1 ⟨la, lc, some ⟨b170, 0, none⟩, 2, aa, ac⟩ (swapT m.length many lost hd) (swap_at hw1 hn6 MM MM MM) m.length F (Nat.le_refl _) swap_pre)) ?_
                refine qs (y_move RF) ?_
                refine qs (y_extract RF RF) ?_
                refine qs (y_extract RF RF) ?_
                refine qs (y_assign RF) ?_
                refine qs (y_assign RF) ?_
                refine sq_nil ?_
                refine sx_then ?_
                refine sc_seq ?_
                refine sc_seq ?_
                rw [swap_hold hdb.1]
                refine sc_region ?_
                refine qs (y_move RF) ?_
                refine qs (y_move RF) ?_
                refine qs (y_move RF) ?_
                refine qs (y_ia_own (v := .slice (some ⟨b81, 0, none⟩) m.length m.length) (i := p) Tryd.underlying25 Tryd.sizeOf3 RF MM RF hp') ?_
                refine qs (by first | exact y_load_own0 (v := .slice (some ⟨b81, 0, none⟩) m.length m.length) (u := .int .i64 hd) Tryd.underlying3 rfl RF MM hp' (by rw [hhd]; exact flat_iget (get_of_lt 0 (by rw [hasL_len]; omega))) | exact LD3) ?_
                refine qs (y_neq RF RF) ?_
                refine qs (y_move RF) ?_
                refine sq_known (tt := 210) (b' := false) RF (by simp) ?_
                refine qg (y_move RF) ?_
                refine qg (y_neq RF RF) ?_
                refine qs (y_pick_f RF RF) ?_
                refine qs (y_move RF) ?_
                refine sq_known (tt := 214) (b' := false) RF (rfl) ?_
                refine qg (y_move RF) ?_
                refine qg (y_neq RF RF) ?_
                refine qs (y_pick_f RF RF) ?_
                refine sq_nil ?_
                refine sx_then ?_
                refine sc_f (lk_bool rfl (rfl)) ?_
                refine sc_skip ?_
                refine sx_then ?_
                refine sc_seq ?_
                refine sc_seq ?_
                refine sc_region ?_
                refine qs (y_move RF) ?_
                refine qs (y_move RF) ?_
                refine sq_nil ?_
                refine sx_then ?_
                refine sc_block ?_
                refine sc_loop (σ := Nat)
                  (fun s_ => [(2, .slice ag gone.length cg), (12, .int .i64 m.length), (13, .slice (some ⟨b81, 0, none⟩) m.length m.length), (20, .int .i64 (many : Int)), (21, .int .i64 ((pw2 many - 1 : Nat) : Int)), (148, .int .i64 m.length), (149, .int .i64 p), (22, .int .i64 p), (23, .int .i64 (lost : Int)), (24, .pointer (some ⟨b24, 0, none⟩)), (25, .int .i64 (whoH hd : Int)), (26, .int .i64 hd), (218, .int .i64 (many : Int)), (219, .int .i64 s_)])
                  (fun s_ => [.blk b24 (.cells #[.int .i64 (many : Int), (.slice la (loansH hd).length lc), .slice (some ⟨b170, 0, none⟩) 2 2, (.slice aa (admL m.length m.length 0).length ac)] 61 (0, 0)), .own (.slice la (loansH hd).length lc) 63 3 (loansH hd).length ((loansH hd).flatMap lnRow), .own (.slice aa (admL m.length m.length 0).length ac) 3 1 (admL m.length m.length 0).length ((admL m.length m.length 0).flatMap iRow), .blk b170 (.cells (looksV many lost).toArray 57 (0, 0)), .own (.slice (some ⟨b81, 0, none⟩) m.length m.length) 3 1 m.length ((hasL (bestM m).gets R R.length 0).flatMap iRow), .reg 0 w])
                  (fun s_ => s_ ≤ many)
                  (fun s_ => many - s_)
                  (0) ?_ SU SR ?_
                · exact Nat.zero_le _
                rintro k hk
                refine sc_seq ?_
                refine sc_region ?_
                refine qs (y_lss RF RF) ?_
                refine sq_nil ?_
                refine sx_then ?_
                refine sc_seq ?_
                refine scp (fun hc11 => ?_) (fun hc11 => ?_)
                ·
                  have hk' : k < many := by omega
                  refine sc_skip ?_
                  refine sx_then ?_
                  refine sc_seq ?_
                  refine sc_block ?_
                  refine sc_seq ?_
                  refine sc_region ?_
                  refine qs (y_move RF) ?_
                  refine qs (y_assign RF) ?_
                  refine sq_nil ?_
                  refine sx_then ?_
                  refine sc_seq ?_
                  refine sc_region ?_
                  refine qs (y_assign RF) ?_
                  refine sq_nil ?_
                  refine sx_then ?_
                  refine sc_seq ?_
                  refine sc_seq ?_
                  refine sc_region ?_
                  refine qs (y_move RF) ?_
                  refine qs (y_move RF) ?_
                  refine qs (y_shr RF RF (by first | omega | (simp [IntKind.bits]; omega))) ?_
                  refine qs (y_and RF RF (by have : (0:Int) ≤ (lost : Int) / 2 ^ ((k : Int)).toNat := Int.ediv_nonneg (by omega) (Int.le_of_lt (Int.pow_pos (by decide))); have h2 : (lost : Int) / 2 ^ ((k : Int)).toNat ≤ (lost : Int) := Int.ediv_le_self _ (by omega); omega) (by decide)) ?_
                  refine qs (y_eql RF RF) ?_
                  obtain ⟨bt, hbt⟩ : ∃ b : Bool, b = lost.testBit k := ⟨_, rfl⟩
                  rw [bit_at, ← hbt]
                  refine sq_nil ?_
                  refine sx_then ?_
                  refine sc_midE (Z := {v : Nat // v = if lost.testBit k = true then pw2 (whoH hd) else 192}) (fun v => [(2, .slice ag gone.length cg), (12, .int .i64 m.length), (13, .slice (some ⟨b81, 0, none⟩) m.length m.length), (20, .int .i64 (many : Int)), (21, .int .i64 ((pw2 many - 1 : Nat) : Int)), (148, .int .i64 m.length), (149, .int .i64 p), (22, .int .i64 p), (23, .int .i64 (lost : Int)), (24, .pointer (some ⟨b24, 0, none⟩)), (25, .int .i64 (whoH hd : Int)), (26, .int .i64 hd), (30, .int .i64 k), (31, .int .i64 (v.1 : Int)), (218, .int .i64 (many : Int)), (219, .int .i64 k)]) (fun v => [.blk b24 (.cells #[.int .i64 (many : Int), (.slice la (loansH hd).length lc), .slice (some ⟨b170, 0, none⟩) 2 2, (.slice aa (admL m.length m.length 0).length ac)] 61 (0, 0)), .own (.slice la (loansH hd).length lc) 63 3 (loansH hd).length ((loansH hd).flatMap lnRow), .own (.slice aa (admL m.length m.length 0).length ac) 3 1 (admL m.length m.length 0).length ((admL m.length m.length 0).flatMap iRow), .blk b170 (.cells (looksV many lost).toArray 57 (0, 0)), .own (.slice (some ⟨b81, 0, none⟩) m.length m.length) 3 1 m.length ((hasL (bestM m).gets R R.length 0).flatMap iRow), .reg 0 w]) ?_ ?_
                  ·
                    refine scp (fun hc12 => ?_) (fun hc12 => ?_)
                    ·
                      refine sc_region ?_
                      refine qs (y_move RF) ?_
                      refine qs (y_shl RF RF (by omega) (by rw [pw2_shl]; have := pow_lt8 (show whoH hd ≤ 7 by omega); omega)) ?_
                      rw [pw2_shl]
                      refine qs (y_assign RF) ?_
                      refine sq_nil ?_
                      exact sx_midE (⟨pw2 (whoH hd), (if_pos (by rw [← hbt]; exact hc12)).symm⟩) SU SR
                    ·
                      refine sc_skip ?_
                      exact sx_midE (⟨192, (if_neg (by rw [← hbt, hc12]; decide)).symm⟩) SU SR
                  rintro ⟨v, hv⟩
                  try dsimp only
                  refine sx_then ?_
                  refine sc_seq ?_
                  refine sc_region ?_
                  refine qs LD61 ?_
                  refine qs (y_move RF) ?_
                  refine qy (yc Tryd.call38 E2 (fun w1 hw1 => Who38 w1 ⟨la, lc, some ⟨b170, 0, none⟩, 2, aa, ac⟩ (swapT m.length many lost hd) (swap_at hw1 hn6 MM MM MM) m.length F (CA.at hT hw1 MM) k hk')) ?_
                  refine qs (y_move RF) ?_
                  refine qs (y_extract RF RF) ?_
                  rw [swap_can hk']
                  refine qs (y_extract RF RF) ?_
                  refine qs (y_assign RF) ?_
                  refine qs (y_assign RF) ?_
                  refine sq_nil ?_
                  refine sx_then ?_
                  refine sc_seq ?_
                  refine sc_region ?_
                  refine qs (y_move RF) ?_
                  refine qs (y_move RF) ?_
                  refine qs (y_neq RF RF) ?_
                  refine qs (y_move RF) ?_
                  refine sq_known (tt := 238) (b' := false) RF (by rw [hv]; simp) ?_
                  refine qg (y_move RF) ?_
                  refine qg (y_neq RF RF) ?_
                  refine qs (y_pick_f RF RF) ?_
                  refine sq_nil ?_
                  refine sx_then ?_
                  refine sc_f (lk_bool rfl (rfl)) ?_
                  refine sc_skip ?_
                  refine sx_blk ?_
                  refine sx_then ?_
                  refine sc_region ?_
                  refine qs (y_add RF RF (by omega)) ?_
                  refine qs (y_move RF) ?_
                  refine sq_nil ?_
                  refine sx_round (k + 1) ?_ ?_ SU SR
                  · omega
                  · omega
                ·
                  refine sc_exit ?_
                  refine sx_then_exit ?_
                  refine sx_round_exit ?_
                  refine sx_blk_hit ?_
                  refine sx_then ?_
                  refine sc_seq ?_
                  refine sc_region ?_
                  refine qs (y_assign RF) ?_
                  refine sq_nil ?_
                  refine sx_then ?_
                  refine sc_seq ?_
                  refine sc_seq ?_
                  skip
                  refine sc_region ?_
                  refine qs (y_move RF) ?_
                  refine qs (y_move RF) ?_
                  refine sq_nil ?_
                  refine sx_then ?_
                  refine sc_block ?_
                  refine sc_loop (σ := Nat)
                    (fun s_ => [(2, .slice ag gone.length cg), (12, .int .i64 m.length), (13, .slice (some ⟨b81, 0, none⟩) m.length m.length), (20, .int .i64 (many : Int)), (21, .int .i64 ((pw2 many - 1 : Nat) : Int)), (148, .int .i64 m.length), (149, .int .i64 p), (22, .int .i64 p), (23, .int .i64 (lost : Int)), (24, .pointer (some ⟨b24, 0, none⟩)), (25, .int .i64 (whoH hd : Int)), (26, .int .i64 hd), (34, .int .i64 (lostC lost s_ : Int)), (243, .int .i64 (many : Int)), (244, .int .i64 s_)])
                    (fun s_ => [.blk b24 (.cells #[.int .i64 (many : Int), (.slice la (loansH hd).length lc), .slice (some ⟨b170, 0, none⟩) 2 2, (.slice aa (admL m.length m.length 0).length ac)] 61 (0, 0)), .own (.slice la (loansH hd).length lc) 63 3 (loansH hd).length ((loansH hd).flatMap lnRow), .own (.slice aa (admL m.length m.length 0).length ac) 3 1 (admL m.length m.length 0).length ((admL m.length m.length 0).flatMap iRow), .blk b170 (.cells (looksV many lost).toArray 57 (0, 0)), .own (.slice (some ⟨b81, 0, none⟩) m.length m.length) 3 1 m.length ((hasL (bestM m).gets R R.length 0).flatMap iRow), .reg 0 w])
                    (fun s_ => s_ ≤ many)
                    (fun s_ => many - s_)
                    (0) ?_ SU SR ?_
                  · exact Nat.zero_le _
                  rintro s hs
                  refine sc_seq ?_
                  refine sc_region ?_
                  refine qs (y_lss RF RF) ?_
                  refine sq_nil ?_
                  refine sx_then ?_
                  refine sc_seq ?_
                  refine scp (fun hc14 => ?_) (fun hc14 => ?_)
                  ·
                    have hs' : s < many := by omega
                    have hlc := lostC_le lost s
                    refine sc_skip ?_
                    refine sx_then ?_
                    refine sc_seq ?_
                    refine sc_block ?_
                    refine sc_seq ?_
                    refine sc_region ?_
                    refine qs (y_move RF) ?_
                    refine qs (y_assign RF) ?_
                    refine sq_nil ?_
                    refine sx_then ?_
                    refine sc_region ?_
                    refine qs (y_move RF) ?_
                    refine qs (y_move RF) ?_
                    refine qs (y_move RF) ?_
                    refine qs (y_shr RF RF (by first | omega | (simp [IntKind.bits]; omega))) ?_
                    refine qs (y_and RF RF (by have : (0:Int) ≤ (lost : Int) / 2 ^ ((s : Int)).toNat := Int.ediv_nonneg (by omega) (Int.le_of_lt (Int.pow_pos (by decide))); have h2 : (lost : Int) / 2 ^ ((s : Int)).toNat ≤ (lost : Int) := Int.ediv_le_self _ (by omega); omega) (by decide)) ?_
                    refine qs (y_add RF RF (by rw [sum_bit]; have := lostC_le lost s; split <;> omega)) ?_
                    rw [sum_bit, lost_next]
                    refine qs (y_assign RF) ?_
                    refine sq_nil ?_
                    refine sx_blk ?_
                    refine sx_then ?_
                    refine sc_region ?_
                    refine qs (y_add RF RF (by omega)) ?_
                    refine qs (y_move RF) ?_
                    refine sq_nil ?_
                    refine sx_round (s + 1) ?_ ?_ SU SR
                    · omega
                    · omega
                  ·
                    have hsn : many = s := by omega
                    rw [show lostC lost s = lostC lost many from by rw [hsn]]
                    refine sc_exit ?_
                    refine sx_then_exit ?_
                    refine sx_round_exit ?_
                    refine sx_blk_hit ?_
                    refine sx_then ?_
                    refine sc_seq ?_
                    refine sc_seq ?_
                    refine sc_region ?_
                    refine qs (y_move RF) ?_
                    refine qs (y_eql RF RF) ?_
                    refine sq_nil ?_
                    refine sx_then ?_
                    refine sc_midE (Z := {v : Nat // v = if whoH hd = 6 then 0 else lostC lost many}) (fun v => [(2, .slice ag gone.length cg), (12, .int .i64 m.length), (13, .slice (some ⟨b81, 0, none⟩) m.length m.length), (20, .int .i64 (many : Int)), (21, .int .i64 ((pw2 many - 1 : Nat) : Int)), (148, .int .i64 m.length), (149, .int .i64 p), (22, .int .i64 p), (23, .int .i64 (lost : Int)), (24, .pointer (some ⟨b24, 0, none⟩)), (25, .int .i64 (whoH hd : Int)), (26, .int .i64 hd), (34, .int .i64 (v.1 : Int))]) (fun v => [.blk b24 (.cells #[.int .i64 (many : Int), (.slice la (loansH hd).length lc), .slice (some ⟨b170, 0, none⟩) 2 2, (.slice aa (admL m.length m.length 0).length ac)] 61 (0, 0)), .own (.slice la (loansH hd).length lc) 63 3 (loansH hd).length ((loansH hd).flatMap lnRow), .own (.slice aa (admL m.length m.length 0).length ac) 3 1 (admL m.length m.length 0).length ((admL m.length m.length 0).flatMap iRow), .blk b170 (.cells (looksV many lost).toArray 57 (0, 0)), .own (.slice (some ⟨b81, 0, none⟩) m.length m.length) 3 1 m.length ((hasL (bestM m).gets R R.length 0).flatMap iRow), .reg 0 w]) ?_ ?_
                    ·
                      refine scp (fun hc15 => ?_) (fun hc15 => ?_)
                      ·
                        refine sc_region ?_
                        refine qs (y_assign RF) ?_
                        refine sq_nil ?_
                        exact sx_midE (⟨0, (if_pos (by omega)).symm⟩) SU SR
                      ·
                        refine sc_skip ?_
                        exact sx_midE (⟨lostC lost many, (if_neg (by omega)).symm⟩) SU SR
                    rintro ⟨v, hv⟩
                    try dsimp only
                    refine sx_then ?_
                    refine sc_seq ?_
                    refine sc_region ?_
                    refine qs (y_move RF) ?_
                    refine qs (y_move RF) ?_
                    refine sq_nil ?_
                    refine sx_then ?_
                    refine sc_block ?_
                    refine sc_loop (σ := Nat)
                      (fun s_ => [(2, .slice ag gone.length cg), (12, .int .i64 m.length), (13, .slice (some ⟨b81, 0, none⟩) m.length m.length), (20, .int .i64 (many : Int)), (21, .int .i64 ((pw2 many - 1 : Nat) : Int)), (148, .int .i64 m.length), (149, .int .i64 p), (22, .int .i64 p), (23, .int .i64 (lost : Int)), (24, .pointer (some ⟨b24, 0, none⟩)), (25, .int .i64 (whoH hd : Int)), (26, .int .i64 hd), (34, .int .i64 (v : Int)), (256, .int .i64 m.length), (257, .int .i64 s_)])
                      (fun s_ => [.blk b24 (.cells #[.int .i64 (many : Int), (.slice la (loansH hd).length lc), .slice (some ⟨b170, 0, none⟩) 2 2, (.slice aa (admL m.length m.length 0).length ac)] 61 (0, 0)), .own (.slice la (loansH hd).length lc) 63 3 (loansH hd).length ((loansH hd).flatMap lnRow), .own (.slice aa (admL m.length m.length 0).length ac) 3 1 (admL m.length m.length 0).length ((admL m.length m.length 0).flatMap iRow), .blk b170 (.cells (looksV many lost).toArray 57 (0, 0)), .own (.slice (some ⟨b81, 0, none⟩) m.length m.length) 3 1 m.length ((hasL (bestM m).gets R R.length 0).flatMap iRow), .reg 0 w])
                      (fun s_ => s_ ≤ m.length)
                      (fun s_ => m.length - s_)
                      (0) ?_ SU SR ?_
                    · exact Nat.zero_le _
                    rintro q hq
                    refine sc_seq ?_
                    refine sc_region ?_
                    refine qs (y_lss RF RF) ?_
                    refine sq_nil ?_
                    refine sx_then ?_
                    refine sc_seq ?_
                    refine scp (fun hc16 => ?_) (fun hc16 => ?_)
                    ·
                      have hq' : q < m.length := by omega
                      have hle : lostS many lost hd q ≤ many := by
                        unfold lostS
                        split
                        · exact lostC_le lost many
                        · exact Nat.zero_le _
                      refine sc_skip ?_
                      refine sx_then ?_
                      refine sc_seq ?_
                      refine sc_block ?_
                      refine sc_seq ?_
                      refine sc_region ?_
                      refine qs (y_move RF) ?_
                      refine qs (y_assign RF) ?_
                      refine sq_nil ?_
                      refine sx_then ?_
                      refine sc_seq ?_
                      refine sc_region ?_
                      refine qs (y_build (cells := #[.int .i64 0, .int .i64 0]) bt68 EvP.nil (by kernel_rfl)) ?_
                      refine sq_alloc Tryd.zeroValue68 rfl (fun b37 => ?_)
                      refine sq_store_all Tryd.sizeOf68 RF RF rfl RM rfl rfl ?_
                      refine sq_nil ?_
                      refine sx_then ?_
                      refine sc_seq ?_
                      refine sc_seq ?_
                      refine sc_region ?_
                      refine qs (y_move RF) ?_
                      refine qs (y_move RF) ?_
                      refine qs (y_move RF) ?_
                      refine qs (y_ia_own (v := .slice (some ⟨b81, 0, none⟩) m.length m.length) (i := p) Tryd.underlying25 Tryd.sizeOf3 RF MM RF hp') ?_
                      refine qs (by first | exact y_load_own0 (v := .slice (some ⟨b81, 0, none⟩) m.length m.length) (u := .int .i64 hd) Tryd.underlying3 rfl RF MM hp' (by rw [hhd]; exact flat_iget (get_of_lt 0 (by rw [hasL_len]; omega))) | exact LD3) ?_
                      refine qs (y_eql RF RF) ?_
                      refine sq_nil ?_
                      refine sx_then ?_
                      refine sc_midE (Z := {u : Nat // u = lostS many lost hd q}) (fun u => [(2, .slice ag gone.length cg), (12, .int .i64 m.length), (13, .slice (some ⟨b81, 0, none⟩) m.length m.length), (20, .int .i64 (many : Int)), (21, .int .i64 ((pw2 many - 1 : Nat) : Int)), (148, .int .i64 m.length), (149, .int .i64 p), (22, .int .i64 p), (23, .int .i64 (lost : Int)), (24, .pointer (some ⟨b24, 0, none⟩)), (25, .int .i64 (whoH hd : Int)), (26, .int .i64 hd), (34, .int .i64 (v : Int)), (36, .int .i64 q), (37, .pointer (some ⟨b37, 0, none⟩)), (256, .int .i64 m.length), (257, .int .i64 q)]) (fun u => [.blk b37 (.cells #[.int .i64 (u.1 : Int), .int .i64 (u.1 : Int)] 68 (0, 0)), .blk b24 (.cells #[.int .i64 (many : Int), (.slice la (loansH hd).length lc), .slice (some ⟨b170, 0, none⟩) 2 2, (.slice aa (admL m.length m.length 0).length ac)] 61 (0, 0)), .own (.slice la (loansH hd).length lc) 63 3 (loansH hd).length ((loansH hd).flatMap lnRow), .own (.slice aa (admL m.length m.length 0).length ac) 3 1 (admL m.length m.length 0).length ((admL m.length m.length 0).flatMap iRow), .blk b170 (.cells (looksV many lost).toArray 57 (0, 0)), .own (.slice (some ⟨b81, 0, none⟩) m.length m.length) 3 1 m.length ((hasL (bestM m).gets R R.length 0).flatMap iRow), .reg 0 w]) ?_ ?_
                      ·
                        refine scp (fun hc17 => ?_) (fun hc17 => ?_)
                        ·
                          refine sc_region ?_
                          refine qs (y_move RF) ?_
                          refine qs (y_move RF) ?_
                          refine qs (y_build bt68 (EvP.cons RF (EvP.cons RF EvP.nil)) RF) ?_
                          refine sq_store_all Tryd.sizeOf68 RF RF rfl RM rfl rfl ?_
                          refine sq_nil ?_
                          exact sx_midE (⟨v, (by have h9 : hd = (q : Int) := (by omega); unfold lostS; rw [if_pos h9, hv, if_neg (by unfold whoH; rw [if_neg (by omega)]; omega)])⟩) SU SR
                        ·
                          refine sc_skip ?_
                          exact sx_midE (⟨0, (if_neg (by omega)).symm⟩) SU SR
                      rintro ⟨u, hu⟩
                      try dsimp only
                      refine sx_then ?_
                      refine sc_seq ?_
                      refine sc_region ?_
                      refine qs LD61 ?_
                      refine qs (y_move RF) ?_
                      refine qy (yc Tryd.call39 E2 (fun w1 hw1 => Lost39 w1 ⟨la, lc, some ⟨b170, 0, none⟩, 2, aa, ac⟩ (swapT m.length many lost hd) (swap_at hw1 hn6 MM MM MM) m.length F q hq' (lostS many lost hd q) hle (fun n hn => swap_fits hmany.2 hn6 hdb hq' (by have h9 : n ≤ many := hn; omega)))) ?_
                      refine qs (y_move RF) ?_
                      refine qs (y_extract RF RF) ?_
                      refine qs (y_extract RF RF) ?_
                      refine sq_alloc Tryd.zeroValue68 rfl (fun b38 => ?_)
                      refine sq_store_all Tryd.sizeOf68 RF RF rfl RM rfl rfl ?_
                      refine qs (y_assign RF) ?_
                      refine sq_nil ?_
                      refine sx_then ?_
                      refine sc_seq ?_
                      refine sc_region ?_
                      refine qs LD68 ?_
                      refine qs LD68 ?_
                      refine qs (y_neqs (by kernel_rfl) RF RF (neq68 _ _ _ _)) ?_
                      refine qs (y_move RF) ?_
                      refine sq_known (tt := 279) (b' := false) RF (by rw [hu]; simp) ?_
                      refine qg (y_move RF) ?_
                      refine qg (y_neq RF RF) ?_
                      refine qs (y_pick_f RF RF) ?_
                      refine sq_nil ?_
                      refine sx_then ?_
                      refine sc_f (lk_bool rfl (rfl)) ?_
                      refine sc_skip ?_
                      refine sx_blk ?_
                      refine sx_then ?_
                      refine sc_region ?_
                      refine qs (y_add RF RF (by omega)) ?_
                      refine qs (y_move RF) ?_
                      refine sq_nil ?_
                      refine sx_round (q + 1) ?_ ?_ SU SR
                      · omega
                      · omega
                    ·
                      refine sc_exit ?_
                      refine sx_then_exit ?_
                      refine sx_round_exit ?_
                      refine sx_blk_hit ?_
                      refine sx_blk ?_
                      refine sx_then ?_
                      refine sc_region ?_
                      refine qs (y_add RF RF (by omega)) ?_
                      refine qs (y_move RF) ?_
                      refine sq_nil ?_
                      refine sx_round (p + 1) ?_ ?_ SU SR
                      · omega
                      · omega
            ·
              refine sc_exit ?_
              refine sx_then_exit ?_
              refine sx_round_exit ?_
              refine sx_blk_hit ?_
              refine sx_then ?_
              refine sc_seq ?_
              refine sc_region ?_
              refine qy (yc Tryd.call35 E0 (fun w1 hw1 => awake35 w1 (CA.at hT hw1 MM))) ?_
              refine qs (y_assign RF) ?_
              refine sq_nil ?_
              refine sx_then ?_
              refine sc_ret ?_
              refine sx_ret1 (.inl rfl) rfl Tryd.results13 RF ?_
              intro w' hw'
              exact ⟨rfl, hw'.below MM⟩
end Go.Proofs.YtpijahglojichaaDoor
