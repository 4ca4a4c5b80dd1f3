/- The walk of what a set lacks. -/
import Derived.Test.YtpodaihifdlkkaaDoorWalk10
namespace Go.Proofs.YtpodaihifdlkkaaDoor
open Go Go.Eng Go.RowKit Go.Proofs
set_option maxRecDepth 100000
def lackSp (s : So) (x : Int) (k : Nat) : Sp := ⟨lackF s (·.hi) (takesV s x) k, lackF s (·.lo) (takesV s x) k⟩
def lacksG (s : So) (x : Int) (k : Nat) : List Sp := (List.range k).map (lackSp s x)
def lacksV (s : So) (x : Int) : List Sp := if openE s x true = 0 then lacksG s x s.sh.length else []
theorem lacksG_len (s : So) (x : Int) (k : Nat) : (lacksG s x k).length = k := by simp [lacksG]
theorem lacksG_succ (s : So) (x : Int) (k : Nat) : (lacksG s x k).flatMap spRow ++ spRow (lackSp s x k) = (lacksG s x (k + 1)).flatMap spRow := by
  unfold lacksG
  rw [List.range_succ, List.map_append, List.flatMap_append]
  simp
theorem openE_in {s : So} {x : Int} {acc : Bool} (h : openE s x acc = 0) : inS s x = true := by
  cases hin : inS s x with
  | true => rfl
  | false => exact absurd h (by rw [show openE s x acc = 2 from by unfold openE; rw [hin]; rfl]; decide)
theorem takesV_bd {s : So} (hv : StF s) (x : Int) : ∀ y, y ∈ takesV s x → 0 ≤ y ∧ y ≤ 180000 := by
  intro y hy
  unfold takesV at hy
  cases hin : inS s x with
  | false => rw [hin] at hy; exact absurd hy (by simp)
  | true =>
    rw [hin] at hy
    obtain ⟨n, rfl, hn5, hnm⟩ := inS_nat hv hin
    exact tksL_bd hv hnm (memL_len n) y hy
theorem takes19x (w : World) (z : SA) (s : So) (hz : SoA 0 w z s) (hv : StF s) (hT : TabAt w) (x : Int) (hin : inS s x = true) : Calls Tryd.prog 19 #[.agg (stV z s).toArray, .int .i64 x] w fun e w' => ∃ y : Option Addr × Nat, e = .returned (.slice y.1 (takesV s x).length y.2) ∧ Below w.heap.size w w' ∧ RowsA iRow 1 w.heap.size w' y.1 (takesV s x) := by
  obtain ⟨n, rfl, hn5, hnm⟩ := inS_nat hv hin
  have htv : takesV s (n : Int) = tksL s (memL n) := by unfold takesV; rw [hin]; rfl
  rw [htv]
  exact takes19 w z s hz hv hT n hn5 hnm
theorem takesV_len {s : So} {x : Int} (hin : inS s x = true) : (takesV s x).length = s.sh.length := by
  unfold takesV; rw [hin]; exact tksL_len s _

theorem Lacks11 (w : World) (z : SA) (s : So) (hz : SoA 0 w z s) (hb : stB s = true) (hT : TabAt w) (x : Int) : Calls Tryd.prog 11 #[.agg (stV z s).toArray, .int .i64 x] w fun e w' => ∃ y : Option Addr × Nat, e = .returned (.tuple #[.slice y.1 (lacksV s x).length y.2, .int .i64 (openE s x true)]) ∧ Below w.heap.size w w' ∧ RowsA spRow 2 w.heap.size w' y.1 (lacksV s x) := by
  have hv := stF hb
  have hs4 := hv.sh1
  refine calls_of_SC (args := [.agg (stV z s).toArray, .int .i64 x]) Tryd.func11 rfl Tryd.ntmps11 rfl ?_
  simp only [argL, Nat.zero_add]
  refine sc_seq ?_
  refine sc_region ?_
  refine sq_box RF rfl (fun b2 => ?_)
  refine qs (y_assign RF) ?_
  refine qs (y_assign RF) ?_
  refine sq_nil ?_
  refine sx_then ?_
  refine sc_seq ?_
  refine sc_region ?_
  refine qs LD27 ?_
  refine qs (y_move RF) ?_
  refine qy (yc Tryd.call18 E3 (fun w1 hw1 => open18 w1 z s (hz.at hw1 MM) hb (CA.at hT hw1 MM) x true)) ?_
  refine qs (y_move RF) ?_
  refine qs (y_extract RF RF) ?_
  refine qs (y_extract RF RF) ?_
  refine qs (y_extract RF RF) ?_
  refine sq_alloc Tryd.zeroValue60 rfl (fun b6 => ?_)
  refine sq_store_all Tryd.sizeOf60 RF RF (bkV_one z s x) RM (by first | exact bkV_len z s x | rfl) (by first | exact bkV_len z s x | rfl) ?_
  refine qs (y_assign RF) ?_
  refine qs (y_assign RF) ?_
  refine sq_nil ?_
  refine sx_then ?_
  refine sc_seq ?_
  refine sc_seq ?_
  refine sc_region ?_
  refine qs (y_move RF) ?_
  refine qs (y_neq RF RF) ?_
  refine sq_nil ?_
  refine sx_then ?_
  refine scp (fun hc0 => ?_) (fun hc0 => ?_)
  ·
    have hne : openE s x true ≠ 0 := by simpa using hc0
    have hlv : lacksV s x = [] := if_neg hne
    rw [hlv]
    refine sc_seq ?_
    refine sc_region ?_
    refine qs (y_move RF) ?_
    refine qs (y_assign RF) ?_
    refine qs (y_assign RF) ?_
    refine sq_nil ?_
    refine sx_then ?_
    refine sc_ret ?_
    refine sx_then_ret ?_
    refine sx_ret2 (.inl rfl) rfl Tryd.results11 RF RF ?_
    intro w' hw'
    exact ⟨(none, 0), rfl, hw'.below MM, RowsA.nil _ _⟩
  ·
    have he0 : openE s x true = 0 := by simpa using hc0
    have hin := openE_in he0
    have hbk : bkV z s x = stV z s := if_pos hin
    rw [hbk]
    have htl := takesV_len hin
    have htb : ∀ q, q ∈ takesV s x → 0 ≤ q ∧ q ≤ 1000000 := fun q hq => by have := takesV_bd hv x q hq; omega
    have hlv : lacksV s x = lacksG s x s.sh.length := if_pos he0
    rw [hlv]
    have hl1 := lackL_len s (·.hi) (takesV s x)
    have hl2 := lackL_len s (·.lo) (takesV s x)
    refine sc_skip ?_
    refine sx_then ?_
    refine sc_seq ?_
    refine sc_drawR (by kernel_rfl) ?_
    refine xj_s 0 RF (by kernel_rfl) SR LD60 rfl ?_
    refine xj_s 1 RF (by kernel_rfl) SR LD60 rfl ?_
    refine xj_s 2 RF (by kernel_rfl) SR (y_move RF) rfl ?_
    refine xj_s 6 RF (by kernel_rfl) SR LD60 rfl ?_
    refine xj_s 7 RF (by kernel_rfl) SR LD60 rfl ?_
    refine xj_s 8 RF (by kernel_rfl) SR (y_move RF) rfl ?_
    refine xj_one 3 RF (by kernel_rfl) ?_
    refine sq_call_new (first := []) (caps := []) (Z := Option Addr × Nat) (fun y => .slice y.1 (takesV s x).length y.2) (fun lo w' y => RowsA iRow 1 lo w' y.1 (takesV s x)) RF Tryd.call19 (EvL.cons RF (EvL.cons RF EvL.nil)) (fun w1 hw1 => takes19x w1 z s (hz.at hw1 MM) hv (CA.at hT hw1 MM) x hin) rfl (fun lo24 wr24 y24 hy24 => ?_)
    refine sq_nil ?_
    refine sx_xp SR ?_
    refine xj_one 4 RF (by kernel_rfl) ?_
    refine qy (yc Tryd.call26 E0 (fun w1 _ => kind26 w1)) ?_
    refine sq_nil ?_
    refine sx_xp SR ?_
    refine xj_one 5 RF (by kernel_rfl) ?_
    refine sq_call_new (first := []) (caps := []) (Z := Option Addr × Nat) (fun y => .slice y.1 (lackL s (·.hi) (takesV s x)).length y.2) (fun lo w' y => RowsA iRow 1 lo w' y.1 (lackL s (·.hi) (takesV s x))) RF Tryd.call25 (EvL.cons RF (EvL.cons RF (EvL.cons RF EvL.nil))) (fun w1 hw1 => lacking25 kindHi w1 z s (hz.at hw1 MM) hv _ _ _ (hy24.at hw1 MM) htl htb) rfl (fun lo26 wr26 y26 hy26 => ?_)
    refine sq_nil ?_
    refine sx_xp SR ?_
    refine xj_one 9 RF (by kernel_rfl) ?_
    refine sq_call_new (first := []) (caps := []) (Z := Option Addr × Nat) (fun y => .slice y.1 (takesV s x).length y.2) (fun lo w' y => RowsA iRow 1 lo w' y.1 (takesV s x)) RF Tryd.call19 (EvL.cons RF (EvL.cons RF EvL.nil)) (fun w1 hw1 => takes19x w1 z s (hz.at hw1 MM) hv (CA.at hT hw1 MM) x hin) rfl (fun lo30 wr30 y30 hy30 => ?_)
    refine sq_nil ?_
    refine sx_xp SR ?_
    refine xj_one 10 RF (by kernel_rfl) ?_
    refine qy (yc Tryd.call27 E0 (fun w1 _ => kind27 w1)) ?_
    refine sq_nil ?_
    refine sx_xp SR ?_
    refine xj_one 11 RF (by kernel_rfl) ?_
    refine sq_call_new (first := []) (caps := []) (Z := Option Addr × Nat) (fun y => .slice y.1 (lackL s (·.lo) (takesV s x)).length y.2) (fun lo w' y => RowsA iRow 1 lo w' y.1 (lackL s (·.lo) (takesV s x))) RF Tryd.call25 (EvL.cons RF (EvL.cons RF (EvL.cons RF EvL.nil))) (fun w1 hw1 => lacking25 kindLo w1 z s (hz.at hw1 MM) hv _ _ _ (hy30.at hw1 MM) htl htb) rfl (fun lo32 wr32 y32 hy32 => ?_)
    refine sq_nil ?_
    refine sx_xp SR ?_
    refine xj_s 12 RF (by kernel_rfl) SR (y_assign RF) rfl ?_
    refine xj_s 13 RF (by kernel_rfl) SR (y_assign RF) rfl ?_
    refine xj_done (by kernel_rfl) ?_
    refine sx_then ?_
    refine sc_seq ?_
    refine sc_seq ?_
    refine sc_nil_own 29 2 ?_
    refine sc_region ?_
    refine qs (y_move RF) ?_
    refine qs (y_len Tryd.underlying63 RF) ?_
    refine qs (y_move RF) ?_
    refine sq_nil ?_
    refine sx_then ?_
    refine sc_block ?_
    refine sc_loop (σ := Nat × Value)
      (fun s_ => [(5, .int .i64 (openE s x true)), (4, s_.2), (8, .slice y26.1 (lackL s (·.hi) (takesV s x)).length y26.2), (9, .slice y32.1 (lackL s (·.lo) (takesV s x)).length y32.2), (33, .slice y26.1 (lackL s (·.hi) (takesV s x)).length y26.2), (34, .int .i64 (lackL s (·.hi) (takesV s x)).length), (35, .int .i64 s_.1)])
      (fun s_ => [.own s_.2 29 2 s_.1 ((lacksG s x s_.1).flatMap spRow), .reg lo26 wr26, .reg lo32 wr32, .reg 0 w])
      (fun s_ => s_.1 ≤ s.sh.length ∧ s_.2.oneCell' = true)
      (fun s_ => s.sh.length - s_.1)
      ((0, .slice none 0 0)) ?_ SU SR ?_
    · exact ⟨Nat.zero_le _, rfl⟩
    rintro ⟨k, v⟩ ⟨hk, hv1⟩
    dsimp only at hk hv1 ⊢
    refine sc_seq ?_
    refine sc_region ?_
    refine qs (y_lss RF RF) ?_
    refine sq_nil ?_
    refine sx_then ?_
    refine sc_seq ?_
    refine scp (fun hc1 => ?_) (fun hc1 => ?_)
    ·
      have hk' : k < s.sh.length := by omega
      have ha1 := (hy26.get 0 (show k < (lackL s (·.hi) (takesV s x)).length by omega)).1
      have ha2 := (hy26.get 0 (show k < (lackL s (·.hi) (takesV s x)).length by omega)).2
      have ha3 := (hy32.get 0 (show k < (lackL s (·.lo) (takesV s x)).length by omega)).1
      have ha4 := (hy32.get 0 (show k < (lackL s (·.lo) (takesV s x)).length by omega)).2
      rw [lackL_get s (·.hi) (show k < (takesV s x).length by omega)] at ha2
      rw [lackL_get s (·.lo) (show k < (takesV s x).length by omega)] at ha4
      refine sc_skip ?_
      refine sx_then ?_
      refine sc_seq ?_
      refine sc_block ?_
      refine sc_seq ?_
      refine sc_region ?_
      refine qs (y_move RF) ?_
      refine qs (y_assign RF) ?_
      refine sq_nil ?_
      refine sx_then ?_
      refine sc_drawX ([.reg lo26 wr26, .reg lo32 wr32, .reg 0 w]) (by kernel_rfl) ?_
      refine xj_s 0 RF (by kernel_rfl) SR (y_move RF) rfl ?_
      refine xj_s 1 RF (by kernel_rfl) SR (y_move RF) rfl ?_
      refine xj_s 2 RF (by kernel_rfl) SR (y_move RF) rfl ?_
      refine xj_s 3 RF (by kernel_rfl) SR IA63 rfl ?_
      refine xj_s 4 RF (by kernel_rfl) SR (by first | exact y_load_ca0 Tryd.underlying3 rfl RF MM ha2 rfl | exact LD3) rfl ?_
      refine xj_s 5 RF (by kernel_rfl) SR (y_move RF) rfl ?_
      refine xj_s 6 RF (by kernel_rfl) SR (y_move RF) rfl ?_
      refine xj_s 7 RF (by kernel_rfl) SR IA63 rfl ?_
      refine xj_s 8 RF (by kernel_rfl) SR (by first | exact y_load_ca0 Tryd.underlying3 rfl RF MM ha4 rfl | exact LD3) rfl ?_
      refine xj_s 9 RF (by kernel_rfl) SR (y_build bt29 (EvP.cons RF (EvP.cons RF EvP.nil)) RF) rfl ?_
      refine xj_one 10 RF (by kernel_rfl) ?_
      refine sq_bs Tryd.underlying44 ei29 (EvI.cons RF EvI.nil) (by first | (simp [Value.cells]; done) | (simp [Value.cells]; rfl) | (simp [Value.cells]; and_intros <;> rfl)) rfl rfl rfl (fun b48 => ?_)
      refine sq_nil ?_
      refine sx_xp SR ?_
      refine xj_one 11 RF (by kernel_rfl) ?_
      refine sq_append (news := spRow (lackSp s x k)) Tryd.underlying44 ei29 rfl (by decide) RF RM RF rfl (fun _ hw => news_blk hw MM) (by simp [spRow, Value.oneCell']) (by omega) rfl (fun v49 ho49 => ?_)
      rw [lacksG_succ]
      refine sq_nil ?_
      refine sx_xp SR ?_
      refine xj_s 12 RF (by kernel_rfl) SR (y_assign RF) rfl ?_
      refine xj_done (by kernel_rfl) ?_
      refine sx_blk ?_
      refine sx_then ?_
      refine sc_region ?_
      refine qs (y_add RF RF (by omega)) ?_
      refine qs (y_move RF) ?_
      refine sq_nil ?_
      refine sx_round ((k + 1, v49)) ?_ ?_ SU SR
      · exact ⟨hk', ho49⟩
      · dsimp only; omega
    ·
      have hkn : k = s.sh.length := by omega
      subst hkn
      refine sc_exit ?_
      refine sx_then_exit ?_
      refine sx_round_exit ?_
      refine sx_blk_hit ?_
      refine sx_then ?_
      refine sc_seq ?_
      refine sc_region ?_
      refine qs (y_move RF) ?_
      refine qs (y_assign RF) ?_
      refine qs (y_assign RF) ?_
      refine sq_nil ?_
      refine sx_then ?_
      refine sc_ret ?_
      refine sx_ret2 (.inl rfl) rfl Tryd.results11 RF RF ?_
      intro w' hw'
      have ho := own_new_mem hw' (.head _) MM
      obtain ⟨a2, c2, rfl, _, hr⟩ := own_rowsA (row := spRow) (fun _ => rfl) ho (lacksG_len s x _) (by omega)
      exact ⟨(a2, c2), by rw [lacksG_len, he0], hw'.below MM, hr⟩
end Go.Proofs.YtpodaihifdlkkaaDoor
