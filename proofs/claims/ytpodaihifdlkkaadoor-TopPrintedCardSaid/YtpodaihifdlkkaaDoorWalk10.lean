/- The walks of opening a store, of whether a set may be granted, and of what it takes. -/
import Derived.Test.YtpodaihifdlkkaaDoorWalk9
namespace Go.Proofs.YtpodaihifdlkkaaDoor
open Go Go.Eng Go.RowKit Go.Proofs
set_option maxRecDepth 100000
theorem rowsA_keep {α : Type} {row : α → List Value} {sz lo lo' : Nat} {w0 w wr : World} {rs : List Res} {a : Option Addr} {l : List α} (h : RowsA row sz lo wr a l) (hw : Hp w0 rs w) (hm : Res.reg lo wr ∈ rs) (hl : lo' ≤ lo) : RowsA row sz lo' w a l := ⟨fun i x hi => ⟨(h.el i x hi).1, ((h.el i x hi).2.keep hw hm).low hl⟩, h.len⟩
def inS (s : So) (x : Int) : Bool := decide (0 ≤ x ∧ x ≤ 1 * 2 ^ ((s.wi.length : Int)).toNat - 1)
theorem pow_bd {n : Nat} (h : n ≤ 9) : (1 : Int) * 2 ^ ((n : Int)).toNat = ((2 ^ n : Nat) : Int) ∧ 1 ≤ 2 ^ n ∧ 2 ^ n ≤ 512 := by
  refine ⟨by rw [Int.toNat_natCast, Int.one_mul, Int.natCast_pow]; rfl, Nat.one_le_two_pow, ?_⟩
  calc 2 ^ n ≤ 2 ^ 9 := Nat.pow_le_pow_right (by omega) h
    _ = 512 := by decide
theorem memL_lt {x n : Nat} (h : x < 2 ^ n) : ∀ i, i ∈ memL x → i < n := by
  intro i hi
  rcases Nat.lt_or_ge i n with h1 | h1
  · exact h1
  · have h2 := (List.mem_filter.1 hi).2
    rw [Nat.testBit_lt_two_pow (Nat.lt_of_lt_of_le h (Nat.pow_le_pow_right (by omega) h1))] at h2
    cases h2
theorem inS_nat {s : So} (hv : StF s) {x : Int} (h : inS s x = true) : ∃ n : Nat, x = (n : Int) ∧ n < 512 ∧ ∀ i, i ∈ memL n → i < s.wi.length := by
  have h1 := of_decide_eq_true h
  have h2 := pow_bd hv.wi1
  rw [h2.1] at h1
  refine ⟨x.toNat, by omega, by omega, memL_lt (by omega)⟩
def zB : List Value := [.slice none 0 0, .slice none 0 0, .slice none 0 0, .slice none 0 0]
def bkV (z : SA) (s : So) (x : Int) : List Value := if inS s x = true then stV z s else zB
theorem bkV_one (z : SA) (s : So) (x : Int) : (bkV z s x).all (·.oneCell') = true := by unfold bkV; split <;> rfl
theorem bkV_len (z : SA) (s : So) (x : Int) : (bkV z s x).length = 4 := by unfold bkV; split <;> rfl
def refusedB (s : So) (x : Int) : Bool := decide (0 ≤ refI s x.toNat)
def openE (s : So) (x : Int) (acc : Bool) : Int := if inS s x = false then 2 else if (acc && refusedB s x) = true then 11 else 0
def openN (s : So) (x : Int) (acc : Bool) : Int := if inS s x = false then 0 else if (acc && refusedB s x) = true then refI s x.toNat else 0
def takesV (s : So) (x : Int) : List Int := if inS s x = true then tksL s (memL x.toNat) else []

theorem open18 (w : World) (z : SA) (s : So) (hz : SoA 0 w z s) (hb : stB s = true) (hT : TabAt w) (x : Int) (acc : Bool) : Calls Tryd.prog 18 #[.agg (stV z s).toArray, .int .i64 x, .bool acc] w fun e w' => e = .returned (.tuple #[.agg (bkV z s x).toArray, .int .i64 (openN s x acc), .int .i64 (openE s x acc)]) ∧ Below w.heap.size w w' := by
  have hv := stF hb
  have hl := hv.wi1
  have hpw := pow_bd hl
  refine calls_of_SC (args := [.agg (stV z s).toArray, .int .i64 x, .bool acc]) Tryd.func18 rfl Tryd.ntmps18 rfl ?_
  simp only [argL, Nat.reduceAdd, Nat.zero_add]
  refine sc_seq ?_
  refine sc_region ?_
  refine sq_box RF rfl (fun b3 => ?_)
  refine sq_alloc Tryd.zeroValue60 rfl (fun b6 => ?_)
  refine qs (y_assign RF) ?_
  refine qs (y_assign RF) ?_
  refine sq_nil ?_
  refine sx_then ?_
  refine sc_seq ?_
  refine sc_block ?_
  refine sc_seq ?_
  refine sc_region ?_
  refine qs LD27 ?_
  refine qy (yc Tryd.call33 E1 (fun w1 hw1 => isStore33 w1 z s (hz.at hw1 MM))) ?_
  refine qs (y_not RF) ?_
  refine qs (y_assign RF) ?_
  refine sq_nil ?_
  refine sx_then ?_
  refine scp (fun hc0 => ?_) (fun hc0 => ?_)
  ·
    rw [hb] at hc0; cases hc0
  ·
    refine sc_seq ?_
    refine sc_region ?_
    refine qs (y_move RF) ?_
    refine qs FA27_25 ?_
    refine qs LD25 ?_
    refine qs (y_len Tryd.underlying25 RF) ?_
    refine qs (y_shl RF RF (by omega) (by omega)) ?_
    refine qs (y_sub RF RF (by omega)) ?_
    refine qy (yc Tryd.call34 E3 (fun w1 _ => within34 _ _ _ w1)) ?_
    refine qs (y_not RF) ?_
    refine qs (y_assign RF) ?_
    refine sq_nil ?_
    refine sx_then ?_
    refine scp (fun hc1 => ?_) (fun hc1 => ?_)
    ·
      have hin : inS s x = false := decide_eq_false hc1
      refine sc_seq ?_
      refine sc_region ?_
      refine qs LD60 ?_
      refine sq_store_all Tryd.sizeOf60 RF RF rfl RM rfl rfl ?_
      refine qs (y_assign RF) ?_
      refine qs (y_assign RF) ?_
      refine sq_nil ?_
      refine sx_then ?_
      refine sc_ret ?_
      refine sx_blk_ret ?_
      refine sx_then_ret ?_
      refine sx_retctt (.inl rfl) rfl Tryd.results18 Tryd.underlying60 rfl Tryd.sizeOf60 RF MM rfl RF RF ?_
      intro w' hw'
      refine ⟨?_, hw'.below MM⟩
      unfold bkV openN openE; rw [hin]; rfl
    ·
      have hin : inS s x = true := decide_eq_true (by simpa using hc1)
      obtain ⟨n, rfl, hn5, hnm⟩ := inS_nat hv hin
      have hbk : bkV z s (n : Int) = stV z s := if_pos hin
      refine sc_skip ?_
      refine sx_blk ?_
      refine sx_then ?_
      refine sc_seq ?_
      refine sc_region ?_
      refine qs LD27 ?_
      refine qs (y_build bt60 (EvP.cons RF EvP.nil) RF) ?_
      refine sq_store_all Tryd.sizeOf60 RF RF rfl RM rfl rfl ?_
      refine sq_nil ?_
      refine sx_then ?_
      refine sc_seq ?_
      refine sc_seq ?_
      refine sc_region ?_
      refine qs LD60 ?_
      refine qs (y_move RF) ?_
      refine qy (yc Tryd.call35 E2 (fun w1 hw1 => refused35 w1 z s (hz.at hw1 MM) hv (CA.at hT hw1 MM) n hn5 hnm)) ?_
      refine qs (y_assign RF) ?_
      refine sq_nil ?_
      refine sx_then ?_
      refine sc_seq ?_
      refine sc_region ?_
      refine qs (y_move RF) ?_
      refine qs (y_move RF) ?_
      refine spb 31 (fun hg7_1 => ?_) (fun hg7_1 => ?_)
      ·
        refine qg (y_move RF) ?_
        refine qg (y_geq RF RF) ?_
        refine qs (y_pick_t RF RF) ?_
        refine sq_nil ?_
        refine sx_then ?_
        refine scp (fun hc2 => ?_) (fun hc2 => ?_)
        ·
          refine sc_seq ?_
          refine sc_region ?_
          refine qs LD60 ?_
          refine qs (y_move RF) ?_
          refine sq_store_all Tryd.sizeOf60 RF RF rfl RM rfl rfl ?_
          refine qs (y_assign RF) ?_
          refine qs (y_assign RF) ?_
          refine sq_nil ?_
          refine sx_then ?_
          refine sc_ret ?_
          refine sx_then_ret ?_
          refine sx_retctt (.inl rfl) rfl Tryd.results18 Tryd.underlying60 rfl Tryd.sizeOf60 RF MM rfl RF RF ?_
          intro w' hw'
          refine ⟨?_, hw'.below MM⟩
          rw [hbk]; unfold openN openE; rw [hin, show (acc && refusedB s (n : Int)) = true from by rw [hg7_1]; exact decide_eq_true hc2]; rfl
        ·
          refine sc_skip ?_
          refine sx_then ?_
          refine sc_seq ?_
          refine sc_region ?_
          refine qs LD60 ?_
          refine sq_store_all Tryd.sizeOf60 RF RF rfl RM rfl rfl ?_
          refine qs (y_assign RF) ?_
          refine qs (y_assign RF) ?_
          refine sq_nil ?_
          refine sx_then ?_
          refine sc_ret ?_
          refine sx_retctt (.inl rfl) rfl Tryd.results18 Tryd.underlying60 rfl Tryd.sizeOf60 RF MM rfl RF RF ?_
          intro w' hw'
          refine ⟨?_, hw'.below MM⟩
          rw [hbk]; unfold openN openE; rw [hin, show (acc && refusedB s (n : Int)) = false from by rw [hg7_1]; exact decide_eq_false hc2]; rfl
      ·
        refine qf ?_
        refine qf ?_
        refine qs (y_pick_f RF RF) ?_
        refine sq_nil ?_
        refine sx_then ?_
        refine sc_f RF ?_
        refine sc_skip ?_
        refine sx_then ?_
        refine sc_seq ?_
        refine sc_region ?_
        refine qs LD60 ?_
        refine sq_store_all Tryd.sizeOf60 RF RF rfl RM rfl rfl ?_
        refine qs (y_assign RF) ?_
        refine qs (y_assign RF) ?_
        refine sq_nil ?_
        refine sx_then ?_
        refine sc_ret ?_
        refine sx_retctt (.inl rfl) rfl Tryd.results18 Tryd.underlying60 rfl Tryd.sizeOf60 RF MM rfl RF RF ?_
        intro w' hw'
        refine ⟨?_, hw'.below MM⟩
        rw [hbk]; unfold openN openE; rw [hin, hg7_1]; rfl
theorem May6 (w : World) (z : SA) (s : So) (hz : SoA 0 w z s) (hb : stB s = true) (hT : TabAt w) (x : Int) : Calls Tryd.prog 6 #[.agg (stV z s).toArray, .int .i64 x] w fun e w' => e = .returned (.tuple #[.int .i64 (openN s x true), .int .i64 (openE s x true)]) ∧ Below w.heap.size w w' := by
  refine calls_of_SC (args := [.agg (stV z s).toArray, .int .i64 x]) Tryd.func6 rfl Tryd.ntmps6 rfl ?_
  simp only [argL, Nat.zero_add]
  refine sc_seq ?_
  refine sc_region ?_
  refine sq_box RF rfl (fun b2 => ?_)
  refine qs (y_assign RF) ?_
  refine qs (y_assign RF) ?_
  refine sq_nil ?_
  refine sx_then ?_
  refine sc_seq ?_
  refine sc_region ?_
  refine qs LD27 ?_
  refine qs (y_move RF) ?_
  refine qy (yc Tryd.call18 E3 (fun w1 hw1 => open18 w1 z s (hz.at hw1 MM) hb (CA.at hT hw1 MM) x true)) ?_
  refine qs (y_move RF) ?_
  refine qs (y_extract RF RF) ?_
  refine qs (y_extract RF RF) ?_
  refine qs (y_extract RF RF) ?_
  refine qs (y_assign RF) ?_
  refine qs (y_assign RF) ?_
  refine sq_nil ?_
  refine sx_then ?_
  refine sc_seq ?_
  refine sc_region ?_
  refine qs (y_move RF) ?_
  refine qs (y_move RF) ?_
  refine qs (y_assign RF) ?_
  refine qs (y_assign RF) ?_
  refine sq_nil ?_
  refine sx_then ?_
  refine sc_ret ?_
  refine sx_ret2 (.inl rfl) rfl Tryd.results6 RF RF ?_
  intro w' hw'
  exact ⟨rfl, hw'.below MM⟩
theorem Takes7 (w : World) (z : SA) (s : So) (hz : SoA 0 w z s) (hb : stB s = true) (hT : TabAt w) (x : Int) : Calls Tryd.prog 7 #[.agg (stV z s).toArray, .int .i64 x] w fun e w' => ∃ y : Option Addr × Nat, e = .returned (.tuple #[.slice y.1 (takesV s x).length y.2, .int .i64 (openE s x false)]) ∧ Below w.heap.size w w' ∧ RowsA iRow 1 w.heap.size w' y.1 (takesV s x) := by
  have hv := stF hb
  refine calls_of_SC (args := [.agg (stV z s).toArray, .int .i64 x]) Tryd.func7 rfl Tryd.ntmps7 rfl ?_
  simp only [argL, Nat.zero_add]
  refine sc_seq ?_
  refine sc_region ?_
  refine sq_box RF rfl (fun b2 => ?_)
  refine qs (y_assign RF) ?_
  refine qs (y_assign RF) ?_
  refine sq_nil ?_
  refine sx_then ?_
  refine sc_seq ?_
  refine sc_region ?_
  refine qs LD27 ?_
  refine qs (y_move RF) ?_
  refine qy (yc Tryd.call18 E3 (fun w1 hw1 => open18 w1 z s (hz.at hw1 MM) hb (CA.at hT hw1 MM) x false)) ?_
  refine qs (y_move RF) ?_
  refine qs (y_extract RF RF) ?_
  refine qs (y_extract RF RF) ?_
  refine qs (y_extract RF RF) ?_
  refine sq_alloc Tryd.zeroValue60 rfl (fun b6 => ?_)
  refine sq_store_all Tryd.sizeOf60 RF RF (bkV_one z s x) RM (by first | exact bkV_len z s x | rfl) (by first | exact bkV_len z s x | rfl) ?_
  refine qs (y_assign RF) ?_
  refine qs (y_assign RF) ?_
  refine sq_nil ?_
  refine sx_then ?_
  refine sc_seq ?_
  refine sc_seq ?_
  refine sc_region ?_
  refine qs (y_move RF) ?_
  refine qs (y_neq RF RF) ?_
  refine sq_nil ?_
  refine sx_then ?_
  refine scp (fun hc0 => ?_) (fun hc0 => ?_)
  ·
    have hin : inS s x = false := by
      cases hin : inS s x with
      | false => rfl
      | true => exact absurd (show openE s x false = 0 from by unfold openE; rw [hin]; rfl) (by simpa using hc0)
    have htv : takesV s x = [] := by unfold takesV; rw [hin]; rfl
    rw [htv]
    refine sc_seq ?_
    refine sc_region ?_
    refine qs (y_move RF) ?_
    refine qs (y_assign RF) ?_
    refine qs (y_assign RF) ?_
    refine sq_nil ?_
    refine sx_then ?_
    refine sc_ret ?_
    refine sx_then_ret ?_
    refine sx_ret2 (.inl rfl) rfl Tryd.results7 RF RF ?_
    intro w' hw'
    exact ⟨(none, 0), rfl, hw'.below MM, RowsA.nil _ _⟩
  ·
    have hin : inS s x = true := by
      cases hin : inS s x with
      | true => rfl
      | false => exact absurd (show openE s x false = 2 from by unfold openE; rw [hin]; rfl) (by intro h; have := hc0; omega)
    obtain ⟨n, rfl, hn5, hnm⟩ := inS_nat hv hin
    have hbk : bkV z s (n : Int) = stV z s := if_pos hin
    rw [hbk]
    have htv : takesV s (n : Int) = tksL s (memL n) := by unfold takesV; rw [hin]; rfl
    have hoe : openE s (n : Int) false = 0 := by unfold openE; rw [hin]; rfl
    rw [htv, hoe]
    refine sc_skip ?_
    refine sx_then ?_
    refine sc_seq ?_
    refine sc_region ?_
    refine qs LD60 ?_
    refine qs (y_move RF) ?_
    refine sq_call_new (first := []) (caps := []) (Z := Option Addr × Nat) (fun y => .slice y.1 (tksL s (memL n)).length y.2) (fun lo w' y => w.heap.size ≤ lo ∧ RowsA iRow 1 lo w' y.1 (tksL s (memL n))) RF Tryd.call19 (EvL.cons RF (EvL.cons RF EvL.nil)) (fun w1 hw1 => (takes19 w1 z s (hz.at hw1 MM) hv (CA.at hT hw1 MM) n hn5 hnm).mono (fun e w' ⟨y, h1, h2, h3⟩ => ⟨y, h1, h2, hw1.size, h3⟩)) rfl (fun lo wr y hy => ?_)
    refine qs (y_assign RF) ?_
    refine qs (y_assign RF) ?_
    refine sq_nil ?_
    refine sx_then ?_
    refine sc_ret ?_
    refine sx_ret2 (.inl rfl) rfl Tryd.results7 RF RF ?_
    intro w' hw'
    exact ⟨y, rfl, hw'.below MM, rowsA_keep hy.2 hw' MM hy.1⟩
end Go.Proofs.YtpodaihifdlkkaaDoor
