/- The walks of what makes a board of a puzzle. -/
import Derived.Test.YtfceajkofpafpaaFW6
import Derived.Test.YtfceajkofpafpaaSolDat
import Derived.Test.YtfceajkofpafpaaEng26
namespace Go.Proofs.Ytfceajkofpafpaa
open Go Go.Eng Go.RowKit Go.Proofs
open Go.Proofs.Ytfceajkofpafpaa.Sc (iRow spRow sp0 Sp spB plusV getD_of get_of_lt any_range_get all_not_any all_getD)
set_option maxRecDepth 100000
def pcRow (p : Pc) : List Value := egRow p.e0 ++ (egRow p.e1 ++ (egRow p.e2 ++ egRow p.e3))
theorem pcRow_len (p : Pc) : (pcRow p).length = 28 := rfl
theorem pc_part {p : Pc} {s : Nat} (h : s < 4) : ((pcRow p).drop (0 + s * 7)).take 7 = egRow (p.ed s) := by
  rcases (by omega : s = 0 ∨ s = 1 ∨ s = 2 ∨ s = 3) with rfl | rfl | rfl | rfl <;> rfl
theorem pc_ext {p : Pc} {s : Nat} (h : s < 4) : (pcRow p).toArray.extract (s * 7) (s * 7 + 7) = (egRow (p.ed s)).toArray := by
  rcases (by omega : s = 0 ∨ s = 1 ∨ s = 2 ∨ s = 3) with rfl | rfl | rfl | rfl <;> rfl
def pzRow (z : Pz) (a : Option Addr) (c : Nat) : List Value := [.int .i64 z.play.len, .int .i64 z.play.slack, .int .i64 z.play.loose, .int .i64 z.play.damp.lo, .int .i64 z.play.damp.hi, .int .i64 z.wide, .int .i64 z.high, .bool z.turn, .slice a z.pieces.length c]
def bdRow (z : Pz) (a : Option Addr) (c bm : Nat) (v : Value) : List Value := [.int .i64 z.play.len, .int .i64 z.play.slack, .int .i64 z.play.loose, .int .i64 z.play.damp.lo, .int .i64 z.play.damp.hi, .int .i64 z.wide, .int .i64 z.high, .bool z.turn, .slice a z.pieces.length c, .map (some bm), v]
def sK (q : (Nat × Nat) × (Nat × Nat)) : Value := .agg #[.int .i64 q.1.1, .int .i64 q.1.2, .int .i64 q.2.1, .int .i64 q.2.2]
def okS (q : (Nat × Nat) × (Nat × Nat)) : Prop := (q.1.1 ≤ 100 ∧ q.1.2 ≤ 100) ∧ (q.2.1 ≤ 100 ∧ q.2.2 ≤ 100)
theorem sK_inj (a b : (Nat × Nat) × (Nat × Nat)) (h : sK a = sK b) : a = b := by
  obtain ⟨⟨a1, a2⟩, ⟨a3, a4⟩⟩ := a
  obtain ⟨⟨b1, b2⟩, ⟨b3, b4⟩⟩ := b
  simp [sK] at h
  obtain ⟨h1, h2, h3, h4⟩ := h
  rw [show a1 = b1 by omega, show a2 = b2 by omega, show a3 = b3 by omega, show a4 = b4 by omega]
theorem key218 : WideMaps.KeyLaw Try.prog 218 := deep_law (m := 4) (by omega) (by kernel_rfl) (by kernel_rfl) (by kernel_rfl)
theorem lits217 (d : Nat) (i j : Int) (hi : -1000 ≤ i ∧ i ≤ 1000) (hj : -1000 ≤ j ∧ j ≤ 1000) : Try.prog.keyLits (d + 2) 217 [.int .i64 i, .int .i64 j] = some [.int .i64 i, .int .i64 j] := by
  have hu := Try.underlying217
  have hc : Try.prog.cellsOf 217 = 2 := by kernel_rfl
  have hc3 : Try.prog.cellsOf 3 = 1 := by kernel_rfl
  unfold Program.keyLits
  simp [hu, hc, hc3, keyInt d i hi, keyInt d j hj]
theorem key218_of (q : (Nat × Nat) × (Nat × Nat)) (h : okS q) : ∃ l, keyOf Try.prog 218 (sK q) = some l := by
  obtain ⟨⟨a, x⟩, ⟨b, y⟩⟩ := q
  obtain ⟨⟨h1, h2⟩, ⟨h3, h4⟩⟩ := h
  dsimp only at h1 h2 h3 h4
  have hu := Try.underlying218
  have hc : Try.prog.cellsOf 218 = 4 := by kernel_rfl
  have hc2 : Try.prog.cellsOf 217 = 2 := by kernel_rfl
  have hkt : Try.prog.keyType 218 = true := by kernel_rfl
  have hf : (sK ((a, x), (b, y))).formed Try.prog 218 = true := by simp [sK, Value.formed, hu, hc]
  have h9 : Nat.ble 2 Try.prog.types.size = true := by kernel_rfl
  obtain ⟨d, hd⟩ : ∃ d, Try.prog.types.size + 1 = d + 3 := ⟨Try.prog.types.size - 2, by have := Nat.le_of_ble_eq_true h9; omega⟩
  have hl : Try.prog.keyLits (d + 3) 218 [.int .i64 (a : Int), .int .i64 (x : Int), .int .i64 (b : Int), .int .i64 (y : Int)] = some [.int .i64 (a : Int), .int .i64 (x : Int), .int .i64 (b : Int), .int .i64 (y : Int)] := by
    unfold Program.keyLits
    simp [hu, hc, hc2, List.range_succ, lits217 d a x (by omega) (by omega), lits217 d b y (by omega) (by omega)]
  unfold keyOf
  simp only [hu, hkt, hf, hd]
  rw [show (sK ((a, x), (b, y))).cells.toList = [.int .i64 (a : Int), .int .i64 (x : Int), .int .i64 (b : Int), .int .i64 (y : Int)] from rfl, hl]
  exact ⟨_, rfl⟩
theorem kv218 : KV Try.prog 218 sK okS := KV.of_law key218 key218_of sK_inj
theorem mt_ok {z : Pz} {i k s t : Nat} {l : List (((Nat × Nat) × (Nat × Nat)) × Int)} (hF : PzF z) (h : Mt z i k s t l) : ∀ p, p ∈ l → okS p.1 := fun p hp => by
  have := h.only p hp
  have := hF.n
  unfold Done at *
  unfold okS
  omega
theorem mt_new {z : Pz} {i k s t : Nat} {l : List (((Nat × Nat) × (Nat × Nat)) × Int)} (h : Mt z i k s t l) : mvGet l ((i, s), (k, t)) = none := mvGet_no fun p hp e => by
  have := h.only p hp
  rw [e] at this
  unfold Done at this
  dsimp only at this
  omega
theorem mt_get {z : Pz} {l : List (((Nat × Nat) × (Nat × Nat)) × Int)} (h : Mt z z.pieces.length 0 0 0 l) {q : (Nat × Nat) × (Nat × Nat)} (h1 : q.1.1 < z.pieces.length) (h2 : q.2.1 < z.pieces.length) (h3 : q.1.2 < 4) (h4 : q.2.2 < 4) : (mvGet l q).getD 0 = meetV z q := by
  have hd : Done z.pieces.length z.pieces.length 0 0 0 q := ⟨⟨h1, h2, h3, h4⟩, .inl h1⟩
  by_cases hm : meetV z q = 0
  · cases hg : mvGet l q with
    | none => exact hm.symm
    | some v => exact h.val _ (mvGet_some hg)
  · obtain ⟨p, hp, rfl⟩ := h.all q hd hm
    rw [mvGet_of h.nd (show (p.1, p.2) ∈ l from hp)]
    exact h.val p hp
theorem pz_wide {z : Pz} (h : PzF z) : z.wide ≤ (z.pieces.length : Int) ∧ z.high ≤ (z.pieces.length : Int) := by
  have hw := h.w
  have hh := h.h
  have e := h.nn
  have h1 : z.wide * 1 ≤ z.wide * z.high := Int.mul_le_mul_of_nonneg_left hh.1 (by omega)
  have h2 : 1 * z.high ≤ z.wide * z.high := Int.mul_le_mul_of_nonneg_right hw.1 (by omega)
  omega
theorem bt217 : BT Try.prog 217 [(0, 1), (1, 1)] (.agg #[.int .i64 0, .int .i64 0]) := BT.of Try.underlying217 (by kernel_rfl) (by kernel_rfl)
theorem bt179 : BT Try.prog 179 [(0, 9), (9, 1), (10, 1)] (.agg #[.int .i64 0, .int .i64 0, .int .i64 0, .int .i64 0, .int .i64 0, .int .i64 0, .int .i64 0, .bool false, .slice none 0 0, .map none, .slice none 0 0]) := BT.of Try.underlying179 (by kernel_rfl) (by kernel_rfl)
theorem Puzzle14 (w : World) (z : Pz) (a : Option Addr) (c : Nat) (hp : RowsA pcRow 28 0 w a z.pieces) : Calls Try.prog 14 #[.agg (pzRow z a c).toArray] w fun e w' => e = .returned (.bool (pzB z)) ∧ Below w.heap.size w w' := by
  have hlen := hp.len
  refine calls_of_SC (args := [.agg (pzRow z a c).toArray]) Try.func14 rfl Try.ntmps14 rfl ?_
  simp only [argL]
  refine sc_seq ?_
  refine sc_region ?_
  refine sq_box RF rfl (fun b1 => ?_)
  refine qs (y_assign RF) ?_
  refine sq_nil ?_
  refine sx_then ?_
  refine sc_seq ?_
  refine sc_seq ?_
  refine sc_region ?_
  refine qs FA62_59 ?_
  refine qs LD59 ?_
  refine qy (yc Try.call42 E1 (fun w1 _ => Play42 w1 z.play)) ?_
  refine qs (y_not RF) ?_
  refine qs (y_move RF) ?_
  refine sp 9 (fun hg1_4 => ?_) (fun hg1_4 => ?_)
  ·
    refine qf ?_
    refine qf ?_
    refine qf ?_
    refine qf ?_
    refine qf ?_
    refine qs (y_pick_t RF RF) ?_
    refine qs (y_move RF) ?_
    refine qf ?_
    refine qf ?_
    refine qf ?_
    refine qf ?_
    refine qs (y_pick_t RF RF) ?_
    refine qs (y_move RF) ?_
    refine qf ?_
    refine qf ?_
    refine qf ?_
    refine qf ?_
    refine qs (y_pick_t RF RF) ?_
    refine qs (y_move RF) ?_
    refine qf ?_
    refine qf ?_
    refine qf ?_
    refine qf ?_
    refine qf ?_
    refine qf ?_
    refine qf ?_
    refine qf ?_
    refine qf ?_
    refine qs (y_pick_t RF RF) ?_
    refine sq_nil ?_
    refine sx_then ?_
    refine sc_t RF ?_
    refine sc_seq ?_
    refine sc_region ?_
    refine qs (y_assign RF) ?_
    refine sq_nil ?_
    refine sx_then ?_
    refine sc_ret ?_
    refine sx_then_ret ?_
    refine sx_ret1 (.inl rfl) rfl Try.results14 RF ?_
    intro w' hw'
    refine ⟨?_, hw'.below MM⟩
    first
      | (rw [show pzB z = false from by unfold pzB; rw [show plB z.play = false by simpa using hg1_4]; rfl])
      | (rw [show pzB z = false from by unfold pzB; simp [*]]; done)
      | (unfold pzB; simp [*]; done)
  ·
    refine qg FA62_60 ?_
    refine qg LD60 ?_
    refine qg (y_len Try.underlying60 RF) ?_
    refine sq_gt RF RF (y_call (first := []) (caps := []) RF Try.call43 (EvL.cons RF (EvL.cons RF (EvL.cons RF EvL.nil))) (fun w1 _ => in43 _ _ _ w1)) rfl ?_
    refine qg (y_not RF) ?_
    refine qs (y_pick_f RF RF) ?_
    refine qs (y_move RF) ?_
    refine sp 16 (fun hg1_11 => ?_) (fun hg1_11 => ?_)
    ·
      refine qf ?_
      refine qf ?_
      refine qf ?_
      refine qf ?_
      refine qs (y_pick_t RF RF) ?_
      refine qs (y_move RF) ?_
      refine qf ?_
      refine qf ?_
      refine qf ?_
      refine qf ?_
      refine qs (y_pick_t RF RF) ?_
      refine qs (y_move RF) ?_
      refine qf ?_
      refine qf ?_
      refine qf ?_
      refine qf ?_
      refine qf ?_
      refine qf ?_
      refine qf ?_
      refine qf ?_
      refine qf ?_
      refine qs (y_pick_t RF RF) ?_
      refine sq_nil ?_
      refine sx_then ?_
      refine sc_t RF ?_
      refine sc_seq ?_
      refine sc_region ?_
      refine qs (y_assign RF) ?_
      refine sq_nil ?_
      refine sx_then ?_
      refine sc_ret ?_
      refine sx_then_ret ?_
      refine sx_ret1 (.inl rfl) rfl Try.results14 RF ?_
      intro w' hw'
      refine ⟨?_, hw'.below MM⟩
      first
        | (rw [show pzB z = false from by unfold pzB; rw [show plB z.play = false by simpa using hg1_4]; rfl])
        | (rw [show pzB z = false from by unfold pzB; simp [*]]; done)
        | (unfold pzB; simp [*]; done)
    ·
      refine qg FA62_3 ?_
      refine qg LD3 ?_
      refine sq_gt RF RF (y_call (first := []) (caps := []) RF Try.call43 (EvL.cons RF (EvL.cons RF (EvL.cons RF EvL.nil))) (fun w1 _ => in43 _ _ _ w1)) rfl ?_
      refine qg (y_not RF) ?_
      refine qs (y_pick_f RF RF) ?_
      refine qs (y_move RF) ?_
      refine sp 22 (fun hg1_17 => ?_) (fun hg1_17 => ?_)
      ·
        refine qf ?_
        refine qf ?_
        refine qf ?_
        refine qf ?_
        refine qs (y_pick_t RF RF) ?_
        refine qs (y_move RF) ?_
        refine qf ?_
        refine qf ?_
        refine qf ?_
        refine qf ?_
        refine qf ?_
        refine qf ?_
        refine qf ?_
        refine qf ?_
        refine qf ?_
        refine qs (y_pick_t RF RF) ?_
        refine sq_nil ?_
        refine sx_then ?_
        refine sc_t RF ?_
        refine sc_seq ?_
        refine sc_region ?_
        refine qs (y_assign RF) ?_
        refine sq_nil ?_
        refine sx_then ?_
        refine sc_ret ?_
        refine sx_then_ret ?_
        refine sx_ret1 (.inl rfl) rfl Try.results14 RF ?_
        intro w' hw'
        refine ⟨?_, hw'.below MM⟩
        first
          | (rw [show pzB z = false from by unfold pzB; rw [show plB z.play = false by simpa using hg1_4]; rfl])
          | (rw [show pzB z = false from by unfold pzB; simp [*]]; done)
          | (unfold pzB; simp [*]; done)
      ·
        refine qg FA62_3 ?_
        refine qg LD3 ?_
        refine sq_gt RF RF (y_call (first := []) (caps := []) RF Try.call43 (EvL.cons RF (EvL.cons RF (EvL.cons RF EvL.nil))) (fun w1 _ => in43 _ _ _ w1)) rfl ?_
        refine qg (y_not RF) ?_
        refine qs (y_pick_f RF RF) ?_
        refine qs (y_move RF) ?_
        refine sp 28 (fun hg1_23 => ?_) (fun hg1_23 => ?_)
        ·
          refine qf ?_
          refine qf ?_
          refine qf ?_
          refine qf ?_
          refine qf ?_
          refine qf ?_
          refine qf ?_
          refine qf ?_
          refine qf ?_
          refine qs (y_pick_t RF RF) ?_
          refine sq_nil ?_
          refine sx_then ?_
          refine sc_t RF ?_
          refine sc_seq ?_
          refine sc_region ?_
          refine qs (y_assign RF) ?_
          refine sq_nil ?_
          refine sx_then ?_
          refine sc_ret ?_
          refine sx_then_ret ?_
          refine sx_ret1 (.inl rfl) rfl Try.results14 RF ?_
          intro w' hw'
          refine ⟨?_, hw'.below MM⟩
          first
            | (rw [show pzB z = false from by unfold pzB; rw [show plB z.play = false by simpa using hg1_4]; rfl])
            | (rw [show pzB z = false from by unfold pzB; simp [*]]; done)
            | (unfold pzB; simp [*]; done)
        ·
          refine qg FA62_3 ?_
          refine qg LD3 ?_
          refine qg FA62_3 ?_
          refine qg LD3 ?_
          refine qg (y_mul RF RF (by have h1 : (1 : Int) * 1 ≤ z.wide * z.high := Int.mul_le_mul hg1_17.1 hg1_23.1 (by decide) (by omega); have h2 : z.wide * z.high ≤ 9 * 9 := Int.mul_le_mul hg1_17.2 hg1_23.2 (by omega) (by decide); exact ⟨by omega, by omega⟩)) ?_
          refine qg FA62_60 ?_
          refine qg LD60 ?_
          refine qg (y_len Try.underlying60 RF) ?_
          refine qg (y_neq RF RF) ?_
          refine qs (y_pick_f RF RF) ?_
          refine sq_nil ?_
          refine sx_then ?_
          refine scp (fun hc0 => ?_) (fun hc0 => ?_)
          ·
            refine sc_seq ?_
            refine sc_region ?_
            refine qs (y_assign RF) ?_
            refine sq_nil ?_
            refine sx_then ?_
            refine sc_ret ?_
            refine sx_then_ret ?_
            refine sx_ret1 (.inl rfl) rfl Try.results14 RF ?_
            intro w' hw'
            refine ⟨?_, hw'.below MM⟩
            first
              | (rw [show pzB z = false from by unfold pzB; rw [show plB z.play = false by simpa using hg1_4]; rfl])
              | (rw [show pzB z = false from by unfold pzB; simp [*]]; done)
              | (unfold pzB; simp [*]; done)
          ·
            refine sc_skip ?_
            refine sx_then ?_
            refine sc_seq ?_
            refine sc_seq ?_
            refine sc_region ?_
            refine qs (y_assign RF) ?_
            refine sq_nil ?_
            refine sx_then ?_
            refine sc_block ?_
            refine sc_loop (σ := Nat)
              (fun s => [(1, .pointer (some ⟨b1, 0, none⟩)), (3, .int .i64 s)])
              (fun s => [.blk b1 (.cells (pzRow z a c).toArray 62 (0, 0)), .reg 0 w])
              (fun s => s ≤ z.pieces.length ∧ ∀ j, j < s → pcB (z.pieces.getD j pc0) = true)
              (fun s => z.pieces.length - s)
              (0) ?_ SU SR ?_
            · exact ⟨Nat.zero_le _, fun j hj => absurd hj (Nat.not_lt_zero j)⟩
            rintro i ⟨hi, hno0⟩
            refine sc_seq ?_
            refine sc_seq ?_
            refine sc_region ?_
            refine qs (y_move RF) ?_
            refine qs FA62_60 ?_
            refine qs LD60 ?_
            refine qs (y_len Try.underlying60 RF) ?_
            refine qs (y_lss RF RF) ?_
            refine sq_nil ?_
            refine sx_then ?_
            refine scp (fun hc1 => ?_) (fun hc1 => ?_)
            ·
              have hi' : i < z.pieces.length := by omega
              have hsk := (hp.get pc0 hi').1
              have hck := (hp.get pc0 hi').2
              refine sc_skip ?_
              refine sx_then ?_
              refine sc_seq ?_
              refine sc_block ?_
              refine sc_seq ?_
              refine sc_region ?_
              refine qs (y_assign RF) ?_
              refine sq_nil ?_
              refine sx_then ?_
              refine sc_block ?_
              refine sc_loop (σ := Nat)
                (fun s => [(1, .pointer (some ⟨b1, 0, none⟩)), (3, .int .i64 i), (4, .int .i64 s)])
                (fun s => [.blk b1 (.cells (pzRow z a c).toArray 62 (0, 0)), .reg 0 w])
                (fun s => s ≤ 4 ∧ ∀ j, j < s → egB ((z.pieces.getD i pc0).ed j) = true)
                (fun s => 4 - s)
                (0) ?_ SU SR ?_
              · exact ⟨Nat.zero_le _, fun j hj => absurd hj (Nat.not_lt_zero j)⟩
              rintro u ⟨hu, hno⟩
              refine sc_seq ?_
              refine sc_seq ?_
              refine sc_region ?_
              refine qs (y_move RF) ?_
              refine qs (y_lss RF RF) ?_
              refine sq_nil ?_
              refine sx_then ?_
              refine scp (fun hc2 => ?_) (fun hc2 => ?_)
              ·
                have hu' : u < 4 := by omega
                refine sc_skip ?_
                refine sx_then ?_
                refine sc_seq ?_
                refine sc_block ?_
                refine sc_seq ?_
                refine sc_region ?_
                refine qs FA62_60 ?_
                refine qs LD60 ?_
                refine qs (y_move RF) ?_
                refine qs (y_move RF) ?_
                refine qs IA60 ?_
                refine qs FA84_82 ?_
                refine qs (y_ia_arra (i := u) Try.underlying82 Try.sizeOf81 RF RF hu') ?_
                refine qs (by first | exact y_load_capart2 Try.underlying81 rfl Try.sizeOf81 RF MM hck (pc_part hu') rfl | exact LD81) ?_
                refine qy (yc Try.call44 E1 (fun w1 _ => Side44 w1 ((z.pieces.getD i pc0).ed u))) ?_
                refine qs (y_not RF) ?_
                refine sq_nil ?_
                refine sx_then ?_
                refine scp (fun hc3 => ?_) (fun hc3 => ?_)
                ·
                  refine sc_seq ?_
                  refine sc_region ?_
                  refine qs (y_assign RF) ?_
                  refine sq_nil ?_
                  refine sx_then ?_
                  refine sc_ret ?_
                  refine sx_blk_ret ?_
                  refine sx_then_ret ?_
                  refine sx_round_ret ?_
                  refine sx_blk_ret ?_
                  refine sx_blk_ret ?_
                  refine sx_then_ret ?_
                  refine sx_round_ret ?_
                  refine sx_blk_ret ?_
                  refine sx_then_ret ?_
                  refine sx_ret1 (.inl rfl) rfl Try.results14 RF ?_
                  intro w' hw'
                  refine ⟨?_, hw'.below MM⟩
                  rw [show pzB z = false from by
                    cases hz : pzB z with
                    | false => rfl
                    | true =>
                      have := (pz_of hz).eg _ (List.mem_of_getElem? (get_of_lt pc0 hi')) u
                      rw [this] at hc3; cases hc3]
                ·
                  refine sc_skip ?_
                  refine sx_blk ?_
                  refine sx_then ?_
                  refine sc_region ?_
                  refine qs (y_move RF) ?_
                  refine qs (y_add RF RF (by omega)) ?_
                  refine qs (y_assign RF) ?_
                  refine sq_nil ?_
                  refine sx_round (u + 1) ?_ ?_ SU SR
                  · refine ⟨by omega, fun j hj => ?_⟩
                    rcases Nat.lt_succ_iff_lt_or_eq.1 hj with h9 | rfl
                    · exact hno j h9
                    · simpa using hc3
                  · omega
              ·
                refine sc_exit ?_
                refine sx_then_exit ?_
                refine sx_round_exit ?_
                refine sx_blk_hit ?_
                refine sx_blk ?_
                refine sx_then ?_
                refine sc_region ?_
                refine qs (y_move RF) ?_
                refine qs (y_add RF RF (by omega)) ?_
                refine qs (y_assign RF) ?_
                refine sq_nil ?_
                refine sx_round (i + 1) ?_ ?_ SU SR
                · refine ⟨by omega, fun j hj => ?_⟩
                  rcases Nat.lt_succ_iff_lt_or_eq.1 hj with h9 | rfl
                  · exact hno0 j h9
                  · exact pcB_of fun s hs => hno s (by omega)
                · omega
            ·
              refine sc_exit ?_
              refine sx_then_exit ?_
              refine sx_round_exit ?_
              refine sx_blk_hit ?_
              refine sx_then ?_
              refine sc_seq ?_
              refine sc_region ?_
              refine qs (y_assign RF) ?_
              refine sq_nil ?_
              refine sx_then ?_
              refine sc_ret ?_
              refine sx_ret1 (.inl rfl) rfl Try.results14 RF ?_
              intro w' hw'
              refine ⟨?_, hw'.below MM⟩
              have hall : z.pieces.all pcB = true := all_getD z.pieces pc0 pcB (fun j hj => hno0 j (by omega))
              rw [show pzB z = true from by
                unfold pzB
                rw [show (z.pieces.all fun p => egB p.e0 && egB p.e1 && egB p.e2 && egB p.e3) = true from hall, show plB z.play = true by simpa using hg1_4]
                simp [*]]
theorem isPuzzle81 (w : World) (z : Pz) (hF : PzF z) (a : Option Addr) (c : Nat) (hp : RowsA pcRow 28 0 w a z.pieces) : Calls Try.prog 81 #[.agg (pzRow z a c).toArray] w fun e w' => e = .returned (.bool true) ∧ Below w.heap.size w w' := by
  have hlen := hp.len
  have hn := hF.n
  have hw0 := hF.w
  have hh0 := hF.h
  have hww := pz_wide hF
  have hnn := hF.nn
  refine calls_of_SC (args := [.agg (pzRow z a c).toArray]) Try.func81 rfl Try.ntmps81 rfl ?_
  simp only [argL]
  refine sc_seq ?_
  refine sc_region ?_
  refine sq_box RF rfl (fun b1 => ?_)
  refine qs (y_assign RF) ?_
  refine sq_nil ?_
  refine sx_then ?_
  refine sc_seq ?_
  refine sc_region ?_
  refine qs FA62_60 ?_
  refine qs LD60 ?_
  refine qs (y_len Try.underlying60 RF) ?_
  refine qy (yc Try.call105 E3 (fun w1 _ => within105 _ _ _ w1)) ?_
  refine qs (y_move RF) ?_
  refine sq_known (tt := 13) (b' := true) RF (decide_eq_true (by omega)) ?_
  refine qg FA62_3 ?_
  refine qg LD3 ?_
  refine qg FA62_60 ?_
  refine qg LD60 ?_
  refine qg (y_len Try.underlying60 RF) ?_
  refine sq_gt RF RF (y_call (first := []) (caps := []) RF Try.call105 (EvL.cons RF (EvL.cons RF (EvL.cons RF EvL.nil))) (fun w1 _ => within105 _ _ _ w1)) rfl ?_
  refine qs (y_pick_t RF RF) ?_
  refine qs (y_move RF) ?_
  refine sq_known (tt := 21) (b' := true) RF (decide_eq_true (by omega)) ?_
  refine qg FA62_3 ?_
  refine qg LD3 ?_
  refine qg FA62_60 ?_
  refine qg LD60 ?_
  refine qg (y_len Try.underlying60 RF) ?_
  refine sq_gt RF RF (y_call (first := []) (caps := []) RF Try.call105 (EvL.cons RF (EvL.cons RF (EvL.cons RF EvL.nil))) (fun w1 _ => within105 _ _ _ w1)) rfl ?_
  refine qs (y_pick_t RF RF) ?_
  refine qs (y_assign RF) ?_
  refine sq_nil ?_
  refine sx_then ?_
  refine sc_seq ?_
  refine sc_seq ?_
  refine sc_region ?_
  refine qs (y_move RF) ?_
  refine qs (y_not RF) ?_
  refine qs (y_move RF) ?_
  refine sq_known (tt := 31) (b' := false) RF (by rw [decide_eq_true (by omega)]; rfl) ?_
  refine qg FA62_3 ?_
  refine qg LD3 ?_
  refine qg FA62_3 ?_
  refine qg LD3 ?_
  refine qg (y_mul RF RF (by omega)) ?_
  refine qg FA62_60 ?_
  refine qg LD60 ?_
  refine qg (y_len Try.underlying60 RF) ?_
  refine qg (y_neq RF RF) ?_
  refine qs (y_pick_f RF RF) ?_
  refine sq_nil ?_
  refine sx_then ?_
  refine sc_f (lk_bool rfl (by rw [decide_eq_true hnn]; rfl)) ?_
  refine sc_skip ?_
  refine sx_then ?_
  refine sc_seq ?_
  refine sc_seq ?_
  refine sc_region ?_
  refine qs FA62_60 ?_
  refine qs LD60 ?_
  refine qs (y_len Try.underlying60 RF) ?_
  refine qs (y_move RF) ?_
  refine sq_nil ?_
  refine sx_then ?_
  refine sc_block ?_
  refine sc_loop (σ := Nat)
    (fun s => [(1, .pointer (some ⟨b1, 0, none⟩)), (43, .slice a z.pieces.length c), (44, .int .i64 z.pieces.length), (45, .int .i64 s)])
    (fun s => [.blk b1 (.cells (pzRow z a c).toArray 62 (0, 0)), .reg 0 w])
    (fun s => s ≤ z.pieces.length)
    (fun s => z.pieces.length - s)
    (0) ?_ SU SR ?_
  · exact Nat.zero_le _
  rintro i hi
  refine sc_seq ?_
  refine sc_region ?_
  refine qs (y_lss RF RF) ?_
  refine sq_nil ?_
  refine sx_then ?_
  refine sc_seq ?_
  refine scp (fun hc1 => ?_) (fun hc1 => ?_)
  ·
    have hi' : i < z.pieces.length := by omega
    have hsk := (hp.get pc0 hi').1
    have hck := (hp.get pc0 hi').2
    have hE : ∀ e, e ∈ [(z.pieces.getD i pc0).e0, (z.pieces.getD i pc0).e1, (z.pieces.getD i pc0).e2, (z.pieces.getD i pc0).e3] → egB e = true := fun e he => by
      have h9 := hF.eg _ (List.mem_of_getElem? (get_of_lt pc0 hi'))
      simp only [List.mem_cons, List.not_mem_nil, or_false] at he
      rcases he with rfl | rfl | rfl | rfl
      · exact h9 0
      · exact h9 1
      · exact h9 2
      · exact h9 3
    refine sc_skip ?_
    refine sx_then ?_
    refine sc_seq ?_
    refine sc_block ?_
    refine sc_seq ?_
    refine sc_region ?_
    refine qs IA60 ?_
    refine qs (by first | exact y_load_ca Try.underlying84 rfl Try.sizeOf84 RF MM hck rfl | exact LD84) ?_
    refine sq_alloc Try.zeroValue84 rfl (fun b5 => ?_)
    refine sq_store_all (vs := pcRow (z.pieces.getD i pc0)) Try.sizeOf84 RF RF rfl RM rfl rfl ?_
    refine sq_nil ?_
    refine sx_then ?_
    refine sc_seq ?_
    refine sc_drawR (by kernel_rfl) ?_
    refine xj_s 0 RF (by kernel_rfl) SR FA62_59 rfl ?_
    refine xj_s 1 RF (by kernel_rfl) SR LD59 rfl ?_
    refine xj_s 2 RF (by kernel_rfl) SR (y_build bt81 EvP.nil RF) rfl ?_
    refine xj_s 3 RF (by kernel_rfl) SR FA84_82 rfl ?_
    refine xj_s 4 RF (by kernel_rfl) SR (y_slice_full Try.underlying82 Try.sizeOf81 RF) rfl ?_
    refine xj_one 5 RF (by kernel_rfl) ?_
    refine qy (yc Try.call106 E3 (fun w1 hw1 => Matches106 w1 z.play eg0 (some ⟨b5, 0, none⟩) 4 [(z.pieces.getD i pc0).e0, (z.pieces.getD i pc0).e1, (z.pieces.getD i pc0).e2, (z.pieces.getD i pc0).e3] (lit_rowsA (row := egRow) egRow_len hw1 MM rfl (by simp)) hF.play rfl (fun e he => hE e he) (by simp))) ?_
    refine sq_nil ?_
    refine sx_xp SR ?_
    refine xj_s 6 RF (by kernel_rfl) SR (y_move RF) rfl ?_
    refine xj_s 7 RF (by kernel_rfl) SR (y_extract RF RF) rfl ?_
    refine xj_s 8 RF (by kernel_rfl) SR (y_extract RF RF) rfl ?_
    refine xj_s 9 RF (by kernel_rfl) SR (y_extract RF RF) rfl ?_
    refine xj_s 10 RF (by kernel_rfl) SR (y_assign RF) rfl ?_
    refine xj_s 11 RF (by kernel_rfl) SR (y_assign RF) rfl ?_
    refine xj_s 12 RF (by kernel_rfl) SR (y_assign RF) rfl ?_
    refine xj_done (by kernel_rfl) ?_
    refine sx_then ?_
    refine sc_seq ?_
    refine sc_region ?_
    refine qs (y_move RF) ?_
    refine qs (y_neq RF RF) ?_
    refine sq_nil ?_
    refine sx_then ?_
    refine sc_f (lk_bool rfl (rfl)) ?_
    refine sc_skip ?_
    refine sx_blk ?_
    refine sx_then ?_
    refine sc_region ?_
    refine qs (y_add RF RF (by omega)) ?_
    refine qs (y_move RF) ?_
    refine sq_nil ?_
    refine sx_round (i + 1) ?_ ?_ SU SR
    · omega
    · omega
  ·
    refine sc_exit ?_
    refine sx_then_exit ?_
    refine sx_round_exit ?_
    refine sx_blk_hit ?_
    refine sx_then ?_
    refine sc_seq ?_
    refine sc_region ?_
    refine qs (y_assign RF) ?_
    refine sq_nil ?_
    refine sx_then ?_
    refine sc_ret ?_
    refine sx_ret1 (.inl rfl) rfl Try.results81 RF ?_
    intro w' hw'
    exact ⟨rfl, hw'.below MM⟩
theorem newBoard82 {w0 wr w : World} {T : List Res} (z : Pz) (hF : PzF z) (a : Option Addr) (c : Nat) (hp : RowsA pcRow 28 0 wr a z.pieces) (hw : Hp w0 (.reg 0 wr :: T) w) : Calls Try.prog 82 #[.agg (pzRow z a c).toArray] w fun e w' => ∃ q : Nat × Nat × List (((Nat × Nat) × (Nat × Nat)) × Int), Mt z z.pieces.length 0 0 0 q.2.2 ∧ e = .returned (.pointer (some ⟨q.1, 0, none⟩)) ∧ Hp w0 (.blk q.1 (.cells (bdRow z a c q.2.1 (.slice none 0 0)).toArray 179 (0, 0)) :: .blk q.2.1 (mvM sK iV q.2.2) :: .reg 0 wr :: T) w' := by
  have hlen := hp.len
  have hn := hF.n
  refine calls_of_SCr (args := [.agg (pzRow z a c).toArray]) Try.func82 rfl Try.ntmps82 rfl hw ?_
  simp only [argL]
  refine sc_seq ?_
  refine sc_region ?_
  refine sq_box RF rfl (fun b1 => ?_)
  refine qs (y_assign RF) ?_
  refine sq_nil ?_
  refine sx_then ?_
  refine sc_seq ?_
  refine sc_region ?_
  refine qs LD62 ?_
  refine sq_makeMapV sK iV rfl (fun b15 => ?_)
  refine qs (y_build (cells := (bdRow z a c b15 (.slice none 0 0)).toArray) bt179 (EvP.cons RF (EvP.cons RF EvP.nil)) (by kernel_rfl)) ?_
  refine sq_box RF rfl (fun b17 => ?_)
  refine qs (y_assign RF) ?_
  refine sq_nil ?_
  refine sx_then ?_
  refine sc_seq ?_
  refine sc_seq ?_
  refine sc_region ?_
  refine qs FA62_60 ?_
  refine qs LD60 ?_
  refine qs (y_len Try.underlying60 RF) ?_
  refine qs (y_move RF) ?_
  refine sq_nil ?_
  refine sx_then ?_
  refine sc_block ?_
  refine sc_loop (σ := Nat × List (((Nat × Nat) × (Nat × Nat)) × Int))
    (fun s_ => [(1, .pointer (some ⟨b1, 0, none⟩)), (3, .pointer (some ⟨b17, 0, none⟩)), (19, .slice a z.pieces.length c), (20, .int .i64 z.pieces.length), (21, .int .i64 s_.1)])
    (fun s_ => .blk b17 (.cells (bdRow z a c b15 (.slice none 0 0)).toArray 179 (0, 0)) :: .blk b15 (mvM sK iV s_.2) :: .blk b1 (.cells (pzRow z a c).toArray 62 (0, 0)) :: .reg 0 wr :: T)
    (fun s_ => s_.1 ≤ z.pieces.length ∧ Mt z s_.1 0 0 0 s_.2)
    (fun s_ => z.pieces.length - s_.1)
    ((0, [])) ?_ SU SR ?_
  · exact ⟨Nat.zero_le _, Mt.nil z⟩
  rintro ⟨i, l⟩ ⟨hi, hm⟩
  dsimp only at hi hm ⊢
  refine sc_seq ?_
  refine sc_region ?_
  refine qs (y_lss RF RF) ?_
  refine sq_nil ?_
  refine sx_then ?_
  refine sc_seq ?_
  refine scp (fun hc0 => ?_) (fun hc0 => ?_)
  ·
    have hi' : i < z.pieces.length := by omega
    have hsk := (hp.get pc0 hi').1
    have hck := (hp.get pc0 hi').2
    refine sc_skip ?_
    refine sx_then ?_
    refine sc_seq ?_
    refine sc_block ?_
    refine sc_seq ?_
    refine sc_region ?_
    refine qs (y_move RF) ?_
    refine qs IA60 ?_
    refine qs (by first | exact y_load_ca Try.underlying84 rfl Try.sizeOf84 RF MM hck rfl | exact LD84) ?_
    refine sq_alloc Try.zeroValue84 rfl (fun b5 => ?_)
    refine qs (y_assign RF) ?_
    refine sq_store_all (vs := pcRow (z.pieces.getD i pc0)) Try.sizeOf84 RF RF rfl RM rfl rfl ?_
    refine sq_nil ?_
    refine sx_then ?_
    refine sc_seq ?_
    refine sc_region ?_
    refine qs FA62_60 ?_
    refine qs LD60 ?_
    refine qs (y_len Try.underlying60 RF) ?_
    refine qs (y_move RF) ?_
    refine sq_nil ?_
    refine sx_then ?_
    refine sc_block ?_
    refine sc_loop (σ := Nat × List (((Nat × Nat) × (Nat × Nat)) × Int))
      (fun s_ => [(1, .pointer (some ⟨b1, 0, none⟩)), (3, .pointer (some ⟨b17, 0, none⟩)), (19, .slice a z.pieces.length c), (20, .int .i64 z.pieces.length), (4, .int .i64 i), (5, .pointer (some ⟨b5, 0, none⟩)), (27, .slice a z.pieces.length c), (28, .int .i64 z.pieces.length), (21, .int .i64 i), (29, .int .i64 s_.1)])
      (fun s_ => .blk b5 (.cells (pcRow (z.pieces.getD i pc0)).toArray 84 (0, 0)) :: .blk b17 (.cells (bdRow z a c b15 (.slice none 0 0)).toArray 179 (0, 0)) :: .blk b15 (mvM sK iV s_.2) :: .blk b1 (.cells (pzRow z a c).toArray 62 (0, 0)) :: .reg 0 wr :: T)
      (fun s_ => s_.1 ≤ z.pieces.length ∧ Mt z i s_.1 0 0 s_.2)
      (fun s_ => z.pieces.length - s_.1)
      ((0, l)) ?_ SU SR ?_
    · exact ⟨Nat.zero_le _, hm⟩
    rintro ⟨k, l⟩ ⟨hk, hm⟩
    dsimp only at hk hm ⊢
    refine sc_seq ?_
    refine sc_region ?_
    refine qs (y_lss RF RF) ?_
    refine sq_nil ?_
    refine sx_then ?_
    refine sc_seq ?_
    refine scp (fun hc1 => ?_) (fun hc1 => ?_)
    ·
      have hk' : k < z.pieces.length := by omega
      have hsk2 := (hp.get pc0 hk').1
      have hck2 := (hp.get pc0 hk').2
      refine sc_skip ?_
      refine sx_then ?_
      refine sc_seq ?_
      refine sc_block ?_
      refine sc_seq ?_
      refine sc_region ?_
      refine qs (y_move RF) ?_
      refine qs IA60 ?_
      refine qs (by first | exact y_load_ca Try.underlying84 rfl Try.sizeOf84 RF MM hck2 rfl | exact LD84) ?_
      refine sq_alloc Try.zeroValue84 rfl (fun b7 => ?_)
      refine qs (y_assign RF) ?_
      refine sq_store_all (vs := pcRow (z.pieces.getD k pc0)) Try.sizeOf84 RF RF rfl RM rfl rfl ?_
      refine sq_nil ?_
      refine sx_then ?_
      refine sc_seq ?_
      refine sc_region ?_
      refine qs FA84_82 ?_
      refine qs (by first | exact y_load_all (vs := pcRow (z.pieces.getD i pc0)) Try.underlying82 rfl Try.sizeOf82 RF MM rfl | exact LD82) ?_
      refine qs (y_move RF) ?_
      refine sq_nil ?_
      refine sx_then ?_
      refine sc_block ?_
      refine sc_loop (σ := Nat × List (((Nat × Nat) × (Nat × Nat)) × Int))
        (fun s_ => [(1, .pointer (some ⟨b1, 0, none⟩)), (3, .pointer (some ⟨b17, 0, none⟩)), (19, .slice a z.pieces.length c), (20, .int .i64 z.pieces.length), (4, .int .i64 i), (5, .pointer (some ⟨b5, 0, none⟩)), (27, .slice a z.pieces.length c), (28, .int .i64 z.pieces.length), (21, .int .i64 i), (6, .int .i64 k), (7, .pointer (some ⟨b7, 0, none⟩)), (35, .agg (pcRow (z.pieces.getD i pc0)).toArray), (29, .int .i64 k), (36, .int .i64 s_.1)])
        (fun s_ => .blk b7 (.cells (pcRow (z.pieces.getD k pc0)).toArray 84 (0, 0)) :: .blk b5 (.cells (pcRow (z.pieces.getD i pc0)).toArray 84 (0, 0)) :: .blk b17 (.cells (bdRow z a c b15 (.slice none 0 0)).toArray 179 (0, 0)) :: .blk b15 (mvM sK iV s_.2) :: .blk b1 (.cells (pzRow z a c).toArray 62 (0, 0)) :: .reg 0 wr :: T)
        (fun s_ => s_.1 ≤ 4 ∧ Mt z i k s_.1 0 s_.2)
        (fun s_ => 4 - s_.1)
        ((0, l)) ?_ SU SR ?_
      · exact ⟨Nat.zero_le _, hm⟩
      rintro ⟨u, l⟩ ⟨hu, hm⟩
      dsimp only at hu hm ⊢
      refine sc_seq ?_
      refine sc_region ?_
      refine qs (y_lss RF RF) ?_
      refine sq_nil ?_
      refine sx_then ?_
      refine sc_seq ?_
      refine scp (fun hc2 => ?_) (fun hc2 => ?_)
      ·
        have hu' : u < 4 := by omega
        refine sc_skip ?_
        refine sx_then ?_
        refine sc_seq ?_
        refine sc_block ?_
        refine sc_seq ?_
        refine sc_region ?_
        refine qs (y_move RF) ?_
        refine qs (y_indexA (sz := 7) (i := u) Try.underlying82 Try.sizeOf81 Try.underlying81 rfl RF RF hu' (pc_ext hu')) ?_
        refine sq_alloc Try.zeroValue81 rfl (fun b9 => ?_)
        refine qs (y_assign RF) ?_
        refine sq_store_all (vs := egRow ((z.pieces.getD i pc0).ed u)) Try.sizeOf81 RF RF rfl RM rfl rfl ?_
        refine sq_nil ?_
        refine sx_then ?_
        refine sc_seq ?_
        refine sc_region ?_
        refine qs FA84_82 ?_
        refine qs (by first | exact y_load_all (vs := pcRow (z.pieces.getD k pc0)) Try.underlying82 rfl Try.sizeOf82 RF MM rfl | exact LD82) ?_
        refine qs (y_move RF) ?_
        refine sq_nil ?_
        refine sx_then ?_
        refine sc_block ?_
        refine sc_loop (σ := Nat × List (((Nat × Nat) × (Nat × Nat)) × Int))
          (fun s_ => [(1, .pointer (some ⟨b1, 0, none⟩)), (3, .pointer (some ⟨b17, 0, none⟩)), (19, .slice a z.pieces.length c), (20, .int .i64 z.pieces.length), (4, .int .i64 i), (5, .pointer (some ⟨b5, 0, none⟩)), (27, .slice a z.pieces.length c), (28, .int .i64 z.pieces.length), (21, .int .i64 i), (6, .int .i64 k), (7, .pointer (some ⟨b7, 0, none⟩)), (35, .agg (pcRow (z.pieces.getD i pc0)).toArray), (29, .int .i64 k), (8, .int .i64 u), (9, .pointer (some ⟨b9, 0, none⟩)), (41, .agg (pcRow (z.pieces.getD k pc0)).toArray), (36, .int .i64 u), (42, .int .i64 s_.1)])
          (fun s_ => .blk b9 (.cells (egRow ((z.pieces.getD i pc0).ed u)).toArray 81 (0, 0)) :: .blk b7 (.cells (pcRow (z.pieces.getD k pc0)).toArray 84 (0, 0)) :: .blk b5 (.cells (pcRow (z.pieces.getD i pc0)).toArray 84 (0, 0)) :: .blk b17 (.cells (bdRow z a c b15 (.slice none 0 0)).toArray 179 (0, 0)) :: .blk b15 (mvM sK iV s_.2) :: .blk b1 (.cells (pzRow z a c).toArray 62 (0, 0)) :: .reg 0 wr :: T)
          (fun s_ => s_.1 ≤ 4 ∧ Mt z i k u s_.1 s_.2)
          (fun s_ => 4 - s_.1)
          ((0, l)) ?_ SU SR ?_
        · exact ⟨Nat.zero_le _, hm⟩
        rintro ⟨v, l⟩ ⟨hv, hm⟩
        dsimp only at hv hm ⊢
        refine sc_seq ?_
        refine sc_region ?_
        refine qs (y_lss RF RF) ?_
        refine sq_nil ?_
        refine sx_then ?_
        refine sc_seq ?_
        refine scp (fun hc3 => ?_) (fun hc3 => ?_)
        ·
          have hv' : v < 4 := by omega
          refine sc_skip ?_
          refine sx_then ?_
          refine sc_seq ?_
          refine sc_block ?_
          refine sc_seq ?_
          refine sc_region ?_
          refine qs (y_move RF) ?_
          refine qs (y_indexA (sz := 7) (i := v) Try.underlying82 Try.sizeOf81 Try.underlying81 rfl RF RF hv' (pc_ext hv')) ?_
          refine sq_alloc Try.zeroValue81 rfl (fun b11 => ?_)
          refine qs (y_assign RF) ?_
          refine sq_store_all (vs := egRow ((z.pieces.getD k pc0).ed v)) Try.sizeOf81 RF RF rfl RM rfl rfl ?_
          refine sq_nil ?_
          refine sx_then ?_
          refine sc_seq ?_
          refine sc_region ?_
          refine qs FA62_59 ?_
          refine qs LD59 ?_
          refine qs LD81 ?_
          refine qs LD81 ?_
          refine qy (yc Try.call107 E3 (fun w1 _ => Fit107 w1 z.play ((z.pieces.getD i pc0).ed u) ((z.pieces.getD k pc0).ed v) hF.play (hF.ed (k := (i, u)) hi') (hF.ed (k := (k, v)) hk'))) ?_
          refine qs (y_move RF) ?_
          refine qs (y_extract RF RF) ?_
          refine qs (y_extract RF RF) ?_
          refine qs (y_assign RF) ?_
          refine qs (y_assign RF) ?_
          refine sq_nil ?_
          refine sx_then ?_
          refine sc_seq ?_
          refine sc_region ?_
          refine qs (y_move RF) ?_
          refine qs (y_move RF) ?_
          refine qs (y_neq RF RF) ?_
          refine qs (y_move RF) ?_
          refine sp 57 (fun hg15_3 => ?_) (fun hg15_3 => ?_)
          ·
            refine qg (y_move RF) ?_
            refine qg (y_neq RF RF) ?_
            refine qs (y_pick_t RF RF) ?_
            refine sq_nil ?_
            refine sx_then ?_
            refine scp (fun hc4 => ?_) (fun hc4 => ?_)
            ·
              refine sc_region ?_
              refine qs (y_move RF) ?_
              refine qs (y_nilCheck RF) ?_
              refine qs FA179_177 ?_
              refine qs LD177 ?_
              refine qs (y_move RF) ?_
              refine qs (y_move RF) ?_
              refine qs (y_build bt217 (EvP.cons RF (EvP.cons RF EvP.nil)) RF) ?_
              refine qs (y_move RF) ?_
              refine qs (y_move RF) ?_
              refine qs (y_build bt217 (EvP.cons RF (EvP.cons RF EvP.nil)) RF) ?_
              refine qs (y_build_arr (cells := #[.int .i64 (i : Int), .int .i64 (u : Int), .int .i64 (k : Int), .int .i64 (v : Int)]) Try.underlying218 Try.zeroValue218 Try.sizeOf217 (EvP.cons RF (EvP.cons RF EvP.nil)) (by kernel_rfl)) ?_
              refine qs (y_move RF) ?_
              refine sq_mapPutV (kf := sK) (vf := iV) (x0 := ((i, u), (k, v))) (b1 := fitV z.play ((z.pieces.getD i pc0).ed u) ((z.pieces.getD k pc0).ed v)) kv218.toKF (mt_ok hF hm) hm.nd (by unfold okS; dsimp only; omega) Try.underlying177 RF RM RF RF (mt_new hm) ?_
              refine sq_nil ?_
              refine sx_blk ?_
              refine sx_then ?_
              refine sc_region ?_
              refine qs (y_add RF RF (by omega)) ?_
              refine qs (y_move RF) ?_
              refine sq_nil ?_
              refine sx_round ((v + 1, l ++ [(((i, u), (k, v)), fitV z.play ((z.pieces.getD i pc0).ed u) ((z.pieces.getD k pc0).ed v))])) ?_ ?_ SU SR
              · exact ⟨by dsimp only; omega, hm.put hi' hk' hu' hv' (by unfold meetV; rw [if_neg (show ¬ i = k by omega)]; rfl)⟩
              · dsimp only; omega
            ·
              refine sc_skip ?_
              refine sx_blk ?_
              refine sx_then ?_
              refine sc_region ?_
              refine qs (y_add RF RF (by omega)) ?_
              refine qs (y_move RF) ?_
              refine sq_nil ?_
              refine sx_round ((v + 1, l)) ?_ ?_ SU SR
              · exact ⟨by dsimp only; omega, hm.skip (by unfold meetV; rw [if_neg (show ¬ i = k by omega)]; exact hc4)⟩
              · dsimp only; omega
          ·
            refine qf ?_
            refine qf ?_
            refine qs (y_pick_f RF RF) ?_
            refine sq_nil ?_
            refine sx_then ?_
            refine sc_f RF ?_
            refine sc_skip ?_
            refine sx_blk ?_
            refine sx_then ?_
            refine sc_region ?_
            refine qs (y_add RF RF (by omega)) ?_
            refine qs (y_move RF) ?_
            refine sq_nil ?_
            refine sx_round ((v + 1, l)) ?_ ?_ SU SR
            · exact ⟨by dsimp only; omega, hm.skip (by unfold meetV; rw [if_pos (show i = k by omega)])⟩
            · dsimp only; omega
        ·
          refine sc_exit ?_
          refine sx_then_exit ?_
          refine sx_round_exit ?_
          refine sx_blk_hit ?_
          refine sx_blk ?_
          refine sx_then ?_
          refine sc_region ?_
          refine qs (y_add RF RF (by omega)) ?_
          refine qs (y_move RF) ?_
          refine sq_nil ?_
          refine sx_round ((u + 1, l)) ?_ ?_ SU SR
          · have hvn : v = 4 := by omega
            subst hvn
            exact ⟨by dsimp only; omega, hm.t4⟩
          · dsimp only; omega
      ·
        refine sc_exit ?_
        refine sx_then_exit ?_
        refine sx_round_exit ?_
        refine sx_blk_hit ?_
        refine sx_blk ?_
        refine sx_then ?_
        refine sc_region ?_
        refine qs (y_add RF RF (by omega)) ?_
        refine qs (y_move RF) ?_
        refine sq_nil ?_
        refine sx_round ((k + 1, l)) ?_ ?_ SU SR
        · have hun : u = 4 := by omega
          subst hun
          exact ⟨by dsimp only; omega, hm.s4⟩
        · dsimp only; omega
    ·
      refine sc_exit ?_
      refine sx_then_exit ?_
      refine sx_round_exit ?_
      refine sx_blk_hit ?_
      refine sx_blk ?_
      refine sx_then ?_
      refine sc_region ?_
      refine qs (y_add RF RF (by omega)) ?_
      refine qs (y_move RF) ?_
      refine sq_nil ?_
      refine sx_round ((i + 1, l)) ?_ ?_ SU SR
      · have hkn : k = z.pieces.length := by omega
        subst hkn
        exact ⟨by dsimp only; omega, hm.kn⟩
      · dsimp only; omega
  ·
    refine sc_exit ?_
    refine sx_then_exit ?_
    refine sx_round_exit ?_
    refine sx_blk_hit ?_
    refine sx_then ?_
    refine sc_seq ?_
    refine sc_region ?_
    refine qs (y_move RF) ?_
    refine qs (y_assign RF) ?_
    refine sq_nil ?_
    refine sx_then ?_
    refine sc_ret ?_
    refine sx_ret1 (.inl rfl) rfl Try.results82 RF ?_
    intro w' hw'
    have hin : i = z.pieces.length := by omega
    subst hin
    exact ⟨(b17, b15, l), hm, rfl, hw'.sel SR⟩
theorem open47 {w0 wr w : World} {T : List Res} (z : Pz) (hF : PzF z) (a : Option Addr) (c : Nat) (hp : RowsA pcRow 28 0 wr a z.pieces) (hw : Hp w0 (.reg 0 wr :: T) w) : Calls Try.prog 47 #[.agg (pzRow z a c).toArray] w fun e w' => ∃ q : Nat × Nat × List (((Nat × Nat) × (Nat × Nat)) × Int), Mt z z.pieces.length 0 0 0 q.2.2 ∧ e = .returned (.tuple #[.pointer (some ⟨q.1, 0, none⟩), .int .i64 0]) ∧ Hp w0 (.blk q.1 (.cells (bdRow z a c q.2.1 (.slice none 0 0)).toArray 179 (0, 0)) :: .blk q.2.1 (mvM sK iV q.2.2) :: .reg 0 wr :: T) w' := by
  have hlen := hp.len
  refine calls_of_SCr (args := [.agg (pzRow z a c).toArray]) Try.func47 rfl Try.ntmps47 rfl hw ?_
  simp only [argL]
  refine sc_seq ?_
  refine sc_region ?_
  refine sq_box RF rfl (fun b1 => ?_)
  refine qs (y_assign RF) ?_
  refine qs (y_assign RF) ?_
  refine sq_nil ?_
  refine sx_then ?_
  refine sc_seq ?_
  refine sc_seq ?_
  refine sc_region ?_
  refine qs LD62 ?_
  refine qy (yc Try.call81 E1 (fun w1 hw1 => isPuzzle81 w1 z hF a c (hp.at hw1 MM))) ?_
  refine qs (y_not RF) ?_
  refine sq_nil ?_
  refine sx_then ?_
  refine sc_f (lk_bool rfl (rfl)) ?_
  refine sc_skip ?_
  refine sx_then ?_
  refine sc_seq ?_
  refine sc_region ?_
  refine qs LD62 ?_
  refine sq_call (first := []) (caps := []) (Z := Nat × Nat × List (((Nat × Nat) × (Nat × Nat)) × Int)) (fun q => .pointer (some ⟨q.1, 0, none⟩)) (fun q => .blk q.1 (.cells (bdRow z a c q.2.1 (.slice none 0 0)).toArray 179 (0, 0)) :: .blk q.2.1 (mvM sK iV q.2.2) :: .reg 0 wr :: .blk b1 (.cells (pzRow z a c).toArray 62 (0, 0)) :: T) (fun q => Mt z z.pieces.length 0 0 0 q.2.2) RF Try.call82 (EvL.cons RF EvL.nil) (fun w1 hw1 => newBoard82 z hF a c hp (hw1.sel SR)) rfl (fun q hq => ?_)
  refine qs (y_assign RF) ?_
  refine qs (y_assign RF) ?_
  refine sq_nil ?_
  refine sx_then ?_
  refine sc_ret ?_
  refine sx_ret2 (.inl rfl) rfl Try.results47 RF RF ?_
  intro w' hw'
  exact ⟨q, hq, rfl, hw'.sel SR⟩
end Go.Proofs.Ytfceajkofpafpaa
