/- The walks of what looks whether a piece may lie in the next cell. -/
import Derived.Test.YtfceajkofpafpaaFW7
namespace Go.Proofs.Ytfceajkofpafpaa
open Go Go.Eng Go.RowKit Go.Proofs
open Go.Proofs.Ytfceajkofpafpaa.Sc (iRow spRow sp0 Sp spB plusV getD_of get_of_lt any_range_get all_not_any all_getD)
set_option maxRecDepth 100000
def lyRow (x : Ly) : List Value := [.int .i64 (x.1 : Int), .int .i64 (x.2 : Int)]
theorem lyRow_len (x : Ly) : (lyRow x).length = 2 := rfl
def kRow (k : Nat × Nat) : List Value := [.int .i64 (k.1 : Int), .int .i64 (k.2 : Int)]
theorem pc_kind {p : Pc} {s : Nat} (h : s < 4) : (pcRow p)[0 + s * 7 + 0]? = some (.int .i64 (p.ed s).kind) := by
  rcases (by omega : s = 0 ∨ s = 1 ∨ s = 2 ∨ s = 3) with rfl | rfl | rfl | rfl <;> rfl
def LyOk (z : Pz) (x : Ly) : Prop := x.1 < z.pieces.length ∧ x.2 < 4
theorem own_lt (x : Ly) (s : Nat) : ownS x s < 4 := Nat.mod_lt _ (by decide)
theorem trn_le (z : Pz) (p : Nat) : 1 ≤ trnV z p ∧ trnV z p ≤ 4 := by unfold trnV; split <;> omega
theorem rim_at {z : Pz} {n s : Nat} (h : s < 4) : (#[.bool (rimB z n 0), .bool (rimB z n 1), .bool (rimB z n 2), .bool (rimB z n 3)] : Array Value)[s]? = some (.bool (rimB z n s)) := by
  rcases (by omega : s = 0 ∨ s = 1 ∨ s = 2 ∨ s = 3) with rfl | rfl | rfl | rfl <;> rfl
theorem row_ge {z : Pz} (hF : PzF z) {n : Nat} (h : 0 < rowI z n) : z.wide ≤ (n : Int) := by
  have hw := hF.w
  rcases Int.lt_or_le (n : Int) z.wide with h1 | h1
  · unfold rowI at h
    rw [Int.ediv_eq_zero_of_lt (by omega) h1] at h; omega
  · exact h1
theorem col_ge {z : Pz} {n : Nat} (h : ¬ colI z n = 0) : 1 ≤ n := by
  rcases Nat.eq_zero_or_pos n with rfl | h1
  · exact absurd (Int.zero_emod _) h
  · exact h1
theorem may_rim {z : Pz} {l : List Ly} {x : Ly} {s : Nat} (hs : s < 4) (h1 : rimB z l.length s = true) (h2 : ¬ (edAt z (sdK x s)).kind = 0) : mayV z l x = false := by
  have : ((List.range 4).all fun s => !rimB z l.length s || flatB z x s) = false := by
    rw [List.all_eq_false]
    exact ⟨s, List.mem_range.2 hs, by rw [h1]; unfold flatB; rw [decide_eq_false h2]; decide⟩
  unfold mayV
  rw [this]; rfl
theorem may_all {z : Pz} {l : List Ly} {x : Ly} (h : ∀ j, j < 4 → (!rimB z l.length j || flatB z x j) = true) : mayV z l x = ((decide (¬ 0 < rowI z l.length) || decide (meetV z (sdK (lyD l (l.length - z.wide.toNat)) 2, sdK x 0) ≠ 0)) && (decide (colI z l.length = 0) || decide (meetV z (sdK (lyD l (l.length - 1)) 1, sdK x 3) ≠ 0))) := by
  have : ((List.range 4).all fun s => !rimB z l.length s || flatB z x s) = true := List.all_eq_true.2 fun s hs => h s (List.mem_range.1 hs)
  unfold mayV
  rw [this, Bool.true_and]
theorem bt70 : BT Try.prog 70 [(0, 1), (1, 1)] (.agg #[.int .i64 0, .int .i64 0]) := BT.of Try.underlying70 (by kernel_rfl) (by kernel_rfl)
theorem okS_sd {z : Pz} (hF : PzF z) {x y : Ly} {s u : Nat} (hx : LyOk z x) (hy : LyOk z y) : okS (sdK x s, sdK y u) := by
  have hn := hF.n
  have h1 := own_lt x s
  have h2 := own_lt y u
  have h3 := hx.1
  have h4 := hy.1
  unfold okS sdK
  dsimp only
  omega
theorem turns85 (w : World) (z : Pz) (_hF : PzF z) (a : Option Addr) (c bm : Nat) (v : Value) (pb : Addr) (hb : CA 0 w pb (bdRow z a c bm v)) (p : Nat) : Calls Try.prog 85 #[.pointer (some pb), .int .i64 (p : Int)] w fun e w' => e = .returned (.int .i64 (trnV z p : Nat)) ∧ Below w.heap.size w w' := by
  refine calls_of_SC (args := [.pointer (some pb), .int .i64 (p : Int)]) Try.func85 rfl Try.ntmps85 rfl ?_
  simp only [argL, Nat.zero_add]
  refine sc_seq ?_
  refine sc_region ?_
  refine qs (y_assign RF) ?_
  refine sq_nil ?_
  refine sx_then ?_
  refine sc_seq ?_
  refine sc_seq ?_
  refine sc_region ?_
  refine qs (y_move RF) ?_
  refine qs (y_nilCheck RF) ?_
  refine qs FA179_62 ?_
  refine qs FA62_4 ?_
  refine qs LD4 ?_
  refine qs (y_move RF) ?_
  refine sp 10 (fun hg1_5 => ?_) (fun hg1_5 => ?_)
  ·
    refine qg (y_move RF) ?_
    refine qg (y_gtr RF RF) ?_
    refine qs (y_pick_t RF RF) ?_
    refine sq_nil ?_
    refine sx_then ?_
    refine scp (fun hc0 => ?_) (fun hc0 => ?_)
    ·
      refine sc_seq ?_
      refine sc_region ?_
      refine qs (y_assign RF) ?_
      refine sq_nil ?_
      refine sx_then ?_
      refine sc_ret ?_
      refine sx_then_ret ?_
      refine sx_ret1 (.inl rfl) rfl Try.results85 RF ?_
      intro w' hw'
      refine ⟨?_, hw'.below MM⟩
      first
        | (rw [show trnV z p = 4 from if_pos ⟨hg1_5, by omega⟩]; rfl)
        | (rw [show trnV z p = 1 from if_neg (fun h => by omega)]; rfl)
        | (rw [show trnV z p = 1 from if_neg (fun h => by rw [hg1_5] at h; exact absurd h.1 (by decide))]; rfl)
    ·
      refine sc_skip ?_
      refine sx_then ?_
      refine sc_seq ?_
      refine sc_region ?_
      refine qs (y_assign RF) ?_
      refine sq_nil ?_
      refine sx_then ?_
      refine sc_ret ?_
      refine sx_ret1 (.inl rfl) rfl Try.results85 RF ?_
      intro w' hw'
      refine ⟨?_, hw'.below MM⟩
      first
        | (rw [show trnV z p = 4 from if_pos ⟨hg1_5, by omega⟩]; rfl)
        | (rw [show trnV z p = 1 from if_neg (fun h => by omega)]; rfl)
        | (rw [show trnV z p = 1 from if_neg (fun h => by rw [hg1_5] at h; exact absurd h.1 (by decide))]; rfl)
  ·
    refine qf ?_
    refine qf ?_
    refine qs (y_pick_f RF RF) ?_
    refine sq_nil ?_
    refine sx_then ?_
    refine sc_f RF ?_
    refine sc_skip ?_
    refine sx_then ?_
    refine sc_seq ?_
    refine sc_region ?_
    refine qs (y_assign RF) ?_
    refine sq_nil ?_
    refine sx_then ?_
    refine sc_ret ?_
    refine sx_ret1 (.inl rfl) rfl Try.results85 RF ?_
    intro w' hw'
    refine ⟨?_, hw'.below MM⟩
    first
      | (rw [show trnV z p = 4 from if_pos ⟨hg1_5, by omega⟩]; rfl)
      | (rw [show trnV z p = 1 from if_neg (fun h => by omega)]; rfl)
      | (rw [show trnV z p = 1 from if_neg (fun h => by rw [hg1_5] at h; exact absurd h.1 (by decide))]; rfl)
theorem on109 (w : World) (x : Ly) (hx : x.2 < 4) (s : Nat) (hs : s < 4) : Calls Try.prog 109 #[.agg (lyRow x).toArray, .int .i64 (s : Int)] w fun e w' => e = .returned (.agg (kRow (sdK x s)).toArray) ∧ Below w.heap.size w w' := by
  unfold lyRow
  refine calls_of_SC (args := [.agg #[.int .i64 (x.1 : Int), .int .i64 (x.2 : Int)], .int .i64 (s : Int)]) Try.func109 rfl Try.ntmps109 rfl ?_
  simp only [argL, Nat.zero_add]
  refine sc_seq ?_
  refine sc_region ?_
  refine sq_box RF rfl (fun b2 => ?_)
  refine sq_alloc Try.zeroValue217 rfl (fun b4 => ?_)
  refine sq_nil ?_
  refine sx_then ?_
  refine sc_seq ?_
  refine sc_region ?_
  refine qs FA70_3 ?_
  refine qs LD3 ?_
  refine qs (y_move RF) ?_
  refine qs (y_add RF RF (by omega)) ?_
  refine qs FA70_3 ?_
  refine qs LD3 ?_
  refine qs (y_sub RF RF (by omega)) ?_
  refine qs (y_rem RF RF (by omega) (by omega)) ?_
  rw [show ((s : Int) + 4 - (x.2 : Int)) % 4 = ((ownS x s : Nat) : Int) from by unfold ownS; omega]
  refine qs (y_build (cells := (kRow (sdK x s)).toArray) bt217 (EvP.cons RF (EvP.cons RF EvP.nil)) (by kernel_rfl)) ?_
  refine sq_store_all (vs := kRow (sdK x s)) Try.sizeOf217 RF RF rfl RM rfl rfl ?_
  refine sq_nil ?_
  refine sx_then ?_
  refine sc_ret ?_
  refine sx_retc (.inl rfl) rfl Try.results109 Try.underlying217 rfl Try.sizeOf217 RF MM rfl ?_
  intro w' hw'
  exact ⟨rfl, hw'.below MM⟩
theorem isFlat108 (w : World) (z : Pz) (_hF : PzF z) (a : Option Addr) (c bm : Nat) (v : Value) (pb : Addr) (hb : CA 0 w pb (bdRow z a c bm v)) (hp : RowsA pcRow 28 0 w a z.pieces) (k : Nat × Nat) (h1 : k.1 < z.pieces.length) (h2 : k.2 < 4) : Calls Try.prog 108 #[.pointer (some pb), .agg (kRow k).toArray] w fun e w' => e = .returned (.bool (decide ((edAt z k).kind = 0))) ∧ Below w.heap.size w w' := by
  have hlen := hp.len
  have hsk := (hp.get pc0 h1).1
  have hck := (hp.get pc0 h1).2
  unfold kRow
  refine calls_of_SC (args := [.pointer (some pb), .agg #[.int .i64 (k.1 : Int), .int .i64 (k.2 : Int)]]) Try.func108 rfl Try.ntmps108 rfl ?_
  simp only [argL, Nat.zero_add]
  refine sc_seq ?_
  refine sc_region ?_
  refine sq_box RF rfl (fun b3 => ?_)
  refine qs (y_assign RF) ?_
  refine sq_nil ?_
  refine sx_then ?_
  refine sc_seq ?_
  refine sc_draw rfl (by kernel_rfl) (by kernel_rfl) ?_
  refine qq_y (OpY.s (y_move RF)) rfl ?_
  refine qq_y (OpY.s (y_nilCheck RF)) rfl ?_
  refine qq_y (OpY.s FA179_62) rfl ?_
  refine qq_y (OpY.s FA62_60) rfl ?_
  refine qq_y (OpY.s LD60) rfl ?_
  refine qq_y (OpY.s FA217_3) rfl ?_
  refine qq_y (OpY.s LD3) rfl ?_
  refine qq_y (OpY.s FA217_3) rfl ?_
  refine qq_y (OpY.s LD3) rfl ?_
  refine qq_y (OpY.s IA60) rfl ?_
  refine qq_y (OpY.s FA84_82) rfl ?_
  refine qq_y (OpY.s (y_ia_arra (i := k.2) Try.underlying82 Try.sizeOf81 RF RF h2)) rfl ?_
  refine qq_y (OpY.s FA81_3) rfl ?_
  refine qq_y (OpY.s (by first | exact y_load_cajjj Try.underlying3 rfl RF MM hck (pc_kind h2) | exact LD3)) rfl ?_
  refine qq_y (OpY.s (y_eql RF RF)) rfl ?_
  refine qq_y (OpY.s (y_assign RF)) rfl ?_
  refine qq_nil ?_
  refine sx_then ?_
  refine sc_ret ?_
  refine sx_ret1 (.inl rfl) rfl Try.results108 RF ?_
  intro w' hw'
  exact ⟨rfl, hw'.below MM⟩
theorem allow86 (w : World) (n : Int) (x : Ly) : Calls Try.prog 86 #[.slice none 0 0, .int .i64 n, .agg (lyRow x).toArray] w fun e w' => e = .returned (.bool true) ∧ Below w.heap.size w w' := by
  refine calls_of_SC (args := [.slice none 0 0, .int .i64 n, .agg (lyRow x).toArray]) Try.func86 rfl Try.ntmps86 rfl ?_
  simp only [argL, Nat.reduceAdd, Nat.zero_add]
  refine sc_seq ?_
  refine sc_region ?_
  refine sq_box RF rfl (fun b5 => ?_)
  refine qs (y_assign RF) ?_
  refine sq_nil ?_
  refine sx_then ?_
  refine sc_seq ?_
  refine sc_seq ?_
  refine sc_region ?_
  refine qs (y_move RF) ?_
  refine qs (y_len Try.underlying174 RF) ?_
  refine qs (y_move RF) ?_
  refine sq_nil ?_
  refine sx_then ?_
  refine sc_block ?_
  refine sc_loop (σ := Unit)
    (fun s => [(10, .int .i64 0), (11, .int .i64 0)])
    (fun s => [.reg 0 w])
    (fun s => True)
    (fun s => 0)
    (()) ?_ SU SE ?_
  · trivial
  rintro _ _
  refine sc_seq ?_
  refine sc_region ?_
  refine qs (y_lss RF RF) ?_
  refine sq_nil ?_
  refine sx_then ?_
  refine sc_seq ?_
  refine sc_f (lk_bool rfl (decide_eq_false (by omega))) ?_
  refine sc_exit ?_
  refine sx_then_exit ?_
  refine sx_round_exit ?_
  refine sx_blk_hit ?_
  refine sx_then ?_
  refine sc_seq ?_
  refine sc_region ?_
  refine qs (y_assign RF) ?_
  refine sq_nil ?_
  refine sx_then ?_
  refine sc_ret ?_
  refine sx_ret1 (.inl rfl) rfl Try.results86 RF ?_
  intro w' hw'
  exact ⟨rfl, hw'.below MM⟩
theorem may87 (w : World) (z : Pz) (hF : PzF z) (a : Option Addr) (c bm : Nat) (v : Value) (pb : Addr) (hb : CA 0 w pb (bdRow z a c bm v)) (hp : RowsA pcRow 28 0 w a z.pieces) (al : Option Addr) (cl : Nat) (l : List Ly) (hv : v = .slice al l.length cl) (hl : RowsA lyRow 2 0 w al l) (hok : ∀ x, x ∈ l → LyOk z x) (ms : List (((Nat × Nat) × (Nat × Nat)) × Int)) (hM : Mt z z.pieces.length 0 0 0 ms) (hmm : w.heap[bm]? = some (mvM sK iV ms)) (hln : l.length < z.pieces.length) (x : Ly) (hx : LyOk z x) : Calls Try.prog 87 #[.pointer (some pb), .agg (lyRow x).toArray] w fun e w' => e = .returned (.bool (mayV z l x)) ∧ Below w.heap.size w w' := by
  subst hv
  have hlen := hp.len
  have hn := hF.n
  have hw0 := hF.w
  have hh0 := hF.h
  have hge := row_ge hF (n := l.length)
  have hce := col_ge (z := z) (n := l.length)
  have hlx : ∀ i, i < l.length → LyOk z (lyD l i) := fun i hi => hok _ (List.mem_of_getElem? (get_of_lt (0, 0) hi))
  refine calls_of_SC (args := [.pointer (some pb), .agg (lyRow x).toArray]) Try.func87 rfl Try.ntmps87 rfl ?_
  simp only [argL, Nat.zero_add]
  refine sc_seq ?_
  refine sc_region ?_
  refine sq_box RF rfl (fun b3 => ?_)
  refine qs (y_assign RF) ?_
  refine sq_nil ?_
  refine sx_then ?_
  refine sc_seq ?_
  refine sc_region ?_
  refine qs (y_move RF) ?_
  refine qs (y_nilCheck RF) ?_
  refine qs FA179_64 ?_
  refine qs LD64 ?_
  refine qs (y_len Try.underlying64 RF) ?_
  refine qs (y_assign RF) ?_
  refine sq_nil ?_
  refine sx_then ?_
  refine sc_seq ?_
  refine sc_draw rfl (by kernel_rfl) (by kernel_rfl) ?_
  refine qq_y (OpY.s (y_move RF)) rfl ?_
  refine qq_y (OpY.s (y_move RF)) rfl ?_
  refine qq_y (OpY.s (y_nilCheck RF)) rfl ?_
  refine qq_y (OpY.s FA179_62) rfl ?_
  refine qq_y (OpY.s FA62_3) rfl ?_
  refine qq_y (OpY.s LD3) rfl ?_
  refine qq_y (OpY.s (y_quo RF RF (by omega) (by omega))) rfl ?_
  rw [show ((l.length : Nat) : Int) / z.wide = rowI z l.length from rfl]
  refine qq_y (OpY.s (y_move RF)) rfl ?_
  refine qq_y (OpY.s (y_move RF)) rfl ?_
  refine qq_y (OpY.s (y_nilCheck RF)) rfl ?_
  refine qq_y (OpY.s FA179_62) rfl ?_
  refine qq_y (OpY.s FA62_3) rfl ?_
  refine qq_y (OpY.s LD3) rfl ?_
  refine qq_y (OpY.s (y_rem RF RF (by omega) (by omega))) rfl ?_
  rw [show ((l.length : Nat) : Int) % z.wide = colI z l.length from rfl]
  refine qq_y (OpY.s (y_assign RF)) rfl ?_
  refine qq_y (OpY.s (y_assign RF)) rfl ?_
  refine qq_nil ?_
  refine sx_then ?_
  refine sc_seq ?_
  refine sc_seq ?_
  refine sc_draw rfl (by kernel_rfl) (by kernel_rfl) ?_
  refine qq_y (OpY.s (y_move RF)) rfl ?_
  refine qq_y (OpY.s (y_eql RF RF)) rfl ?_
  refine qq_y (OpY.s (y_move RF)) rfl ?_
  refine qq_y (OpY.s (y_move RF)) rfl ?_
  refine qq_y (OpY.s (y_nilCheck RF)) rfl ?_
  refine qq_y (OpY.s FA179_62) rfl ?_
  refine qq_y (OpY.s FA62_3) rfl ?_
  refine qq_y (OpY.s LD3) rfl ?_
  refine qq_y (OpY.s (y_sub RF RF (by omega))) rfl ?_
  refine qq_y (OpY.s (y_eql RF RF)) rfl ?_
  refine qq_y (OpY.s (y_move RF)) rfl ?_
  refine qq_y (OpY.s (y_move RF)) rfl ?_
  refine qq_y (OpY.s (y_nilCheck RF)) rfl ?_
  refine qq_y (OpY.s FA179_62) rfl ?_
  refine qq_y (OpY.s FA62_3) rfl ?_
  refine qq_y (OpY.s LD3) rfl ?_
  refine qq_y (OpY.s (y_sub RF RF (by omega))) rfl ?_
  refine qq_y (OpY.s (y_eql RF RF)) rfl ?_
  refine qq_y (OpY.s (y_move RF)) rfl ?_
  refine qq_y (OpY.s (y_eql RF RF)) rfl ?_
  refine qq_y (OpY.s (y_build_arr (cells := #[.bool (rimB z l.length 0), .bool (rimB z l.length 1), .bool (rimB z l.length 2), .bool (rimB z l.length 3)]) Try.underlying139 Try.zeroValue139 Try.sizeOf4 (EvP.cons RF (EvP.cons RF (EvP.cons RF (EvP.cons RF EvP.nil)))) (by kernel_rfl))) rfl ?_
  refine qq_y (OpY.s (y_move RF)) rfl ?_
  refine qq_nil ?_
  refine sx_then ?_
  refine sc_block ?_
  refine sc_loop (σ := Nat)
    (fun s_ => [(0, .pointer (some pb)), (3, .pointer (some ⟨b3, 0, none⟩)), (5, .int .i64 (l.length : Nat)), (6, .int .i64 (rowI z l.length)), (7, .int .i64 (colI z l.length)), (49, .agg #[.bool (rimB z l.length 0), .bool (rimB z l.length 1), .bool (rimB z l.length 2), .bool (rimB z l.length 3)]), (50, .int .i64 s_)])
    (fun s_ => [.blk b3 (.cells (lyRow x).toArray 70 (0, 0)), .reg 0 w])
    (fun s_ => s_ ≤ 4 ∧ ∀ j, j < s_ → (!rimB z l.length j || flatB z x j) = true)
    (fun s_ => 4 - s_)
    (0) ?_ SU SR ?_
  · exact ⟨Nat.zero_le _, fun j hj => absurd hj (Nat.not_lt_zero j)⟩
  rintro s ⟨hs, hno⟩
  refine sc_seq ?_
  refine sc_region ?_
  refine qs (y_lss RF RF) ?_
  refine sq_nil ?_
  refine sx_then ?_
  refine sc_seq ?_
  refine scp (fun hc0 => ?_) (fun hc0 => ?_)
  ·
    have hs' : s < 4 := by omega
    refine sc_skip ?_
    refine sx_then ?_
    refine sc_seq ?_
    refine sc_block ?_
    refine sc_seq ?_
    refine sc_region ?_
    refine qs (y_move RF) ?_
    refine qs (y_index (i := s) Try.underlying139 Try.sizeOf4 Try.underlying4 rfl RF RF hs' (rim_at hs')) ?_
    refine qs (y_assign RF) ?_
    refine qs (y_assign RF) ?_
    refine sq_nil ?_
    refine sx_then ?_
    refine sc_seq ?_
    refine sc_region ?_
    refine qs (y_move RF) ?_
    refine qs (y_move RF) ?_
    refine sp 55 (fun hg6_1 => ?_) (fun hg6_1 => ?_)
    ·
      refine qg (y_move RF) ?_
      refine qg LD70 ?_
      refine qg (y_move RF) ?_
      refine sq_gt RF RF (y_call (first := []) (caps := []) RF Try.call109 (EvL.cons RF (EvL.cons RF EvL.nil)) (fun w1 _ => on109 w1 x hx.2 s hs')) rfl ?_
      refine sq_gt RF RF (y_call (first := []) (caps := []) RF Try.call108 (EvL.cons RF (EvL.cons RF EvL.nil)) (fun w1 hw1 => isFlat108 w1 z hF a c bm _ pb (hb.at hw1 MM) (hp.at hw1 MM) (sdK x s) hx.1 (own_lt x s))) rfl ?_
      refine qg (y_not RF) ?_
      refine qs (y_pick_t RF RF) ?_
      refine sq_nil ?_
      refine sx_then ?_
      refine scp (fun hc1 => ?_) (fun hc1 => ?_)
      ·
        refine sc_seq ?_
        refine sc_region ?_
        refine qs (y_assign RF) ?_
        refine sq_nil ?_
        refine sx_then ?_
        refine sc_ret ?_
        refine sx_blk_ret ?_
        refine sx_then_ret ?_
        refine sx_round_ret ?_
        refine sx_blk_ret ?_
        refine sx_then_ret ?_
        refine sx_ret1 (.inl rfl) rfl Try.results87 RF ?_
        intro w' hw'
        exact ⟨by rw [may_rim hs' hg6_1 hc1], hw'.below MM⟩
      ·
        refine sc_skip ?_
        refine sx_blk ?_
        refine sx_then ?_
        refine sc_region ?_
        refine qs (y_add RF RF (by omega)) ?_
        refine qs (y_move RF) ?_
        refine sq_nil ?_
        refine sx_round (s + 1) ?_ ?_ SU SR
        · refine ⟨by omega, fun j hj => ?_⟩
          rcases Nat.lt_succ_iff_lt_or_eq.1 hj with h9 | rfl
          · exact hno j h9
          · unfold flatB; rw [decide_eq_true hc1, Bool.or_true]
        · omega
    ·
      refine qf ?_
      refine qf ?_
      refine qf ?_
      refine qf ?_
      refine qf ?_
      refine qf ?_
      refine qs (y_pick_f RF RF) ?_
      refine sq_nil ?_
      refine sx_then ?_
      refine sc_f RF ?_
      refine sc_skip ?_
      refine sx_blk ?_
      refine sx_then ?_
      refine sc_region ?_
      refine qs (y_add RF RF (by omega)) ?_
      refine qs (y_move RF) ?_
      refine sq_nil ?_
      refine sx_round (s + 1) ?_ ?_ SU SR
      · refine ⟨by omega, fun j hj => ?_⟩
        rcases Nat.lt_succ_iff_lt_or_eq.1 hj with h9 | rfl
        · exact hno j h9
        · rw [hg6_1]; rfl
      · omega
  ·
    have hall := may_all (z := z) (l := l) (x := x) fun j hj => hno j (by omega)
    refine sc_exit ?_
    refine sx_then_exit ?_
    refine sx_round_exit ?_
    refine sx_blk_hit ?_
    refine sx_then ?_
    refine sc_seq ?_
    refine sc_seq ?_
    refine sc_drawR (by kernel_rfl) ?_
    refine xj_s 0 RF (by kernel_rfl) SR (y_move RF) rfl ?_
    refine xj_s 1 RF (by kernel_rfl) SR (y_gtr RF RF) rfl ?_
    refine xj_s 2 RF (by kernel_rfl) SR (y_move RF) rfl ?_
    first | refine xj_splitd (tt := 66) RF (fun hg9_2 => ?_) (fun hg9_2 => ?_) | refine xj_splitn (tt := 66) RF (fun hg9_2 => ?_) (fun hg9_2 => ?_) | refine xj_split (tt := 66) RF (fun hg9_2 => ?_) (fun hg9_2 => ?_)
    ·
      refine xj_gt 3 RF RF RF (by kernel_rfl) SR (y_move RF) rfl ?_
      refine xj_gt 4 RF RF RF (by kernel_rfl) SR (y_nilCheck RF) rfl ?_
      refine xj_gt 5 RF RF RF (by kernel_rfl) SR FA179_177 rfl ?_
      refine xj_gt 6 RF RF RF (by kernel_rfl) SR LD177 rfl ?_
      refine xj_gt 7 RF RF RF (by kernel_rfl) SR (y_move RF) rfl ?_
      refine xj_gt 8 RF RF RF (by kernel_rfl) SR (y_nilCheck RF) rfl ?_
      refine xj_gt 9 RF RF RF (by kernel_rfl) SR FA179_64 rfl ?_
      refine xj_gt 10 RF RF RF (by kernel_rfl) SR LD64 rfl ?_
      refine xj_gt 11 RF RF RF (by kernel_rfl) SR (y_move RF) rfl ?_
      refine xj_gt 12 RF RF RF (by kernel_rfl) SR (y_move RF) rfl ?_
      refine xj_gt 13 RF RF RF (by kernel_rfl) SR (y_nilCheck RF) rfl ?_
      refine xj_gt 14 RF RF RF (by kernel_rfl) SR FA179_62 rfl ?_
      refine xj_gt 15 RF RF RF (by kernel_rfl) SR FA62_3 rfl ?_
      refine xj_gt 16 RF RF RF (by kernel_rfl) SR LD3 rfl ?_
      refine xj_gt 17 RF RF RF (by kernel_rfl) SR (y_sub RF RF (by omega)) rfl ?_
      refine xj_gt 18 RF RF RF (by kernel_rfl) SR (y_ia_el (i := l.length - z.wide.toNat) Try.underlying64 Try.sizeOf70 RF (ev_int RF (by omega)) (by omega) (hl.get (i := l.length - z.wide.toNat) (0, 0) (by omega)).1) rfl ?_
      refine xj_gt 19 RF RF RF (by kernel_rfl) SR (by first | exact y_load_ca Try.underlying70 rfl Try.sizeOf70 RF MM (hl.get (i := l.length - z.wide.toNat) (0, 0) (by omega)).2 rfl | exact LD70) rfl ?_
      refine xj_gt 21 RF RF RF (by kernel_rfl) SR LD70 rfl ?_
      refine xj_one 20 RF (by kernel_rfl) ?_
      refine sq_gt RF RF (y_call (first := []) (caps := []) RF Try.call109 (EvL.cons RF (EvL.cons RF EvL.nil)) (fun w1 _ => on109 w1 (lyD l (l.length - z.wide.toNat)) (hlx _ (by omega)).2 2 (by decide))) rfl ?_
      refine sq_nil ?_
      refine sx_xp SR ?_
      refine xj_one 22 RF (by kernel_rfl) ?_
      refine sq_gt RF RF (y_call (first := []) (caps := []) RF Try.call109 (EvL.cons RF (EvL.cons RF EvL.nil)) (fun w1 _ => on109 w1 x hx.2 0 (by decide))) rfl ?_
      refine sq_nil ?_
      refine sx_xp SR ?_
      refine xj_gt 23 RF RF RF (by kernel_rfl) SR (y_build_arr (cells := #[.int .i64 ((lyD l (l.length - z.wide.toNat)).1 : Int), .int .i64 (ownS (lyD l (l.length - z.wide.toNat)) 2 : Int), .int .i64 (x.1 : Int), .int .i64 (ownS x 0 : Int)]) Try.underlying218 Try.zeroValue218 Try.sizeOf217 (EvP.cons RF (EvP.cons RF EvP.nil)) (by kernel_rfl)) rfl ?_
      refine xj_gt 24 RF RF RF (by kernel_rfl) SR (y_lookupV (l := ms) (kf := sK) (vf := iV) (x0 := (sdK (lyD l (l.length - z.wide.toNat)) 2, sdK x 0)) (b0 := 0) kv218.toKF (mt_ok hF hM) hM.nd (okS_sd hF (hlx _ (by omega)) hx) Try.underlying177 Try.zeroValue3 RF (fun _ hw => heap_reg hw MM (Nat.zero_le _) hmm) RF) rfl ?_
      try rw [show iV ((mvGet ms (sdK (lyD l (l.length - z.wide.toNat)) 2, sdK x 0)).getD 0) = .int .i64 (meetV z (sdK (lyD l (l.length - z.wide.toNat)) 2, sdK x 0)) from by rw [mt_get hM (hlx _ (by omega)).1 hx.1 (own_lt _ _) (own_lt _ _)]; rfl]
      refine xj_gt 25 RF RF RF (by kernel_rfl) SR (y_eql RF RF) rfl ?_
      refine xj_s 26 RF (by kernel_rfl) SR (y_pick_t RF RF) rfl ?_
      refine xj_done (by kernel_rfl) ?_
      refine sx_then ?_
      refine scp (fun hc2 => ?_) (fun hc2 => ?_)
      ·
        refine sc_seq ?_
        refine sc_region ?_
        refine qs (y_assign RF) ?_
        refine sq_nil ?_
        refine sx_then ?_
        refine sc_ret ?_
        refine sx_then_ret ?_
        refine sx_ret1 (.inl rfl) rfl Try.results87 RF ?_
        intro w' hw'
        refine ⟨?_, hw'.below MM⟩
        rw [hall]
        simp [*]
      ·
        refine sc_skip ?_
        refine sx_then ?_
        refine sc_seq ?_
        refine sc_drawR (by kernel_rfl) ?_
        refine xj_s 0 RF (by kernel_rfl) SR (y_move RF) rfl ?_
        refine xj_s 1 RF (by kernel_rfl) SR (y_eql RF RF) rfl ?_
        refine xj_s 2 RF (by kernel_rfl) SR (y_move RF) rfl ?_
        first | refine xj_splitd (tt := 93) RF (fun hg11_2 => ?_) (fun hg11_2 => ?_) | refine xj_splitn (tt := 93) RF (fun hg11_2 => ?_) (fun hg11_2 => ?_) | refine xj_split (tt := 93) RF (fun hg11_2 => ?_) (fun hg11_2 => ?_)
        ·
          refine xj_gf 3 RF RF RF rfl (by kernel_rfl) SR rfl ?_
          refine xj_gf 4 RF RF RF rfl (by kernel_rfl) SR rfl ?_
          refine xj_gf 5 RF RF RF rfl (by kernel_rfl) SR rfl ?_
          refine xj_gf 6 RF RF RF rfl (by kernel_rfl) SR rfl ?_
          refine xj_gf 7 RF RF RF rfl (by kernel_rfl) SR rfl ?_
          refine xj_gf 8 RF RF RF rfl (by kernel_rfl) SR rfl ?_
          refine xj_gf 9 RF RF RF rfl (by kernel_rfl) SR rfl ?_
          refine xj_gf 10 RF RF RF rfl (by kernel_rfl) SR rfl ?_
          refine xj_gf 11 RF RF RF rfl (by kernel_rfl) SR rfl ?_
          refine xj_gf 12 RF RF RF rfl (by kernel_rfl) SR rfl ?_
          refine xj_gf 13 RF RF RF rfl (by kernel_rfl) SR rfl ?_
          refine xj_gf 14 RF RF RF rfl (by kernel_rfl) SR rfl ?_
          refine xj_gf 15 RF RF RF rfl (by kernel_rfl) SR rfl ?_
          refine xj_gf 16 RF RF RF rfl (by kernel_rfl) SR rfl ?_
          refine xj_gf 17 RF RF RF rfl (by kernel_rfl) SR rfl ?_
          refine xj_gf 18 RF RF RF rfl (by kernel_rfl) SR rfl ?_
          refine xj_gf 19 RF RF RF rfl (by kernel_rfl) SR rfl ?_
          try rw [show iV ((mvGet ms (sdK (lyD l (l.length - 1)) 1, sdK x 3)).getD 0) = .int .i64 (meetV z (sdK (lyD l (l.length - 1)) 1, sdK x 3)) from by rw [mt_get hM (hlx _ (by omega)).1 hx.1 (own_lt _ _) (own_lt _ _)]; rfl]
          refine xj_gf 20 RF RF RF rfl (by kernel_rfl) SR rfl ?_
          refine xj_s 21 RF (by kernel_rfl) SR (y_pick_t RF RF) rfl ?_
          refine xj_s 22 RF (by kernel_rfl) SR (y_assign RF) rfl ?_
          refine xj_done (by kernel_rfl) ?_
          refine sx_then ?_
          refine sc_ret ?_
          refine sx_ret1 (.inl rfl) rfl Try.results87 RF ?_
          intro w' hw'
          refine ⟨?_, hw'.below MM⟩
          rw [hall]
          simp [*]
        ·
          refine xj_gt 3 RF RF RF (by kernel_rfl) SR (y_move RF) rfl ?_
          refine xj_gt 4 RF RF RF (by kernel_rfl) SR (y_nilCheck RF) rfl ?_
          refine xj_gt 5 RF RF RF (by kernel_rfl) SR FA179_177 rfl ?_
          refine xj_gt 6 RF RF RF (by kernel_rfl) SR LD177 rfl ?_
          refine xj_gt 7 RF RF RF (by kernel_rfl) SR (y_move RF) rfl ?_
          refine xj_gt 8 RF RF RF (by kernel_rfl) SR (y_nilCheck RF) rfl ?_
          refine xj_gt 9 RF RF RF (by kernel_rfl) SR FA179_64 rfl ?_
          refine xj_gt 10 RF RF RF (by kernel_rfl) SR LD64 rfl ?_
          refine xj_gt 11 RF RF RF (by kernel_rfl) SR (y_move RF) rfl ?_
          refine xj_gt 12 RF RF RF (by kernel_rfl) SR (y_sub RF RF (by omega)) rfl ?_
          refine xj_gt 13 RF RF RF (by kernel_rfl) SR (y_ia_el (i := l.length - 1) Try.underlying64 Try.sizeOf70 RF (ev_int RF (by omega)) (by omega) (hl.get (i := l.length - 1) (0, 0) (by omega)).1) rfl ?_
          refine xj_gt 14 RF RF RF (by kernel_rfl) SR (by first | exact y_load_ca Try.underlying70 rfl Try.sizeOf70 RF MM (hl.get (i := l.length - 1) (0, 0) (by omega)).2 rfl | exact LD70) rfl ?_
          refine xj_gt 16 RF RF RF (by kernel_rfl) SR LD70 rfl ?_
          refine xj_one 15 RF (by kernel_rfl) ?_
          refine sq_gt RF RF (y_call (first := []) (caps := []) RF Try.call109 (EvL.cons RF (EvL.cons RF EvL.nil)) (fun w1 _ => on109 w1 (lyD l (l.length - 1)) (hlx _ (by omega)).2 1 (by decide))) rfl ?_
          refine sq_nil ?_
          refine sx_xp SR ?_
          refine xj_one 17 RF (by kernel_rfl) ?_
          refine sq_gt RF RF (y_call (first := []) (caps := []) RF Try.call109 (EvL.cons RF (EvL.cons RF EvL.nil)) (fun w1 _ => on109 w1 x hx.2 3 (by decide))) rfl ?_
          refine sq_nil ?_
          refine sx_xp SR ?_
          refine xj_gt 18 RF RF RF (by kernel_rfl) SR (y_build_arr (cells := #[.int .i64 ((lyD l (l.length - 1)).1 : Int), .int .i64 (ownS (lyD l (l.length - 1)) 1 : Int), .int .i64 (x.1 : Int), .int .i64 (ownS x 3 : Int)]) Try.underlying218 Try.zeroValue218 Try.sizeOf217 (EvP.cons RF (EvP.cons RF EvP.nil)) (by kernel_rfl)) rfl ?_
          refine xj_gt 19 RF RF RF (by kernel_rfl) SR (y_lookupV (l := ms) (kf := sK) (vf := iV) (x0 := (sdK (lyD l (l.length - 1)) 1, sdK x 3)) (b0 := 0) kv218.toKF (mt_ok hF hM) hM.nd (okS_sd hF (hlx _ (by omega)) hx) Try.underlying177 Try.zeroValue3 RF (fun _ hw => heap_reg hw MM (Nat.zero_le _) hmm) RF) rfl ?_
          try rw [show iV ((mvGet ms (sdK (lyD l (l.length - 1)) 1, sdK x 3)).getD 0) = .int .i64 (meetV z (sdK (lyD l (l.length - 1)) 1, sdK x 3)) from by rw [mt_get hM (hlx _ (by omega)).1 hx.1 (own_lt _ _) (own_lt _ _)]; rfl]
          refine xj_gt 20 RF RF RF (by kernel_rfl) SR (y_neq RF RF) rfl ?_
          refine xj_s 21 RF (by kernel_rfl) SR (y_pick_f RF RF) rfl ?_
          refine xj_s 22 RF (by kernel_rfl) SR (y_assign RF) rfl ?_
          refine xj_done (by kernel_rfl) ?_
          refine sx_then ?_
          refine sc_ret ?_
          refine sx_ret1 (.inl rfl) rfl Try.results87 RF ?_
          intro w' hw'
          refine ⟨?_, hw'.below MM⟩
          rw [hall]
          simp [*]
    ·
      refine xj_gf 3 RF RF RF rfl (by kernel_rfl) SR rfl ?_
      refine xj_gf 4 RF RF RF rfl (by kernel_rfl) SR rfl ?_
      refine xj_gf 5 RF RF RF rfl (by kernel_rfl) SR rfl ?_
      refine xj_gf 6 RF RF RF rfl (by kernel_rfl) SR rfl ?_
      refine xj_gf 7 RF RF RF rfl (by kernel_rfl) SR rfl ?_
      refine xj_gf 8 RF RF RF rfl (by kernel_rfl) SR rfl ?_
      refine xj_gf 9 RF RF RF rfl (by kernel_rfl) SR rfl ?_
      refine xj_gf 10 RF RF RF rfl (by kernel_rfl) SR rfl ?_
      refine xj_gf 11 RF RF RF rfl (by kernel_rfl) SR rfl ?_
      refine xj_gf 12 RF RF RF rfl (by kernel_rfl) SR rfl ?_
      refine xj_gf 13 RF RF RF rfl (by kernel_rfl) SR rfl ?_
      refine xj_gf 14 RF RF RF rfl (by kernel_rfl) SR rfl ?_
      refine xj_gf 15 RF RF RF rfl (by kernel_rfl) SR rfl ?_
      refine xj_gf 16 RF RF RF rfl (by kernel_rfl) SR rfl ?_
      refine xj_gf 17 RF RF RF rfl (by kernel_rfl) SR rfl ?_
      refine xj_gf 18 RF RF RF rfl (by kernel_rfl) SR rfl ?_
      refine xj_gf 19 RF RF RF rfl (by kernel_rfl) SR rfl ?_
      refine xj_gf 20 RF RF RF rfl (by kernel_rfl) SR rfl ?_
      refine xj_gf 21 RF RF RF rfl (by kernel_rfl) SR rfl ?_
      refine xj_gf 22 RF RF RF rfl (by kernel_rfl) SR rfl ?_
      refine xj_gf 23 RF RF RF rfl (by kernel_rfl) SR rfl ?_
      refine xj_gf 24 RF RF RF rfl (by kernel_rfl) SR rfl ?_
      try rw [show iV ((mvGet ms (sdK (lyD l (l.length - z.wide.toNat)) 2, sdK x 0)).getD 0) = .int .i64 (meetV z (sdK (lyD l (l.length - z.wide.toNat)) 2, sdK x 0)) from by rw [mt_get hM (hlx _ (by omega)).1 hx.1 (own_lt _ _) (own_lt _ _)]; rfl]
      refine xj_gf 25 RF RF RF rfl (by kernel_rfl) SR rfl ?_
      refine xj_s 26 RF (by kernel_rfl) SR (y_pick_f RF RF) rfl ?_
      refine xj_done (by kernel_rfl) ?_
      refine sx_then ?_
      refine sc_f RF ?_
      refine sc_skip ?_
      refine sx_then ?_
      refine sc_seq ?_
      refine sc_drawR (by kernel_rfl) ?_
      refine xj_s 0 RF (by kernel_rfl) SR (y_move RF) rfl ?_
      refine xj_s 1 RF (by kernel_rfl) SR (y_eql RF RF) rfl ?_
      refine xj_s 2 RF (by kernel_rfl) SR (y_move RF) rfl ?_
      first | refine xj_splitd (tt := 93) RF (fun hg11_2 => ?_) (fun hg11_2 => ?_) | refine xj_splitn (tt := 93) RF (fun hg11_2 => ?_) (fun hg11_2 => ?_) | refine xj_split (tt := 93) RF (fun hg11_2 => ?_) (fun hg11_2 => ?_)
      ·
        refine xj_gf 3 RF RF RF rfl (by kernel_rfl) SR rfl ?_
        refine xj_gf 4 RF RF RF rfl (by kernel_rfl) SR rfl ?_
        refine xj_gf 5 RF RF RF rfl (by kernel_rfl) SR rfl ?_
        refine xj_gf 6 RF RF RF rfl (by kernel_rfl) SR rfl ?_
        refine xj_gf 7 RF RF RF rfl (by kernel_rfl) SR rfl ?_
        refine xj_gf 8 RF RF RF rfl (by kernel_rfl) SR rfl ?_
        refine xj_gf 9 RF RF RF rfl (by kernel_rfl) SR rfl ?_
        refine xj_gf 10 RF RF RF rfl (by kernel_rfl) SR rfl ?_
        refine xj_gf 11 RF RF RF rfl (by kernel_rfl) SR rfl ?_
        refine xj_gf 12 RF RF RF rfl (by kernel_rfl) SR rfl ?_
        refine xj_gf 13 RF RF RF rfl (by kernel_rfl) SR rfl ?_
        refine xj_gf 14 RF RF RF rfl (by kernel_rfl) SR rfl ?_
        refine xj_gf 15 RF RF RF rfl (by kernel_rfl) SR rfl ?_
        refine xj_gf 16 RF RF RF rfl (by kernel_rfl) SR rfl ?_
        refine xj_gf 17 RF RF RF rfl (by kernel_rfl) SR rfl ?_
        refine xj_gf 18 RF RF RF rfl (by kernel_rfl) SR rfl ?_
        refine xj_gf 19 RF RF RF rfl (by kernel_rfl) SR rfl ?_
        try rw [show iV ((mvGet ms (sdK (lyD l (l.length - 1)) 1, sdK x 3)).getD 0) = .int .i64 (meetV z (sdK (lyD l (l.length - 1)) 1, sdK x 3)) from by rw [mt_get hM (hlx _ (by omega)).1 hx.1 (own_lt _ _) (own_lt _ _)]; rfl]
        refine xj_gf 20 RF RF RF rfl (by kernel_rfl) SR rfl ?_
        refine xj_s 21 RF (by kernel_rfl) SR (y_pick_t RF RF) rfl ?_
        refine xj_s 22 RF (by kernel_rfl) SR (y_assign RF) rfl ?_
        refine xj_done (by kernel_rfl) ?_
        refine sx_then ?_
        refine sc_ret ?_
        refine sx_ret1 (.inl rfl) rfl Try.results87 RF ?_
        intro w' hw'
        refine ⟨?_, hw'.below MM⟩
        rw [hall]
        simp [*]
      ·
        refine xj_gt 3 RF RF RF (by kernel_rfl) SR (y_move RF) rfl ?_
        refine xj_gt 4 RF RF RF (by kernel_rfl) SR (y_nilCheck RF) rfl ?_
        refine xj_gt 5 RF RF RF (by kernel_rfl) SR FA179_177 rfl ?_
        refine xj_gt 6 RF RF RF (by kernel_rfl) SR LD177 rfl ?_
        refine xj_gt 7 RF RF RF (by kernel_rfl) SR (y_move RF) rfl ?_
        refine xj_gt 8 RF RF RF (by kernel_rfl) SR (y_nilCheck RF) rfl ?_
        refine xj_gt 9 RF RF RF (by kernel_rfl) SR FA179_64 rfl ?_
        refine xj_gt 10 RF RF RF (by kernel_rfl) SR LD64 rfl ?_
        refine xj_gt 11 RF RF RF (by kernel_rfl) SR (y_move RF) rfl ?_
        refine xj_gt 12 RF RF RF (by kernel_rfl) SR (y_sub RF RF (by omega)) rfl ?_
        refine xj_gt 13 RF RF RF (by kernel_rfl) SR (y_ia_el (i := l.length - 1) Try.underlying64 Try.sizeOf70 RF (ev_int RF (by omega)) (by omega) (hl.get (i := l.length - 1) (0, 0) (by omega)).1) rfl ?_
        refine xj_gt 14 RF RF RF (by kernel_rfl) SR (by first | exact y_load_ca Try.underlying70 rfl Try.sizeOf70 RF MM (hl.get (i := l.length - 1) (0, 0) (by omega)).2 rfl | exact LD70) rfl ?_
        refine xj_gt 16 RF RF RF (by kernel_rfl) SR LD70 rfl ?_
        refine xj_one 15 RF (by kernel_rfl) ?_
        refine sq_gt RF RF (y_call (first := []) (caps := []) RF Try.call109 (EvL.cons RF (EvL.cons RF EvL.nil)) (fun w1 _ => on109 w1 (lyD l (l.length - 1)) (hlx _ (by omega)).2 1 (by decide))) rfl ?_
        refine sq_nil ?_
        refine sx_xp SR ?_
        refine xj_one 17 RF (by kernel_rfl) ?_
        refine sq_gt RF RF (y_call (first := []) (caps := []) RF Try.call109 (EvL.cons RF (EvL.cons RF EvL.nil)) (fun w1 _ => on109 w1 x hx.2 3 (by decide))) rfl ?_
        refine sq_nil ?_
        refine sx_xp SR ?_
        refine xj_gt 18 RF RF RF (by kernel_rfl) SR (y_build_arr (cells := #[.int .i64 ((lyD l (l.length - 1)).1 : Int), .int .i64 (ownS (lyD l (l.length - 1)) 1 : Int), .int .i64 (x.1 : Int), .int .i64 (ownS x 3 : Int)]) Try.underlying218 Try.zeroValue218 Try.sizeOf217 (EvP.cons RF (EvP.cons RF EvP.nil)) (by kernel_rfl)) rfl ?_
        refine xj_gt 19 RF RF RF (by kernel_rfl) SR (y_lookupV (l := ms) (kf := sK) (vf := iV) (x0 := (sdK (lyD l (l.length - 1)) 1, sdK x 3)) (b0 := 0) kv218.toKF (mt_ok hF hM) hM.nd (okS_sd hF (hlx _ (by omega)) hx) Try.underlying177 Try.zeroValue3 RF (fun _ hw => heap_reg hw MM (Nat.zero_le _) hmm) RF) rfl ?_
        try rw [show iV ((mvGet ms (sdK (lyD l (l.length - 1)) 1, sdK x 3)).getD 0) = .int .i64 (meetV z (sdK (lyD l (l.length - 1)) 1, sdK x 3)) from by rw [mt_get hM (hlx _ (by omega)).1 hx.1 (own_lt _ _) (own_lt _ _)]; rfl]
        refine xj_gt 20 RF RF RF (by kernel_rfl) SR (y_neq RF RF) rfl ?_
        refine xj_s 21 RF (by kernel_rfl) SR (y_pick_f RF RF) rfl ?_
        refine xj_s 22 RF (by kernel_rfl) SR (y_assign RF) rfl ?_
        refine xj_done (by kernel_rfl) ?_
        refine sx_then ?_
        refine sc_ret ?_
        refine sx_ret1 (.inl rfl) rfl Try.results87 RF ?_
        intro w' hw'
        refine ⟨?_, hw'.below MM⟩
        rw [hall]
        simp [*]
theorem solutions48 (w : World) (pb : Addr) : Calls Try.prog 48 #[.pointer (some pb), .slice none 0 0] w fun e w' => ∃ q : Addr × Addr, e = .returned (.func (.func 83) #[] #[.pointer (some q.1), .pointer (some q.2)]) ∧ Below w.heap.size w w' ∧ (CA w.heap.size w' q.1 [.pointer (some pb)] ∧ CA w.heap.size w' q.2 [.slice none 0 0]) := by
  refine calls_of_SC (args := [.pointer (some pb), .slice none 0 0]) Try.func48 rfl Try.ntmps48 rfl ?_
  simp only [argL, Nat.zero_add]
  refine sc_seq ?_
  refine sc_region ?_
  refine sq_box RF rfl (fun b2 => ?_)
  refine sq_box RF rfl (fun b3 => ?_)
  refine qs (y_assign RF) ?_
  refine sq_nil ?_
  refine sx_then ?_
  refine sc_seq ?_
  refine sc_region ?_
  refine qs (y_makeFunc EvL.nil (EvL.cons RF (EvL.cons RF EvL.nil))) ?_
  refine qs (y_assign RF) ?_
  refine sq_nil ?_
  refine sx_then ?_
  refine sc_ret ?_
  refine sx_ret1 (.inl rfl) rfl Try.results48 RF ?_
  intro w' hw'
  exact ⟨(⟨b2, 0, none⟩, ⟨b3, 0, none⟩), rfl, hw'.below MM, ⟨blk_new hw' RM MM, (CA.blk (vs := [.pointer (some pb)]) hw' MM).2⟩, ⟨blk_new hw' RM MM, (CA.blk (vs := [.slice none 0 0]) hw' MM).2⟩⟩
end Go.Proofs.Ytfceajkofpafpaa
