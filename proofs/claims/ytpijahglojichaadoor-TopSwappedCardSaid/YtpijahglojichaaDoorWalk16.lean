/- The walks of the sample, and of awake. -/
import Derived.Test.YtpijahglojichaaDoorWalk10
import Derived.Test.YtpijahglojichaaDoorWalk12
import Derived.Test.YtpijahglojichaaDoorWalk15
namespace Go.Proofs.YtpijahglojichaaDoor
open Go Go.Eng Go.RowKit Go.Proofs
set_option maxRecDepth 100000
def smpM : Mt := [[0, 5, 3, 0], [2, 0, 4, 0], [6, 0, 0, 1], [0, 7, 0, 0]]
theorem rows_up {α : Type} {row : α → List Value} {sz lo : Nat} {w : World} {b : Nat} {l : List α} (h : RowsA row sz 0 w (some ⟨b, 0, none⟩) l) (hb : lo ≤ b) : RowsA row sz lo w (some ⟨b, 0, none⟩) l := ⟨fun i x hi => ⟨(h.el i x hi).1, by simpa [elt, Addr.add_block] using hb, (h.el i x hi).2.2⟩, h.len⟩
def wRow (v : Value) : List Value := [v]
theorem LsA.lit {lo : Nat} {w : World} {b : Nat} {f : Nat → Option Addr} {cf : Nat → Nat} {l : List (List Int)} (cs : List Value) (h : RowsA wRow 1 lo w (some ⟨b, 0, none⟩) cs) (hc : ∀ i r, l[i]? = some r → cs[i]? = some (.slice (f i) r.length (cf i)) ∧ RowsA iRow 1 lo w (f i) r) (hl : l.length ≤ 9223372036854775807) : LsA lo w (some ⟨b, 0, none⟩) f cf l := ⟨fun i r hi => ⟨rfl, (h.el i _ (hc i r hi).1).2, (hc i r hi).2⟩, hl⟩
theorem smp_best : bestA smpM = ([1, 2, 0, 3], 15, 0) := by decide +kernel
theorem smp_price : priceA smpM = ([3, 7, 5, 0], 0) := by decide +kernel
theorem smp_gives : givesR smpM [2, 0, 3, 1] = (13, 0, 0) := by decide +kernel
theorem smp_unfair : givesR smpM [1, 0, 3, 2] = (0, 3, 11) := by decide +kernel
theorem smp_rings : ringsR [1, 0, 3, 2] = ([[0, 1], [2, 3]], 0) := by decide +kernel
theorem smp_env : envR smpM [1, 2, 0, 3] [0, 0, 0, 0] = (3, 1, 0) := by decide +kernel
theorem smp_short : shortA smpM 2 = ([2, 1, 0, 3], 9, 0) := by decide +kernel
theorem best23p (w : World) (z : MA) (hz : MtA 0 w z smpM) (hT : TabAt w) : Calls Tryd.prog 23 #[.agg (mV z smpM).toArray] w fun e w' => ∃ y : Option Addr × Nat, e = .returned (.tuple #[.slice y.1 4 y.2, .int .i64 15, .int .i64 0]) ∧ Below w.heap.size w w' ∧ RowsA iRow 1 w.heap.size w' y.1 [1, 2, 0, 3] := by
  have h := Best23 w z smpM hz hT
  rw [smp_best] at h; exact h
theorem price25p (w : World) (z : MA) (hz : MtA 0 w z smpM) (hT : TabAt w) : Calls Tryd.prog 25 #[.agg (mV z smpM).toArray] w fun e w' => ∃ y : Option Addr × Nat, e = .returned (.tuple #[.slice y.1 4 y.2, .int .i64 0]) ∧ Below w.heap.size w w' ∧ RowsA iRow 1 w.heap.size w' y.1 [3, 7, 5, 0] := by
  have h := Prices25 w z smpM hz hT
  rw [smp_price] at h; exact h
theorem gives16p (w : World) (z : MA) (hz : MtA 0 w z smpM) (a : Option Addr) (c : Nat) (ho : RowsA iRow 1 0 w a [2, 0, 3, 1]) : Calls Tryd.prog 16 #[.agg (mV z smpM).toArray, .slice a 4 c] w fun e w' => e = .returned (.tuple #[.int .i64 13, .int .i64 0, .int .i64 0]) ∧ Below w.heap.size w w' := by
  have h := Gives16 w z smpM hz a c [2, 0, 3, 1] ho (by decide)
  rw [smp_gives] at h; exact h
theorem gives16q (w : World) (z : MA) (hz : MtA 0 w z smpM) (a : Option Addr) (c : Nat) (ho : RowsA iRow 1 0 w a [1, 0, 3, 2]) : Calls Tryd.prog 16 #[.agg (mV z smpM).toArray, .slice a 4 c] w fun e w' => e = .returned (.tuple #[.int .i64 0, .int .i64 3, .int .i64 11]) ∧ Below w.heap.size w w' := by
  have h := Gives16 w z smpM hz a c [1, 0, 3, 2] ho (by decide)
  rw [smp_unfair] at h; exact h
theorem rings18p (w : World) (a : Option Addr) (c : Nat) (ho : RowsA iRow 1 0 w a [1, 0, 3, 2]) : Calls Tryd.prog 18 #[.slice a 4 c] w fun e w' => ∃ q : (Option Addr × Nat) × (Nat → Option Addr) × (Nat → Nat), e = .returned (.tuple #[.slice q.1.1 2 q.1.2, .int .i64 0]) ∧ Below w.heap.size w w' ∧ LsA w.heap.size w' q.1.1 q.2.1 q.2.2 [[0, 1], [2, 3]] := by
  have h := Rings18 w a c [1, 0, 3, 2] ho (by decide)
  rw [smp_rings] at h; exact h
theorem env20p (w : World) (z : MA) (hz : MtA 0 w z smpM) (a : Option Addr) (c : Nat) (ho : RowsA iRow 1 0 w a [1, 2, 0, 3]) (ap : Option Addr) (cp : Nat) (hp : RowsA iRow 1 0 w ap [0, 0, 0, 0]) : Calls Tryd.prog 20 #[.agg (mV z smpM).toArray, .slice a 4 c, .slice ap 4 cp] w fun e w' => e = .returned (.tuple #[.int .i64 3, .int .i64 1, .int .i64 0]) ∧ Below w.heap.size w w' := by
  have h := Envies20 w z smpM hz a c [1, 2, 0, 3] ho (by decide) ap cp [0, 0, 0, 0] hp
  rw [smp_env] at h; exact h
theorem short28p (w : World) (z : MA) (hz : MtA 0 w z smpM) (hT : TabAt w) : Calls Tryd.prog 28 #[.agg (mV z smpM).toArray, .int .i64 2] w fun e w' => ∃ y : Option Addr × Nat, e = .returned (.tuple #[.slice y.1 4 y.2, .int .i64 9, .int .i64 0]) ∧ Below w.heap.size w w' ∧ RowsA iRow 1 w.heap.size w' y.1 [2, 1, 0, 3] := by
  have h := Short28 w z smpM hz hT 2
  rw [smp_short] at h; exact h

theorem sample40 (w : World) : Calls Tryd.prog 40 #[] w fun e w' => ∃ z : MA, e = .returned (.agg (mV z smpM).toArray) ∧ Below w.heap.size w w' ∧ MtA w.heap.size w' z smpM := by
  refine calls_of_SC (args := []) Tryd.func40 rfl Tryd.ntmps40 rfl ?_
  simp only [argL]
  refine sc_seq ?_
  refine sc_region ?_
  refine sq_alloc Tryd.zeroValue24 rfl (fun b0 => ?_)
  refine sq_nil ?_
  refine sx_then ?_
  refine sc_seq ?_
  refine sc_region ?_
  refine sq_bs Tryd.underlying25 ei3 (EvI.cons RF (EvI.cons RF (EvI.cons RF (EvI.cons RF EvI.nil)))) (by first | (simp [Value.cells]; done) | (simp [Value.cells]; rfl) | (simp [Value.cells]; and_intros <;> rfl)) rfl rfl rfl (fun b1 => ?_)
  refine sq_bs Tryd.underlying25 ei3 (EvI.cons RF (EvI.cons RF (EvI.cons RF (EvI.cons RF EvI.nil)))) (by first | (simp [Value.cells]; done) | (simp [Value.cells]; rfl) | (simp [Value.cells]; and_intros <;> rfl)) rfl rfl rfl (fun b2 => ?_)
  refine sq_bs Tryd.underlying25 ei3 (EvI.cons RF (EvI.cons RF (EvI.cons RF (EvI.cons RF EvI.nil)))) (by first | (simp [Value.cells]; done) | (simp [Value.cells]; rfl) | (simp [Value.cells]; and_intros <;> rfl)) rfl rfl rfl (fun b3 => ?_)
  refine sq_bs Tryd.underlying25 ei3 (EvI.cons RF (EvI.cons RF (EvI.cons RF (EvI.cons RF EvI.nil)))) (by first | (simp [Value.cells]; done) | (simp [Value.cells]; rfl) | (simp [Value.cells]; and_intros <;> rfl)) rfl rfl rfl (fun b4 => ?_)
  refine sq_bs Tryd.underlying22 ei25 (EvI.cons RF (EvI.cons RF (EvI.cons RF (EvI.cons RF EvI.nil)))) (by first | (simp [Value.cells]; done) | (simp [Value.cells]; rfl) | (simp [Value.cells]; and_intros <;> rfl)) rfl rfl rfl (fun b5 => ?_)
  refine qs (y_build (cells := #[.slice (some ⟨b5, 0, none⟩) 4 4]) bt24 (EvP.cons RF EvP.nil) (by kernel_rfl)) ?_
  refine sq_store_all Tryd.sizeOf24 RF RF rfl RM rfl rfl ?_
  refine sq_nil ?_
  refine sx_then ?_
  refine sc_ret ?_
  refine sx_retc (.inl rfl) rfl Tryd.results40 Tryd.underlying24 rfl Tryd.sizeOf24 RF MM rfl ?_
  intro w' hw'
  have h1 : RowsA iRow 1 w.heap.size w' (some ⟨b1, 0, none⟩) [0, 5, 3, 0] := rows_up (lit_rowsA (row := iRow) (l := [0, 5, 3, 0]) (fun _ => rfl) hw' (g := b1) MM rfl (Nat.le_of_ble_eq_true rfl)) (blk_new hw' RM MM)
  have h2 : RowsA iRow 1 w.heap.size w' (some ⟨b2, 0, none⟩) [2, 0, 4, 0] := rows_up (lit_rowsA (row := iRow) (l := [2, 0, 4, 0]) (fun _ => rfl) hw' (g := b2) MM rfl (Nat.le_of_ble_eq_true rfl)) (blk_new hw' RM MM)
  have h3 : RowsA iRow 1 w.heap.size w' (some ⟨b3, 0, none⟩) [6, 0, 0, 1] := rows_up (lit_rowsA (row := iRow) (l := [6, 0, 0, 1]) (fun _ => rfl) hw' (g := b3) MM rfl (Nat.le_of_ble_eq_true rfl)) (blk_new hw' RM MM)
  have h4 : RowsA iRow 1 w.heap.size w' (some ⟨b4, 0, none⟩) [0, 7, 0, 0] := rows_up (lit_rowsA (row := iRow) (l := [0, 7, 0, 0]) (fun _ => rfl) hw' (g := b4) MM rfl (Nat.le_of_ble_eq_true rfl)) (blk_new hw' RM MM)
  have h5 : RowsA wRow 1 w.heap.size w' (some ⟨b5, 0, none⟩) [Value.slice (some ⟨b1, 0, none⟩) 4 4, Value.slice (some ⟨b2, 0, none⟩) 4 4, Value.slice (some ⟨b3, 0, none⟩) 4 4, Value.slice (some ⟨b4, 0, none⟩) 4 4] := rows_up (lit_rowsA (row := wRow) (l := [Value.slice (some ⟨b1, 0, none⟩) 4 4, Value.slice (some ⟨b2, 0, none⟩) 4 4, Value.slice (some ⟨b3, 0, none⟩) 4 4, Value.slice (some ⟨b4, 0, none⟩) 4 4]) (fun _ => rfl) hw' (g := b5) MM rfl (Nat.le_of_ble_eq_true rfl)) (blk_new hw' RM MM)
  refine ⟨⟨some ⟨b5, 0, none⟩, 4, fun i => match i with | 0 => some ⟨b1, 0, none⟩ | 1 => some ⟨b2, 0, none⟩ | 2 => some ⟨b3, 0, none⟩ | _ => some ⟨b4, 0, none⟩, fun _ => 4⟩, rfl, hw'.below MM, LsA.lit _ h5 ?_ (by decide)⟩
  intro i r hi
  rcases i with _ | _ | _ | _ | i
  · obtain rfl : [0, 5, 3, 0] = r := by simpa [smpM] using hi
    exact ⟨rfl, h1⟩
  · obtain rfl : [2, 0, 4, 0] = r := by simpa [smpM] using hi
    exact ⟨rfl, h2⟩
  · obtain rfl : [6, 0, 0, 1] = r := by simpa [smpM] using hi
    exact ⟨rfl, h3⟩
  · obtain rfl : [0, 7, 0, 0] = r := by simpa [smpM] using hi
    exact ⟨rfl, h4⟩
  · simp [smpM] at hi
theorem rings_lit {w0 w : World} {rs : List Res} (hw : Hp w0 rs w) {b b1 b2 : Nat} {f0 f1 f2 : Nat × Nat} {e0 e1 e2 : TypeId} (h : Res.blk b (.cells [Value.slice (some ⟨b1, 0, none⟩) 2 2, Value.slice (some ⟨b2, 0, none⟩) 2 2].toArray e0 f0) ∈ rs) (h1 : Res.blk b1 (.cells [Value.int .i64 0, Value.int .i64 1].toArray e1 f1) ∈ rs) (h2 : Res.blk b2 (.cells [Value.int .i64 2, Value.int .i64 3].toArray e2 f2) ∈ rs) : LsA 0 w (some ⟨b, 0, none⟩) (fun i => match i with | 0 => some ⟨b1, 0, none⟩ | _ => some ⟨b2, 0, none⟩) (fun _ => 2) [[0, 1], [2, 3]] := by
  refine LsA.lit _ (lit_rowsA (row := wRow) (l := [Value.slice (some ⟨b1, 0, none⟩) 2 2, Value.slice (some ⟨b2, 0, none⟩) 2 2]) (fun _ => rfl) hw h rfl (Nat.le_of_ble_eq_true rfl)) ?_ (by decide)
  intro i r hi
  rcases i with _ | _ | i
  · obtain rfl : [0, 1] = r := by simpa using hi
    exact ⟨rfl, lit_rowsA (row := iRow) (l := [0, 1]) (fun _ => rfl) hw h1 rfl (by decide)⟩
  · obtain rfl : [2, 3] = r := by simpa using hi
    exact ⟨rfl, lit_rowsA (row := iRow) (l := [2, 3]) (fun _ => rfl) hw h2 rfl (by decide)⟩
  · simp at hi
theorem awake15 (w : World) (hT : TabAt w) : Calls Tryd.prog 15 #[] w fun e w' => e = .returned (.bool true) ∧ Below w.heap.size w w' := by
  refine calls_of_SC (args := []) Tryd.func15 rfl Tryd.ntmps15 rfl ?_
  simp only [argL]
  refine sc_seq ?_
  refine sc_region ?_
  refine qs (y_assign RF) ?_
  refine sq_nil ?_
  refine sx_then ?_
  refine sc_seq ?_
  refine sc_region ?_
  refine sq_call_new (first := []) (caps := []) (Z := MA) (fun z => .agg (mV z smpM).toArray) (fun lo w' z => MtA lo w' z smpM) RF Tryd.call40 EvL.nil (fun w1 _ => sample40 w1) rfl (fun lo1 wr1 z1 hz1 => ?_)
  refine sq_alloc Tryd.zeroValue24 rfl (fun b1 => ?_)
  refine sq_store_all Tryd.sizeOf24 RF RF rfl RM rfl rfl ?_
  refine sq_nil ?_
  refine sx_then ?_
  refine sc_seq ?_
  refine sc_region ?_
  refine qs LD24 ?_
  refine sq_call_new (first := []) (caps := []) (Z := Option Addr × Nat) (fun z => .tuple #[.slice z.1 4 z.2, .int .i64 15, .int .i64 0]) (fun lo w' z => RowsA iRow 1 lo w' z.1 [1, 2, 0, 3]) RF Tryd.call23 (EvL.cons RF EvL.nil) (fun w1 hw1 => best23p w1 z1 (hz1.at hw1 MM) (CA.at hT hw1 MM)) rfl (fun lo2 wr2 z2 hz2 => ?_)
  refine qs (y_move RF) ?_
  refine qs (y_extract RF RF) ?_
  refine qs (y_extract RF RF) ?_
  refine qs (y_extract RF RF) ?_
  refine qs (y_assign RF) ?_
  refine qs (y_assign RF) ?_
  refine qs (y_assign RF) ?_
  refine sq_nil ?_
  refine sx_then ?_
  refine sc_seq ?_
  refine sc_region ?_
  refine qs LD24 ?_
  refine sq_call_new (first := []) (caps := []) (Z := Option Addr × Nat) (fun z => .tuple #[.slice z.1 4 z.2, .int .i64 0]) (fun lo w' z => RowsA iRow 1 lo w' z.1 [3, 7, 5, 0]) RF Tryd.call25 (EvL.cons RF EvL.nil) (fun w1 hw1 => price25p w1 z1 (hz1.at hw1 MM) (CA.at hT hw1 MM)) rfl (fun lo3 wr3 z3 hz3 => ?_)
  refine qs (y_move RF) ?_
  refine qs (y_extract RF RF) ?_
  refine qs (y_extract RF RF) ?_
  refine qs (y_assign RF) ?_
  refine qs (y_assign RF) ?_
  refine sq_nil ?_
  refine sx_then ?_
  refine sc_seq ?_
  refine sc_region ?_
  refine qs LD24 ?_
  refine sq_bs Tryd.underlying25 ei3 (EvI.cons RF (EvI.cons RF (EvI.cons RF (EvI.cons RF EvI.nil)))) (by first | (simp [Value.cells]; done) | (simp [Value.cells]; rfl) | (simp [Value.cells]; and_intros <;> rfl)) rfl rfl rfl (fun b35 => ?_)
  refine qy (yc Tryd.call16 E2 (fun w1 hw1 => gives16p w1 z1 (hz1.at hw1 MM) _ _ (lit_rowsA (row := iRow) (l := [2, 0, 3, 1]) (fun _ => rfl) hw1 (g := b35) MM rfl (Nat.le_of_ble_eq_true rfl)))) ?_
  refine qs (y_move RF) ?_
  refine qs (y_extract RF RF) ?_
  refine qs (y_extract RF RF) ?_
  refine qs (y_extract RF RF) ?_
  refine qs (y_assign RF) ?_
  refine qs (y_assign RF) ?_
  refine qs (y_assign RF) ?_
  refine sq_nil ?_
  refine sx_then ?_
  refine sc_seq ?_
  refine sc_region ?_
  refine qs LD24 ?_
  refine sq_bs Tryd.underlying25 ei3 (EvI.cons RF (EvI.cons RF (EvI.cons RF (EvI.cons RF EvI.nil)))) (by first | (simp [Value.cells]; done) | (simp [Value.cells]; rfl) | (simp [Value.cells]; and_intros <;> rfl)) rfl rfl rfl (fun b42 => ?_)
  refine qy (yc Tryd.call16 E2 (fun w1 hw1 => gives16q w1 z1 (hz1.at hw1 MM) _ _ (lit_rowsA (row := iRow) (l := [1, 0, 3, 2]) (fun _ => rfl) hw1 (g := b42) MM rfl (Nat.le_of_ble_eq_true rfl)))) ?_
  refine qs (y_move RF) ?_
  refine qs (y_extract RF RF) ?_
  refine qs (y_extract RF RF) ?_
  refine qs (y_extract RF RF) ?_
  refine qs (y_assign RF) ?_
  refine qs (y_assign RF) ?_
  refine qs (y_assign RF) ?_
  refine sq_nil ?_
  refine sx_then ?_
  refine sc_seq ?_
  refine sc_region ?_
  refine sq_bs Tryd.underlying25 ei3 (EvI.cons RF (EvI.cons RF (EvI.cons RF (EvI.cons RF EvI.nil)))) (by first | (simp [Value.cells]; done) | (simp [Value.cells]; rfl) | (simp [Value.cells]; and_intros <;> rfl)) rfl rfl rfl (fun b48 => ?_)
  refine sq_call_new (first := []) (caps := []) (Z := (Option Addr × Nat) × (Nat → Option Addr) × (Nat → Nat)) (fun q => .tuple #[.slice q.1.1 2 q.1.2, .int .i64 0]) (fun lo w' q => LsA lo w' q.1.1 q.2.1 q.2.2 [[0, 1], [2, 3]]) RF Tryd.call18 (EvL.cons RF EvL.nil) (fun w1 hw1 => rings18p w1 _ _ (lit_rowsA (row := iRow) (l := [1, 0, 3, 2]) (fun _ => rfl) hw1 (g := b48) MM rfl (Nat.le_of_ble_eq_true rfl))) rfl (fun lo6 wr6 q6 hq6 => ?_)
  refine qs (y_move RF) ?_
  refine qs (y_extract RF RF) ?_
  refine qs (y_extract RF RF) ?_
  refine qs (y_assign RF) ?_
  refine qs (y_assign RF) ?_
  refine sq_nil ?_
  refine sx_then ?_
  refine sc_seq ?_
  refine sc_region ?_
  refine qs LD24 ?_
  refine qs (y_move RF) ?_
  refine sq_bs Tryd.underlying25 ei3 (EvI.cons RF (EvI.cons RF (EvI.cons RF (EvI.cons RF EvI.nil)))) (by first | (simp [Value.cells]; done) | (simp [Value.cells]; rfl) | (simp [Value.cells]; and_intros <;> rfl)) rfl rfl rfl (fun b55 => ?_)
  refine qy (yc Tryd.call20 E3 (fun w1 hw1 => env20p w1 z1 (hz1.at hw1 MM) _ _ (hz2.at hw1 MM) _ _ (lit_rowsA (row := iRow) (l := [0, 0, 0, 0]) (fun _ => rfl) hw1 (g := b55) MM rfl (Nat.le_of_ble_eq_true rfl)))) ?_
  refine qs (y_move RF) ?_
  refine qs (y_extract RF RF) ?_
  refine qs (y_extract RF RF) ?_
  refine qs (y_extract RF RF) ?_
  refine qs (y_assign RF) ?_
  refine qs (y_assign RF) ?_
  refine qs (y_assign RF) ?_
  refine sq_nil ?_
  refine sx_then ?_
  refine sc_seq ?_
  refine sc_region ?_
  refine qs LD24 ?_
  refine sq_call_new (first := []) (caps := []) (Z := Option Addr × Nat) (fun z => .tuple #[.slice z.1 4 z.2, .int .i64 9, .int .i64 0]) (fun lo w' z => RowsA iRow 1 lo w' z.1 [2, 1, 0, 3]) RF Tryd.call28 (EvL.cons RF (EvL.cons RF EvL.nil)) (fun w1 hw1 => short28p w1 z1 (hz1.at hw1 MM) (CA.at hT hw1 MM)) rfl (fun lo8 wr8 z8 hz8 => ?_)
  refine qs (y_move RF) ?_
  refine qs (y_extract RF RF) ?_
  refine qs (y_extract RF RF) ?_
  refine qs (y_extract RF RF) ?_
  refine qs (y_assign RF) ?_
  refine qs (y_assign RF) ?_
  refine qs (y_assign RF) ?_
  refine sq_nil ?_
  refine sx_then ?_
  refine sc_seq ?_
  refine sc_region ?_
  refine qs (y_move RF) ?_
  refine sq_bs Tryd.underlying25 ei3 (EvI.cons RF (EvI.cons RF (EvI.cons RF (EvI.cons RF EvI.nil)))) (by first | (simp [Value.cells]; done) | (simp [Value.cells]; rfl) | (simp [Value.cells]; and_intros <;> rfl)) rfl rfl rfl (fun b67 => ?_)
  refine qy (yc Tryd.call27 E2 (fun w1 hw1 => ints27 w1 z2.1 _ z2.2 4 [1, 2, 0, 3] [1, 2, 0, 3] (hz2.at hw1 MM) (lit_rowsA (row := iRow) (l := [1, 2, 0, 3]) (fun _ => rfl) hw1 (g := b67) MM rfl (Nat.le_of_ble_eq_true rfl)))) ?_
  refine qs (y_move RF) ?_
  refine sq_known (tt := 69) (b' := true) RF (by first | rfl | decide) ?_
  refine qg (y_move RF) ?_
  refine qg (y_eql RF RF) ?_
  refine qs (y_pick_t RF RF) ?_
  refine qs (y_move RF) ?_
  refine sq_known (tt := 73) (b' := true) RF (by first | rfl | decide) ?_
  refine qg (y_move RF) ?_
  refine qg (y_eql RF RF) ?_
  refine qs (y_pick_t RF RF) ?_
  refine qs (y_move RF) ?_
  refine sq_known (tt := 77) (b' := true) RF (by first | rfl | decide) ?_
  refine qg (y_move RF) ?_
  refine sq_guard RF RF ?_
  refine sq_bs Tryd.underlying25 ei3 (EvI.cons RF (EvI.cons RF (EvI.cons RF (EvI.cons RF EvI.nil)))) (by first | (simp [Value.cells]; done) | (simp [Value.cells]; rfl) | (simp [Value.cells]; and_intros <;> rfl)) rfl rfl rfl (fun b79 => ?_)
  refine sq_gt RF RF (y_call (first := []) (caps := []) RF Tryd.call27 (EvL.cons RF (EvL.cons RF EvL.nil)) (fun w1 hw1 => ints27 w1 z3.1 _ z3.2 4 [3, 7, 5, 0] [3, 7, 5, 0] (hz3.at hw1 MM) (lit_rowsA (row := iRow) (l := [3, 7, 5, 0]) (fun _ => rfl) hw1 (g := b79) MM rfl (Nat.le_of_ble_eq_true rfl)))) rfl ?_
  refine qs (y_pick_t RF RF) ?_
  refine qs (y_move RF) ?_
  refine sq_known (tt := 82) (b' := true) RF (by first | rfl | decide) ?_
  refine qg (y_move RF) ?_
  refine qg (y_eql RF RF) ?_
  refine qs (y_pick_t RF RF) ?_
  refine qs (y_move RF) ?_
  refine sq_known (tt := 86) (b' := true) RF (by first | rfl | decide) ?_
  refine qg (y_move RF) ?_
  refine qg (y_eql RF RF) ?_
  refine qs (y_pick_t RF RF) ?_
  refine qs (y_move RF) ?_
  refine sq_known (tt := 90) (b' := true) RF (by first | rfl | decide) ?_
  refine qg (y_move RF) ?_
  refine qg (y_eql RF RF) ?_
  refine qs (y_pick_t RF RF) ?_
  refine qs (y_move RF) ?_
  refine sq_known (tt := 94) (b' := true) RF (by first | rfl | decide) ?_
  refine qg (y_move RF) ?_
  refine qg (y_eql RF RF) ?_
  refine qs (y_pick_t RF RF) ?_
  refine qs (y_move RF) ?_
  refine sq_known (tt := 98) (b' := true) RF (by first | rfl | decide) ?_
  refine qg (y_move RF) ?_
  refine qg (y_eql RF RF) ?_
  refine qs (y_pick_t RF RF) ?_
  refine qs (y_move RF) ?_
  refine sq_known (tt := 102) (b' := true) RF (by first | rfl | decide) ?_
  refine qg (y_move RF) ?_
  refine sq_guard RF RF ?_
  refine sq_bs Tryd.underlying25 ei3 (EvI.cons RF (EvI.cons RF EvI.nil)) (by first | (simp [Value.cells]; done) | (simp [Value.cells]; rfl) | (simp [Value.cells]; and_intros <;> rfl)) rfl rfl rfl (fun b104 => ?_)
  refine sq_guard RF RF ?_
  refine sq_bs Tryd.underlying25 ei3 (EvI.cons RF (EvI.cons RF EvI.nil)) (by first | (simp [Value.cells]; done) | (simp [Value.cells]; rfl) | (simp [Value.cells]; and_intros <;> rfl)) rfl rfl rfl (fun b105 => ?_)
  refine sq_guard RF RF ?_
  refine sq_bs Tryd.underlying22 ei25 (EvI.cons RF (EvI.cons RF EvI.nil)) (by first | (simp [Value.cells]; done) | (simp [Value.cells]; rfl) | (simp [Value.cells]; and_intros <;> rfl)) rfl rfl rfl (fun b106 => ?_)
  refine sq_gt RF RF (y_call (first := []) (caps := []) RF Tryd.call22 (EvL.cons RF (EvL.cons RF EvL.nil)) (fun w1 hw1 => lists22 w1 q6.1.1 (some ⟨b106, 0, none⟩) q6.1.2 2 q6.2.1 _ q6.2.2 _ [[0, 1], [2, 3]] [[0, 1], [2, 3]] (hq6.at hw1 MM) (rings_lit hw1 (b1 := b104) (b2 := b105) MM MM MM))) rfl ?_
  refine qs (y_pick_t RF RF) ?_
  refine qs (y_move RF) ?_
  refine sq_known (tt := 109) (b' := true) RF (by first | rfl | decide) ?_
  refine qg (y_move RF) ?_
  refine qg (y_eql RF RF) ?_
  refine qs (y_pick_t RF RF) ?_
  refine qs (y_move RF) ?_
  refine sq_known (tt := 113) (b' := true) RF (by first | rfl | decide) ?_
  refine qg (y_move RF) ?_
  refine qg (y_eql RF RF) ?_
  refine qs (y_pick_t RF RF) ?_
  refine qs (y_move RF) ?_
  refine sq_known (tt := 117) (b' := true) RF (by first | rfl | decide) ?_
  refine qg (y_move RF) ?_
  refine qg (y_eql RF RF) ?_
  refine qs (y_pick_t RF RF) ?_
  refine qs (y_move RF) ?_
  refine sq_known (tt := 121) (b' := true) RF (by first | rfl | decide) ?_
  refine qg (y_move RF) ?_
  refine qg (y_eql RF RF) ?_
  refine qs (y_pick_t RF RF) ?_
  refine qs (y_move RF) ?_
  refine sq_known (tt := 125) (b' := true) RF (by first | rfl | decide) ?_
  refine qg (y_move RF) ?_
  refine sq_guard RF RF ?_
  refine sq_bs Tryd.underlying25 ei3 (EvI.cons RF (EvI.cons RF (EvI.cons RF (EvI.cons RF EvI.nil)))) (by first | (simp [Value.cells]; done) | (simp [Value.cells]; rfl) | (simp [Value.cells]; and_intros <;> rfl)) rfl rfl rfl (fun b127 => ?_)
  refine sq_gt RF RF (y_call (first := []) (caps := []) RF Tryd.call27 (EvL.cons RF (EvL.cons RF EvL.nil)) (fun w1 hw1 => ints27 w1 z8.1 _ z8.2 4 [2, 1, 0, 3] [2, 1, 0, 3] (hz8.at hw1 MM) (lit_rowsA (row := iRow) (l := [2, 1, 0, 3]) (fun _ => rfl) hw1 (g := b127) MM rfl (Nat.le_of_ble_eq_true rfl)))) rfl ?_
  refine qs (y_pick_t RF RF) ?_
  refine qs (y_move RF) ?_
  refine sq_known (tt := 130) (b' := true) RF (by first | rfl | decide) ?_
  refine qg (y_move RF) ?_
  refine qg (y_eql RF RF) ?_
  refine qs (y_pick_t RF RF) ?_
  refine qs (y_move RF) ?_
  refine sq_known (tt := 134) (b' := true) RF (by first | rfl | decide) ?_
  refine qg (y_move RF) ?_
  refine qg (y_eql RF RF) ?_
  refine qs (y_pick_t RF RF) ?_
  refine qs (y_assign RF) ?_
  refine sq_nil ?_
  refine sx_then ?_
  refine sc_ret ?_
  refine sx_ret1 (.inl rfl) rfl Tryd.results15 RF ?_
  intro w' hw'
  exact ⟨rfl, hw'.below MM⟩
end Go.Proofs.YtpijahglojichaaDoor
