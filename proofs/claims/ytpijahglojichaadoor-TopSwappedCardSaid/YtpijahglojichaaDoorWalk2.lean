/- The walk of bits.TrailingZeros: the table's read. -/
import Derived.Test.YtpijahglojichaaDoorWalk1
namespace Go.Eng
open Go Go.RowKit
section
variable {X : Ctx} {L : List (Nat × Value)} {rs : List Res} {t t' ty : TypeId} {x y : Operand} {m : Int} {k : IntKind}
theorem y_negw (hx : ev L x = some (.int k m)) : OpS X L rs (.unOp .neg t x) ty (.int k (k.wrap (-m))) := .val fun o h1 _ a w ha _ => by
  simp [execOp, h1, ha.eval hx, Op.unary, Op.intArith]
theorem y_mulw {n : Int} (hx : ev L x = some (.int k m)) (hy : ev L y = some (.int k n)) : OpS X L rs (.binOp .mul t x y t') ty (.int k (k.wrap (m * n))) := .val fun o h1 _ a w ha _ => by
  simp [execOp, h1, ha.eval hx, ha.eval hy, binOp, eqGuard, Op.intArith]
theorem wrap_u64n (n : Nat) (h : n < 18446744073709551616) : IntKind.u64.wrap (n : Int) = (n : Int) := by
  rw [IntKind.wrap_u64]; exact Int.emod_eq_of_lt (by omega) (by omega)
theorem y_andU {p q : Nat} (hx : ev L x = some (.int .u64 (p : Int))) (hy : ev L y = some (.int .u64 (q : Int))) (hp : p < 18446744073709551616) (hq : q < 18446744073709551616) : OpS X L rs (.binOp .and t x y t') ty (.int .u64 ((p &&& q : Nat) : Int)) := .val fun o h1 _ a w ha _ => by
  have hle : p &&& q ≤ p := Nat.and_le_left
  have e : (BitVec.ofInt IntKind.u64.bits (p : Int) &&& BitVec.ofInt IntKind.u64.bits (q : Int)).toNat = p &&& q := by
    show (BitVec.ofInt 64 (p : Int) &&& BitVec.ofInt 64 (q : Int)).toNat = _
    rw [ofInt_nat, ofInt_nat, BitVec.toNat_and, BitVec.toNat_ofNat, BitVec.toNat_ofNat, Nat.mod_eq_of_lt (by omega), Nat.mod_eq_of_lt (by omega)]
  have hr : (Op.intBits .and .u64 (p : Int) (q : Int)).run X.P w = .ok (.int .u64 ((p &&& q : Nat) : Int)) w := by
    refine (show _ = Result.ok (Value.int .u64 (IntKind.u64.wrap (((BitVec.ofInt IntKind.u64.bits (p : Int) &&& BitVec.ofInt IntKind.u64.bits (q : Int)).toNat : Nat) : Int))) w from rfl).trans ?_
    rw [e, wrap_u64n _ (by omega)]
  simp [execOp, h1, ha.eval hx, ha.eval hy, binOp, eqGuard, hr]
end
end Go.Eng
namespace Go.Proofs.YtpijahglojichaaDoor
open Go Go.Eng Go.RowKit Go.Proofs
set_option maxRecDepth 100000
def tabN : List Nat := [0, 1, 56, 2, 57, 49, 28, 3, 61, 58, 42, 50, 38, 29, 17, 4, 62, 47, 59, 36, 45, 43, 51, 22, 53, 39, 33, 30, 24, 18, 12, 5, 63, 55, 48, 27, 60, 41, 37, 16, 46, 35, 44, 21, 52, 32, 23, 11, 54, 26, 40, 15, 34, 20, 31, 10, 25, 14, 19, 9, 13, 8, 7, 6]
def tabRow : List Value := tabN.map fun (n : Nat) => Value.int .u8 (n : Int)
/-- the table, as the variable holds it -/
def TabAt (w : World) : Prop := CA 0 w ⟨1, 0, none⟩ tabRow
def tzI (x : Nat) : Nat := (x &&& (18446744073709551616 - x)) * 285870213051353865 % 18446744073709551616 / 288230376151711744
def tzV (x : Nat) : Nat := tabN.getD (tzI x) 0
theorem tzI_lt (x : Nat) : tzI x < 64 := by unfold tzI; omega
theorem tab_get {i : Nat} (h : i < 64) : tabRow[i]? = some (.int .u8 ((tabN.getD i 0 : Nat) : Int)) := by
  unfold tabRow
  rw [List.getElem?_map, get_of_lt 0 (by exact h)]; rfl
theorem tab_le {i : Nat} (h : i < 64) : tabN.getD i 0 < 64 := by
  have : ∀ i, i < 64 → tabN.getD i 0 < 64 := by decide +kernel
  exact this i h
/-- the members of a set, from the least on -/
def memL (x : Nat) : List Nat := (List.range 9).filter fun i => x.testBit i
theorem memL_step : ∀ x, x < 512 → x ≠ 0 → memL x = tzV x :: memL (x &&& (x - 1)) ∧ tzV x < 9 ∧ (x &&& (x - 1)) < x := by decide +kernel
theorem memL_zero : memL 0 = [] := by decide

theorem tz86 (w : World) (hT : TabAt w) (x : Nat) (h0 : 0 < x) (h64 : x < 18446744073709551616) : Calls Tryd.prog 86 #[.int .u64 (x : Int)] w fun e w' => e = .returned (.int .i64 (tzV x : Nat)) ∧ Below w.heap.size w w' := by
  have hneg : IntKind.u64.wrap (-(x : Int)) = ((18446744073709551616 - x : Nat) : Int) := by rw [IntKind.wrap_u64]; omega
  have hand : x &&& (18446744073709551616 - x) ≤ x := Nat.and_le_left
  have hmul : IntKind.u64.wrap (((x &&& (18446744073709551616 - x) : Nat) : Int) * 285870213051353865) = (((x &&& (18446744073709551616 - x)) * 285870213051353865 % 18446744073709551616 : Nat) : Int) := by rw [IntKind.wrap_u64]; omega
  have hidx : (((x &&& (18446744073709551616 - x)) * 285870213051353865 % 18446744073709551616 : Nat) : Int) / 2 ^ (58 : Int).toNat = ((tzI x : Nat) : Int) := by unfold tzI; show _ / (288230376151711744 : Int) = _; omega
  have hlt := tzI_lt x
  have htl := tab_le hlt
  refine calls_of_SC (args := [.int .u64 (x : Int)]) Tryd.func86 rfl Tryd.ntmps86 rfl ?_
  simp only [argL]
  refine sc_seq ?_
  refine sc_region ?_
  refine qs (y_assign RF) ?_
  refine sq_nil ?_
  refine sx_then ?_
  refine sc_seq ?_
  refine sc_seq ?_
  refine sc_region ?_
  refine qs (y_move RF) ?_
  refine qs (y_eql RF RF) ?_
  refine sq_nil ?_
  refine sx_then ?_
  refine scp (fun hc0 => ?_) (fun hc0 => ?_)
  ·
    exact absurd hc0 (by omega)
  ·
    refine sc_skip ?_
    refine sx_then ?_
    refine sc_seq ?_
    refine sc_region ?_
    refine qs (y_move RF) ?_
    refine qs (y_move RF) ?_
    refine qs (y_negw RF) ?_
    rw [hneg]
    refine qs (y_andU RF RF h64 (by omega)) ?_
    refine qs (y_mulw RF RF) ?_
    rw [hmul]
    refine qs (y_shr RF RF (by first | decide | (simp [IntKind.bits]; omega))) ?_
    rw [hidx]
    refine qs (y_ia_arr Tryd.underlying151 Tryd.sizeOf5 RF RF hlt) ?_
    refine qs (by first | exact y_load_caj (j := tzI x) (p := ⟨1, 0, none⟩) Tryd.underlying5 rfl (by rw [Addr.add_lit, Nat.zero_add, ← Nat.mul_one (tzI x), ← Nat.zero_add (tzI x * 1)]; exact rfl) MM hT (tab_get hlt) | exact LD5) ?_
    refine qs (y_conv Tryd.underlying5 Tryd.underlying3 RF (wrap64_in (by omega) (by omega))) ?_
    refine qs (y_assign RF) ?_
    refine sq_nil ?_
    refine sx_then ?_
    refine sc_ret ?_
    refine sx_ret1 (.inl rfl) rfl Tryd.results86 RF ?_
    intro w' hw'
    exact ⟨rfl, hw'.below MM⟩
theorem tz59 (w : World) (hT : TabAt w) (x : Nat) (h0 : 0 < x) (h64 : x < 18446744073709551616) : Calls Tryd.prog 59 #[.int .u64 (x : Int)] w fun e w' => e = .returned (.int .i64 (tzV x : Nat)) ∧ Below w.heap.size w w' := by
  refine calls_of_SC (args := [.int .u64 (x : Int)]) Tryd.func59 rfl Tryd.ntmps59 rfl ?_
  simp only [argL]
  refine sc_seq ?_
  refine sc_region ?_
  refine qs (y_assign RF) ?_
  refine sq_nil ?_
  refine sx_then ?_
  refine sc_seq ?_
  refine sc_f RF ?_
  refine sc_skip ?_
  refine sx_then ?_
  refine sc_seq ?_
  refine sc_region ?_
  refine qs (y_move RF) ?_
  refine qy (yc Tryd.call86 E1 (fun w1 hw1 => tz86 w1 (CA.at hT hw1 MM) x h0 h64)) ?_
  refine qs (y_assign RF) ?_
  refine sq_nil ?_
  refine sx_then ?_
  refine sc_ret ?_
  refine sx_ret1 (.inl rfl) rfl Tryd.results59 RF ?_
  intro w' hw'
  exact ⟨rfl, hw'.below MM⟩
end Go.Proofs.YtpijahglojichaaDoor
