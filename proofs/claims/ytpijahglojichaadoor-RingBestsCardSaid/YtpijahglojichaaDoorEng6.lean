/- The engine, part 6: bits, maps keyed by integers, structs compared, methods, the ends of functions. -/
import Derived.Test.YtpijahglojichaaDoorEng5
namespace Go.Eng
open Go Go.RowKit

theorem wrap_nat {n : Nat} (h : n < 9223372036854775808) : IntKind.i64.wrap (n : Int) = n := wrap64_in (by omega) (by omega)
section
variable {X : Ctx} {Q : Post} {L : List (Nat × Value)} {rs : List Res} {ops : Array Oper} {rest : List Oper} {op : Op} {ty t t' e : TypeId} {v u : Value} {d n : Nat} {pos : String} {af : Array Edge} {x y : Operand} {d0 : TypeDesc} {k : IntKind} {p q : Int}
/-! ### bits, of numbers that are not negative -/
theorem ofInt_nat (a : Nat) : BitVec.ofInt 64 (a : Int) = BitVec.ofNat 64 a := by
  apply BitVec.eq_of_toNat_eq; simp
theorem y_and (hx : ev L x = some (.int .i64 p)) (hy : ev L y = some (.int .i64 q)) (hp : 0 ≤ p ∧ p ≤ 9223372036854775807) (hq : 0 ≤ q ∧ q ≤ 9223372036854775807) : OpS X L rs (.binOp .and t x y t') ty (.int .i64 ((p.toNat &&& q.toNat : Nat) : Int)) := .val fun o h1 _ a w ha _ => by
  obtain ⟨m, rfl⟩ := Int.eq_ofNat_of_zero_le hp.1
  obtain ⟨j, rfl⟩ := Int.eq_ofNat_of_zero_le hq.1
  have hle : m &&& j ≤ m := Nat.and_le_left
  have e : (BitVec.ofInt IntKind.i64.bits (m : Int) &&& BitVec.ofInt IntKind.i64.bits (j : Int)).toNat = m &&& j := by
    show (BitVec.ofInt 64 (m : Int) &&& BitVec.ofInt 64 (j : Int)).toNat = _
    rw [ofInt_nat, ofInt_nat, BitVec.toNat_and, BitVec.toNat_ofNat, BitVec.toNat_ofNat, Nat.mod_eq_of_lt (by omega), Nat.mod_eq_of_lt (by omega)]
  have hr : (Op.intBits .and .i64 (m : Int) (j : Int)).run X.P w = .ok (.int .i64 ((m &&& j : Nat) : Int)) w := by
    refine (show _ = Result.ok (Value.int .i64 (IntKind.i64.wrap (((BitVec.ofInt IntKind.i64.bits (m : Int) &&& BitVec.ofInt IntKind.i64.bits (j : Int)).toNat : Nat) : Int))) w from rfl).trans ?_
    rw [e, wrap_nat (by omega)]
  simp [execOp, h1, ha.eval hx, ha.eval hy, binOp, eqGuard, hr]
theorem y_or (hx : ev L x = some (.int .i64 p)) (hy : ev L y = some (.int .i64 q)) (hp : 0 ≤ p ∧ p ≤ 9223372036854775807) (hq : 0 ≤ q ∧ q ≤ 9223372036854775807) : OpS X L rs (.binOp .or t x y t') ty (.int .i64 ((p.toNat ||| q.toNat : Nat) : Int)) := .val fun o h1 _ a w ha _ => by
  obtain ⟨m, rfl⟩ := Int.eq_ofNat_of_zero_le hp.1
  obtain ⟨j, rfl⟩ := Int.eq_ofNat_of_zero_le hq.1
  have hlt : m ||| j < 2 ^ 63 := Nat.or_lt_two_pow (by omega) (by omega)
  have e : (BitVec.ofInt IntKind.i64.bits (m : Int) ||| BitVec.ofInt IntKind.i64.bits (j : Int)).toNat = m ||| j := by
    show (BitVec.ofInt 64 (m : Int) ||| BitVec.ofInt 64 (j : Int)).toNat = _
    rw [ofInt_nat, ofInt_nat, BitVec.toNat_or, BitVec.toNat_ofNat, BitVec.toNat_ofNat, Nat.mod_eq_of_lt (by omega), Nat.mod_eq_of_lt (by omega)]
  have hr : (Op.intBits .or .i64 (m : Int) (j : Int)).run X.P w = .ok (.int .i64 ((m ||| j : Nat) : Int)) w := by
    refine (show _ = Result.ok (Value.int .i64 (IntKind.i64.wrap (((BitVec.ofInt IntKind.i64.bits (m : Int) ||| BitVec.ofInt IntKind.i64.bits (j : Int)).toNat : Nat) : Int))) w from rfl).trans ?_
    rw [e, wrap_nat (by omega)]
  simp [execOp, h1, ha.eval hx, ha.eval hy, binOp, eqGuard, hr]
/-- m &^ j -/
def andNotN (m j : Nat) : Nat := m &&& (m ^^^ j)
theorem y_andNot (hx : ev L x = some (.int .i64 p)) (hy : ev L y = some (.int .i64 q)) (hp : 0 ≤ p ∧ p ≤ 9223372036854775807) (hq : 0 ≤ q ∧ q ≤ 9223372036854775807) : OpS X L rs (.binOp .andNot t x y t') ty (.int .i64 ((andNotN p.toNat q.toNat : Nat) : Int)) := .val fun o h1 _ a w ha _ => by
  obtain ⟨m, rfl⟩ := Int.eq_ofNat_of_zero_le hp.1
  obtain ⟨j, rfl⟩ := Int.eq_ofNat_of_zero_le hq.1
  have hle : andNotN m j ≤ m := Nat.and_le_left
  have e : (BitVec.ofInt IntKind.i64.bits (m : Int) &&& ~~~ BitVec.ofInt IntKind.i64.bits (j : Int)).toNat = andNotN m j := by
    show (BitVec.ofInt 64 (m : Int) &&& ~~~ BitVec.ofInt 64 (j : Int)).toNat = _
    have : BitVec.ofNat 64 m &&& ~~~ BitVec.ofNat 64 j = BitVec.ofNat 64 m &&& (BitVec.ofNat 64 m ^^^ BitVec.ofNat 64 j) := by
      ext i hi
      simp only [BitVec.getElem_and, BitVec.getElem_not, BitVec.getElem_xor]
      cases (BitVec.ofNat 64 m)[i] <;> cases (BitVec.ofNat 64 j)[i] <;> rfl
    rw [ofInt_nat, ofInt_nat, this, BitVec.toNat_and, BitVec.toNat_xor, BitVec.toNat_ofNat, BitVec.toNat_ofNat, Nat.mod_eq_of_lt (by omega), Nat.mod_eq_of_lt (by omega)]
    rfl
  have hr : (Op.intBits .andNot .i64 (m : Int) (j : Int)).run X.P w = .ok (.int .i64 ((andNotN m j : Nat) : Int)) w := by
    refine (show _ = Result.ok (Value.int .i64 (IntKind.i64.wrap (((BitVec.ofInt IntKind.i64.bits (m : Int) &&& ~~~ BitVec.ofInt IntKind.i64.bits (j : Int)).toNat : Nat) : Int))) w from rfl).trans ?_
    rw [e, wrap_nat (by omega)]
  simp [execOp, h1, ha.eval hx, ha.eval hy, binOp, eqGuard, hr]
theorem y_shr {k' : IntKind} (hx : ev L x = some (.int k p)) (hy : ev L y = some (.int k' q)) (hq : 0 ≤ q ∧ q ≤ k.bits) : OpS X L rs (.binOp .shr t x y t') ty (.int k (p / 2 ^ q.toNat)) := .val fun o h1 _ a w ha _ => by
  have h2 : ¬ q < 0 := by omega
  have h3 : min q.toNat k.bits = q.toNat := by omega
  simp [execOp, h1, ha.eval hx, ha.eval hy, binOp, eqGuard, Op.shift, h2, h3]
  exact Int.fdiv_eq_ediv_of_nonneg _ (Int.le_of_lt (Int.pow_pos (by decide)))
theorem y_shl {k' : IntKind} (hx : ev L x = some (.int .i64 p)) (hy : ev L y = some (.int k' q)) (hq : 0 ≤ q ∧ q ≤ 64) (hb : -9223372036854775808 ≤ p * 2 ^ q.toNat ∧ p * 2 ^ q.toNat ≤ 9223372036854775807) : OpS X L rs (.binOp .shl t x y t') ty (.int .i64 (p * 2 ^ q.toNat)) := .val fun o h1 _ a w ha _ => by
  have h2 : ¬ q < 0 := by omega
  have h3 : min q.toNat IntKind.i64.bits = q.toNat := by simp [IntKind.bits]; omega
  have hr : (Op.shift .shl .i64 p k' q).run X.P w = .ok (.int .i64 (p * 2 ^ q.toNat)) w := by
    simp only [Op.shift, if_neg h2, h3, Sem.run_pure, wrap64_in hb.1 hb.2]
  have hb' : binOp .shl t (.int .i64 p) (.int k' q) = Op.shift .shl .i64 p k' q := rfl
  have hg : (eqGuard .shl t x y (.int .i64 p) (.int k' q)).run X.P w = .ok () w := by simp [eqGuard]
  simp only [execOp, h1, ha.eval hx, ha.eval hy, Sem.run_bind, hb', hg, Result.andThen_ok, hr]
  rfl
/-! ### structs compared -/
theorem y_eqls {xs ys : Array Value} {b : Bool} (hg : X.P.eqGuardType X.P.depth t = false) (hx : ev L x = some (.agg xs)) (hy : ev L y = some (.agg ys)) (h : ∀ w, (binOp .eql t (.agg xs) (.agg ys)).run X.P w = .ok (.bool b) w) : OpS X L rs (.binOp .eql t x y t') ty (.bool b) := .val fun o h1 _ a w ha _ => by
  simp [execOp, h1, ha.eval hx, ha.eval hy, run_eqGuard_agg w .eql t x y xs ys hg, h]
theorem y_neqs {xs ys : Array Value} {b : Bool} (hg : X.P.eqGuardType X.P.depth t = false) (hx : ev L x = some (.agg xs)) (hy : ev L y = some (.agg ys)) (h : ∀ w, (binOp .neq t (.agg xs) (.agg ys)).run X.P w = .ok (.bool b) w) : OpS X L rs (.binOp .neq t x y t') ty (.bool b) := .val fun o h1 _ a w ha _ => by
  simp [execOp, h1, ha.eval hx, ha.eval hy, run_eqGuard_agg w .neq t x y xs ys hg, h]
/-! ### a method, of a value in an interface -/
theorem y_invoke {f : FuncId} {g : Operand} {nm : String} {T : TypeId} {rv rv' : Value} {args : List Operand} {vs : List Value} {ats : Array TypeId} (hg : ev L g = some (.iface T rv)) (hm : ∀ w, (method (X.P.types.size + Made.depth) T rv nm).run X.P w = .ok (f, rv') w) (hcf : ∀ args w, (callFunc f args).run X.P w = .ok (.enter f args) w) (hv : EvL L args vs)
    (hc : ∀ w, Hp X.w0 rs w → Calls X.P f (rv' :: vs).toArray w fun e w' => e = .returned v ∧ Below w.heap.size w w') : OpY X L rs (.call { callee := .invoke g nm, args := args.toArray, argTypes := ats }) ty v := fun o h1 _ a w ha hw => by
  have hr : (execOp a.eval o).run X.P w = .ok (.enter f (rv' :: vs).toArray) w := by
    simp only [execOp, h1, resolve, Sem.run_bind, Sem.run_pure, Result.andThen_ok, invoke]
    simp [ha.eval hg, hv.map ha, callMethod, hm, hcf]
  unfold Oper.quietAt
  rw [hr]
  exact ⟨rfl, (hc w hw).mono fun e w' ⟨he, hb⟩ => ⟨he, hw.ext hb⟩⟩
/-! ### the ends of functions -/
theorem cell_var {w : World} {P : Program} (hw : Hp X.w0 rs w) {b : Nat} {vs : List Value} {fz : Nat × Nat} (hu : P.underlying t = some d0) (hs : scal d0 = false) (hz : ∀ w, (Go.sizeOf t).run P w = .ok n w) (hm : Res.blk b (.cells vs.toArray e fz) ∈ rs) (hl : vs.length = n) : (loadVar t ⟨b, 0, none⟩).run P w = .ok (.agg vs.toArray) w :=
  run_loadVar_agg hu hs hz hl (fun j v hj => by rw [Addr.add_lit, Nat.zero_add]; exact (cell_blk hw hm).trans (by simpa using hj))
theorem sx_retc {fn : Func} {R : Ending → World → Prop} {r : Tmp} {en : Exit} {b : Nat} {vs : List Value} {fz : Nat × Nat} (hen : en = .ret ∨ en = .normal) (hD : X.D = []) (hr : fn.results = #[.cell r t]) (hu : X.P.underlying t = some d0) (hs : scal d0 = false) (hz : ∀ w, (Go.sizeOf t).run X.P w = .ok n w)
    (hv : lk L r = some (.pointer (some ⟨b, 0, none⟩))) (hm : Res.blk b (.cells vs.toArray e fz) ∈ rs) (hl : vs.length = n) (h : ∀ w, Hp X.w0 rs w → R (.returned (.agg vs.toArray)) w) : SX X (bodyPost X.P fn R) en L rs := by
  intro a w ha hw
  have hg : a.tmps[r]? = some (.pointer (some ⟨b, 0, none⟩)) := ha.get _ _ hv
  have hres : (results fn a.tmps).run X.P w = .ok (.agg vs.toArray) w := by
    simp [results, hr, hg, asAddr, cell_var hw hu hs hz hm hl]
  rcases hen with rfl | rfl <;> exact ⟨ha.defs.trans hD, _, hres, h w hw⟩
theorem sx_retct {fn : Func} {R : Ending → World → Prop} {r s : Tmp} {en : Exit} {b : Nat} {vs : List Value} {fz : Nat × Nat} (hen : en = .ret ∨ en = .normal) (hD : X.D = []) (hr : fn.results = #[.cell r t, .tmp s]) (hu : X.P.underlying t = some d0) (hs : scal d0 = false) (hz : ∀ w, (Go.sizeOf t).run X.P w = .ok n w)
    (hv : lk L r = some (.pointer (some ⟨b, 0, none⟩))) (hm : Res.blk b (.cells vs.toArray e fz) ∈ rs) (hl : vs.length = n) (hv2 : lk L s = some u) (h : ∀ w, Hp X.w0 rs w → R (.returned (.tuple #[.agg vs.toArray, u])) w) : SX X (bodyPost X.P fn R) en L rs := by
  intro a w ha hw
  have hg : a.tmps[r]? = some (.pointer (some ⟨b, 0, none⟩)) := ha.get _ _ hv
  have hg2 : a.tmps[s]? = some u := ha.get _ _ hv2
  have hres : (results fn a.tmps).run X.P w = .ok (.tuple #[.agg vs.toArray, u]) w := by
    simp [results, hr, hg, hg2, asAddr, cell_var hw hu hs hz hm hl]
  rcases hen with rfl | rfl <;> exact ⟨ha.defs.trans hD, _, hres, h w hw⟩
theorem sx_ret3 {fn : Func} {R : Ending → World → Prop} {r s q : Tmp} {en : Exit} {z : Value} (hen : en = .ret ∨ en = .normal) (hD : X.D = []) (hr : fn.results = #[.tmp r, .tmp s, .tmp q]) (hv : lk L r = some v) (hu : lk L s = some u) (hz : lk L q = some z) (h : ∀ w, Hp X.w0 rs w → R (.returned (.tuple #[v, u, z])) w) : SX X (bodyPost X.P fn R) en L rs := by
  intro a w ha hw
  have h1 := ha.get _ _ hv
  have h2 := ha.get _ _ hu
  have h3 := ha.get _ _ hz
  have hres : (results fn a.tmps).run X.P w = .ok (.tuple #[v, u, z]) w := by simp [results, hr, h1, h2, h3]
  rcases hen with rfl | rfl <;> exact ⟨ha.defs.trans hD, _, hres, h w hw⟩
/-- two structs and a bool, or the like -/
theorem sx_retcct {fn : Func} {R : Ending → World → Prop} {r r2 s : Tmp} {t2 e2 : TypeId} {d2 : TypeDesc} {n2 : Nat} {en : Exit} {b b2 : Nat} {vs vs2 : List Value} {fz fz2 : Nat × Nat} (hen : en = .ret ∨ en = .normal) (hD : X.D = []) (hr : fn.results = #[.cell r t, .cell r2 t2, .tmp s]) (hu : X.P.underlying t = some d0) (hs : scal d0 = false) (hz : ∀ w, (Go.sizeOf t).run X.P w = .ok n w)
    (hu2 : X.P.underlying t2 = some d2) (hs2 : scal d2 = false) (hz2 : ∀ w, (Go.sizeOf t2).run X.P w = .ok n2 w)
    (hv : lk L r = some (.pointer (some ⟨b, 0, none⟩))) (hm : Res.blk b (.cells vs.toArray e fz) ∈ rs) (hl : vs.length = n) (hvb : lk L r2 = some (.pointer (some ⟨b2, 0, none⟩))) (hm2 : Res.blk b2 (.cells vs2.toArray e2 fz2) ∈ rs) (hl2 : vs2.length = n2) (hv2 : lk L s = some u) (h : ∀ w, Hp X.w0 rs w → R (.returned (.tuple #[.agg vs.toArray, .agg vs2.toArray, u])) w) : SX X (bodyPost X.P fn R) en L rs := by
  intro a w ha hw
  have hg : a.tmps[r]? = some (.pointer (some ⟨b, 0, none⟩)) := ha.get _ _ hv
  have hgb : a.tmps[r2]? = some (.pointer (some ⟨b2, 0, none⟩)) := ha.get _ _ hvb
  have hg2 : a.tmps[s]? = some u := ha.get _ _ hv2
  have hres : (results fn a.tmps).run X.P w = .ok (.tuple #[.agg vs.toArray, .agg vs2.toArray, u]) w := by
    simp [results, hr, hg, hgb, hg2, asAddr, cell_var hw hu hs hz hm hl, cell_var hw hu2 hs2 hz2 hm2 hl2]
  rcases hen with rfl | rfl <;> exact ⟨ha.defs.trans hD, _, hres, h w hw⟩
end
theorem BT.of {P : Program} {t : TypeId} {fields : Array Field} {places : List (Nat × Nat)} {z : Value} (hu : P.underlying t = some (.struct fields)) (hi : (P.info? t).map (·.zero) = some (some z))
    (hp : fields.toList.mapM (fun f => (P.info? f.type).map fun i => (f.offset, i.size)) = some places) : BT P t places z := by
  cases h : P.info? t with
  | none => rw [h] at hi; cases hi
  | some it => rw [h] at hi; exact BT.mk h hu (by simpa using hi) hp
end Go.Eng
