/- The engine, part 2: single operations. -/
import Derived.Test.YtpijahglojichaaDoorEng1
namespace Go.Eng
open Go Go.RowKit

/-- op yields v in every world of the class, and leaves a world of the class -/
def OpY (X : Ctx) (L : List (Nat × Value)) (rs : List Res) (op : Op) (ty : TypeId) (v : Value) : Prop :=
  ∀ o : Oper, o.op = op → o.type = ty → ∀ a w, St X.N X.D L a → Hp X.w0 rs w → Oper.quietAt X.P o a (Hp X.w0 rs) w v
section
variable {X : Ctx} {Q : Post} {L : List (Nat × Value)} {rs : List Res} {ops : Array Oper} {rest : List Oper} {op : Op} {ty : TypeId} {v : Value} {d : Nat} {pos : String} {af : Array Edge}
/-- op leaves the world alone -/
def OpS (X : Ctx) (L : List (Nat × Value)) (rs : List Res) (op : Op) (ty : TypeId) (v : Value) : Prop :=
  ∀ o : Oper, o.op = op → o.type = ty → ∀ a w, St X.N X.D L a → Hp X.w0 rs w → (execOp a.eval o).run X.P w = .ok (.value v) w
theorem OpS.val (h : ∀ o : Oper, o.op = op → o.type = ty → ∀ a w, St X.N X.D L a → Hp X.w0 rs w → (execOp a.eval o).run X.P w = .ok (.value v) w) : OpS X L rs op ty v := h
theorem OpY.s (h : OpS X L rs op ty v) : OpY X L rs op ty v := fun o h1 h2 a w ha hw => by
  unfold Oper.quietAt; rw [h o h1 h2 a w ha hw]; exact ⟨rfl, rfl⟩
theorem OpY.notDefer (h : OpY X L rs op ty v) {o : Oper} (h1 : o.op = op) (h2 : o.type = ty) {a w} (ha : St X.N X.D L a) (hw : Hp X.w0 rs w) : ∀ c, o.op ≠ .defer c := by
  intro c hc
  have hq := h o h1 h2 a w ha hw
  unfold Oper.quietAt execOp at hq
  rw [hc] at hq
  simp only [Sem.run_bind] at hq
  generalize (resolve a.eval c o.type).run X.P w = r at hq
  cases r with
  | ok d w' => simp [Oper.quietUpon] at hq
  | halt x w' => simp [Oper.quietUpon] at hq
/-- an operation's run, in a sequence -/
theorem wpIn_of_quiet (h : OpY X L rs op ty v) {o : Oper} (h1 : o.op = op) (h2 : o.type = ty) {a w} (ha : St X.N X.D L a) (hw : Hp X.w0 rs w) {K : Act → World → Prop}
    (hk : ∀ w', Hp X.w0 rs w' → K (a.put o.dst v) w') : o.wpIn (FW X.r) 0 X.P a w K Q := by
  refine ⟨fun _ _ => trivial, ?_⟩
  have hq := h o h1 h2 a w ha hw
  have hnd := h.notDefer h1 h2 ha hw
  rw [Oper.semAt_eq _ _ _ hnd]
  unfold Oper.quietAt at hq
  generalize (execOp a.eval o).run X.P w = r at hq
  cases r with
  | ok n w' =>
    cases n <;> simp only [Oper.quietUpon] at hq
    case value u => obtain ⟨rfl, rfl⟩ := hq; exact hk _ hw
    case skip => obtain ⟨rfl, rfl⟩ := hq; exact hk _ hw
    case enter f args =>
      obtain ⟨rfl, hc⟩ := hq
      refine ⟨fun h => (by cases h), callsIn_FW (hc.mono fun e w'' ⟨he, hw''⟩ => ?_)⟩
      subst he
      exact hk _ hw''
  | halt x w' => simp only [Oper.quietUpon] at hq
theorem sq_y (hy : OpY X L rs op ty v) (hd : Nat.ble (d + 1) X.N = true) (k : SQ X ops Q rest ((d, v) :: L) rs) : SQ X ops Q (⟨some d, op, ty, pos, af, none⟩ :: rest) L rs := by
  intro a w ha hw
  refine wpListIn_plain rfl fun K hK => wpIn_of_quiet hy rfl rfl ha hw fun w' hw' => hK _ _ (k _ _ (ha.put (Nat.le_of_ble_eq_true hd) v) hw')
theorem sq_y0 (hy : OpY X L rs op ty v) (k : SQ X ops Q rest L rs) : SQ X ops Q (⟨none, op, ty, pos, af, none⟩ :: rest) L rs := by
  intro a w ha hw
  exact wpListIn_plain rfl fun K hK => wpIn_of_quiet hy rfl rfl ha hw fun w' hw' => hK _ _ (k _ _ ha hw')
theorem yielded_of {a : Act} (ha : St X.N X.D L a) {j t : Nat} {b : Bool} (hj : (ops[j]?).bind (·.dst) = some t) (ht : lk L t = some (.bool b)) : yielded ops a.tmps j = some b := by
  unfold yielded
  rw [hj]
  simp [ha.get t _ ht]
theorem sq_gt {j t : Nat} {b : Bool} (hj : (ops[j]?).bind (·.dst) = some t) (ht : lk L t = some (.bool b)) (hy : OpY X L rs op ty v) (hd : Nat.ble (d + 1) X.N = true) (k : SQ X ops Q rest ((d, v) :: L) rs) :
    SQ X ops Q (⟨some d, op, ty, pos, af, some (j, b)⟩ :: rest) L rs := by
  intro a w ha hw
  refine wpListIn_step fun K hK => ?_
  have : Region.wanted ⟨some d, op, ty, pos, af, some (j, b)⟩ (yielded ops a.tmps) = true := by simp [Region.wanted, yielded_of ha hj ht]
  rw [if_pos this]
  exact wpIn_of_quiet hy rfl rfl ha hw fun w' hw' => hK _ _ (k _ _ (ha.put (Nat.le_of_ble_eq_true hd) v) hw')
theorem sq_gf {j t : Nat} {b b' : Bool} (hj : (ops[j]?).bind (·.dst) = some t) (ht : lk L t = some (.bool b')) (hb : b' = !b) (hd : Nat.ble (d + 1) X.N = true) (k : SQ X ops Q rest ((d, undef) :: L) rs) :
    SQ X ops Q (⟨some d, op, ty, pos, af, some (j, b)⟩ :: rest) L rs := by
  intro a w ha hw
  refine wpListIn_step fun K hK => ?_
  have : ¬ Region.wanted ⟨some d, op, ty, pos, af, some (j, b)⟩ (yielded ops a.tmps) = true := by subst hb; simp [Region.wanted, yielded_of ha hj ht]
  rw [if_neg this]
  exact ⟨fun _ _ => trivial, hK _ _ (k _ _ (ha.put (Nat.le_of_ble_eq_true hd) undef) hw)⟩

/-! ### regions that draw their order -/
def QQ (X : Ctx) (ops : Array Oper) (Q : Post) (l : List Oper) (L : List (Nat × Value)) (rs : List Res) : Prop :=
  ∀ a, St X.N X.D L a → wpQuiet X.P ops (Hp X.w0 rs) (fun a' => ∀ w', Hp X.w0 rs w' → Q .normal a' w') l a
theorem qq_nil (h : SX X Q .normal L rs) : QQ X ops Q [] L rs := fun a ha => fun w' hw' => h a w' ha hw'
theorem qq_y (hy : OpY X L rs op ty v) (hd : Nat.ble (d + 1) X.N = true) (k : QQ X ops Q rest ((d, v) :: L) rs) : QQ X ops Q (⟨some d, op, ty, pos, af, none⟩ :: rest) L rs := by
  intro a ha
  unfold wpQuiet
  rw [if_pos (by simp [Region.wanted])]
  exact ⟨v, fun w hw => hy _ rfl rfl a w ha hw, k _ (ha.put (Nat.le_of_ble_eq_true hd) v)⟩
theorem qq_gt {j t : Nat} {b : Bool} (hj : (ops[j]?).bind (·.dst) = some t) (ht : lk L t = some (.bool b)) (hy : OpY X L rs op ty v) (hd : Nat.ble (d + 1) X.N = true) (k : QQ X ops Q rest ((d, v) :: L) rs) :
    QQ X ops Q (⟨some d, op, ty, pos, af, some (j, b)⟩ :: rest) L rs := by
  intro a ha
  unfold wpQuiet
  rw [if_pos (by simp [Region.wanted, yielded_of ha hj ht])]
  exact ⟨v, fun w hw => hy _ rfl rfl a w ha hw, k _ (ha.put (Nat.le_of_ble_eq_true hd) v)⟩
theorem qq_gf {j t : Nat} {b b' : Bool} (hj : (ops[j]?).bind (·.dst) = some t) (ht : lk L t = some (.bool b')) (hb : b' = !b) (hd : Nat.ble (d + 1) X.N = true) (k : QQ X ops Q rest ((d, undef) :: L) rs) :
    QQ X ops Q (⟨some d, op, ty, pos, af, some (j, b)⟩ :: rest) L rs := by
  intro a ha
  unfold wpQuiet
  rw [if_neg (by subst hb; simp [Region.wanted, yielded_of ha hj ht])]
  exact k _ (ha.put (Nat.le_of_ble_eq_true hd) undef)
theorem sc_draw {i : Nat} {l : List Oper} (hr : X.r = none) (hm : X.P.follows .mixedOrders = true) (hB : Region.lexB .any l.toArray = true) (h : QQ X l.toArray Q l L rs) : SC X (.region i l.toArray true) Q L rs := by
  intro a w ha hw
  rw [hr]
  refine wpIn_wide.2 (wp_region_quiet hm hB hw.drew ?_)
  exact h a ha

/-! ### the operations that only reckon -/
theorem y_move {x} (hx : ev L x = some v) : OpS X L rs (.move x) ty v := .val fun o h1 _ a w ha _ => by
  simp [execOp, h1, ha.eval hx]
theorem y_assign {x} (hx : ev L x = some v) : OpS X L rs (.assign x) ty v := .val fun o h1 _ a w ha _ => by
  simp [execOp, h1, ha.eval hx]
theorem y_pick_t {c x y} (hc : ev L c = some (.bool true)) (hx : ev L x = some v) : OpS X L rs (.pick c x y) ty v := .val fun o h1 _ a w ha _ => by
  simp [execOp, h1, ha.eval hc, ha.eval hx, asBool]
theorem y_pick_f {c x y} (hc : ev L c = some (.bool false)) (hy : ev L y = some v) : OpS X L rs (.pick c x y) ty v := .val fun o h1 _ a w ha _ => by
  simp [execOp, h1, ha.eval hc, ha.eval hy, asBool]
variable {k : IntKind} {m n : Int} {x y : Operand} {t t' : TypeId}
theorem wrap64_in {z : Int} (h1 : -9223372036854775808 ≤ z) (h2 : z ≤ 9223372036854775807) : IntKind.i64.wrap z = z := by rw [IntKind.wrap_i64]; omega
theorem y_add (hx : ev L x = some (.int .i64 m)) (hy : ev L y = some (.int .i64 n)) (hb : -9223372036854775808 ≤ m + n ∧ m + n ≤ 9223372036854775807) : OpS X L rs (.binOp .add t x y t') ty (.int .i64 (m + n)) := .val fun o h1 _ a w ha _ => by
  simp [execOp, h1, ha.eval hx, ha.eval hy, binOp, eqGuard, Op.intArith, wrap64_in hb.1 hb.2]
theorem y_sub (hx : ev L x = some (.int .i64 m)) (hy : ev L y = some (.int .i64 n)) (hb : -9223372036854775808 ≤ m - n ∧ m - n ≤ 9223372036854775807) : OpS X L rs (.binOp .sub t x y t') ty (.int .i64 (m - n)) := .val fun o h1 _ a w ha _ => by
  simp [execOp, h1, ha.eval hx, ha.eval hy, binOp, eqGuard, Op.intArith, wrap64_in hb.1 hb.2]
theorem y_mul (hx : ev L x = some (.int .i64 m)) (hy : ev L y = some (.int .i64 n)) (hb : -9223372036854775808 ≤ m * n ∧ m * n ≤ 9223372036854775807) : OpS X L rs (.binOp .mul t x y t') ty (.int .i64 (m * n)) := .val fun o h1 _ a w ha _ => by
  simp [execOp, h1, ha.eval hx, ha.eval hy, binOp, eqGuard, Op.intArith, wrap64_in hb.1 hb.2]
/-- sums that are only looked at by their value modulo 2^64 -/
theorem y_addw (hx : ev L x = some (.int k m)) (hy : ev L y = some (.int k n)) : OpS X L rs (.binOp .add t x y t') ty (.int k (k.wrap (m + n))) := .val fun o h1 _ a w ha _ => by
  simp [execOp, h1, ha.eval hx, ha.eval hy, binOp, eqGuard, Op.intArith]
theorem y_subw (hx : ev L x = some (.int k m)) (hy : ev L y = some (.int k n)) : OpS X L rs (.binOp .sub t x y t') ty (.int k (k.wrap (m - n))) := .val fun o h1 _ a w ha _ => by
  simp [execOp, h1, ha.eval hx, ha.eval hy, binOp, eqGuard, Op.intArith]
theorem y_quo (hx : ev L x = some (.int .i64 m)) (hy : ev L y = some (.int .i64 n)) (hm : 0 ≤ m ∧ m ≤ 9223372036854775807) (hn : 0 < n) : OpS X L rs (.binOp .quo t x y t') ty (.int .i64 (m / n)) := .val fun o h1 _ a w ha _ => by
  have h0 : 0 ≤ m / n := Int.ediv_nonneg hm.1 (by omega)
  have h2 : m / n ≤ m := Int.ediv_le_self n hm.1
  have hn0 : n ≠ 0 := by omega
  simp [execOp, h1, ha.eval hx, ha.eval hy, binOp, eqGuard, Op.intDiv, hn0, Int.tdiv_eq_ediv_of_nonneg hm.1, wrap64_in (z := m / n) (by omega) (by omega)]
theorem y_rem (hx : ev L x = some (.int k m)) (hy : ev L y = some (.int k n)) (hm : 0 ≤ m) (hn : 0 < n) : OpS X L rs (.binOp .rem t x y t') ty (.int k (m % n)) := .val fun o h1 _ a w ha _ => by
  have hn0 : n ≠ 0 := by omega
  simp [execOp, h1, ha.eval hx, ha.eval hy, binOp, eqGuard, Op.intDiv, hn0, Int.tmod_eq_emod_of_nonneg hm]
theorem y_lss (hx : ev L x = some (.int k m)) (hy : ev L y = some (.int k n)) : OpS X L rs (.binOp .lss t x y t') ty (.bool (decide (m < n))) := .val fun o h1 _ a w ha _ => by
  simp [execOp, h1, ha.eval hx, ha.eval hy, binOp, eqGuard, Op.intCmp]
theorem y_leq (hx : ev L x = some (.int k m)) (hy : ev L y = some (.int k n)) : OpS X L rs (.binOp .leq t x y t') ty (.bool (decide (m ≤ n))) := .val fun o h1 _ a w ha _ => by
  simp [execOp, h1, ha.eval hx, ha.eval hy, binOp, eqGuard, Op.intCmp]
theorem y_gtr (hx : ev L x = some (.int k m)) (hy : ev L y = some (.int k n)) : OpS X L rs (.binOp .gtr t x y t') ty (.bool (decide (n < m))) := .val fun o h1 _ a w ha _ => by
  simp [execOp, h1, ha.eval hx, ha.eval hy, binOp, eqGuard, Op.intCmp]
theorem y_geq (hx : ev L x = some (.int k m)) (hy : ev L y = some (.int k n)) : OpS X L rs (.binOp .geq t x y t') ty (.bool (decide (n ≤ m))) := .val fun o h1 _ a w ha _ => by
  simp [execOp, h1, ha.eval hx, ha.eval hy, binOp, eqGuard, Op.intCmp]
theorem beq_dec (m n : Int) : (m == n) = decide (m = n) := by rw [Bool.eq_iff_iff]; simp
theorem y_eql (hx : ev L x = some (.int k m)) (hy : ev L y = some (.int k n)) : OpS X L rs (.binOp .eql t x y t') ty (.bool (decide (m = n))) := .val fun o h1 _ a w ha _ => by
  simp [execOp, h1, ha.eval hx, ha.eval hy, binOp, eqGuard, Op.intCmp, beq_dec]
theorem y_neq (hx : ev L x = some (.int k m)) (hy : ev L y = some (.int k n)) : OpS X L rs (.binOp .neq t x y t') ty (.bool (!decide (m = n))) := .val fun o h1 _ a w ha _ => by
  simp [execOp, h1, ha.eval hx, ha.eval hy, binOp, eqGuard, Op.intCmp, bne, beq_dec]
theorem y_eqlb {p q : Bool} (ht : X.P.underlying t = some .bool) (hx : ev L x = some (.bool p)) (hy : ev L y = some (.bool q)) : OpS X L rs (.binOp .eql t x y t') ty (.bool (p == q)) := .val fun o h1 _ a w ha _ => by
  simp [execOp, h1, ha.eval hx, ha.eval hy, eqGuard, run_eql_bool _ t _ _ ht]
theorem y_neqb {p q : Bool} (ht : X.P.underlying t = some .bool) (hx : ev L x = some (.bool p)) (hy : ev L y = some (.bool q)) : OpS X L rs (.binOp .neq t x y t') ty (.bool (!(p == q))) := .val fun o h1 _ a w ha _ => by
  simp [execOp, h1, ha.eval hx, ha.eval hy, eqGuard, run_neq_bool _ t _ _ ht]
theorem y_not {p : Bool} (hx : ev L x = some (.bool p)) : OpS X L rs (.unOp .not t x) ty (.bool (!p)) := .val fun o h1 _ a w ha _ => by
  simp [execOp, h1, ha.eval hx, Op.unary]
theorem y_neg (hx : ev L x = some (.int .i64 m)) (hb : -9223372036854775808 < m ∧ m ≤ 9223372036854775807) : OpS X L rs (.unOp .neg t x) ty (.int .i64 (-m)) := .val fun o h1 _ a w ha _ => by
  simp [execOp, h1, ha.eval hx, Op.unary, Op.intArith, wrap64_in (z := -m) (by omega) (by omega)]
theorem y_extract {vs : Array Value} {i : Nat} (hx : ev L x = some (.tuple vs)) (hi : vs[i]? = some v) : OpS X L rs (.extract x i) ty v := .val fun o h1 _ a w ha _ => by
  simp [execOp, h1, ha.eval hx, Instr.extract, hi]
theorem y_len {a0 : Option Addr} {ln cp : Nat} {e : TypeId} (hu : X.P.underlying t = some (.slice e)) (hx : ev L x = some (.slice a0 ln cp)) :
    OpS X L rs (.call { callee := .builtin .len, args := #[x], argTypes := #[t] }) ty (.int .i64 ln) := .val fun o h1 _ a w ha _ => by
  simp [execOp, h1, resolve, invoke, builtin, ha.eval hx, Builtin.len_, run_underlying hu, goInt]
theorem min_if (m n : Int) : (if n < m then n else m) = min m n := by omega
theorem max_if (m n : Int) : (if n > m then n else m) = max m n := by omega
theorem y_min {ts} (hx : ev L x = some (.int k m)) (hy : ev L y = some (.int k n)) : OpS X L rs (.call { callee := .builtin .min, args := #[x, y], argTypes := ts }) ty (.int k (min m n)) := .val fun o h1 _ a w ha _ => by
  simp only [execOp, h1, resolve, Sem.run_bind, Sem.run_pure, Result.andThen_ok, invoke, builtin, List.map_toArray, List.map_cons, List.map_nil, ha.eval hx, ha.eval hy, run_min_int2, min_if]
theorem y_max {ts} (hx : ev L x = some (.int k m)) (hy : ev L y = some (.int k n)) : OpS X L rs (.call { callee := .builtin .max, args := #[x, y], argTypes := ts }) ty (.int k (max m n)) := .val fun o h1 _ a w ha _ => by
  simp only [execOp, h1, resolve, Sem.run_bind, Sem.run_pure, Result.andThen_ok, invoke, builtin, List.map_toArray, List.map_cons, List.map_nil, ha.eval hx, ha.eval hy, run_max_int2, max_if]
theorem y_conv {dk : IntKind} {d0} (hs : X.P.underlying t = some d0) (hd : X.P.underlying t' = some (.int dk)) (hx : ev L x = some (.int k n)) (hw : dk.wrap n = n) : OpS X L rs (.convert t t' x) ty (.int dk n) := .val fun o h1 _ a w ha _ => by
  simp [execOp, h1, ha.eval hx, convert, run_underlying hs, run_underlying hd]
  cases d0 <;> simp [Conv.intToInt, hw]
end
end Go.Eng
