/- The engine, part 12: rows that lie in memory, of any kind; a part of a row is loaded. -/
import Derived.Test.YtpijahglojichaaDoorEng11
namespace Go.Eng
open Go Go.RowKit
theorem CA.at {w0 rs w lo wr p vs} (h : CA lo wr p vs) (hw : Hp w0 rs w) (hm : Res.reg lo wr ∈ rs) : CA 0 w p vs :=
  ⟨Nat.zero_le _, fun j v hj => cell_reg hw hm (by rw [Addr.add_block]; exact h.1) (h.2 j v hj)⟩
theorem CA.keep {w0 rs w lo wr p vs} (h : CA lo wr p vs) (hw : Hp w0 rs w) (hm : Res.reg lo wr ∈ rs) : CA lo w p vs :=
  ⟨h.1, fun j v hj => cell_reg hw hm (by rw [Addr.add_block]; exact h.1) (h.2 j v hj)⟩
theorem CA.low {w lo lo' p vs} (h : CA lo w p vs) (hl : lo' ≤ lo) : CA lo' w p vs := ⟨Nat.le_trans hl h.1, h.2⟩
theorem hp_below {w w1 : World} (hb : Below w.heap.size w w1) : Hp w [.reg 0 w] w1 := (Hp.init w).ext hb
theorem CA.below {w w1 p vs} (h : CA 0 w p vs) (hb : Below w.heap.size w w1) : CA 0 w1 p vs := CA.at h (hp_below hb) (.head _)
theorem CA.blk {w0 w : World} {rs : List Res} (hw : Hp w0 rs w) {b : Nat} {vs : List Value} {e : TypeId} {fz : Nat × Nat} (hm : Res.blk b (.cells vs.toArray e fz) ∈ rs) : CA 0 w ⟨b, 0, none⟩ vs :=
  ⟨Nat.zero_le _, fun j v hj => by rw [Addr.add_lit, Nat.zero_add]; exact (cell_blk hw hm).trans (by simpa using hj)⟩
/-- rows, one after another -/
structure RowsA {α : Type} (row : α → List Value) (sz lo : Nat) (wr : World) (a : Option Addr) (l : List α) : Prop where
  el : ∀ i x, l[i]? = some x → a.isSome = true ∧ CA lo wr (elt a i sz) (row x)
  len : l.length ≤ 9223372036854775807
section
variable {α : Type} {row : α → List Value} {sz : Nat}
theorem RowsA.at {w0 rs w lo wr a l} (h : RowsA row sz lo wr a l) (hw : Hp w0 rs w) (hm : Res.reg lo wr ∈ rs) : RowsA row sz 0 w a l := ⟨fun i s hi => ⟨(h.el i s hi).1, CA.at (h.el i s hi).2 hw hm⟩, h.len⟩
theorem RowsA.below {w w1 a l} (h : RowsA row sz 0 w a l) (hb : Below w.heap.size w w1) : RowsA row sz 0 w1 a l := h.at (hp_below hb) (.head _)
theorem RowsA.noa {lo wr a l} (h : RowsA row sz lo wr a l) (ha : a = none) : l.length = 0 := by
  rcases Nat.eq_zero_or_pos l.length with h0 | h0
  · exact h0
  · have := (h.el 0 _ (List.getElem?_eq_getElem h0)).1; rw [ha] at this; cases this
theorem RowsA.get {lo wr a l} (h : RowsA row sz lo wr a l) {i : Nat} (d : α) (hi : i < l.length) : a.isSome = true ∧ CA lo wr (elt a i sz) (row (l.getD i d)) := by
  refine h.el i _ ?_
  rw [List.getD_eq_getElem?_getD, List.getElem?_eq_getElem hi]; rfl
theorem RowsA.cells {w ad l} (hr : ∀ x, (row x).length = sz) (hsz : 0 < sz) (h : RowsA row sz 0 w (some ad) l) : ∀ j u, (l.flatMap row)[j]? = some u → w.cell? (ad.add j) = some u := rows_cells hr hsz fun i x hx => (h.el i x hx).2
theorem RowsA.take {lo wr a l} (h : RowsA row sz lo wr a l) (k : Nat) : RowsA row sz lo wr a (l.take k) := by
  refine ⟨fun i x hi => ?_, by rw [List.length_take]; have := h.len; omega⟩
  rw [List.getElem?_take] at hi
  split at hi
  · exact h.el i x hi
  · cases hi
theorem RowsA.low {lo lo' w a l} (h : RowsA row sz lo w a l) (hl : lo' ≤ lo) : RowsA row sz lo' w a l := ⟨fun i s hi => ⟨(h.el i s hi).1, (h.el i s hi).2.low hl⟩, h.len⟩
theorem RowsA.nil (lo : Nat) (w : World) : RowsA row sz lo w none [] := ⟨fun i s hi => by simp at hi, by simp⟩
theorem flat_one (hone : ∀ x, ∀ u ∈ row x, u.oneCell' = true) (l : List α) : ∀ u ∈ l.flatMap row, u.oneCell' = true := fun u hu => by
  obtain ⟨x, _, h⟩ := List.mem_flatMap.1 hu
  exact hone x u h
theorem own_rowsA (hr : ∀ x, (row x).length = sz) {w : World} {base : Nat} {v : Value} {n : Nat} {l : List α} {e : TypeId} (h : w.ownsRow base e sz v n (l.flatMap row)) (hn : l.length = n) (h64 : n ≤ 9223372036854775807) : ∃ a c, v = .slice a n c ∧ n ≤ c ∧ RowsA row sz base w a l := by
  subst hn
  obtain ⟨a, c, h1, h2, h3⟩ := own_rows hr h
  exact ⟨a, c, h1, h2, h3, h64⟩
theorem take_getV {l xs : List Value} {n k : Nat} {v : Value} (h : l.take n = xs) (hk : xs[k]? = some v) : l[k]? = some v := by
  rw [← h, List.getElem?_take] at hk
  split at hk
  · exact hk
  · cases hk
theorem blk_rowsA (hr : ∀ x, (row x).length = sz) {w0 w : World} {rs : List Res} (hw : Hp w0 rs w) {g n : Nat} {cur : Array Value} {e : TypeId} {fz : Nat × Nat} (hm : Res.blk g (.cells cur e fz) ∈ rs) {l : List α} (hc : cur.toList.take n = l.flatMap row) (h64 : l.length ≤ 9223372036854775807) : RowsA row sz 0 w (some ⟨g, 0, none⟩) l := by
  refine ⟨fun i x hi => ⟨rfl, ?_⟩, h64⟩
  have e1 : elt (some ⟨g, 0, none⟩) i sz = (⟨g, i * sz, none⟩ : Addr) := by simp [elt, Addr.add_lit]
  rw [e1]
  refine ⟨Nat.zero_le _, fun j v hj => ?_⟩
  rw [Addr.add_lit, cell_blk hw hm]
  have := take_getV hc (flat_get hr l i x hi j v hj)
  simpa using this
/-- a literal of a slice, to be read -/
theorem lit_rowsA (hr : ∀ x, (row x).length = sz) {w0 w : World} {rs : List Res} (hw : Hp w0 rs w) {g : Nat} {cur : List Value} {e : TypeId} {fz : Nat × Nat} (hm : Res.blk g (.cells cur.toArray e fz) ∈ rs) {l : List α} (hc : cur = l.flatMap row) (h64 : l.length ≤ 9223372036854775807) : RowsA row sz 0 w (some ⟨g, 0, none⟩) l :=
  blk_rowsA hr hw hm (n := cur.length) (by simpa using hc) h64
end
section
variable {X : Ctx} {Q : Post} {L : List (Nat × Value)} {rs : List Res} {ops : Array Oper} {rest : List Oper} {op : Op} {ty t t' e e' : TypeId} {v u : Value} {d n : Nat} {pos : String} {af : Array Edge} {x y : Operand} {d0 : TypeDesc} {k : IntKind}
/-- a part of a block -/
theorem y_load_part {b o : Nat} {vs : List Value} {fz : Nat × Nat} (hu : X.P.underlying t = some d0) (hs : scal d0 = false) (hz : ∀ w, (Go.sizeOf t).run X.P w = .ok n w) (hx : ev L x = some (.pointer (some ⟨b, o, none⟩))) (hm : Res.blk b (.cells vs.toArray e fz) ∈ rs) (hl : ((vs.drop o).take n).length = n) :
    OpS X L rs (.load t x) ty (.agg ((vs.drop o).take n).toArray) := y_load_blks _ hu hs hz hx hm hl fun j v hj => by
  rw [List.getElem?_take] at hj
  split at hj
  · rw [List.getElem?_drop] at hj; simpa using hj
  · cases hj
theorem CA.part {lo wr p vs} (h : CA lo wr p vs) (o n : Nat) : CA lo wr (p.add o) ((vs.drop o).take n) := ⟨by rw [Addr.add_block]; exact h.1, fun j v hj => by
  rw [List.getElem?_take] at hj
  split at hj
  · rw [List.getElem?_drop] at hj
    rw [Addr.add_add]; exact h.2 _ _ hj
  · cases hj⟩
/-- a part of a row of a region -/
theorem y_load_capart {lo o : Nat} {wr : World} {p : Addr} {vs : List Value} (hu : X.P.underlying t = some d0) (hs : scal d0 = false) (hz : ∀ w, (Go.sizeOf t).run X.P w = .ok n w) (hx : ev L x = some (.pointer (some (p.add o)))) (hm : Res.reg lo wr ∈ rs) (hc : CA lo wr p vs) (hl : ((vs.drop o).take n).length = n) :
    OpS X L rs (.load t x) ty (.agg ((vs.drop o).take n).toArray) := y_load_ca hu hs hz hx hm (hc.part o n) hl
/-- a cell at an address with two offsets -/
theorem y_load_cajj {lo o1 o2 : Nat} {wr : World} {p : Addr} {vs : List Value} (hu : X.P.underlying t = some d0) (hs : scal d0 = true) (hx : ev L x = some (.pointer (some ((p.add o1).add o2)))) (hm : Res.reg lo wr ∈ rs) (hc : CA lo wr p vs) (hv : vs[o1 + o2]? = some v) : OpS X L rs (.load t x) ty v := by
  rw [Addr.add_add] at hx
  exact y_load_reg hu hs hx hm (by rw [Addr.add_block]; exact hc.1) (hc.2 _ v hv)
/-- a literal of an array -/
theorem y_build_arr {z : Value} {ln sz : Nat} {ps : List (Nat × Operand)} {vs : List (Nat × Value)} {cells : Array Value} (hu : X.P.underlying t = some (.array ln e)) (hz : ∀ w, (zeroValue t).run X.P w = .ok z w) (hs : ∀ w, (Go.sizeOf e).run X.P w = .ok sz w) (hp : EvP L ps vs) (hf : Instr.fill (fun i => some (i * sz, sz)) z.cells vs = some cells) :
    OpS X L rs (.build t ps.toArray) ty (.agg cells) := .val fun o h1 _ a w ha _ => by
  have h2 := hp.map ha
  have h3 : (Instr.build t (ps.toArray.map fun (i, x) => (i, a.eval x))).run X.P w = .ok (.agg cells) w := by
    simp only [Instr.build, Sem.run_bind, hz, Result.andThen_ok, run_underlying hu, hs, List.map_toArray, List.toList_toArray, h2, hf, Sem.run_pure]
  simp [execOp, h1] at h3 ⊢
  simp [h3]
theorem y_slice_full {b ln : Nat} (hu : X.P.underlying t = some (.array ln e)) (hz : ∀ w, (Go.sizeOf e).run X.P w = .ok n w) (hx : ev L x = some (.pointer (some ⟨b, 0, none⟩))) : OpS X L rs (.slice t x none none none) ty (.slice (some ⟨b, 0, none⟩) ln ln) := .val fun o h1 _ a w ha _ => by
  simp [execOp, h1, ha.eval hx, Instr.sliceAt, run_underlying hu, Instr.sureAddr, Instr.sliceBounds, hz, Addr.add_zero']
/-- two variables that are results -/
theorem sx_retcc {fn : Func} {R : Ending → World → Prop} {r r2 : Tmp} {t2 e2 : TypeId} {d2 : TypeDesc} {n2 : Nat} {en : Exit} {b b2 : Nat} {vs vs2 : List Value} {fz fz2 : Nat × Nat} (hen : en = .ret ∨ en = .normal) (hD : X.D = []) (hr : fn.results = #[.cell r t, .cell r2 t2]) (hu : X.P.underlying t = some d0) (hs : scal d0 = false) (hz : ∀ w, (Go.sizeOf t).run X.P w = .ok n w)
    (hu2 : X.P.underlying t2 = some d2) (hs2 : scal d2 = false) (hz2 : ∀ w, (Go.sizeOf t2).run X.P w = .ok n2 w)
    (hv : lk L r = some (.pointer (some ⟨b, 0, none⟩))) (hm : Res.blk b (.cells vs.toArray e fz) ∈ rs) (hl : vs.length = n) (hvb : lk L r2 = some (.pointer (some ⟨b2, 0, none⟩))) (hm2 : Res.blk b2 (.cells vs2.toArray e2 fz2) ∈ rs) (hl2 : vs2.length = n2) (h : ∀ w, Hp X.w0 rs w → R (.returned (.tuple #[.agg vs.toArray, .agg vs2.toArray])) w) : SX X (bodyPost X.P fn R) en L rs := by
  intro a w ha hw
  have hg : a.tmps[r]? = some (.pointer (some ⟨b, 0, none⟩)) := ha.get _ _ hv
  have hgb : a.tmps[r2]? = some (.pointer (some ⟨b2, 0, none⟩)) := ha.get _ _ hvb
  have hres : (results fn a.tmps).run X.P w = .ok (.tuple #[.agg vs.toArray, .agg vs2.toArray]) w := by
    simp [results, hr, hg, hgb, asAddr, cell_var hw hu hs hz hm hl, cell_var hw hu2 hs2 hz2 hm2 hl2]
  rcases hen with rfl | rfl <;> exact ⟨ha.defs.trans hD, _, hres, h w hw⟩
end

/-! ### short words -/
theorem SR {p : Prop} (h : p := by repeat (first | exact Sel.refl _ | exact Sel.nil | refine Sel.cons (by repeat (first | exact Rem.here | apply Rem.there)) ?_ | refine Sel.skip ?_)) : p := h
theorem OM {p : Prop} (h : p := by omega) : p := h
theorem EV {p : Prop} (h : p := by repeat (first | exact EvL.nil | refine EvL.cons (by exact rfl) ?_)) : p := h
section
variable {X : Ctx} {Q : Post} {L : List (Nat × Value)} {rs : List Res} {ops : Array Oper} {rest : List Oper} {op : Op} {ty : TypeId} {v : Value} {d : Nat} {pos : String} {af : Array Edge}
theorem qs (hy : OpS X L rs op ty v) (k : SQ X ops Q rest ((d, v) :: L) rs) (hd : Nat.ble (d + 1) X.N = true := by exact rfl) : SQ X ops Q (⟨some d, op, ty, pos, af, none⟩ :: rest) L rs := sq_y (OpY.s hy) hd k
theorem qy (hy : OpY X L rs op ty v) (k : SQ X ops Q rest ((d, v) :: L) rs) (hd : Nat.ble (d + 1) X.N = true := by exact rfl) : SQ X ops Q (⟨some d, op, ty, pos, af, none⟩ :: rest) L rs := sq_y hy hd k
theorem qg {j t : Nat} {b : Bool} (hy : OpS X L rs op ty v) (k : SQ X ops Q rest ((d, v) :: L) rs) (hj : (ops[j]?).bind (·.dst) = some t := by exact rfl) (ht : lk L t = some (.bool b) := by exact rfl) (hd : Nat.ble (d + 1) X.N = true := by exact rfl) :
    SQ X ops Q (⟨some d, op, ty, pos, af, some (j, b)⟩ :: rest) L rs := sq_gt hj ht (OpY.s hy) hd k
theorem qf {j t : Nat} {b b' : Bool} (k : SQ X ops Q rest ((d, undef) :: L) rs) (hj : (ops[j]?).bind (·.dst) = some t := by exact rfl) (ht : lk L t = some (.bool b') := by exact rfl) (hb : b' = !b := by exact rfl) (hd : Nat.ble (d + 1) X.N = true := by exact rfl) :
    SQ X ops Q (⟨some d, op, ty, pos, af, some (j, b)⟩ :: rest) L rs := sq_gf hj ht hb hd k
theorem q0 (hy : OpY X L rs op ty v) (k : SQ X ops Q rest L rs) : SQ X ops Q (⟨none, op, ty, pos, af, none⟩ :: rest) L rs := sq_y0 hy k
/-- what a truth value says, and what its being false -/
def Spl (b : Bool) (p q : Prop) : Prop := (b = true → p) ∧ (b = false → q)
theorem Spl.dec {p : Prop} [Decidable p] : Spl (decide p) p (¬ p) := ⟨of_decide_eq_true, of_decide_eq_false⟩
theorem Spl.not {p : Prop} [Decidable p] : Spl (!decide p) (¬ p) p := ⟨fun e => by simpa using e, fun e => by simpa using e⟩
theorem Spl.self {b : Bool} : Spl b (b = true) (b = false) := ⟨id, id⟩
theorem sp (tt : Nat) {b : Bool} {p q : Prop} {l : List Oper} (h1 : p → SQ X ops Q l ((tt, .bool true) :: L) rs) (h2 : q → SQ X ops Q l ((tt, .bool false) :: L) rs) (h : lk L tt = some (.bool b) := by exact rfl) (hb : Spl b p q := by first | exact Spl.dec | exact Spl.not | exact Spl.self) : SQ X ops Q l L rs :=
  sq_split h (fun e => h1 (hb.1 e)) (fun e => h2 (hb.2 e))
theorem spb (tt : Nat) {b : Bool} {l : List Oper} (h1 : b = true → SQ X ops Q l ((tt, .bool true) :: L) rs) (h2 : b = false → SQ X ops Q l ((tt, .bool false) :: L) rs) (h : lk L tt = some (.bool b) := by exact rfl) : SQ X ops Q l L rs := sq_split h h1 h2
theorem scp {x : Operand} {b : Bool} {p q : Prop} {c d : Code} (ht : p → SC X c Q L rs) (hf : q → SC X d Q L rs) (hx : ev L x = some (.bool b) := by exact rfl) (hb : Spl b p q := by first | exact Spl.dec | exact Spl.not | exact Spl.self) : SC X (.cond x c d) Q L rs :=
  sc_cond hx (fun e => ht (hb.1 e)) (fun e => hf (hb.2 e))
theorem E0 {L : List (Nat × Value)} : EvL L [] [] := EvL.nil
theorem E1 {L : List (Nat × Value)} {x0 : Operand} {v0 : Value} (h0 : ev L x0 = some v0 := by exact rfl) : EvL L [x0] [v0] := (EvL.cons h0 EvL.nil)
theorem E2 {L : List (Nat × Value)} {x0 x1 : Operand} {v0 v1 : Value} (h0 : ev L x0 = some v0 := by exact rfl) (h1 : ev L x1 = some v1 := by exact rfl) : EvL L [x0, x1] [v0, v1] := (EvL.cons h0 (EvL.cons h1 EvL.nil))
theorem E3 {L : List (Nat × Value)} {x0 x1 x2 : Operand} {v0 v1 v2 : Value} (h0 : ev L x0 = some v0 := by exact rfl) (h1 : ev L x1 = some v1 := by exact rfl) (h2 : ev L x2 = some v2 := by exact rfl) : EvL L [x0, x1, x2] [v0, v1, v2] := (EvL.cons h0 (EvL.cons h1 (EvL.cons h2 EvL.nil)))
theorem E4 {L : List (Nat × Value)} {x0 x1 x2 x3 : Operand} {v0 v1 v2 v3 : Value} (h0 : ev L x0 = some v0 := by exact rfl) (h1 : ev L x1 = some v1 := by exact rfl) (h2 : ev L x2 = some v2 := by exact rfl) (h3 : ev L x3 = some v3 := by exact rfl) : EvL L [x0, x1, x2, x3] [v0, v1, v2, v3] := (EvL.cons h0 (EvL.cons h1 (EvL.cons h2 (EvL.cons h3 EvL.nil))))
theorem E5 {L : List (Nat × Value)} {x0 x1 x2 x3 x4 : Operand} {v0 v1 v2 v3 v4 : Value} (h0 : ev L x0 = some v0 := by exact rfl) (h1 : ev L x1 = some v1 := by exact rfl) (h2 : ev L x2 = some v2 := by exact rfl) (h3 : ev L x3 = some v3 := by exact rfl) (h4 : ev L x4 = some v4 := by exact rfl) : EvL L [x0, x1, x2, x3, x4] [v0, v1, v2, v3, v4] := (EvL.cons h0 (EvL.cons h1 (EvL.cons h2 (EvL.cons h3 (EvL.cons h4 EvL.nil)))))
theorem E6 {L : List (Nat × Value)} {x0 x1 x2 x3 x4 x5 : Operand} {v0 v1 v2 v3 v4 v5 : Value} (h0 : ev L x0 = some v0 := by exact rfl) (h1 : ev L x1 = some v1 := by exact rfl) (h2 : ev L x2 = some v2 := by exact rfl) (h3 : ev L x3 = some v3 := by exact rfl) (h4 : ev L x4 = some v4 := by exact rfl) (h5 : ev L x5 = some v5 := by exact rfl) : EvL L [x0, x1, x2, x3, x4, x5] [v0, v1, v2, v3, v4, v5] := (EvL.cons h0 (EvL.cons h1 (EvL.cons h2 (EvL.cons h3 (EvL.cons h4 (EvL.cons h5 EvL.nil))))))
theorem E7 {L : List (Nat × Value)} {x0 x1 x2 x3 x4 x5 x6 : Operand} {v0 v1 v2 v3 v4 v5 v6 : Value} (h0 : ev L x0 = some v0 := by exact rfl) (h1 : ev L x1 = some v1 := by exact rfl) (h2 : ev L x2 = some v2 := by exact rfl) (h3 : ev L x3 = some v3 := by exact rfl) (h4 : ev L x4 = some v4 := by exact rfl) (h5 : ev L x5 = some v5 := by exact rfl) (h6 : ev L x6 = some v6 := by exact rfl) : EvL L [x0, x1, x2, x3, x4, x5, x6] [v0, v1, v2, v3, v4, v5, v6] := (EvL.cons h0 (EvL.cons h1 (EvL.cons h2 (EvL.cons h3 (EvL.cons h4 (EvL.cons h5 (EvL.cons h6 EvL.nil)))))))
theorem yc {f : FuncId} {args : List Operand} {vs : List Value} {ats : Array TypeId} (hcf : ∀ args w, (callFunc f args).run X.P w = .ok (.enter f args) w) (hv : EvL L args vs)
    (hc : ∀ w, Hp X.w0 rs w → Calls X.P f ([] ++ vs ++ []).toArray w fun e w' => e = .returned v ∧ Below w.heap.size w w') : OpY X L rs (.call { callee := .value (.func f), args := args.toArray, argTypes := ats }) ty v :=
  y_call (g := .func f) (first := []) (caps := []) rfl hcf hv hc
end
end Go.Eng
