/- The engine, part 3: memory. -/
import Derived.Test.YtpijahglojichaaDoorEng2
namespace Go.Eng
open Go Go.RowKit

def scal : TypeDesc → Bool
  | .struct _ | .array _ _ => false
  | _ => true
theorem run_isAgg_scal {P : Program} {t d} (hu : P.underlying t = some d) (hs : scal d = true) (w : World) : (isAgg t).run P w = .ok false w := by
  simp only [isAgg, Sem.run_bind, run_underlying hu, Result.andThen_ok]
  cases d <;> first | rfl | cases hs
theorem run_isAgg_agg {P : Program} {t d} (hu : P.underlying t = some d) (hs : scal d = false) (w : World) : (isAgg t).run P w = .ok true w := by
  simp only [isAgg, Sem.run_bind, run_underlying hu, Result.andThen_ok]
  cases d <;> first | rfl | cases hs
theorem run_loadVar_scal {P : Program} {t d p v} {w : World} (hu : P.underlying t = some d) (hs : scal d = true) (hc : w.cell? p = some v) : (loadVar t p).run P w = .ok v w := by
  simp [loadVar, run_isAgg_scal hu hs, hc]
theorem run_loadVar_agg {P : Program} {t d p n} {w : World} {vs : List Value} (hu : P.underlying t = some d) (hs : scal d = false) (hz : ∀ w, (Go.sizeOf t).run P w = .ok n w) (hl : vs.length = n)
    (hc : ∀ j v, vs[j]? = some v → w.cell? (p.add j) = some v) : (loadVar t p).run P w = .ok (.agg vs.toArray) w := by
  have := run_loadCells_list (P := P) w p vs hc
  rw [hl] at this
  simp [loadVar, run_isAgg_agg hu hs, hz, this]
theorem Addr.add_zero' (p : Addr) : p.add 0 = p := rfl

/-! the cells of a region -/
def CA (lo : Nat) (wr : World) (p : Addr) (vs : List Value) : Prop := lo ≤ p.block ∧ ∀ j v, vs[j]? = some v → wr.cell? (p.add j) = some v
theorem Addr.add_block (p : Addr) (n : Nat) : (p.add n).block = p.block := by unfold Addr.add; split <;> rfl
theorem cell_reg {w0 rs w lo wr} (h : Hp w0 rs w) (hm : Res.reg lo wr ∈ rs) {p : Addr} {v : Value} (hlo : lo ≤ p.block) (hc : wr.cell? p = some v) : w.cell? p = some v := by
  have hlt := block_lt_of_cell hc
  exact (World.cell?_of_block (w := wr) ((h.ok _ hm).2 _ hlo hlt)).trans hc
/-- a slice in a region: row after row -/
def elt (a : Option Addr) (i sz : Nat) : Addr := (a.getD ⟨0, 0, none⟩).add (i * sz)
def SlA (lo : Nat) (wr : World) (sz : Nat) (a : Option Addr) (rows : List (List Value)) : Prop :=
  ∀ i row, rows[i]? = some row → a.isSome = true ∧ row.length = sz ∧ CA lo wr (elt a i sz) row

section
variable {X : Ctx} {Q : Post} {L : List (Nat × Value)} {rs : List Res} {ops : Array Oper} {rest : List Oper} {op : Op} {ty t e : TypeId} {v u : Value} {d n : Nat} {pos : String} {af : Array Edge} {x y : Operand} {d0 : TypeDesc}
/-! ### addresses -/
theorem y_fa {S f k : Nat} {fs : Array Field} {fld : Field} {p : Addr} {n : Nat} (hu : X.P.underlying S = some (.struct fs)) (hf : fs[f]? = some fld) (hz : ∀ w, (Go.sizeOf fld.type).run X.P w = .ok (n + 1) w) (hx : ev L x = some (.pointer (some p))) (hk : fld.offset = k) :
    OpS X L rs (.fieldAddr S x f) ty (.pointer (some (p.add k))) := .val fun o h1 _ a w ha _ => by
  simp [execOp, h1, ha.eval hx, Instr.fieldAt, run_underlying hu, hf, Instr.sureAddr, fieldPlace, hz, hk]
theorem y_fab {S f k b o : Nat} {fs : Array Field} {fld : Field} {n : Nat} (hu : X.P.underlying S = some (.struct fs)) (hf : fs[f]? = some fld) (hz : ∀ w, (Go.sizeOf fld.type).run X.P w = .ok (n + 1) w) (hx : ev L x = some (.pointer (some ⟨b, o, none⟩))) (hk : fld.offset = k) :
    OpS X L rs (.fieldAddr S x f) ty (.pointer (some ⟨b, o + k, none⟩)) := by
  have := y_fa (rs := rs) (ty := ty) hu hf hz hx hk
  rwa [Addr.add_lit] at this
/-- an index, at a slice: its own block's head -/
theorem y_ia_blk {b o ln cp sz i : Nat} {k : IntKind} (hu : X.P.underlying t = some (.slice e)) (hz : ∀ w, (Go.sizeOf e).run X.P w = .ok sz w) (hx : ev L x = some (.slice (some ⟨b, o, none⟩) ln cp)) (hy : ev L y = some (.int k (i : Int))) (hi : i < ln) :
    OpS X L rs (.indexAddr t x y) ty (.pointer (some ⟨b, o + i * sz, none⟩)) := .val fun o' h1 _ a w ha _ => by
  simp [execOp, h1, ha.eval hx, ha.eval hy, Instr.indexAt, asIntOf, run_underlying hu, hi, hz, Addr.add_lit]
theorem y_ia_el {a0 : Option Addr} {ln cp sz i : Nat} {k : IntKind} (hu : X.P.underlying t = some (.slice e)) (hz : ∀ w, (Go.sizeOf e).run X.P w = .ok sz w) (hx : ev L x = some (.slice a0 ln cp)) (hy : ev L y = some (.int k (i : Int))) (hi : i < ln) (ha0 : a0.isSome = true) :
    OpS X L rs (.indexAddr t x y) ty (.pointer (some (elt a0 i sz))) := .val fun o' h1 _ a w ha _ => by
  cases a0 with
  | none => cases ha0
  | some p => simp [execOp, h1, ha.eval hx, ha.eval hy, Instr.indexAt, asIntOf, run_underlying hu, hi, hz, elt]
theorem y_ia_arr {b o ln sz i : Nat} {k : IntKind} (hu : X.P.underlying t = some (.array ln e)) (hz : ∀ w, (Go.sizeOf e).run X.P w = .ok sz w) (hx : ev L x = some (.pointer (some ⟨b, o, none⟩))) (hy : ev L y = some (.int k (i : Int))) (hi : i < ln) :
    OpS X L rs (.indexAddr t x y) ty (.pointer (some ⟨b, o + i * sz, none⟩)) := .val fun o' h1 _ a w ha _ => by
  simp [execOp, h1, ha.eval hx, ha.eval hy, Instr.indexAt, Instr.sureAddr, asIntOf, run_underlying hu, hi, hz, Addr.add_lit]
/-! ### loads -/
theorem cell_blk {w0 w : World} (h : Hp w0 rs w) {b o : Nat} {cs : Array Value} {e : TypeId} {fz : Nat × Nat} (hm : Res.blk b (.cells cs e fz) ∈ rs) : w.cell? ⟨b, o, none⟩ = cs[o]? := cell_of_row w b o cs e fz (h.ok _ hm)
theorem y_load_blk {b o : Nat} {cs : Array Value} {fz : Nat × Nat} (hu : X.P.underlying t = some d0) (hs : scal d0 = true) (hx : ev L x = some (.pointer (some ⟨b, o, none⟩))) (hm : Res.blk b (.cells cs e fz) ∈ rs) (hc : cs[o]? = some v) :
    OpS X L rs (.load t x) ty v := .val fun o' h1 _ a w ha hw => by
  simp [execOp, h1, ha.eval hx, Instr.loadAt, Instr.sureAddr, run_loadVar_scal hu hs ((cell_blk hw hm).trans hc)]
theorem y_load_blks {b o : Nat} {cs : Array Value} {fz : Nat × Nat} (vs : List Value) (hu : X.P.underlying t = some d0) (hs : scal d0 = false) (hz : ∀ w, (Go.sizeOf t).run X.P w = .ok n w) (hx : ev L x = some (.pointer (some ⟨b, o, none⟩))) (hm : Res.blk b (.cells cs e fz) ∈ rs)
    (hl : vs.length = n) (hc : ∀ j v, vs[j]? = some v → cs[o + j]? = some v) : OpS X L rs (.load t x) ty (.agg vs.toArray) := .val fun o' h1 _ a w ha hw => by
  have := run_loadVar_agg (P := X.P) (p := ⟨b, o, none⟩) (w := w) hu hs hz hl (fun j v hj => by rw [Addr.add_lit]; exact (cell_blk hw hm).trans (hc j v hj))
  simp [execOp, h1, ha.eval hx, Instr.loadAt, Instr.sureAddr, this]
/-- the whole of a block -/
theorem y_load_all {b : Nat} {vs : List Value} {fz : Nat × Nat} (hu : X.P.underlying t = some d0) (hs : scal d0 = false) (hz : ∀ w, (Go.sizeOf t).run X.P w = .ok n w) (hx : ev L x = some (.pointer (some ⟨b, 0, none⟩))) (hm : Res.blk b (.cells vs.toArray e fz) ∈ rs)
    (hl : vs.length = n) : OpS X L rs (.load t x) ty (.agg vs.toArray) := y_load_blks vs hu hs hz hx hm hl (fun j v hj => by simpa using hj)
theorem y_load_2 {b o : Nat} {cs : Array Value} {fz : Nat × Nat} {u0 u1 : Value} (hu : X.P.underlying t = some d0) (hs : scal d0 = false) (hz : ∀ w, (Go.sizeOf t).run X.P w = .ok 2 w) (hx : ev L x = some (.pointer (some ⟨b, o, none⟩))) (hm : Res.blk b (.cells cs e fz) ∈ rs)
    (h0 : cs[o]? = some u0) (h1 : cs[o + 1]? = some u1) : OpS X L rs (.load t x) ty (.agg #[u0, u1]) := y_load_blks [u0, u1] hu hs hz hx hm rfl (fun j v hj => by
  rcases j with _ | _ | j
  · simp at hj; subst hj; exact h0
  · simp at hj; subst hj; exact h1
  · simp at hj)
theorem y_load_reg {lo : Nat} {wr : World} {p : Addr} (hu : X.P.underlying t = some d0) (hs : scal d0 = true) (hx : ev L x = some (.pointer (some p))) (hm : Res.reg lo wr ∈ rs) (hlo : lo ≤ p.block) (hc : wr.cell? p = some v) :
    OpS X L rs (.load t x) ty v := .val fun o' h1 _ a w ha hw => by
  simp [execOp, h1, ha.eval hx, Instr.loadAt, Instr.sureAddr, run_loadVar_scal hu hs (cell_reg hw hm hlo hc)]
theorem y_load_ca {lo : Nat} {wr : World} {p : Addr} {vs : List Value} (hu : X.P.underlying t = some d0) (hs : scal d0 = false) (hz : ∀ w, (Go.sizeOf t).run X.P w = .ok n w) (hx : ev L x = some (.pointer (some p))) (hm : Res.reg lo wr ∈ rs) (hc : CA lo wr p vs) (hl : vs.length = n) :
    OpS X L rs (.load t x) ty (.agg vs.toArray) := .val fun o' h1 _ a w ha hw => by
  have := run_loadVar_agg (P := X.P) (p := p) (w := w) hu hs hz hl (fun j v hj => cell_reg hw hm (by rw [Addr.add_block]; exact hc.1) (hc.2 j v hj))
  simp [execOp, h1, ha.eval hx, Instr.loadAt, Instr.sureAddr, this]
/-- a cell of a row of a region: at an address with an offset, and at the head -/
theorem y_load_caj {lo j : Nat} {wr : World} {p : Addr} {vs : List Value} (hu : X.P.underlying t = some d0) (hs : scal d0 = true) (hx : ev L x = some (.pointer (some (p.add j)))) (hm : Res.reg lo wr ∈ rs) (hc : CA lo wr p vs) (hv : vs[j]? = some v) :
    OpS X L rs (.load t x) ty v := y_load_reg hu hs hx hm (by rw [Addr.add_block]; exact hc.1) (hc.2 j v hv)
theorem y_load_ca0 {lo : Nat} {wr : World} {p : Addr} {vs : List Value} (hu : X.P.underlying t = some d0) (hs : scal d0 = true) (hx : ev L x = some (.pointer (some p))) (hm : Res.reg lo wr ∈ rs) (hc : CA lo wr p vs) (hv : vs[0]? = some v) :
    OpS X L rs (.load t x) ty v := y_load_reg hu hs hx hm hc.1 (hc.2 0 v hv)
/-- a cell of an own slice -/
theorem own_cell {w0 w : World} (h : Hp w0 rs w) {b o ln cp sz m : Nat} {xs : List Value} (hm : Res.own (.slice (some ⟨b, 0, none⟩) ln cp) e sz m xs ∈ rs) (hc : xs[o]? = some v) : w.cell? ⟨b, o, none⟩ = some v := by
  have := World.ownsRow.cells (h.ok _ hm) (g := b) rfl o v hc
  rwa [Addr.add_lit, Nat.zero_add] at this
/-! ### stores, new variables -/
theorem setCell_heap {w : World} {b o : Nat} {cs : Array Value} {e : TypeId} (hg : w.heap[b]? = some (.cells cs e (0, 0))) (u : Value) : (w.setCell ⟨b, o, none⟩ u).heap[b]? = some (.cells (cs.setIfInBounds o u) e (0, 0)) := by
  simp [World.setCell, Array.getElem?_modify, hg]
theorem hp_store {w0 w : World} {rest' : List Res} (h : Hp w0 rs w) {b o : Nat} {cs : Array Value} (hr : Rem (.blk b (.cells cs e (0, 0))) rs rest') (u : Value) : Hp w0 (.blk b (.cells (cs.setIfInBounds o u) e (0, 0)) :: rest') (w.setCell ⟨b, o, none⟩ u) :=
  h.swap hr _ rfl rfl rfl (by simp) (fun k _ hd => heap_setCell_other w _ k u (fun e => hd e)) (setCell_heap (h.ok _ hr.mem.1) u) (fun k hk => .inl hk)
theorem run_storeVar_one {P : Program} {t p u} {w : World} (hz : ∀ w, (Go.sizeOf t).run P w = .ok 1 w) (h1 : u.oneCell' = true) (hc : (w.cell? p).isSome = true) (hf : w.frozen? p = false) : (storeVar t p u).run P w = .ok () (w.setCell p u) := by
  have hcs : u.cells = #[u] := by cases u <;> first | rfl | cases h1
  have hst := run_store P w p u .plain h1
  cases hcc : w.cell? p with
  | none => rw [hcc] at hc; cases hc
  | some u0 =>
    rw [hcc] at hst
    simp [hf] at hst
    simp [storeVar, hcs, hz, storeCells, Addr.add_zero', hst]
theorem sq_store {b o : Nat} {cs : Array Value} {rest' : List Res} (hz : ∀ w, (Go.sizeOf t).run X.P w = .ok 1 w) (hx : ev L x = some (.pointer (some ⟨b, o, none⟩))) (hy : ev L y = some u) (h1 : u.oneCell' = true) (hr : Rem (.blk b (.cells cs e (0, 0))) rs rest') (ho : o < cs.size)
    (k : SQ X ops Q rest L (.blk b (.cells (cs.setIfInBounds o u) e (0, 0)) :: rest')) : SQ X ops Q (⟨none, .store t x y, ty, pos, af, none⟩ :: rest) L rs := by
  intro a w ha hw
  refine wpListIn_plain rfl fun K hK => ⟨fun _ _ => trivial, ?_⟩
  have hok := hw.ok _ hr.mem.1
  have hcell : w.cell? ⟨b, o, none⟩ = cs[o]? := cell_of_row w b o cs e (0, 0) hok
  have hrun : (execOp a.eval ⟨none, .store t x y, ty, pos, af, none⟩).run X.P w = .ok .skip (w.setCell ⟨b, o, none⟩ u) := by
    simp [execOp, ha.eval hx, ha.eval hy, Instr.storeAt, Instr.sureAddr, run_storeVar_one hz h1 (by rw [hcell]; simp [ho]) (frozen_of_row w b o cs e hok)]
  rw [Oper.semAt_eq _ _ _ (by simp)]
  rw [hrun]
  exact hK _ _ (k _ _ ha (hp_store hw hr u))
/-- the same; what the block holds behind it is named -/
theorem sq_store_eq {b o : Nat} {cs cs' : Array Value} {rest' : List Res} (hz : ∀ w, (Go.sizeOf t).run X.P w = .ok 1 w) (hx : ev L x = some (.pointer (some ⟨b, o, none⟩))) (hy : ev L y = some u) (h1 : u.oneCell' = true) (hr : Rem (.blk b (.cells cs e (0, 0))) rs rest') (ho : o < cs.size)
    (he : cs.setIfInBounds o u = cs') (k : SQ X ops Q rest L (.blk b (.cells cs' e (0, 0)) :: rest')) : SQ X ops Q (⟨none, .store t x y, ty, pos, af, none⟩ :: rest) L rs :=
  sq_store hz hx hy h1 hr ho (he ▸ k)
/-- a whole variable -/
theorem sq_store_all {b : Nat} {cs : Array Value} {vs : List Value} {rest' : List Res} (hz : ∀ w, (Go.sizeOf t).run X.P w = .ok n w) (hx : ev L x = some (.pointer (some ⟨b, 0, none⟩))) (hy : ev L y = some (.agg vs.toArray)) (h1 : vs.all (·.oneCell') = true) (hr : Rem (.blk b (.cells cs e (0, 0))) rs rest')
    (hl : vs.length = n) (hl' : cs.size = n) (k : SQ X ops Q rest L (.blk b (.cells vs.toArray e (0, 0)) :: rest')) : SQ X ops Q (⟨none, .store t x y, ty, pos, af, none⟩ :: rest) L rs := by
  intro a w ha hw
  refine wpListIn_plain rfl fun K hK => ⟨fun _ _ => trivial, ?_⟩
  have hok := hw.ok _ hr.mem.1
  have h2 := run_storeCells_from (P := X.P) b e vs 0 cs w hok (by omega) (fun v hv => (List.all_eq_true.1 h1) v hv)
  have hrun : (execOp a.eval ⟨none, .store t x y, ty, pos, af, none⟩).run X.P w = .ok .skip (w.setRow b vs.toArray) := by
    simp [execOp, ha.eval hx, ha.eval hy, Instr.storeAt, Instr.sureAddr, storeVar, Value.cells, hz, hl, h2]
  rw [Oper.semAt_eq _ _ _ (by simp)]
  rw [hrun]
  refine hK _ _ (k _ _ ha (hw.swap hr _ rfl rfl rfl (by simp) (fun k _ hd => setRow_other w b k vs.toArray (fun e => hd e)) (setRow_heap w b cs vs.toArray e _ hok) (fun k hk => .inl hk)))
theorem below_alloc (w : World) (o : Obj) : Below w.heap.size w (w.alloc o) := (Below.refl _ _).alloc (Nat.le_refl _) _
theorem hp_alloc {w0 w : World} (h : Hp w0 rs w) (o : Obj) : Hp w0 (.blk w.heap.size o :: rs) (w.alloc o) :=
  h.new (below_alloc w o) _ (heap_alloc_new w o) (fun k hk => by cases hk; exact Nat.le_refl _)
theorem sq_alloc {z : Value} (hz : ∀ w, (zeroValue t).run X.P w = .ok z w) (hd : Nat.ble (d + 1) X.N = true) (k : ∀ b, SQ X ops Q rest ((d, .pointer (some ⟨b, 0, none⟩)) :: L) (.blk b (.cells z.cells t (0, 0)) :: rs)) :
    SQ X ops Q (⟨some d, .alloc t, ty, pos, af, none⟩ :: rest) L rs := by
  intro a w ha hw
  refine wpListIn_plain rfl fun K hK => ⟨fun _ _ => trivial, ?_⟩
  have hrun : (execOp a.eval ⟨some d, .alloc t, ty, pos, af, none⟩).run X.P w = .ok (.value (.pointer (some ⟨w.heap.size, 0, none⟩))) (w.alloc (.cells z.cells t)) := by
    simp [execOp, Instr.alloc, hz, newVar, newRow]
  rw [Oper.semAt_eq _ _ _ (by simp)]
  rw [hrun]
  exact hK _ _ (k _ _ _ (ha.put (Nat.le_of_ble_eq_true hd) _) (hp_alloc hw _))
theorem sq_box (hx : ev L x = some v) (hd : Nat.ble (d + 1) X.N = true) (k : ∀ b, SQ X ops Q rest ((d, .pointer (some ⟨b, 0, none⟩)) :: L) (.blk b (.cells v.cells t (0, 0)) :: rs)) :
    SQ X ops Q (⟨some d, .box t x, ty, pos, af, none⟩ :: rest) L rs := by
  intro a w ha hw
  refine wpListIn_plain rfl fun K hK => ⟨fun _ _ => trivial, ?_⟩
  have hrun : (execOp a.eval ⟨some d, .box t x, ty, pos, af, none⟩).run X.P w = .ok (.value (.pointer (some ⟨w.heap.size, 0, none⟩))) (w.alloc (.cells v.cells t)) := by
    simp [execOp, Instr.box, ha.eval hx, newVar, newRow]
  rw [Oper.semAt_eq _ _ _ (by simp)]
  rw [hrun]
  exact hK _ _ (k _ _ _ (ha.put (Nat.le_of_ble_eq_true hd) _) (hp_alloc hw _))
/-! ### structs, functions, interfaces -/
inductive EvL (L : List (Nat × Value)) : List Operand → List Value → Prop
  | nil : EvL L [] []
  | cons {x v xs vs} (h : ev L x = some v) (t : EvL L xs vs) : EvL L (x :: xs) (v :: vs)
theorem EvL.map {L N D a xs vs} (h : EvL L xs vs) (ha : St N D L a) : xs.map a.eval = vs := by
  induction h with
  | nil => rfl
  | cons h _ ih => simp [ha.eval h, ih]
inductive EvP (L : List (Nat × Value)) : List (Nat × Operand) → List (Nat × Value) → Prop
  | nil : EvP L [] []
  | cons {i x v xs vs} (h : ev L x = some v) (t : EvP L xs vs) : EvP L ((i, x) :: xs) ((i, v) :: vs)
theorem EvP.map {L N D a xs vs} (h : EvP L xs vs) (ha : St N D L a) : xs.map (fun p => (p.1, a.eval p.2)) = vs := by
  induction h with
  | nil => rfl
  | cons h _ ih => simp [ha.eval h, ih]
/-- what a struct's literal is built of: the places of its fields, its zero value -/
def BT (P : Program) (t : TypeId) (places : List (Nat × Nat)) (z : Value) : Prop := ∀ parts cells, Instr.fill (places.toArray[·]?) z.cells parts = some cells → P.built t parts = some cells
theorem BT.mk {P : Program} {t : TypeId} {it : TypeInfo} {fields : Array Field} {places : List (Nat × Nat)} {z : Value} (hi : P.info? t = some it) (hu : P.underlying t = some (.struct fields)) (hz : it.zero = some z)
    (hp : fields.toList.mapM (fun f => (P.info? f.type).map fun i => (f.offset, i.size)) = some places) : BT P t places z := fun parts cells h => by
  simp [Program.built, hi, hu, hz, hp]; simpa using h
theorem y_build {places : List (Nat × Nat)} {z : Value} {ps : List (Nat × Operand)} {vs : List (Nat × Value)} {cells : Array Value} (hb : BT X.P t places z) (hp : EvP L ps vs) (hf : Instr.fill (places.toArray[·]?) z.cells vs = some cells) :
    OpS X L rs (.build t ps.toArray) ty (.agg cells) := .val fun o h1 _ a w ha _ => by
  have h2 := hp.map ha
  have h3 := run_build (P := X.P) w t (ps.toArray.map fun (i, x) => (i, a.eval x)) cells (by simpa [h2] using hb vs cells hf)
  simp [execOp, h1] at h3 ⊢
  simp [h3]
theorem y_makeFunc {fn : Fn} {fs cs : List Operand} {vf vc : List Value} (hf : EvL L fs vf) (hc : EvL L cs vc) : OpS X L rs (.makeFunc fn fs.toArray cs.toArray) ty (.func fn vf.toArray vc.toArray) := .val fun o h1 _ a w ha _ => by
  simp [execOp, h1, Instr.makeFunc, hf.map ha, hc.map ha]
theorem y_makeIface (hu : X.P.underlying t = some d0) (hi : ∀ ms, d0 ≠ .interface ms) (hx : ev L x = some v) : OpS X L rs (.makeInterface t x) ty (.iface t v) := .val fun o h1 _ a w ha _ => by
  simp only [execOp, h1, Sem.run_bind, Instr.makeInterface, run_underlying hu, Result.andThen_ok, ha.eval hx]
  cases d0 <;> first | rfl | exact absurd rfl (hi _)
/-! ### calls -/
theorem run_call {P : Program} {L N D a} (ha : St N D L a) {g : Operand} {f : FuncId} {first caps : Array Value} {args : List Operand} {vs : List Value} {ats : Array TypeId} {o : Oper} (h1 : o.op = .call { callee := .value g, args := args.toArray, argTypes := ats }) (hg : ev L g = some (.func (.func f) first caps))
    (hcf : ∀ args w, (callFunc f args).run P w = .ok (.enter f args) w) (hv : EvL L args vs) (w : World) : (execOp a.eval o).run P w = .ok (.enter f (first ++ vs.toArray ++ caps)) w := by
  simp [execOp, h1, resolve, Deferred.ofValue, ha.eval hg, hv.map ha, invoke, hcf]
theorem y_call {g : Operand} {f : FuncId} {first caps : List Value} {args : List Operand} {vs : List Value} {ats : Array TypeId} (hg : ev L g = some (.func (.func f) first.toArray caps.toArray)) (hcf : ∀ args w, (callFunc f args).run X.P w = .ok (.enter f args) w) (hv : EvL L args vs)
    (hc : ∀ w, Hp X.w0 rs w → Calls X.P f (first ++ vs ++ caps).toArray w fun e w' => e = .returned v ∧ Below w.heap.size w w') : OpY X L rs (.call { callee := .value g, args := args.toArray, argTypes := ats }) ty v := fun o h1 _ a w ha hw => by
  have := run_call ha h1 hg hcf hv w
  unfold Oper.quietAt
  rw [this]
  refine ⟨rfl, ?_⟩
  have h2 := hc w hw
  simp only [List.append_toArray]
  exact h2.mono fun e w' ⟨he, hb⟩ => ⟨he, hw.ext hb⟩
/-- a call whatever it does -/
theorem sq_call {Z : Type} {g : Operand} {f : FuncId} {first caps : List Value} {args : List Operand} {vs : List Value} {ats : Array TypeId} (vz : Z → Value) (rz : Z → List Res) (C : Z → Prop) (hg : ev L g = some (.func (.func f) first.toArray caps.toArray)) (hcf : ∀ args w, (callFunc f args).run X.P w = .ok (.enter f args) w) (hv : EvL L args vs)
    (hc : ∀ w, Hp X.w0 rs w → Calls X.P f (first ++ vs ++ caps).toArray w fun e w' => ∃ z, C z ∧ e = .returned (vz z) ∧ Hp X.w0 (rz z) w') (hd : Nat.ble (d + 1) X.N = true) (k : ∀ z, C z → SQ X ops Q rest ((d, vz z) :: L) (rz z)) :
    SQ X ops Q (⟨some d, .call { callee := .value g, args := args.toArray, argTypes := ats }, ty, pos, af, none⟩ :: rest) L rs := by
  intro a w ha hw
  refine wpListIn_plain rfl fun K hK => ⟨fun _ _ => trivial, ?_⟩
  rw [Oper.semAt_eq _ _ _ (by simp)]
  rw [run_call ha rfl hg hcf hv w]
  refine ⟨fun h => (by cases h), callsIn_FW ?_⟩
  have h2 := hc w hw
  simp only [List.append_toArray]
  refine h2.mono fun _ w' ⟨z, hz, he, hw'⟩ => ?_
  subst he
  exact hK _ _ (k z hz _ _ (ha.put (Nat.le_of_ble_eq_true hd) _) hw')
/-- a call that leaves something new -/
theorem sq_call_new {Z : Type} {g : Operand} {f : FuncId} {first caps : List Value} {args : List Operand} {vs : List Value} {ats : Array TypeId} (vz : Z → Value) (D : Nat → World → Z → Prop) (hg : ev L g = some (.func (.func f) first.toArray caps.toArray)) (hcf : ∀ args w, (callFunc f args).run X.P w = .ok (.enter f args) w) (hv : EvL L args vs)
    (hc : ∀ w, Hp X.w0 rs w → Calls X.P f (first ++ vs ++ caps).toArray w fun e w' => ∃ z, e = .returned (vz z) ∧ Below w.heap.size w w' ∧ D w.heap.size w' z) (hd : Nat.ble (d + 1) X.N = true) (k : ∀ lo w' z, D lo w' z → SQ X ops Q rest ((d, vz z) :: L) (.reg lo w' :: rs)) :
    SQ X ops Q (⟨some d, .call { callee := .value g, args := args.toArray, argTypes := ats }, ty, pos, af, none⟩ :: rest) L rs :=
  sq_call (Z := Nat × World × Z) (fun z => vz z.2.2) (fun z => .reg z.1 z.2.1 :: rs) (fun z => D z.1 z.2.1 z.2.2) hg hcf hv (fun w hw => (hc w hw).mono fun _ w' ⟨z, he, hb, hD⟩ => ⟨(w.heap.size, w', z), hD, he, hw.region hb⟩) hd (fun _ hz => k _ _ _ hz)
/-! ### ways that part, and meet again -/
theorem St.know {N D a} (ha : St N D L a) {tt : Nat} {u : Value} (h : lk L tt = some u) : St N D ((tt, u) :: L) a := ⟨ha.size, ha.defs, fun i v hv => by
  rw [lk_cons] at hv
  by_cases e : tt = i
  · subst e; simp at hv; subst hv; exact ha.get _ _ h
  · simp [e] at hv; exact ha.get _ _ hv⟩
theorem sq_split {tt : Nat} {b : Bool} {l : List Oper} (h : lk L tt = some (.bool b)) (h1 : b = true → SQ X ops Q l ((tt, .bool true) :: L) rs) (h2 : b = false → SQ X ops Q l ((tt, .bool false) :: L) rs) : SQ X ops Q l L rs := by
  intro a w ha hw
  cases b
  · exact h2 rfl a w (ha.know h) hw
  · exact h1 rfl a w (ha.know h) hw
theorem sq_splitd {tt : Nat} {p : Prop} [Decidable p] {l : List Oper} (h : lk L tt = some (.bool (decide p))) (h1 : p → SQ X ops Q l ((tt, .bool true) :: L) rs) (h2 : ¬ p → SQ X ops Q l ((tt, .bool false) :: L) rs) : SQ X ops Q l L rs :=
  sq_split h (fun e => h1 (of_decide_eq_true e)) (fun e => h2 (of_decide_eq_false e))
theorem sq_splitn {tt : Nat} {p : Prop} [Decidable p] {l : List Oper} (h : lk L tt = some (.bool (!decide p))) (h1 : ¬ p → SQ X ops Q l ((tt, .bool true) :: L) rs) (h2 : p → SQ X ops Q l ((tt, .bool false) :: L) rs) : SQ X ops Q l L rs :=
  sq_split h (fun e => h1 (by simpa using e)) (fun e => h2 (by simpa using e))
theorem sq_known {tt : Nat} {b b' : Bool} {l : List Oper} (h : lk L tt = some (.bool b)) (e : b = b') (k : SQ X ops Q l ((tt, .bool b') :: L) rs) : SQ X ops Q l L rs := by
  subst e; intro a w ha hw; exact k a w (ha.know h) hw
theorem qq_split {tt : Nat} {b : Bool} {l : List Oper} (h : lk L tt = some (.bool b)) (h1 : b = true → QQ X ops Q l ((tt, .bool true) :: L) rs) (h2 : b = false → QQ X ops Q l ((tt, .bool false) :: L) rs) : QQ X ops Q l L rs := by
  intro a ha
  cases b
  · exact h2 rfl a (ha.know h)
  · exact h1 rfl a (ha.know h)
theorem qq_splitd {tt : Nat} {p : Prop} [Decidable p] {l : List Oper} (h : lk L tt = some (.bool (decide p))) (h1 : p → QQ X ops Q l ((tt, .bool true) :: L) rs) (h2 : ¬ p → QQ X ops Q l ((tt, .bool false) :: L) rs) : QQ X ops Q l L rs :=
  qq_split h (fun e => h1 (of_decide_eq_true e)) (fun e => h2 (of_decide_eq_false e))
theorem qq_splitn {tt : Nat} {p : Prop} [Decidable p] {l : List Oper} (h : lk L tt = some (.bool (!decide p))) (h1 : ¬ p → QQ X ops Q l ((tt, .bool true) :: L) rs) (h2 : p → QQ X ops Q l ((tt, .bool false) :: L) rs) : QQ X ops Q l L rs :=
  qq_split h (fun e => h1 (by simpa using e)) (fun e => h2 (by simpa using e))
theorem qq_known {tt : Nat} {b b' : Bool} {l : List Oper} (h : lk L tt = some (.bool b)) (e : b = b') (k : QQ X ops Q l ((tt, .bool b') :: L) rs) : QQ X ops Q l L rs := by
  subst e; intro a ha; exact k a (ha.know h)
theorem SubL.skip {L' L1 : List (Nat × Value)} {i : Nat} {u : Value} (h : lk L' i = none) (k : SubL L' L1) : SubL L' ((i, u) :: L1) := fun j v hv => by
  rw [lk_cons]
  by_cases e : i = j
  · subst e; rw [h] at hv; cases hv
  · simp [e]; exact k j v hv
/-- a piece whose ways meet again: one slot is known behind it, beside what was known ahead of it -/
theorem sc_merge {c : Code} (tt : Nat) (u : Value) (h : SC X c (Mid X ((tt, u) :: L) rs Q) L rs) (k : SX X Q .normal ((tt, u) :: L) rs) : SC X c Q L rs := sc_mid _ _ h k
theorem Sel.refl : ∀ rs, Sel rs rs
  | [] => .nil
  | _ :: rs => .cons .here (Sel.refl rs)
def SubX (tt : Nat) (L' L : List (Nat × Value)) : Prop := ∀ i v, i ≠ tt → lk L' i = some v → lk L i = some v
theorem SubX.refl (tt : Nat) (L : List (Nat × Value)) : SubX tt L L := fun _ _ _ h => h
theorem SubX.skip {tt : Nat} {L' L1 : List (Nat × Value)} {i : Nat} {u : Value} (h : lk L' i = none) (k : SubX tt L' L1) : SubX tt L' ((i, u) :: L1) := fun j v hj hv => by
  rw [lk_cons]
  by_cases e : i = j
  · subst e; rw [h] at hv; cases hv
  · simp [e]; exact k j v hj hv
theorem SubX.skipT {tt : Nat} {L' L1 : List (Nat × Value)} {u : Value} (k : SubX tt L' L1) : SubX tt L' ((tt, u) :: L1) := fun j v hj hv => by
  rw [lk_cons, if_neg (fun e => hj e.symm)]; exact k j v hj hv
theorem sx_merge {tt : Nat} {u : Value} {L1 : List (Nat × Value)} (h : lk L1 tt = some u) (hs : SubX tt L L1) : SX X (Mid X ((tt, u) :: L) rs Q) .normal L1 rs := fun _ _ ha hw => ⟨ha.sub fun i v hv => by
  rw [lk_cons] at hv
  by_cases e : tt = i
  · subst e; simp at hv; subst hv; exact h
  · simp [e] at hv; exact hs i v (fun h => e h.symm) hv, hw⟩
/-! ### the end of a function -/
theorem sx_ret1 {fn : Func} {R : Ending → World → Prop} {r : Tmp} {en : Exit} (hen : en = .ret ∨ en = .normal) (hD : X.D = []) (hr : fn.results = #[.tmp r]) (hv : lk L r = some v) (h : ∀ w, Hp X.w0 rs w → R (.returned v) w) : SX X (bodyPost X.P fn R) en L rs := by
  intro a w ha hw
  have hres : (results fn a.tmps).run X.P w = .ok v w := by
    rw [results_tmp hr]; simp [Array.getD_eq_getD_getElem?, ha.get _ _ hv]
  rcases hen with rfl | rfl <;> exact ⟨ha.defs.trans hD, v, hres, h w hw⟩
theorem sx_ret2 {fn : Func} {R : Ending → World → Prop} {r s : Tmp} {en : Exit} (hen : en = .ret ∨ en = .normal) (hD : X.D = []) (hr : fn.results = #[.tmp r, .tmp s]) (hv : lk L r = some v) (hu : lk L s = some u) (h : ∀ w, Hp X.w0 rs w → R (.returned (.tuple #[v, u])) w) : SX X (bodyPost X.P fn R) en L rs := by
  intro a w ha hw
  have hres : (results fn a.tmps).run X.P w = .ok (.tuple #[v, u]) w := by
    rw [results_tmp2 hr]; simp [Array.getD_eq_getD_getElem?, ha.get _ _ hv, ha.get _ _ hu]
  rcases hen with rfl | rfl <;> exact ⟨ha.defs.trans hD, _, hres, h w hw⟩
theorem sx_ret0 {fn : Func} {R : Ending → World → Prop} {en : Exit} (hen : en = .ret ∨ en = .normal) (hD : X.D = []) (hr : fn.results = #[]) (h : ∀ w, Hp X.w0 rs w → R (.returned (.tuple #[])) w) : SX X (bodyPost X.P fn R) en L rs := by
  intro a w ha hw
  have hres : (results fn a.tmps).run X.P w = .ok (.tuple #[]) w := by rw [results_none hr]
  rcases hen with rfl | rfl <;> exact ⟨ha.defs.trans hD, _, hres, h w hw⟩
end
end Go.Eng
