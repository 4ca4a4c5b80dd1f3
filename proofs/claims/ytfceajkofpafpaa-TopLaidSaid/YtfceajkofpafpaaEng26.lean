/- The engine, part 26: arrays within rows; parts of rows. -/
import Derived.Test.YtfceajkofpafpaaEng25
namespace Go.Eng
open Go Go.RowKit
section
variable {X : Ctx} {L : List (Nat × Value)} {rs : List Res} {t ty e : TypeId} {x y : Operand} {d0 : TypeDesc} {n : Nat} {v : Value}
/-- an element's address in an array, wherever it lies -/
theorem y_ia_arra {p : Addr} {ln sz i : Nat} {k : IntKind} (hu : X.P.underlying t = some (.array ln e)) (hz : ∀ w, (Go.sizeOf e).run X.P w = .ok sz w) (hx : ev L x = some (.pointer (some p))) (hy : ev L y = some (.int k (i : Int))) (hi : i < ln) :
    OpS X L rs (.indexAddr t x y) ty (.pointer (some (p.add (i * sz)))) := .val fun o' h1 _ a w ha _ => by
  simp [execOp, h1, ha.eval hx, ha.eval hy, Instr.indexAt, Instr.sureAddr, asIntOf, run_underlying hu, hi, hz]
/-- a part of a row of a region, at two offsets -/
theorem y_load_capart2 {lo o1 o2 : Nat} {wr : World} {p : Addr} {vs row : List Value} (hu : X.P.underlying t = some d0) (hs : scal d0 = false) (hz : ∀ w, (Go.sizeOf t).run X.P w = .ok n w) (hx : ev L x = some (.pointer (some ((p.add o1).add o2)))) (hm : Res.reg lo wr ∈ rs) (hc : CA lo wr p vs) (hr : (vs.drop (o1 + o2)).take n = row) (hl : row.length = n) :
    OpS X L rs (.load t x) ty (.agg row.toArray) := by
  rw [Addr.add_add] at hx
  subst hr
  exact y_load_capart hu hs hz hx hm hc hl
/-- a cell at an address with three offsets -/
theorem y_load_cajjj {lo o1 o2 o3 : Nat} {wr : World} {p : Addr} {vs : List Value} (hu : X.P.underlying t = some d0) (hs : scal d0 = true) (hx : ev L x = some (.pointer (some (((p.add o1).add o2).add o3)))) (hm : Res.reg lo wr ∈ rs) (hc : CA lo wr p vs) (hv : vs[o1 + o2 + o3]? = some v) : OpS X L rs (.load t x) ty v := by
  rw [Addr.add_add] at hx
  exact y_load_cajj hu hs hx hm hc (by rw [← hv, Nat.add_assoc])
variable {Q : Post} {ops : Array Oper} {rest : List Oper} {u : Value} {pos : String} {af : Array Edge}
/-- a store, whose outcome is told -/
theorem sq_store_to {b o : Nat} {cs cs' : Array Value} {rest' : List Res} (hz : ∀ w, (Go.sizeOf t).run X.P w = .ok 1 w) (hx : ev L x = some (.pointer (some ⟨b, o, none⟩))) (hy : ev L y = some u) (h1 : u.oneCell' = true) (hr : Rem (.blk b (.cells cs e (0, 0))) rs rest') (ho : o < cs.size) (hc : cs.setIfInBounds o u = cs')
    (k : SQ X ops Q rest L (.blk b (.cells cs' e (0, 0)) :: rest')) : SQ X ops Q (⟨none, .store t x y, ty, pos, af, none⟩ :: rest) L rs := by
  subst hc
  exact sq_store hz hx hy h1 hr ho k
/-- the length of a map -/
theorem y_lenM {α β : Type} {kf : α → Value} {vf : β → Value} {l : List (α × β)} {b : Nat} {kt et : TypeId} (hu : X.P.underlying t = some (.map kt et)) (hx : ev L x = some (.map (some b))) (hr : ∀ w, Hp X.w0 rs w → w.heap[b]? = some (mvM kf vf l)) :
    OpS X L rs (.call { callee := .builtin .len, args := #[x], argTypes := #[t] }) ty (.int .i64 (l.length : Nat)) := .val fun o h1 _ a w ha hw => by
  have hb : w.heap[b]? = some (.map (mvEs kf vf l).toArray l.length) := hr w hw
  have hget : (getObj b).run X.P w = .ok (.map (mvEs kf vf l).toArray l.length) w := by simp [getObj, Sem.run, hb]
  simp [execOp, h1, resolve, invoke, builtin, ha.eval hx, Builtin.len_, run_underlying hu, goInt, hget, mvEs_len]
variable {d2 d3 : TypeDesc}
/-- the results: a variable, and a value -/
theorem res_sct {fn : Func} {r r2 : Tmp} {v2 : Value} {b : Nat} {fz : Nat × Nat} (hr : fn.results = #[.cell r t, .tmp r2]) (hu : X.P.underlying t = some d0) (hs : scal d0 = true)
    (hv : lk L r = some (.pointer (some ⟨b, 0, none⟩))) (hm : Res.blk b (.cells #[v] e fz) ∈ rs) (hv2 : lk L r2 = some v2) : ∀ a w, St X.N X.D L a → Hp X.w0 rs w → (results fn a.tmps).run X.P w = .ok (.tuple #[v, v2]) w := fun a w ha hw => by
  have hg : a.tmps[r]? = some (.pointer (some ⟨b, 0, none⟩)) := ha.get _ _ hv
  have hg2 : a.tmps[r2]? = some v2 := ha.get _ _ hv2
  have hc : w.cell? ⟨b, 0, none⟩ = some v := (cell_blk hw hm).trans rfl
  simp [results, hr, hg, hg2, asAddr, run_loadVar_scal hu hs hc]
theorem sx_retr {fn : Func} {R : Ending → World → Prop} {en : Exit} {val : Value} (hen : en = .ret ∨ en = .normal) (hD : X.D = []) (hres : ∀ a w, St X.N X.D L a → Hp X.w0 rs w → (results fn a.tmps).run X.P w = .ok val w) (h : ∀ w, Hp X.w0 rs w → R (.returned val) w) : SX X (bodyPost X.P fn R) en L rs := by
  intro a w ha hw
  rcases hen with rfl | rfl <;> exact ⟨ha.defs.trans hD, val, hres a w ha hw, h w hw⟩
/-- the results: three variables, and a value -/
theorem res_ccct {fn : Func} {r r2 r3 r4 : Tmp} {t2 e2 t3 e3 : TypeId} {v2 v3 v4 : Value} {b b2 b3 : Nat} {fz fz2 fz3 : Nat × Nat} (hr : fn.results = #[.cell r t, .cell r2 t2, .cell r3 t3, .tmp r4]) (hu : X.P.underlying t = some d0) (hs : scal d0 = true) (hu2 : X.P.underlying t2 = some d2) (hs2 : scal d2 = true) (hu3 : X.P.underlying t3 = some d3) (hs3 : scal d3 = true)
    (hv : lk L r = some (.pointer (some ⟨b, 0, none⟩))) (hm : Res.blk b (.cells #[v] e fz) ∈ rs) (hvb : lk L r2 = some (.pointer (some ⟨b2, 0, none⟩))) (hm2 : Res.blk b2 (.cells #[v2] e2 fz2) ∈ rs) (hvc : lk L r3 = some (.pointer (some ⟨b3, 0, none⟩))) (hm3 : Res.blk b3 (.cells #[v3] e3 fz3) ∈ rs) (hv4 : lk L r4 = some v4) : ∀ a w, St X.N X.D L a → Hp X.w0 rs w → (results fn a.tmps).run X.P w = .ok (.tuple #[v, v2, v3, v4]) w := fun a w ha hw => by
  have hg : a.tmps[r]? = some (.pointer (some ⟨b, 0, none⟩)) := ha.get _ _ hv
  have hgb : a.tmps[r2]? = some (.pointer (some ⟨b2, 0, none⟩)) := ha.get _ _ hvb
  have hgc : a.tmps[r3]? = some (.pointer (some ⟨b3, 0, none⟩)) := ha.get _ _ hvc
  have hg4 : a.tmps[r4]? = some v4 := ha.get _ _ hv4
  have hc : w.cell? ⟨b, 0, none⟩ = some v := (cell_blk hw hm).trans rfl
  have hc2 : w.cell? ⟨b2, 0, none⟩ = some v2 := (cell_blk hw hm2).trans rfl
  have hc3 : w.cell? ⟨b3, 0, none⟩ = some v3 := (cell_blk hw hm3).trans rfl
  simp [results, hr, hg, hgb, hgc, hg4, asAddr, run_loadVar_scal hu hs hc, run_loadVar_scal hu2 hs2 hc2, run_loadVar_scal hu3 hs3 hc3]
end
end Go.Eng
