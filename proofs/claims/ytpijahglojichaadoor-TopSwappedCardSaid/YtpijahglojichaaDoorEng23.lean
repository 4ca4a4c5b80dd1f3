/- The engine, part 23: a function that defers a call, which recovers if there is something to recover. -/
import Derived.Test.YtpijahglojichaaDoorEng22
import Derived.Defers
import Derived.Recover
namespace Go.Eng
open Go Go.RowKit
def withD (X : Ctx) (d : Deferred) : Ctx := { X with D := d :: X.D }
section
variable {X : Ctx} {Q : Post} {L : List (Nat × Value)} {rs : List Res} {ops : Array Oper} {rest : List Oper} {ty : TypeId} {pos : String} {af : Array Edge} {ex : Exit}
/-- a call is deferred -/
theorem sq_defer {g : Operand} {f : FuncId} {caps : Array Value} {ats : Array TypeId} (hX : X.r = none) (hg : ev L g = some (.func (.func f) #[] caps)) (k : SQ (withD X { target := .fn (.func f) caps, args := #[] }) ops Q rest L rs) :
    SQ X ops Q (⟨none, .defer { callee := .value g, args := #[], argTypes := ats }, ty, pos, af, none⟩ :: rest) L rs := by
  intro a w ha hw
  refine wpListIn_plain rfl fun K hK => ⟨fun _ _ => trivial, ?_⟩
  have hF : (FW X.r).round = none := hX
  rw [hF, Oper.semAt_none]
  have hrun : (execOp a.eval ⟨none, .defer { callee := .value g, args := #[], argTypes := ats }, ty, pos, af, none⟩).run X.P w = .ok (.defer { target := .fn (.func f) caps, args := #[] }) w := by
    simp [execOp, resolve, ha.eval hg, Deferred.ofValue]
  rw [hrun]
  refine hK _ _ (k _ _ ⟨ha.size, ?_, ha.get⟩ hw)
  show _ :: a.defers = _ :: X.D
  rw [ha.defs]
/-- what is shown with the call deferred -/
theorem sx_withD {d : Deferred} (h : SX (withD X d) Q ex L rs) : ∀ a w, St X.N (d :: X.D) L a → Hp X.w0 rs w → Q ex a w := h
/-- what follows a region in which a call has been deferred -/
theorem sx_thenD {d : Deferred} {c : Code} (h : SC (withD X d) c Q L rs) : SX (withD X d) (Then X c Q) .normal L rs := h
theorem calls_of_SCd {P : Program} {f : FuncId} {fn : Func} {c : Code} {args : List Value} {w : World} {R : Ending → World → Prop} {N : Nat} (hf : P.funcs[f]? = some fn) (hb : fn.body = some c) (hN : fn.ntmps = N) (hn0 : Nat.ble args.length N = true)
    (h : SC ⟨none, P, N, [], w⟩ c (bodyPostD P fn R) (argL 0 args) [.reg 0 w]) : Calls P f args.toArray w R := by
  have hn := Nat.le_of_ble_eq_true hn0
  refine calls_of_wp_defers hf hb (wpIn_wide.1 (h _ w ⟨?_, rfl, fun i v hv => ?_⟩ (Hp.init w)))
  · simp [hN]; omega
  · obtain ⟨h1, h2⟩ := lk_argL args 0 i v hv
    simp at h2
    have hi : i < args.length := (List.getElem?_eq_some_iff.1 h2).1
    rw [Array.getElem?_append_left (by simpa using hi)]; simpa using h2
/-- the return: the deferred call is made, and finds nothing to recover -/
theorem sx_retD {fn : Func} {R : Ending → World → Prop} {f : FuncId} {caps : Array Value} {en : Exit} {val : Value} (hen : en = .ret ∨ en = .normal) (hD : X.D = [{ target := .fn (.func f) caps, args := #[] }])
    (hcf : ∀ args w, (callFunc f args).run X.P w = .ok (.enter f args) w)
    (hc : ∀ w, CallsD X.P f caps .returning w fun e u w' => e = .returned (.tuple #[]) ∧ u = .returning ∧ w' = w)
    (hres : ∀ a w, St X.N X.D L a → Hp X.w0 rs w → (results fn a.tmps).run X.P w = .ok val w) (h : ∀ w, Hp X.w0 rs w → R (.returned val) w) : SX X (bodyPostD X.P fn R) en L rs := by
  intro a w ha hw
  have key : Leaves X.P fn a.tmps R a.defers .returning w := by
    rw [ha.defs, hD]
    refine ⟨(fun e => by cases e), Fn.func f, caps, f, caps, rfl, ?_, ?_⟩
    · show (invoke (.fn (.func f) caps) #[]).run X.P w = _
      simp [invoke, hcf]
    · intro c cs hu
      obtain ⟨e, u', w', fr, ⟨rfl, rfl, rfl⟩, h1, h2, h3⟩ := hc w c cs hu
      exact ⟨.returned (.tuple #[]), .returning, _, fr, ⟨val, hres a _ ha hw, h _ hw⟩, h1, h2, h3⟩
  rcases hen with rfl | rfl <;> exact key
end
end Go.Eng
namespace Go.Eng
open Go Go.RowKit
section
variable {X : Ctx} {Q : Post} {L : List (Nat × Value)} {rs : List Res} {ops : Array Oper} {rest : List Oper} {t t' e ty : TypeId} {d : Nat} {x y : Operand} {k : IntKind} {n : Nat} {pos : String} {af : Array Edge} {d0 : TypeDesc} {v u : Value}
/-- slices of an array within a variable -/
theorem y_slice_arrO {b o ln h : Nat} (hu : X.P.underlying t = some (.array ln e)) (hz : ∀ w, (Go.sizeOf e).run X.P w = .ok n w) (hx : ev L x = some (.pointer (some ⟨b, o, none⟩))) (hy : ev L y = some (.int k (h : Int))) (hh : h ≤ ln) :
    OpS X L rs (.slice t x none (some y) none) ty (.slice (some ⟨b, o, none⟩) h ln) := .val fun o h1 _ a w ha _ => by
  simp [execOp, h1, ha.eval hx, ha.eval hy, Instr.sliceAt, run_underlying hu, Instr.sureAddr, Instr.sliceBounds, Instr.sliceBound, asIntOf, hh, hz, Addr.add_zero']
theorem y_slice_fullO {b o ln : Nat} (hu : X.P.underlying t = some (.array ln e)) (hz : ∀ w, (Go.sizeOf e).run X.P w = .ok n w) (hx : ev L x = some (.pointer (some ⟨b, o, none⟩))) : OpS X L rs (.slice t x none none none) ty (.slice (some ⟨b, o, none⟩) ln ln) := .val fun o h1 _ a w ha _ => by
  simp [execOp, h1, ha.eval hx, Instr.sliceAt, run_underlying hu, Instr.sureAddr, Instr.sliceBounds, hz, Addr.add_zero']
/-- nothing is copied -/
theorem sq_copy_none {dd : Option Addr} {dLen dCap sCap : Nat} (hu : X.P.underlying t = some (.slice e)) (hz : ∀ w, (Go.sizeOf e).run X.P w = .ok n w) (hx : ev L x = some (.slice dd dLen dCap)) (hy : ev L y = some (.slice none 0 sCap)) (hd : Nat.ble (d + 1) X.N = true) (k : SQ X ops Q rest ((d, .int .i64 0) :: L) rs) :
    SQ X ops Q (⟨some d, .call { callee := .builtin .copy, args := #[x, y], argTypes := #[t, t'] }, ty, pos, af, none⟩ :: rest) L rs := by
  refine sq_run (P' := fun v' w' => v' = .int .i64 0 ∧ Hp X.w0 rs w') (by simp) hd ?_ (fun v' w' hp => ⟨_, hp.2, by rw [hp.1]; exact k⟩)
  intro a w ha hw
  have hrun : (Builtin.copy_ #[t, t'] ty #[.slice dd dLen dCap, .slice none 0 sCap]).run X.P w = .ok (.int .i64 0) w := by
    cases dd <;> simp [Builtin.copy_, Sem.run_bind, run_underlying hu, hz, Builtin.lenOf, Builtin.firstCells, storeCells, goInt]
  exact ⟨_, w, by simp [execOp, resolve, invoke, builtin, ha.eval hx, ha.eval hy, hrun], rfl, hw⟩
/-- copy into a variable: from anywhere, or nothing -/
theorem sq_copy_opt {b o dLen dCap sLen sCap : Nat} {e' : TypeId} {ya : Option Addr} {cur : Array Value} {cs : List Value} {rest' : List Res} (hu : X.P.underlying t = some (.slice e)) (hz : ∀ w, (Go.sizeOf e).run X.P w = .ok n w) (hs : (X.P.info? e).map (·.size) = some 1) (hx : ev L x = some (.slice (some ⟨b, o, none⟩) dLen dCap)) (hy : ev L y = some (.slice ya sLen sCap)) (hr : Rem (.blk b (.cells cur e' (0, 0))) rs rest')
    (h0 : ya = none → sLen = 0) (hn : cs.length = min sLen dLen) (hsrc : ∀ ad, ya = some ad → ∀ w, Hp X.w0 rs w → ∀ j v, cs[j]? = some v → w.cell? (ad.add j) = some v) (hfit : o + cs.length ≤ cur.size) (h1 : ∀ v, v ∈ cs → v.oneCell' = true) (hd : Nat.ble (d + 1) X.N = true)
    (k : SQ X ops Q rest ((d, .int .i64 (cs.length : Nat)) :: L) (.blk b (.cells (cur.toList.take o ++ cs ++ cur.toList.drop (o + cs.length)).toArray e' (0, 0)) :: rest')) :
    SQ X ops Q (⟨some d, .call { callee := .builtin .copy, args := #[x, y], argTypes := #[t, t'] }, ty, pos, af, none⟩ :: rest) L rs := by
  cases ya with
  | some ad => exact sq_copy hu hs hx hy hr hn (hsrc ad rfl) hfit h1 hd k
  | none =>
    have hl := h0 rfl
    subst hl
    have hc : cs = [] := List.eq_nil_of_length_eq_zero (by rw [hn]; omega)
    subst hc
    refine sq_copy_none hu hz hx hy hd ?_
    have e1 : (cur.toList.take o ++ [] ++ cur.toList.drop (o + ([] : List Value).length)).toArray = cur := by
      rw [List.append_nil, List.length_nil, Nat.add_zero, List.take_append_drop]
    rw [e1] at k
    exact sq_sub (SubL.refl _) (Sel.cons hr (Sel.refl _)) k
/-- the results: a variable, and a value -/
theorem res_st {fn : Func} {r s : Tmp} {b : Nat} {fz : Nat × Nat} (hr : fn.results = #[.cell r t, .tmp s]) (hu : X.P.underlying t = some d0) (hs : scal d0 = true)
    (hv : lk L r = some (.pointer (some ⟨b, 0, none⟩))) (hm : Res.blk b (.cells #[v] e fz) ∈ rs) (hv3 : lk L s = some u) : ∀ a w, St X.N X.D L a → Hp X.w0 rs w → (results fn a.tmps).run X.P w = .ok (.tuple #[v, u]) w := fun a w ha hw => by
  have hg : a.tmps[r]? = some (.pointer (some ⟨b, 0, none⟩)) := ha.get _ _ hv
  have hg3 : a.tmps[s]? = some u := ha.get _ _ hv3
  have hc : w.cell? ⟨b, 0, none⟩ = some v := (cell_blk hw hm).trans rfl
  simp [results, hr, hg, hg3, asAddr, run_loadVar_scal hu hs hc]
end
end Go.Eng
