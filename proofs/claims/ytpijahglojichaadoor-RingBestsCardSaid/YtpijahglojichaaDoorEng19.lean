/- The engine, part 19: results that are a value and a variable; a variable and two values. -/
import Derived.Test.YtpijahglojichaaDoorEng18
namespace Go.Eng
open Go Go.RowKit
section
variable {X : Ctx} {Q : Post} {L : List (Nat × Value)} {rs : List Res} {ops : Array Oper} {rest : List Oper} {ty t t' e e' : TypeId} {v u : Value} {d : Nat} {pos : String} {af : Array Edge} {x y : Operand} {d0 d2 : TypeDesc}
theorem sx_rettc {fn : Func} {R : Ending → World → Prop} {r s : Tmp} {en : Exit} {b : Nat} {vs : List Value} {fz : Nat × Nat} {n : Nat} {d0 : TypeDesc} (hen : en = .ret ∨ en = .normal) (hD : X.D = []) (hr : fn.results = #[.tmp s, .cell r t]) (hu : X.P.underlying t = some d0) (hs : scal d0 = false) (hz : ∀ w, (Go.sizeOf t).run X.P w = .ok n w)
    (hv : lk L r = some (.pointer (some ⟨b, 0, none⟩))) (hm : Res.blk b (.cells vs.toArray e fz) ∈ rs) (hl : vs.length = n) (hv2 : lk L s = some u) (h : ∀ w, Hp X.w0 rs w → R (.returned (.tuple #[u, .agg vs.toArray])) w) : SX X (bodyPost X.P fn R) en L rs := by
  intro a w ha hw
  have hg : a.tmps[r]? = some (.pointer (some ⟨b, 0, none⟩)) := ha.get _ _ hv
  have hg2 : a.tmps[s]? = some u := ha.get _ _ hv2
  have hres : (results fn a.tmps).run X.P w = .ok (.tuple #[u, .agg vs.toArray]) w := by
    simp [results, hr, hg, hg2, asAddr, cell_var hw hu hs hz hm hl]
  rcases hen with rfl | rfl <;> exact ⟨ha.defs.trans hD, _, hres, h w hw⟩
theorem sx_retctt {fn : Func} {R : Ending → World → Prop} {r s s2 : Tmp} {en : Exit} {b : Nat} {vs : List Value} {fz : Nat × Nat} {n : Nat} {d0 : TypeDesc} {u2 : Value} (hen : en = .ret ∨ en = .normal) (hD : X.D = []) (hr : fn.results = #[.cell r t, .tmp s, .tmp s2]) (hu : X.P.underlying t = some d0) (hs : scal d0 = false) (hz : ∀ w, (Go.sizeOf t).run X.P w = .ok n w)
    (hv : lk L r = some (.pointer (some ⟨b, 0, none⟩))) (hm : Res.blk b (.cells vs.toArray e fz) ∈ rs) (hl : vs.length = n) (hv2 : lk L s = some u) (hv3 : lk L s2 = some u2) (h : ∀ w, Hp X.w0 rs w → R (.returned (.tuple #[.agg vs.toArray, u, u2])) w) : SX X (bodyPost X.P fn R) en L rs := by
  intro a w ha hw
  have hg : a.tmps[r]? = some (.pointer (some ⟨b, 0, none⟩)) := ha.get _ _ hv
  have hg2 : a.tmps[s]? = some u := ha.get _ _ hv2
  have hg3 : a.tmps[s2]? = some u2 := ha.get _ _ hv3
  have hres : (results fn a.tmps).run X.P w = .ok (.tuple #[.agg vs.toArray, u, u2]) w := by
    simp [results, hr, hg, hg2, hg3, asAddr, cell_var hw hu hs hz hm hl]
  rcases hen with rfl | rfl <;> exact ⟨ha.defs.trans hD, _, hres, h w hw⟩
theorem res_ct {fn : Func} {r s : Tmp} {b : Nat} {vs : List Value} {fz : Nat × Nat} {n : Nat} {d0 : TypeDesc} (hr : fn.results = #[.cell r t, .tmp s]) (hu : X.P.underlying t = some d0) (hs : scal d0 = false) (hz : ∀ w, (Go.sizeOf t).run X.P w = .ok n w)
    (hv : lk L r = some (.pointer (some ⟨b, 0, none⟩))) (hm : Res.blk b (.cells vs.toArray e fz) ∈ rs) (hl : vs.length = n) (hv2 : lk L s = some u) : ∀ a w, St X.N X.D L a → Hp X.w0 rs w → (results fn a.tmps).run X.P w = .ok (.tuple #[.agg vs.toArray, u]) w := by
  intro a w ha hw
  have hg : a.tmps[r]? = some (.pointer (some ⟨b, 0, none⟩)) := ha.get _ _ hv
  have hg2 : a.tmps[s]? = some u := ha.get _ _ hv2
  simp [results, hr, hg, hg2, asAddr, cell_var hw hu hs hz hm hl]
end
/-- two arguments of a round -/
theorem fold2 (fn : FuncId) (tm : Array Value) (pa pb D : Nat) (c cd : Code) (u v : Value) : ((LP fn tm [pa, pb] c cd D).params.zip #[u, v]).foldl (fun tmps (t, a) => tmps.setIfInBounds t a) (LP fn tm [pa, pb] c cd D).tmps = (tm.setIfInBounds pa u).setIfInBounds pb v := by simp [LP]
end Go.Eng
