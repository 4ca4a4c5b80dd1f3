/- The engine, part 16: a field of a value, an element of an array's value. -/
import Derived.Test.YtpijahglojichaaDoorEng15
namespace Go.Eng
open Go Go.RowKit
section
variable {X : Ctx} {L : List (Nat × Value)} {rs : List Res} {t ty e : TypeId} {x y : Operand} {v : Value} {d0 : TypeDesc}
theorem y_field {f : Nat} {fs : Array Field} {fld : Field} {xs : Array Value} (hu : X.P.underlying t = some (.struct fs)) (hf : fs[f]? = some fld) (hs : X.P.underlying fld.type = some d0) (hsc : scal d0 = true) (hx : ev L x = some (.agg xs)) (hv : xs[fld.offset]? = some v) :
    OpS X L rs (.field t x f) ty v := .val fun o h1 _ a w ha _ => by
  simp [execOp, h1, ha.eval hx, Instr.field, run_underlying hu, hf, part, run_isAgg_scal hs hsc, asAgg, hv]
theorem y_index {len i : Nat} {k : IntKind} {xs : Array Value} (hu : X.P.underlying t = some (.array len e)) (hz : ∀ w, (Go.sizeOf e).run X.P w = .ok 1 w) (hs : X.P.underlying e = some d0) (hsc : scal d0 = true) (hx : ev L x = some (.agg xs)) (hy : ev L y = some (.int k (i : Int))) (hi : i < len) (hv : xs[i]? = some v) :
    OpS X L rs (.index t x y) ty v := .val fun o h1 _ a w ha _ => by

  simp [execOp, h1, ha.eval hx, ha.eval hy, Instr.index, asIntOf, run_underlying hu, hz, part, run_isAgg_scal hs hsc, hv, hi]
end
end Go.Eng
