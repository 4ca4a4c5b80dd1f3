/- The engine, part 15: the least and the greatest of three. -/
import Derived.Test.YtpijahglojichaaDoorEng14
namespace Go.Eng
open Go Go.RowKit
section
variable {X : Ctx} {L : List (Nat × Value)} {rs : List Res} {ty : TypeId} {x y q : Operand} {k : IntKind} {m n p : Int}
theorem run_min3 {P : Program} {w : World} (ts : Array TypeId) (t : TypeId) (k : IntKind) (x y z : Int) : (Builtin.min_ ts t #[.int k x, .int k y, .int k z]).run P w = .ok (.int k (min (min x y) z)) w := by
  have h1 : min x y = if y < x then y else x := by omega
  have h2 : ∀ a : Int, min a z = if z < a then z else a := fun a => by omega
  rw [h2, h1]
  simp [Builtin.min_, Builtin.min2]
theorem run_max3 {P : Program} {w : World} (ts : Array TypeId) (t : TypeId) (k : IntKind) (x y z : Int) : (Builtin.max_ ts t #[.int k x, .int k y, .int k z]).run P w = .ok (.int k (max (max x y) z)) w := by
  have h1 : max x y = if y > x then y else x := by omega
  have h2 : ∀ a : Int, max a z = if z > a then z else a := fun a => by omega
  rw [h2, h1]
  simp [Builtin.max_, Builtin.max2]
theorem y_min3 {ts} (hx : ev L x = some (.int k m)) (hy : ev L y = some (.int k n)) (hz : ev L q = some (.int k p)) : OpS X L rs (.call { callee := .builtin .min, args := #[x, y, q], argTypes := ts }) ty (.int k (min (min m n) p)) := .val fun o h1 _ a w ha _ => by
  simp only [execOp, h1, resolve, Sem.run_bind, Sem.run_pure, Result.andThen_ok, invoke, builtin, List.map_toArray, List.map_cons, List.map_nil, ha.eval hx, ha.eval hy, ha.eval hz, run_min3]
theorem y_max3 {ts} (hx : ev L x = some (.int k m)) (hy : ev L y = some (.int k n)) (hz : ev L q = some (.int k p)) : OpS X L rs (.call { callee := .builtin .max, args := #[x, y, q], argTypes := ts }) ty (.int k (max (max m n) p)) := .val fun o h1 _ a w ha _ => by
  simp only [execOp, h1, resolve, Sem.run_bind, Sem.run_pure, Result.andThen_ok, invoke, builtin, List.map_toArray, List.map_cons, List.map_nil, ha.eval hx, ha.eval hy, ha.eval hz, run_max3]
end
end Go.Eng
