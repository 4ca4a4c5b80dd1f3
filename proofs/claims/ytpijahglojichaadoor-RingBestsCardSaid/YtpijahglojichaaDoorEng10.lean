/- The engine, part 10: an own slice is read. -/
import Derived.Test.YtpijahglojichaaDoorEng9
namespace Go.Eng
open Go Go.RowKit
def baseA : Value → Option Addr
  | .slice a _ _ => a
  | _ => none
section
variable {X : Ctx} {Q : Post} {L : List (Nat × Value)} {rs : List Res} {ops : Array Oper} {rest : List Oper} {op : Op} {ty t t' e e' : TypeId} {v u : Value} {d n : Nat} {pos : String} {af : Array Edge} {x y : Operand} {d0 : TypeDesc} {k : IntKind}
/-- what is known of an own slice -/
theorem own_shape {w0 w : World} {sz m : Nat} {xs : List Value} (h : Hp w0 rs w) (hm : Res.own v e sz m xs ∈ rs) (h0 : 0 < m) : ∃ g cap, v = .slice (some ⟨g, 0, none⟩) m cap ∧ m ≤ cap ∧ m ≤ maxLen ∧ ∀ o u, xs[o]? = some u → w.cell? ⟨g, o, none⟩ = some u := by
  have ho : w.ownsRow 0 e sz v m xs := h.ok _ hm
  rcases ho.2 with ⟨_, h1⟩ | ⟨g, cap, cur, hv, _, _, h1, h2, _⟩
  · omega
  · refine ⟨g, cap, hv, h1, by omega, fun o u hu => ?_⟩
    subst hv
    have := World.ownsRow.cells (w := w) ho (g := g) rfl o u hu
    rwa [Addr.add_lit, Nat.zero_add] at this
theorem y_ia_own {sz m i : Nat} {xs : List Value} (hu : X.P.underlying t = some (.slice e)) (hz : ∀ w, (Go.sizeOf e).run X.P w = .ok sz w) (hx : ev L x = some v) (hm : Res.own v e' sz m xs ∈ rs) (hy : ev L y = some (.int k (i : Int))) (hi : i < m) :
    OpS X L rs (.indexAddr t x y) ty (.pointer (some (elt (baseA v) i sz))) := .val fun o' h1 _ a w ha hw => by
  obtain ⟨g, cap, rfl, hc, _⟩ := own_shape hw hm (by omega)
  simp [execOp, h1, ha.eval hx, ha.eval hy, Instr.indexAt, asIntOf, run_underlying hu, hi, hz, elt, baseA]
theorem elt_own (g i sz : Nat) (m cap : Nat) : elt (baseA (.slice (some ⟨g, 0, none⟩) m cap)) i sz = (⟨g, i * sz, none⟩ : Addr) := by simp [elt, baseA, Addr.add_lit]
/-- a row of an own slice -/
theorem y_load_own {sz m i : Nat} {xs row : List Value} (hu : X.P.underlying t = some d0) (hs : scal d0 = false) (hz : ∀ w, (Go.sizeOf t).run X.P w = .ok n w) (hx : ev L x = some (.pointer (some (elt (baseA v) i sz)))) (hm : Res.own v e sz m xs ∈ rs) (h0 : i < m)
    (hrow : ∀ j u, row[j]? = some u → xs[i * sz + j]? = some u) (hl : row.length = n) : OpS X L rs (.load t x) ty (.agg row.toArray) := .val fun o' h1 _ a w ha hw => by
  obtain ⟨g, cap, rfl, hc, _, hcell⟩ := own_shape hw hm (by omega)
  rw [elt_own] at hx
  have := run_loadVar_agg (P := X.P) (p := ⟨g, i * sz, none⟩) (w := w) hu hs hz hl (fun j v hj => by rw [Addr.add_lit]; exact hcell _ _ (hrow j v hj))
  simp [execOp, h1, ha.eval hx, Instr.loadAt, Instr.sureAddr, this]
/-- a cell of a row of an own slice -/
theorem y_load_ownj {sz m i j : Nat} {xs : List Value} (hu : X.P.underlying t = some d0) (hs : scal d0 = true) (hx : ev L x = some (.pointer (some ((elt (baseA v) i sz).add j)))) (hm : Res.own v e sz m xs ∈ rs) (h0 : i < m) (hc : xs[i * sz + j]? = some u) : OpS X L rs (.load t x) ty u := .val fun o' h1 _ a w ha hw => by
  obtain ⟨g, cap, rfl, hcp, _, hcell⟩ := own_shape hw hm (by omega)
  rw [elt_own, Addr.add_lit] at hx
  simp [execOp, h1, ha.eval hx, Instr.loadAt, Instr.sureAddr, run_loadVar_scal hu hs (hcell _ _ hc)]
theorem y_load_own0 {sz m i : Nat} {xs : List Value} (hu : X.P.underlying t = some d0) (hs : scal d0 = true) (hx : ev L x = some (.pointer (some (elt (baseA v) i sz)))) (hm : Res.own v e sz m xs ∈ rs) (h0 : i < m) (hc : xs[i * sz]? = some u) : OpS X L rs (.load t x) ty u :=
  y_load_ownj (j := 0) hu hs (by rw [Addr.add_zero']; exact hx) hm h0 hc
/-- its length -/
theorem y_len_own {sz m : Nat} {xs : List Value} (hu : X.P.underlying t = some (.slice e')) (hx : ev L x = some v) (hm : Res.own v e sz m xs ∈ rs) : OpS X L rs (.call { callee := .builtin .len, args := #[x], argTypes := #[t] }) ty (.int .i64 m) := .val fun o h1 _ a w ha hw => by
  have ho : w.ownsRow 0 e sz v m xs := hw.ok _ hm
  rcases ho.2 with ⟨hv, h1'⟩ | ⟨g, cap, cur, hv, _⟩
  · subst hv; subst h1'
    simp [execOp, h1, resolve, invoke, builtin, ha.eval hx, Builtin.len_, run_underlying hu, goInt]
  · subst hv
    simp [execOp, h1, resolve, invoke, builtin, ha.eval hx, Builtin.len_, run_underlying hu, goInt]
end
end Go.Eng
