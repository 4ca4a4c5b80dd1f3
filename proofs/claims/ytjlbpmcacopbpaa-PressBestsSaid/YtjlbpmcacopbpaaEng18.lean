/- The engine, part 18: copy into a block of one's own; results that are two variables and a value. -/
import Derived.Test.YtjlbpmcacopbpaaEng17
import Derived.Laws.CopyRow
namespace Go.Eng
open Go Go.RowKit
section
variable {X : Ctx} {Q : Post} {L : List (Nat × Value)} {rs : List Res} {ops : Array Oper} {rest : List Oper} {ty t t' e e' : TypeId} {v u : Value} {d : Nat} {pos : String} {af : Array Edge} {x y : Operand} {d0 d2 : TypeDesc}
/-- copy into a block: from anywhere -/
theorem sq_copy {b o dLen dCap sLen sCap : Nat} {ad : Addr} {cur : Array Value} {cs : List Value} {rest' : List Res} (hu : X.P.underlying t = some (.slice e)) (hs : (X.P.info? e).map (·.size) = some 1) (hx : ev L x = some (.slice (some ⟨b, o, none⟩) dLen dCap)) (hy : ev L y = some (.slice (some ad) sLen sCap)) (hr : Rem (.blk b (.cells cur e' (0, 0))) rs rest')
    (hn : cs.length = min sLen dLen) (hsrc : ∀ w, Hp X.w0 rs w → ∀ j v, cs[j]? = some v → w.cell? (ad.add j) = some v) (hfit : o + cs.length ≤ cur.size) (h1 : ∀ v, v ∈ cs → v.oneCell' = true) (hd : Nat.ble (d + 1) X.N = true)
    (k : SQ X ops Q rest ((d, .int .i64 (cs.length : Nat)) :: L) (.blk b (.cells (cur.toList.take o ++ cs ++ cur.toList.drop (o + cs.length)).toArray e' (0, 0)) :: rest')) :
    SQ X ops Q (⟨some d, .call { callee := .builtin .copy, args := #[x, y], argTypes := #[t, t'] }, ty, pos, af, none⟩ :: rest) L rs := by
  refine sq_run (P' := fun v' w' => v' = .int .i64 (cs.length : Nat) ∧ Hp X.w0 (.blk b (.cells (cur.toList.take o ++ cs ++ cur.toList.drop (o + cs.length)).toArray e' (0, 0)) :: rest') w') (by simp) hd ?_ (fun v' w' hp => ⟨_, hp.2, by rw [hp.1]; exact k⟩)
  intro a w ha hw
  have hg : w.heap[b]? = some (.cells cur e' (0, 0)) := hw.ok _ hr.mem.1
  have hrun := run_copy_row (P := X.P) w t t' ty e b o dLen dCap ad sLen sCap cur e' cs hu hs hg hn (hsrc w hw) hfit h1
  refine ⟨.int .i64 (cs.length : Nat), w.setRow b (cur.toList.take o ++ cs ++ cur.toList.drop (o + cs.length)).toArray, ?_, rfl, hw.swap hr _ rfl rfl rfl (by simp) (fun k hk hd => setRow_other w b k _ (fun e => hd e)) (setRow_heap w b cur _ e' _ hg) (fun k hk => .inl hk)⟩
  simp [execOp, resolve, invoke, builtin, ha.eval hx, ha.eval hy, hrun, goInt]
/-- the results: two variables, and a value -/
theorem res_cct {fn : Func} {r r2 r3 : Tmp} {t2 e2 : TypeId} {v2 v3 : Value} {b b2 : Nat} {fz fz2 : Nat × Nat} (hr : fn.results = #[.cell r t, .cell r2 t2, .tmp r3]) (hu : X.P.underlying t = some d0) (hs : scal d0 = true) (hu2 : X.P.underlying t2 = some d2) (hs2 : scal d2 = true)
    (hv : lk L r = some (.pointer (some ⟨b, 0, none⟩))) (hm : Res.blk b (.cells #[v] e fz) ∈ rs) (hvb : lk L r2 = some (.pointer (some ⟨b2, 0, none⟩))) (hm2 : Res.blk b2 (.cells #[v2] e2 fz2) ∈ rs) (hv3 : lk L r3 = some v3) : ∀ a w, St X.N X.D L a → Hp X.w0 rs w → (results fn a.tmps).run X.P w = .ok (.tuple #[v, v2, v3]) w := fun a w ha hw => by
  have hg : a.tmps[r]? = some (.pointer (some ⟨b, 0, none⟩)) := ha.get _ _ hv
  have hgb : a.tmps[r2]? = some (.pointer (some ⟨b2, 0, none⟩)) := ha.get _ _ hvb
  have hg3 : a.tmps[r3]? = some v3 := ha.get _ _ hv3
  have hc : w.cell? ⟨b, 0, none⟩ = some v := (cell_blk hw hm).trans rfl
  have hc2 : w.cell? ⟨b2, 0, none⟩ = some v2 := (cell_blk hw hm2).trans rfl
  simp [results, hr, hg, hgb, hg3, asAddr, run_loadVar_scal hu hs hc, run_loadVar_scal hu2 hs2 hc2]
end
/-- the loop's record: it goes on, or its body has broken out of it -/
def LZB (id : Nat) : Bool → FuncId → Array Value → List Tmp → Code → Code → Nat → Loop
  | true => LP
  | false => LB id
end Go.Eng
