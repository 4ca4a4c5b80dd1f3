/- The engine, part 18: copy into a block of one's own; results that are two variables and a value. -/
import Derived.Test.YtpijahglojichaaDoorEng17
import Derived.Laws.CopyRow
namespace Go.Eng
open Go Go.RowKit
section
variable {X : Ctx} {Q : Post} {L : List (Nat × Value)} {rs : List Res} {ops : Array Oper} {rest : List Oper} {ty t t' e e' : TypeId} {v u : Value} {d : Nat} {pos : String} {af : Array Edge} {x y : Operand} {d0 d2 : TypeDesc}
/-- copy into a block: from anywhere -/
theorem sq_copy {b o dLen dCap sLen sCap : Nat} {ad : Addr} {cur : Array Value} {cs : List Value} {rest' : List Res} (hu : X.P.underlying t = some (.slice e)) (hs : (X.P.info? e).map (·.size) = some 1) (hx : ev L x = some (.slice (some ⟨b, o, none⟩) dLen dCap)) (hy : ev L y = some (.slice (some ad) sLen sCap)) (hr : Rem (.blk b (.cells cur e' (0, 0))) rs rest')
    (hn : cs.length = min sLen dLen) (hsrc : ∀ w, Hp X.w0 rs w → ∀ j v, cs[j]? = some v → w.cell? (ad.add j) = some v) (hfit : o + cs.length ≤ cur.size) (h1 : ∀ v, v ∈ cs → v.oneCell' = true) (hd : Nat.ble (d + 1) X.N = true)
    (k : SQ X ops Q rest ((d, .int .i64 (cs.length : Nat)) :: L) (.blk b (.cells (cur.toList.take o ++ cs ++ cur.toList.drop (o + cs.length)).toArray e' (0, 0)) :: rest')) :
    SQ X ops Q (⟨some d, .call { callee := .builtin .copy, args := #[x, y], argTypes := #[t, t'] }, ty, pos, af, none⟩ :: rest) L rs := by
  refine sq_run (P' := fun v' w' => v' = .int .i64 (cs.length : Nat) ∧ Hp X.w0 (.blk b (.cells (cur.toList.take o ++ cs ++ cur.toList.drop (o + cs.length)).toArray e' (0, 0)) :: rest') w') (by simp) hd ?_ (fun v' w' hp => ⟨_, hp.2, by rw [hp.1]; exact k⟩)
  intro a w ha hw
  have hg : w.heap[b]? = some (.cells cur e' (0, 0)) := hw.ok _ hr.mem.1
  have hrun := run_copy_row (P := X.P) w t t' ty e b o dLen dCap ad sLen sCap cur e' cs hu hs hg hn (hsrc w hw) hfit h1
  refine ⟨.int .i64 (cs.length : Nat), w.setRow b (cur.toList.take o ++ cs ++ cur.toList.drop (o + cs.length)).toArray, ?_, rfl, hw.swap hr _ rfl rfl rfl (by simp) (fun k hk hd => setRow_other w b k _ (fun e => hd e)) (setRow_heap w b cur _ e' _ hg) (fun k hk => .inl hk)⟩
  simp [execOp, resolve, invoke, builtin, ha.eval hx, ha.eval hy, hrun, goInt]
/-- the results: two variables, and a value -/
theorem res_cct {fn : Func} {r r2 r3 : Tmp} {t2 e2 : TypeId} {v2 v3 : Value} {b b2 : Nat} {fz fz2 : Nat × Nat} (hr : fn.results = #[.cell r t, .cell r2 t2, .tmp r3]) (hu : X.P.underlying t = some d0) (hs : scal d0 = true) (hu2 : X.P.underlying t2 = some d2) (hs2 : scal d2 = true)
    (hv : lk L r = some (.pointer (some ⟨b, 0, none⟩))) (hm : Res.blk b (.cells #[v] e fz) ∈ rs) (hvb : lk L r2 = some (.pointer (some ⟨b2, 0, none⟩))) (hm2 : Res.blk b2 (.cells #[v2] e2 fz2) ∈ rs) (hv3 : lk L r3 = some v3) : ∀ a w, St X.N X.D L a → Hp X.w0 rs w → (results fn a.tmps).run X.P w = .ok (.tuple #[v, v2, v3]) w := fun a w ha hw => by
  have hg : a.tmps[r]? = some (.pointer (some ⟨b, 0, none⟩)) := ha.get _ _ hv
  have hgb : a.tmps[r2]? = some (.pointer (some ⟨b2, 0, none⟩)) := ha.get _ _ hvb
  have hg3 : a.tmps[r3]? = some v3 := ha.get _ _ hv3
  have hc : w.cell? ⟨b, 0, none⟩ = some v := (cell_blk hw hm).trans rfl
  have hc2 : w.cell? ⟨b2, 0, none⟩ = some v2 := (cell_blk hw hm2).trans rfl
  simp [results, hr, hg, hgb, hg3, asAddr, run_loadVar_scal hu hs hc, run_loadVar_scal hu2 hs2 hc2]
end
/-- the loop's record: it goes on, or its body has broken out of it -/
def LZB (id : Nat) : Bool → FuncId → Array Value → List Tmp → Code → Code → Nat → Loop
  | true => LP
  | false => LB id
end Go.Eng
namespace Go.Eng
open Go Go.RowKit
section
variable {X : Ctx} {Q : Post} {L : List (Nat × Value)} {rs : List Res} {c : Code} {t ty e : TypeId} {v : Value} {x y : Operand} {k : IntKind}
theorem own_dest {w0 w : World} {sz m : Nat} {xs : List Value} (h : Hp w0 rs w) (hm : Res.own v e sz m xs ∈ rs) : ∃ a c, v = .slice a m c ∧ m ≤ c ∧ (a = none → m = 0) := by
  have ho : w.ownsRow 0 e sz v m xs := h.ok _ hm
  rcases ho.2 with ⟨hv, h1⟩ | ⟨g, cap, cur, hv, _, _, h1, _⟩
  · exact ⟨none, 0, by rw [hv, h1], by omega, fun _ => h1⟩
  · exact ⟨some ⟨g, 0, none⟩, cap, hv, h1, fun h => by cases h⟩
/-- an own slice is a slice -/
theorem sc_own_dest {sz m : Nat} {xs : List Value} (hm : Res.own v e sz m xs ∈ rs) (h : ∀ a cp, v = .slice a m cp → m ≤ cp → (a = none → m = 0) → SC X c Q L rs) : SC X c Q L rs := fun a w ha hw => by
  obtain ⟨a0, cp, h1, h2, h3⟩ := own_dest hw hm
  exact h a0 cp h1 h2 h3 a w ha hw
def loA (a : Option Addr) (cp lo sz : Nat) : Option Addr := if cp = lo then a else a.map (·.add (lo * sz))
theorem y_slice_from {a0 : Option Addr} {ln cp lo sz : Nat} (hu : X.P.underlying t = some (.slice e)) (hz : ∀ w, (Go.sizeOf e).run X.P w = .ok sz w) (hx : ev L x = some (.slice a0 ln cp)) (hy : ev L y = some (.int k (lo : Int))) (h : lo ≤ ln) :
    OpS X L rs (.slice t x (some y) none none) ty (.slice (loA a0 cp lo sz) (ln - lo) (cp - lo)) := .val fun o h1 _ a w ha _ => by
  cases a0 <;> simp [execOp, h1, ha.eval hx, ha.eval hy, Instr.sliceAt, run_underlying hu, Instr.slice, Instr.sliceBounds, Instr.sliceBound, asIntOf, h, hz, loA]
theorem loA_none {a : Option Addr} {cp lo sz n : Nat} (h : a = none → n = 0) (hl : loA a cp lo sz = none) : n - lo = 0 := by
  unfold loA at hl
  split at hl
  · have := h hl; omega
  · cases a with
    | none => have := h rfl; omega
    | some ad => cases hl
theorem own_from_news {w0 w : World} {sz m cp lo : Nat} {xs : List Value} {a : Option Addr} (h : Hp w0 rs w) (hm : Res.own (.slice a m cp) e sz m xs ∈ rs) (hmc : m ≤ cp) : ∀ ad, loA a cp lo sz = some ad → ∀ j u, (xs.drop (lo * sz))[j]? = some u → w.cell? (ad.add j) = some u := fun ad hl j u hj => by
  have hlen : xs.length = m * sz := ((h.ok _ hm : w.ownsRow 0 e sz (.slice a m cp) m xs)).1
  rw [List.getElem?_drop] at hj
  have hlt := (List.getElem?_eq_some_iff.1 hj).1
  have hlo : lo < m := by
    rcases Nat.lt_or_ge lo m with h1 | h1
    · exact h1
    · have := Nat.mul_le_mul_right sz h1; omega
  unfold loA at hl
  rw [if_neg (by omega)] at hl
  cases a with
  | none => cases hl
  | some a0 =>
    injection hl with hl
    subst hl
    have := own_news h hm (lo * sz + j) u hj
    have ho : w.ownsRow 0 e sz (.slice (some a0) m cp) m xs := h.ok _ hm
    rcases ho.2 with ⟨hv, _⟩ | ⟨g, cap, cur, hv, _⟩
    · cases hv
    · cases hv
      show w.cell? (((⟨g, 0, none⟩ : Addr).add (lo * sz)).add j) = some u
      rw [Addr.add_lit, Addr.add_lit, Nat.zero_add]
      rw [Addr.add_lit, Nat.zero_add] at this
      exact this
theorem own_take_news {w0 w : World} {sz m cp hi : Nat} {xs : List Value} {a : Option Addr} (h : Hp w0 rs w) (hm : Res.own (.slice a m cp) e sz m xs ∈ rs) : ∀ ad, a = some ad → ∀ j u, (xs.take (hi * sz))[j]? = some u → w.cell? (ad.add j) = some u := fun ad ha j u hj => by
  subst ha
  rw [List.getElem?_take] at hj
  split at hj
  · exact own_news h hm j u hj
  · cases hj
end
end Go.Eng
namespace Go.Eng
open Go Go.RowKit
section
variable {X : Ctx} {Q : Post} {L : List (Nat × Value)} {rs rq : List Res} {ops : Array Oper} {fuel : Nat} {listed : Array Bool}
/-- a region that draws, its state by a name: each state is shown once -/
theorem xj_abs (h : ∀ J : Nat → Array Bool → List (Nat × Value) → List Res → Prop, (∀ f l L' r, J f l L' r = XJ X ops rq Q f l L' r) → J fuel listed L rs) : XJ X ops rq Q fuel listed L rs := h _ fun _ _ _ _ => rfl
theorem xj_sub {L' : List (Nat × Value)} {rs' : List Res} {fuel' : Nat} {listed' : Array Bool} (hf : fuel = fuel') (hl : listed = listed') (hL : SubL L' L) (hr : Sel rs' rs) (h : XJ X ops rq Q fuel' listed' L' rs') : XJ X ops rq Q fuel listed L rs := by
  subst hf hl
  exact fun a w ha hw => h a w (ha.sub hL) (hw.sel hr)
end
end Go.Eng
