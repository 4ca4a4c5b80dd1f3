/- The engine, part 14: maps whose keys are pairs of numbers. -/
import Derived.Test.YtpijahglojichaaDoorEng13
import Derived.DeepKeys3
namespace Go.Eng
open Go Go.RowKit
def pkey (i j : Nat) : Value := .agg #[.int .i64 i, .int .i64 j]
def pairEs (l : List ((Nat × Nat) × Value)) : List MapEntry := l.zipIdx.map fun p => { key := pkey p.1.1.1 p.1.1.2, val := p.1.2, born := p.2 }
/-- a map that is filled in this order -/
def pairM (l : List ((Nat × Nat) × Value)) : Obj := .map (pairEs l).toArray l.length
theorem pairM_snoc (l : List ((Nat × Nat) × Value)) (i j : Nat) (v : Value) : pairM (l ++ [((i, j), v)]) = .map ((pairEs l).toArray.push { key := pkey i j, val := v, born := l.length }) (l.length + 1) := by
  simp [pairM, pairEs, List.zipIdx_append]
theorem pairEs_get {l : List ((Nat × Nat) × Value)} {n : Nat} {e : MapEntry} (h : (pairEs l)[n]? = some e) : ∃ i j, l[n]? = some ((i, j), e.val) ∧ e.key = pkey i j := by
  simp only [pairEs, List.getElem?_map, List.getElem?_zipIdx, Option.map_map] at h
  cases hv : l[n]? with
  | none => rw [hv] at h; simp at h
  | some p =>
    obtain ⟨⟨i, j⟩, v⟩ := p
    rw [hv] at h; simp at h; subst h
    exact ⟨i, j, rfl, rfl⟩
theorem pairEs_mem {l : List ((Nat × Nat) × Value)} {e : MapEntry} (h : e ∈ pairEs l) : ∃ i j, ((i, j), e.val) ∈ l ∧ e.key = pkey i j := by
  obtain ⟨n, hn, rfl⟩ := List.getElem_of_mem h
  obtain ⟨i, j, h1, h2⟩ := pairEs_get (List.getElem?_eq_getElem hn)
  exact ⟨i, j, List.mem_of_getElem? h1, h2⟩
theorem pkey_inj {i j i' j' : Nat} (h : pkey i j = pkey i' j') : i = i' ∧ j = j' := by
  simp [pkey] at h; omega
section
variable {X : Ctx} {Q : Post} {L : List (Nat × Value)} {rs : List Res} {ops : Array Oper} {rest : List Oper} {op : Op} {ty t t' e e' kt et : TypeId} {v u : Value} {d n : Nat} {pos : String} {af : Array Edge} {x y m kx vx : Operand} {d0 : TypeDesc} {k : IntKind}
theorem sq_makeMap2 (hd : Nat.ble (d + 1) X.N = true) (k : ∀ b, SQ X ops Q rest ((d, .map (some b)) :: L) (.blk b (pairM []) :: rs)) : SQ X ops Q (⟨some d, .makeMap t none, ty, pos, af, none⟩ :: rest) L rs := sq_makeMap hd k
theorem sq_mapPut2 {b i j : Nat} {l : List ((Nat × Nat) × Value)} {rest' : List Res} (KL : WideMaps.KeyLaw X.P kt) {B : Nat} (hko : ∀ i j, i ≤ B → j ≤ B → ∃ l, keyOf X.P kt (pkey i j) = some l) (hB : ∀ p, p ∈ l → p.1.1 ≤ B ∧ p.1.2 ≤ B) (hi : i ≤ B) (hj : j ≤ B) (hu : X.P.underlying t = some (.map kt et)) (hm : ev L m = some (.map (some b))) (hr : Rem (.blk b (pairM l)) rs rest') (hx : ev L kx = some (pkey i j)) (hv : ev L vx = some v)
    (hnew : ∀ p, p ∈ l → p.1 ≠ (i, j)) (k : SQ X ops Q rest L (.blk b (pairM (l ++ [((i, j), v)])) :: rest')) : SQ X ops Q (⟨none, .mapUpdate t m kx vx, ty, pos, af, none⟩ :: rest) L rs := by
  intro a w ha hw
  have hb : w.heap[b]? = some (pairM l) := hw.ok _ hr.mem.1
  refine wpListIn_plain rfl fun K hK => ⟨fun _ _ => trivial, ?_⟩
  obtain ⟨lx, hlx⟩ := hko i j hi hj
  have hall : ∀ e, e ∈ pairEs l → ∃ lk, keyOf X.P kt e.key = some lk := fun e he => by
    obtain ⟨i', j', h0, h2⟩ := pairEs_mem he
    rw [h2]; exact hko i' j' (hB _ h0).1 (hB _ h0).2
  have hfind : (Instr.findKey kt (pkey i j) (pairEs l)).run X.P w = .ok none w := by
    rcases KL.find w hlx (pairEs l) hall with ⟨h1, _⟩ | ⟨n, e, _, h2, h3⟩
    · exact h1
    · obtain ⟨i', j', h4, h5⟩ := pairEs_get h2
      rw [h5] at h3
      obtain ⟨e1, e2⟩ := pkey_inj h3
      exact absurd (by rw [e1, e2]) (hnew _ (List.mem_of_getElem? h4))
  have hget : (getObj b).run X.P w = .ok (pairM l) w := by simp [getObj, Sem.run, hb]; rfl
  have hset : ∀ o, (setObj b o).run X.P w = .ok () (w.putObj b o) := fun o => by simp [setObj, Sem.run, hb, World.putObj]; rfl
  have hrun : (execOp a.eval ⟨none, .mapUpdate t m kx vx, ty, pos, af, none⟩).run X.P w = .ok .skip (w.putObj b (pairM (l ++ [((i, j), v)]))) := by
    have : (Instr.mapUpdate t (.map (some b)) (pkey i j) v).run X.P w = .ok () (w.putObj b (pairM (l ++ [((i, j), v)]))) := by
      unfold Instr.mapUpdate
      simp only [Sem.run_bind, run_underlying hu, Result.andThen_ok, hget]
      simp only [pairM, Sem.run_bind, KL.check w false hlx, hfind, Result.andThen_ok]
      rw [hset, ← pairM, pairM_snoc]
    simp [execOp, ha.eval hm, ha.eval hx, ha.eval hv, this]
  rw [Oper.semAt_eq _ _ _ (by simp), hrun]
  exact hK _ _ (k _ _ (ha.put_none _) (hp_put hw hr _))
theorem y_lookup2 {b i j : Nat} {l : List ((Nat × Nat) × Value)} (KL : WideMaps.KeyLaw X.P kt) {B : Nat} (hko : ∀ i j, i ≤ B → j ≤ B → ∃ l, keyOf X.P kt (pkey i j) = some l) (hB : ∀ p, p ∈ l → p.1.1 ≤ B ∧ p.1.2 ≤ B) (hi : i ≤ B) (hj : j ≤ B) (hu : X.P.underlying t = some (.map kt et)) (hm : ev L m = some (.map (some b))) (hr : ∀ w, Hp X.w0 rs w → w.heap[b]? = some (pairM l)) (hx : ev L kx = some (pkey i j))
    (hin : ((i, j), v) ∈ l) (hone : ∀ v', ((i, j), v') ∈ l → v' = v) : OpS X L rs (.lookup t m kx false) ty v := .val fun o h1 _ a w ha hw => by
  have hb : w.heap[b]? = some (pairM l) := hr w hw
  have hget : (getObj b).run X.P w = .ok (pairM l) w := by simp [getObj, Sem.run, hb]; rfl
  obtain ⟨lx, hlx⟩ := hko i j hi hj
  have hall : ∀ e, e ∈ pairEs l → ∃ lk, keyOf X.P kt e.key = some lk := fun e he => by
    obtain ⟨i', j', h0, h2⟩ := pairEs_mem he
    rw [h2]; exact hko i' j' (hB _ h0).1 (hB _ h0).2
  have hfind : ∃ n, (Instr.findKey kt (pkey i j) (pairEs l)).run X.P w = .ok (some (n, v)) w := by
    rcases KL.find w hlx (pairEs l) hall with ⟨_, h2⟩ | ⟨n, e, h2, h3, h4⟩
    · obtain ⟨n, hn, e1⟩ := List.getElem_of_mem hin
      obtain ⟨e, he⟩ : ∃ e, (pairEs l)[n]? = some e := ⟨_, List.getElem?_eq_getElem (by simpa [pairEs] using hn)⟩
      obtain ⟨i', j', h5, h6⟩ := pairEs_get he
      rw [List.getElem?_eq_getElem hn, e1] at h5
      injection h5 with h5
      injection h5 with h5 _
      injection h5 with h7 h8
      exact absurd (by rw [h6, ← h7, ← h8]) (h2 e (List.mem_of_getElem? he))
    · obtain ⟨i', j', h5, h6⟩ := pairEs_get h3
      rw [h6] at h4
      obtain ⟨e1, e2⟩ := pkey_inj h4
      rw [e1, e2] at h5
      have := hone _ (List.mem_of_getElem? h5)
      rw [this] at h2
      exact ⟨n, h2⟩
  obtain ⟨n, hfind⟩ := hfind
  simp only [execOp, h1, ha.eval hm, ha.eval hx, Instr.lookup, Sem.run_bind, run_underlying hu, Result.andThen_ok, hget]
  simp [pairM, Sem.run_bind, KL.check w _ hlx, hfind]
theorem y_eqlnilA {a0 : Option Addr} {c c' : Nat} (hu : X.P.underlying t = some (.slice e)) (hx : ev L x = some (.slice a0 n c)) (hy : ev L y = some (.slice none 0 c')) : OpS X L rs (.binOp .eql t x y t') ty (.bool a0.isNone) := .val fun o h1 _ a w ha _ => by
  have hg : (eqGuard .eql t x y (.slice a0 n c) (.slice none 0 c')).run X.P w = .ok () w := by simp [eqGuard]
  simp [execOp, h1, ha.eval hx, ha.eval hy, Sem.run_bind, hg, Go.Lib.run_eql_slice_nil w t e a0 n c 0 c' hu]
/-- the results: two variables that are no structs -/
theorem res_ss {fn : Func} {r r2 : Tmp} {t2 e2 : TypeId} {d2 : TypeDesc} {b b2 : Nat} {fz fz2 : Nat × Nat} (hr : fn.results = #[.cell r t, .cell r2 t2]) (hu : X.P.underlying t = some d0) (hs : scal d0 = true) (hu2 : X.P.underlying t2 = some d2) (hs2 : scal d2 = true)
    (hv : lk L r = some (.pointer (some ⟨b, 0, none⟩))) (hm : Res.blk b (.cells #[v] e fz) ∈ rs) (hvb : lk L r2 = some (.pointer (some ⟨b2, 0, none⟩))) (hm2 : Res.blk b2 (.cells #[u] e2 fz2) ∈ rs) : ∀ a w, St X.N X.D L a → Hp X.w0 rs w → (results fn a.tmps).run X.P w = .ok (.tuple #[v, u]) w := fun a w ha hw => by
  have hg : a.tmps[r]? = some (.pointer (some ⟨b, 0, none⟩)) := ha.get _ _ hv
  have hgb : a.tmps[r2]? = some (.pointer (some ⟨b2, 0, none⟩)) := ha.get _ _ hvb
  have hc : w.cell? ⟨b, 0, none⟩ = some v := (cell_blk hw hm).trans rfl
  have hc2 : w.cell? ⟨b2, 0, none⟩ = some u := (cell_blk hw hm2).trans rfl
  simp [results, hr, hg, hgb, asAddr, run_loadVar_scal hu hs hc, run_loadVar_scal hu2 hs2 hc2]
end
theorem heap_reg {w0 w : World} {rs : List Res} {lo : Nat} {wr : World} {b : Nat} {o : Obj} (hw : Hp w0 rs w) (hm : Res.reg lo wr ∈ rs) (hlo : lo ≤ b) (h : wr.heap[b]? = some o) : w.heap[b]? = some o :=
  ((hw.ok _ hm).2 b hlo (Array.getElem?_eq_some_iff.1 h).1).trans h
end Go.Eng
