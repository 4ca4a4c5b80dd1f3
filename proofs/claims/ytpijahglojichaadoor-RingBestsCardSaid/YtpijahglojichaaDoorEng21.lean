/- The engine, part 21: sets of blocks that are kept; maps with keys of any kind; functions with ranges over what lay there before. -/
import Derived.Test.YtpijahglojichaaDoorEng20
namespace Go.Eng
open Go Go.RowKit
/-! ### sets of blocks -/
def CS (D : Nat → Prop) (wr : World) (p : Addr) (vs : List Value) : Prop := ∀ j v, vs[j]? = some v → D p.block ∧ wr.cell? (p.add j) = some v
/-- a greater set, in a later world -/
structure Grow (D : Nat → Prop) (wr : World) (D' : Nat → Prop) (wr' : World) : Prop where
  sub : ∀ k, D k → D' k
  same : ∀ k, D k → wr'.heap[k]? = wr.heap[k]?
theorem Grow.refl (D : Nat → Prop) (wr : World) : Grow D wr D wr := ⟨fun _ h => h, fun _ _ => rfl⟩
theorem Grow.trans {D D' D'' : Nat → Prop} {w w' w'' : World} (h : Grow D w D' w') (k : Grow D' w' D'' w'') : Grow D w D'' w'' := ⟨fun b hb => k.sub b (h.sub b hb), fun b hb => (k.same b (h.sub b hb)).trans (h.same b hb)⟩
theorem cell_set {w0 rs w D wr} (h : Hp w0 rs w) (hm : Res.set D wr ∈ rs) {p : Addr} {v : Value} (hp : D p.block) (hc : wr.cell? p = some v) : w.cell? p = some v :=
  (World.cell?_of_block (w := wr) ((h.ok _ hm).2 _ hp).2).trans hc
theorem CS.at {w0 rs w D wr p vs} (h : CS D wr p vs) (hw : Hp w0 rs w) (hm : Res.set D wr ∈ rs) : CA 0 w p vs :=
  ⟨Nat.zero_le _, fun j v hj => cell_set hw hm (by rw [Addr.add_block]; exact (h j v hj).1) (h j v hj).2⟩
theorem CS.grow {D D' wr wr' p vs} (h : CS D wr p vs) (g : Grow D wr D' wr') : CS D' wr' p vs := fun j v hj =>
  ⟨g.sub _ (h j v hj).1, (World.cell?_of_block (w := wr) (by rw [Addr.add_block]; exact g.same _ (h j v hj).1)).trans (h j v hj).2⟩
structure RowsS {α : Type} (row : α → List Value) (sz : Nat) (D : Nat → Prop) (wr : World) (a : Option Addr) (l : List α) : Prop where
  el : ∀ i x, l[i]? = some x → a.isSome = true ∧ CS D wr (elt a i sz) (row x)
  len : l.length ≤ 9223372036854775807
section
variable {α : Type} {row : α → List Value} {sz : Nat}
theorem RowsS.at {w0 rs w D wr a l} (h : RowsS row sz D wr a l) (hw : Hp w0 rs w) (hm : Res.set D wr ∈ rs) : RowsA row sz 0 w a l := ⟨fun i s hi => ⟨(h.el i s hi).1, (h.el i s hi).2.at hw hm⟩, h.len⟩
theorem RowsS.grow {D D' wr wr' a l} (h : RowsS row sz D wr a l) (g : Grow D wr D' wr') : RowsS row sz D' wr' a l := ⟨fun i s hi => ⟨(h.el i s hi).1, (h.el i s hi).2.grow g⟩, h.len⟩
theorem RowsS.nil (D : Nat → Prop) (wr : World) : RowsS row sz D wr none [] := ⟨fun i s hi => by simp at hi, by simp⟩
theorem RowsS.noa {D wr a l} (h : RowsS row sz D wr a l) (ha : a = none) : l.length = 0 := by
  rcases Nat.eq_zero_or_pos l.length with h0 | h0
  · exact h0
  · have := (h.el 0 _ (List.getElem?_eq_getElem h0)).1; rw [ha] at this; cases this
/-- rows of an own slice -/
theorem own_rowsS (hr : ∀ x, (row x).length = sz) {w : World} {v : Value} {n : Nat} {l : List α} {e : TypeId} (D : Nat → Prop) (h : w.ownsRow 0 e sz v n (l.flatMap row)) (hn : l.length = n) (h64 : n ≤ 9223372036854775807) (hD : ∀ k, v.ownBlock = some k → D k) : ∃ a c, v = .slice a n c ∧ n ≤ c ∧ RowsS row sz D w a l := by
  subst hn
  rcases h.2 with ⟨hv, h0⟩ | ⟨g, cap, cur, hv, hb, hg, h3, h4, h5, h6⟩
  · have hl : l = [] := List.eq_nil_of_length_eq_zero h0
    subst hl
    exact ⟨none, 0, hv, Nat.le_refl _, RowsS.nil _ _⟩
  · refine ⟨some ⟨g, 0, none⟩, cap, hv, h3, ⟨fun i x hi => ⟨rfl, ?_⟩, h64⟩⟩
    have e1 : elt (some ⟨g, 0, none⟩) i sz = (⟨g, i * sz, none⟩ : Addr) := by simp [elt, Addr.add_lit]
    rw [e1]
    refine fun j v hj => ⟨hD g (by rw [hv]; rfl), ?_⟩
    have hc := World.ownsRow.cells (w := w) h (g := g) (by rw [hv]; rfl) (i * sz + j) v (flat_get hr l i x hi j v hj)
    rw [Addr.add_lit, Nat.zero_add] at hc
    rw [Addr.add_lit]; exact hc
end
/-- a resource is put to a set -/
theorem Hp.join {w0 w : World} {rest : List Res} {r : Res} {D : Nat → Prop} {wr : World} (h : Hp w0 (r :: .set D wr :: rest) w) : Hp w0 (.set (fun k => D k ∨ r.dom k) w :: rest) w ∧ Grow D wr (fun k => D k ∨ r.dom k) w ∧ r.ok w := by
  have h1 := h.ok r (.head _)
  have h2 := h.ok _ (.tail _ (.head _))
  obtain ⟨a1, a2⟩ := List.pairwise_cons.1 h.apart
  obtain ⟨a3, a4⟩ := List.pairwise_cons.1 a2
  refine ⟨⟨h.os, h.tape, h.output, h.size, fun s hs => ?_, List.pairwise_cons.2 ⟨fun s hs k hk => ?_, a4⟩⟩, ⟨fun k hk => .inl hk, fun k hk => (h2.2 k hk).2⟩, h1⟩
  · rcases List.mem_cons.1 hs with rfl | hs
    · refine ⟨Nat.le_refl _, fun k hk => ⟨?_, rfl⟩⟩
      rcases hk with hk | hk
      · exact Nat.lt_of_lt_of_le (h2.2 k hk).1 h2.1
      · exact Res.ok_lt h1 hk
    · exact h.ok s (.tail _ (.tail _ hs))
  · rcases hk with hk | hk
    · exact a3 s hs k hk
    · exact a1 s (.tail _ hs) k hk
/-- a set of no blocks -/
theorem Hp.empty {w0 rs w} (h : Hp w0 rs w) : Hp w0 (.set (fun _ => False) w :: rs) w :=
  ⟨h.os, h.tape, h.output, h.size, fun r hr => by
    rcases List.mem_cons.1 hr with rfl | hr
    · exact ⟨Nat.le_refl _, fun k hk => hk.elim⟩
    · exact h.ok r hr, List.pairwise_cons.2 ⟨fun s _ k hk => hk.elim, h.apart⟩⟩
section
variable {X : Ctx} {Q : Post} {L : List (Nat × Value)} {rs rest' : List Res} {ops : Array Oper} {r : Res} {D : Nat → Prop} {wr : World} {e : Exit}
theorem sx_join (hr : Rems [r, .set D wr] rs rest') (h : ∀ w', Grow D wr (fun k => D k ∨ r.dom k) w' → r.ok w' → SX X Q e L (.set (fun k => D k ∨ r.dom k) w' :: rest')) : SX X Q e L rs := fun a w ha hw => by
  obtain ⟨h1, h2, h3⟩ := (hw.sel hr.sel).join
  exact h w h2 h3 a w ha h1
theorem sc_join {c : Code} (hr : Rems [r, .set D wr] rs rest') (h : ∀ w', Grow D wr (fun k => D k ∨ r.dom k) w' → r.ok w' → SC X c Q L (.set (fun k => D k ∨ r.dom k) w' :: rest')) : SC X c Q L rs := fun a w ha hw => by
  obtain ⟨h1, h2, h3⟩ := (hw.sel hr.sel).join
  exact h w h2 h3 a w ha h1
theorem sq_join {l : List Oper} (hr : Rems [r, .set D wr] rs rest') (h : ∀ w', Grow D wr (fun k => D k ∨ r.dom k) w' → r.ok w' → SQ X ops Q l L (.set (fun k => D k ∨ r.dom k) w' :: rest')) : SQ X ops Q l L rs := fun a w ha hw => by
  obtain ⟨h1, h2, h3⟩ := (hw.sel hr.sel).join
  exact h w h2 h3 a w ha h1
end
theorem RMS1 {r s : Res} {rs rest : List Res} {rest' : List Res} (h : Rem r rs rest := by repeat (first | exact Rem.here | apply Rem.there)) (k : Rem s rest rest' := by repeat (first | exact Rem.here | apply Rem.there)) : Rems [r, s] rs rest' := .cons h (.cons k .nil)
/-! ### maps -/
structure KF {α : Type} (P : Program) (kt : TypeId) (kf : α → Value) (okk : α → Prop) : Prop where
  inj : ∀ a b, kf a = kf b → a = b
  check : ∀ (w : World) (em : Bool) (a : α), okk a → (Instr.checkKey em 10000 kt (kf a)).run P w = .ok () w
  find : ∀ (w : World) (a : α), okk a → ∀ es : List MapEntry, (∀ e ∈ es, ∃ b, okk b ∧ e.key = kf b) →
    ((Instr.findKey kt (kf a) es).run P w = .ok none w ∧ ∀ e ∈ es, e.key ≠ kf a) ∨ ∃ j e, (Instr.findKey kt (kf a) es).run P w = .ok (some (j, e.val)) w ∧ es[j]? = some e ∧ e.key = kf a
theorem KF.of_law {α : Type} {P : Program} {kt : TypeId} {kf : α → Value} {okk : α → Prop} (KL : WideMaps.KeyLaw P kt) (hko : ∀ a, okk a → ∃ l, keyOf P kt (kf a) = some l) (hinj : ∀ a b, kf a = kf b → a = b) : KF P kt kf okk where
  inj := hinj
  check := fun w em a ha => by obtain ⟨l, hl⟩ := hko a ha; exact KL.check w em hl
  find := fun w a ha es hes => by
    obtain ⟨l, hl⟩ := hko a ha
    exact KL.find w hl es fun e he => by
      obtain ⟨b, hb, hk⟩ := hes e he
      rw [hk]; exact hko b hb
theorem KF.of_int {P : Program} {kt : TypeId} (hk : P.underlying kt = some (.int .i64)) : KF P kt (fun z : Int => .int .i64 z) (fun _ => True) where
  inj := fun a b h => by cases h; rfl
  check := fun w em a _ => checkKey_int hk a w
  find := fun w a _ es hes => by
    have hrun : ∀ o, Instr.findNow (.int .i64) (.int .i64 a) es 0 = some o → (Instr.findKey kt (.int .i64 a) es).run P w = .ok o w := fun o ho => by
      simp [Instr.findKey, Sem.run_bind, run_underlying hk, ho]
    have key : ∀ (es : List MapEntry) (i : Nat), (∀ e ∈ es, ∃ b : Int, True ∧ e.key = .int .i64 b) → (Instr.findNow (.int .i64) (.int .i64 a) es i = some none ∧ ∀ e ∈ es, e.key ≠ .int .i64 a) ∨ ∃ (j : Nat) (e : MapEntry), Instr.findNow (.int .i64) (.int .i64 a) es i = some (some (i + j, e.val)) ∧ es[j]? = some e ∧ e.key = .int .i64 a := by
      intro es
      by_cases hin : ∃ (j : Nat) (e : MapEntry), es[j]? = some e ∧ e.key = .int .i64 a ∧ ∀ (j' : Nat) (e' : MapEntry), j' < j → es[j']? = some e' → e'.key ≠ .int .i64 a
      · intro i hes
        obtain ⟨j, e, h1, h2, h3⟩ := hin
        refine .inr ⟨j, e, findNow_hit a es i j e h1 h2 fun j' e' hj he' => ?_, h1, h2⟩
        obtain ⟨z, _, hz⟩ := hes e' (List.mem_of_getElem? he')
        exact ⟨z, hz, fun e0 => h3 j' e' hj he' (by rw [hz, e0])⟩
      · intro i hes
        have hno : ∀ e ∈ es, e.key ≠ .int .i64 a := by
          intro e he hk
          apply hin
          obtain ⟨j, hj⟩ := List.getElem?_of_mem he
          have : ∀ n : Nat, (∃ e : MapEntry, es[n]? = some e ∧ e.key = .int .i64 a) → ∃ (j : Nat) (e : MapEntry), es[j]? = some e ∧ e.key = .int .i64 a ∧ ∀ (j' : Nat) (e' : MapEntry), j' < j → es[j']? = some e' → e'.key ≠ .int .i64 a := by
            intro n
            induction n using Nat.strongRecOn with
            | ind n ih =>
              rintro ⟨e, h1, h2⟩
              by_cases hm : ∃ m : Nat, m < n ∧ ∃ e : MapEntry, es[m]? = some e ∧ e.key = .int .i64 a
              · obtain ⟨m, h3, h4⟩ := hm
                exact ih m h3 h4
              · exact ⟨n, e, h1, h2, fun j' e' hj he' hk' => hm ⟨j', hj, e', he', hk'⟩⟩
          exact this j ⟨e, hj, hk⟩
        refine .inl ⟨findNow_none a es i fun e he => ?_, hno⟩
        obtain ⟨z, _, hz⟩ := hes e he
        exact ⟨z, hz, fun e0 => hno e he (by rw [hz, e0])⟩
    rcases key es 0 hes with ⟨h1, h2⟩ | ⟨j, e, h1, h2, h3⟩
    · exact .inl ⟨hrun _ h1, h2⟩
    · exact .inr ⟨0 + j, e, hrun _ h1, by rw [Nat.zero_add]; exact h2, h3⟩
section
variable {α : Type}
/-- a map, in the order in which it was filled; a value is several cells -/
def kvEs (kf : α → Value) (l : List (α × List Value)) : List MapEntry := l.zipIdx.map fun p => { key := kf p.1.1, val := .agg p.1.2.toArray, born := p.2 }
def kvM (kf : α → Value) (l : List (α × List Value)) : Obj := .map (kvEs kf l).toArray l.length
theorem kvM_snoc (kf : α → Value) (l : List (α × List Value)) (x : α) (v : List Value) : kvM kf (l ++ [(x, v)]) = .map ((kvEs kf l).toArray.push { key := kf x, val := .agg v.toArray, born := l.length }) (l.length + 1) := by
  simp [kvM, kvEs, List.zipIdx_append]
theorem kvEs_get {kf : α → Value} {l : List (α × List Value)} {n : Nat} {e : MapEntry} (h : (kvEs kf l)[n]? = some e) : ∃ x v, l[n]? = some (x, v) ∧ e.key = kf x ∧ e.val = .agg v.toArray := by
  simp only [kvEs, List.getElem?_map, List.getElem?_zipIdx, Option.map_map] at h
  cases hv : l[n]? with
  | none => rw [hv] at h; simp at h
  | some p =>
    obtain ⟨x, v⟩ := p
    rw [hv] at h; simp at h; subst h
    exact ⟨x, v, rfl, rfl, rfl⟩
theorem kvEs_ok {kf : α → Value} {okk : α → Prop} {l : List (α × List Value)} (hB : ∀ p, p ∈ l → okk p.1) : ∀ e, e ∈ kvEs kf l → ∃ b, okk b ∧ e.key = kf b := fun e he => by
  obtain ⟨n, hn, rfl⟩ := List.getElem_of_mem he
  obtain ⟨x, v, h1, h2, _⟩ := kvEs_get (List.getElem?_eq_getElem hn)
  exact ⟨x, hB _ (List.mem_of_getElem? h1), h2⟩
def kvGet [DecidableEq α] (l : List (α × List Value)) (x : α) : Option (List Value) := (l.find? fun p => decide (p.1 = x)).map (·.2)
theorem kvGet_some [DecidableEq α] {l : List (α × List Value)} {x : α} {v : List Value} (h : kvGet l x = some v) : (x, v) ∈ l := by
  unfold kvGet at h
  obtain ⟨p, hp, rfl⟩ := Option.map_eq_some_iff.1 h
  have h1 := List.find?_some hp
  have h2 := List.mem_of_find?_eq_some hp
  simp at h1
  rw [← h1]; exact h2
theorem kvGet_none [DecidableEq α] {l : List (α × List Value)} {x : α} (h : kvGet l x = none) : ∀ p, p ∈ l → p.1 ≠ x := by
  unfold kvGet at h
  rw [Option.map_eq_none_iff, List.find?_eq_none] at h
  intro p hp
  simpa using h p hp
theorem kvGet_of [DecidableEq α] {l : List (α × List Value)} (hnd : (l.map (·.1)).Nodup) {x : α} {v : List Value} (h : (x, v) ∈ l) : kvGet l x = some v := by
  induction l with
  | nil => cases h
  | cons p l ih =>
    rw [List.map_cons, List.nodup_cons] at hnd
    unfold kvGet
    rw [List.find?_cons]
    rcases List.mem_cons.1 h with rfl | h
    · simp
    · have : p.1 ≠ x := fun e => hnd.1 (List.mem_map.2 ⟨(x, v), h, e.symm⟩)
      simp only [this, decide_false]
      exact ih hnd.2 h
end
section
variable {α : Type} {X : Ctx} {Q : Post} {L : List (Nat × Value)} {rs : List Res} {ops : Array Oper} {rest : List Oper} {ty t t' e e' kt et : TypeId} {v u : Value} {d n : Nat} {pos : String} {af : Array Edge} {x y m kx vx : Operand} {d0 : TypeDesc} {k : IntKind}
theorem sq_makeMapK (kf : α → Value) (hd : Nat.ble (d + 1) X.N = true) (k : ∀ b, SQ X ops Q rest ((d, .map (some b)) :: L) (.blk b (kvM kf []) :: rs)) : SQ X ops Q (⟨some d, .makeMap t none, ty, pos, af, none⟩ :: rest) L rs := sq_makeMap hd k
theorem sq_mapPutK {kf : α → Value} {okk : α → Prop} {b : Nat} {l : List (α × List Value)} {x0 : α} {vs : List Value} {rest' : List Res} (K : KF X.P kt kf okk) (hB : ∀ p, p ∈ l → okk p.1) (hi : okk x0) (hu : X.P.underlying t = some (.map kt et)) (hm : ev L m = some (.map (some b))) (hr : Rem (.blk b (kvM kf l)) rs rest') (hx : ev L kx = some (kf x0)) (hv : ev L vx = some (.agg vs.toArray))
    (hnew : ∀ p, p ∈ l → p.1 ≠ x0) (k : SQ X ops Q rest L (.blk b (kvM kf (l ++ [(x0, vs)])) :: rest')) : SQ X ops Q (⟨none, .mapUpdate t m kx vx, ty, pos, af, none⟩ :: rest) L rs := by
  intro a w ha hw
  have hb : w.heap[b]? = some (kvM kf l) := hw.ok _ hr.mem.1
  refine wpListIn_plain rfl fun K' hK => ⟨fun _ _ => trivial, ?_⟩
  have hfind : (Instr.findKey kt (kf x0) (kvEs kf l)).run X.P w = .ok none w := by
    rcases K.find w x0 hi (kvEs kf l) (kvEs_ok hB) with ⟨h1, _⟩ | ⟨n, e, _, h2, h3⟩
    · exact h1
    · obtain ⟨x', v', h4, h5, _⟩ := kvEs_get h2
      rw [h5] at h3
      exact absurd (K.inj _ _ h3) (hnew _ (List.mem_of_getElem? h4))
  have hget : (getObj b).run X.P w = .ok (kvM kf l) w := by simp [getObj, Sem.run, hb]; rfl
  have hset : ∀ o, (setObj b o).run X.P w = .ok () (w.putObj b o) := fun o => by simp [setObj, Sem.run, hb, World.putObj]; rfl
  have hrun : (execOp a.eval ⟨none, .mapUpdate t m kx vx, ty, pos, af, none⟩).run X.P w = .ok .skip (w.putObj b (kvM kf (l ++ [(x0, vs)]))) := by
    have : (Instr.mapUpdate t (.map (some b)) (kf x0) (.agg vs.toArray)).run X.P w = .ok () (w.putObj b (kvM kf (l ++ [(x0, vs)]))) := by
      unfold Instr.mapUpdate
      simp only [Sem.run_bind, run_underlying hu, Result.andThen_ok, hget]
      simp only [kvM, Sem.run_bind, K.check w false x0 hi, hfind, Result.andThen_ok]
      rw [hset, ← kvM, kvM_snoc]
    simp [execOp, ha.eval hm, ha.eval hx, ha.eval hv, this]
  rw [Oper.semAt_eq _ _ _ (by simp), hrun]
  exact hK _ _ (k _ _ (ha.put_none _) (hp_put hw hr _))
theorem y_lookupOkK [DecidableEq α] {kf : α → Value} {okk : α → Prop} {b : Nat} {l : List (α × List Value)} {x0 : α} {z0 : List Value} (K : KF X.P kt kf okk) (hB : ∀ p, p ∈ l → okk p.1) (hi : okk x0) (hnd : (l.map (·.1)).Nodup) (hu : X.P.underlying t = some (.map kt et)) (hz : ∀ w, (zeroValue et).run X.P w = .ok (.agg z0.toArray) w) (hm : ev L m = some (.map (some b))) (hr : ∀ w, Hp X.w0 rs w → w.heap[b]? = some (kvM kf l)) (hx : ev L kx = some (kf x0)) :
    OpS X L rs (.lookup t m kx true) ty (.tuple #[.agg ((kvGet l x0).getD z0).toArray, .bool (kvGet l x0).isSome]) := .val fun o h1 _ a w ha hw => by
  have hb : w.heap[b]? = some (kvM kf l) := hr w hw
  have hget : (getObj b).run X.P w = .ok (kvM kf l) w := by simp [getObj, Sem.run, hb]; rfl
  simp only [execOp, h1, ha.eval hm, ha.eval hx, Instr.lookup, Sem.run_bind, run_underlying hu, Result.andThen_ok, hget]
  rcases K.find w x0 hi (kvEs kf l) (kvEs_ok hB) with ⟨h2, h3⟩ | ⟨n, e, h2, h3, h4⟩
  · have hno : kvGet l x0 = none := by
      cases hg : kvGet l x0 with
      | none => rfl
      | some v =>
        exfalso
        obtain ⟨n, hn⟩ := List.getElem?_of_mem (kvGet_some hg)
        obtain ⟨e, he⟩ : ∃ e, (kvEs kf l)[n]? = some e := ⟨_, List.getElem?_eq_getElem (by have := (List.getElem?_eq_some_iff.1 hn).1; simpa [kvEs] using this)⟩
        obtain ⟨x', v', h5, h6, _⟩ := kvEs_get he
        rw [hn] at h5
        injection h5 with h5
        injection h5 with h5 _
        exact h3 e (List.mem_of_getElem? he) (by rw [h6, ← h5])
    simp [kvM, Sem.run_bind, K.check w _ x0 hi, h2, hz, hno]
  · obtain ⟨x', v', h5, h6, h7⟩ := kvEs_get h3
    rw [h6] at h4
    have hx' := K.inj _ _ h4
    subst hx'
    have hg := kvGet_of hnd (List.mem_of_getElem? h5)
    rw [h7] at h2
    simp [kvM, Sem.run_bind, K.check w _ x' hi, h2, hg]
end
/-! ### a range over a function, in a function that is told of what lay there before -/
theorem calls_of_SCrm {P : Program} {f : FuncId} {fn : Func} {c : Code} {args : List Value} {w0 w : World} {rs : List Res} {R : Ending → World → Prop} {N : Nat} (hf : P.funcs[f]? = some fn) (hb : fn.body = some c) (hN : fn.ntmps = N) (hw : Hp w0 rs w) (hn0 : Nat.ble args.length N = true)
    (h : SC ⟨none, P, N, [], w0⟩ c (bodyPostM (FW none) 0 P fn R) (argL 0 args) rs) : Calls P f args.toArray w R := by
  have hn := Nat.le_of_ble_eq_true hn0
  refine callsIn_wide.1 (callsIn_of_wp_marks (F := Fence.wide) (n := 0) hf hb trivial (h _ w ⟨?_, rfl, fun i v hv => ?_⟩ hw) rfl)
  · simp [hN]; omega
  · obtain ⟨h1, h2⟩ := lk_argL args 0 i v hv
    simp at h2
    have hi : i < args.length := (List.getElem?_eq_some_iff.1 h2).1
    rw [Array.getElem?_append_left (by simpa using hi)]; simpa using h2
end Go.Eng
namespace Go.Eng
open Go Go.RowKit
section
variable {X : Ctx} {Q : Post} {L : List (Nat × Value)} {rs : List Res} {ops : Array Oper} {rest : List Oper} {ty t e : TypeId} {n : Nat} {pos : String} {af : Array Edge} {x y : Operand}
/-- a part of a variable is stored -/
theorem sq_store_part {b o : Nat} {cs vs cs' : List Value} {rest' : List Res} (hz : ∀ w, (Go.sizeOf t).run X.P w = .ok n w) (hx : ev L x = some (.pointer (some ⟨b, o, none⟩))) (hy : ev L y = some (.agg vs.toArray)) (h1 : vs.all (·.oneCell') = true) (hr : Rem (.blk b (.cells cs.toArray e (0, 0))) rs rest') (hl : vs.length = n) (ho : o + n ≤ cs.length)
    (he : cs.take o ++ vs ++ cs.drop (o + n) = cs') (k : SQ X ops Q rest L (.blk b (.cells cs'.toArray e (0, 0)) :: rest')) : SQ X ops Q (⟨none, .store t x y, ty, pos, af, none⟩ :: rest) L rs := by
  intro a w ha hw
  refine wpListIn_plain rfl fun K hK => ⟨fun _ _ => trivial, ?_⟩
  have hok := hw.ok _ hr.mem.1
  have h2 := run_storeCells_at X.P b o e vs 0 cs.toArray w hok (by simp; omega) (fun v hv => (List.all_eq_true.1 h1) v hv)
  simp only [Nat.add_zero] at h2
  rw [hl, he] at h2
  have hrun : (execOp a.eval ⟨none, .store t x y, ty, pos, af, none⟩).run X.P w = .ok .skip (w.setRow b cs'.toArray) := by
    simp [execOp, ha.eval hx, ha.eval hy, Instr.storeAt, Instr.sureAddr, storeVar, Value.cells, hz, hl, h2]
  rw [Oper.semAt_eq _ _ _ (by simp)]
  rw [hrun]
  refine hK _ _ (k _ _ ha (hw.swap hr _ rfl rfl rfl (by simp) (fun k _ hd => setRow_other w b k cs'.toArray (fun e => hd e)) (setRow_heap w b cs.toArray cs'.toArray e _ hok) (fun k hk => .inl hk)))
end
end Go.Eng
