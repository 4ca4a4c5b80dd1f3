/- The engine, part 24: maps with values of any one type; counts; ranges over a map in whatever order. -/
import Derived.Test.YtfceajkofpafpaaEngB
import Derived.Maps.RangeRun
import Derived.DeepKeys3
namespace Go.Eng
open Go Go.RowKit
section
variable {α β : Type}
def mvEs (kf : α → Value) (vf : β → Value) (l : List (α × β)) : List MapEntry := l.zipIdx.map fun p => { key := kf p.1.1, val := vf p.1.2, born := p.2 }
def mvM (kf : α → Value) (vf : β → Value) (l : List (α × β)) : Obj := .map (mvEs kf vf l).toArray l.length
theorem mvEs_len (kf : α → Value) (vf : β → Value) (l : List (α × β)) : (mvEs kf vf l).length = l.length := by simp [mvEs]
theorem mvEs_at (kf : α → Value) (vf : β → Value) (l : List (α × β)) (n : Nat) : (mvEs kf vf l)[n]? = (l[n]?).map fun p => { key := kf p.1, val := vf p.2, born := n } := by
  simp only [mvEs, List.getElem?_map, List.getElem?_zipIdx, Option.map_map, Nat.zero_add]
  cases l[n]? <;> rfl
theorem mvM_snoc (kf : α → Value) (vf : β → Value) (l : List (α × β)) (x : α) (v : β) : mvM kf vf (l ++ [(x, v)]) = .map ((mvEs kf vf l).toArray.push { key := kf x, val := vf v, born := l.length }) (l.length + 1) := by
  simp [mvM, mvEs, List.zipIdx_append]
theorem mvEs_get {kf : α → Value} {vf : β → Value} {l : List (α × β)} {n : Nat} {e : MapEntry} (h : (mvEs kf vf l)[n]? = some e) : ∃ x v, l[n]? = some (x, v) ∧ e.key = kf x ∧ e.val = vf v ∧ e.born = n := by
  rw [mvEs_at] at h
  cases hv : l[n]? with
  | none => rw [hv] at h; cases h
  | some p =>
    obtain ⟨x, v⟩ := p
    rw [hv] at h
    injection h with h; subst h
    exact ⟨x, v, rfl, rfl, rfl, rfl⟩
theorem mvEs_ok {kf : α → Value} {vf : β → Value} {okk : α → Prop} {l : List (α × β)} (hB : ∀ p, p ∈ l → okk p.1) : ∀ e, e ∈ mvEs kf vf l → ∃ b, okk b ∧ e.key = kf b := fun e he => by
  obtain ⟨n, hn, rfl⟩ := List.getElem_of_mem he
  obtain ⟨x, v, h1, h2, _⟩ := mvEs_get (List.getElem?_eq_getElem hn)
  exact ⟨x, hB _ (List.mem_of_getElem? h1), h2⟩
def mvGet [DecidableEq α] (l : List (α × β)) (x : α) : Option β := (l.find? fun p => decide (p.1 = x)).map (·.2)
/-- where a key stands; behind all: it does not -/
def mvIdx [DecidableEq α] (l : List (α × β)) (x : α) : Nat := l.findIdx fun p => decide (p.1 = x)
def mvPut [DecidableEq α] (l : List (α × β)) (x : α) (v : β) : List (α × β) := if mvIdx l x < l.length then l.set (mvIdx l x) (x, v) else l ++ [(x, v)]
theorem mvGet_some [DecidableEq α] {l : List (α × β)} {x : α} {v : β} (h : mvGet l x = some v) : (x, v) ∈ l := by
  unfold mvGet at h
  obtain ⟨p, hp, rfl⟩ := Option.map_eq_some_iff.1 h
  have h1 := List.find?_some hp
  have h2 := List.mem_of_find?_eq_some hp
  simp at h1
  rw [← h1]; exact h2
theorem mvGet_none [DecidableEq α] {l : List (α × β)} {x : α} (h : mvGet l x = none) : ∀ p, p ∈ l → p.1 ≠ x := by
  unfold mvGet at h
  rw [Option.map_eq_none_iff, List.find?_eq_none] at h
  intro p hp
  simpa using h p hp
theorem mvGet_of [DecidableEq α] {l : List (α × β)} (hnd : (l.map (·.1)).Nodup) {x : α} {v : β} (h : (x, v) ∈ l) : mvGet l x = some v := by
  induction l with
  | nil => cases h
  | cons p l ih =>
    rw [List.map_cons, List.nodup_cons] at hnd
    unfold mvGet
    rw [List.find?_cons]
    rcases List.mem_cons.1 h with rfl | h
    · simp
    · have : p.1 ≠ x := fun e => hnd.1 (List.mem_map.2 ⟨(x, v), h, e.symm⟩)
      simp only [this, decide_false]
      exact ih hnd.2 h
theorem mvGet_no [DecidableEq α] {l : List (α × β)} {x : α} (h : ∀ p, p ∈ l → p.1 ≠ x) : mvGet l x = none := by
  cases hg : mvGet l x with
  | none => rfl
  | some v => exact absurd rfl (h _ (mvGet_some hg))
theorem nodup_idx {l : List (α × β)} (hnd : (l.map (·.1)).Nodup) {i j : Nat} {x : α} {u v : β} (hi : l[i]? = some (x, u)) (hj : l[j]? = some (x, v)) : i = j := by
  have h1 : (l.map (·.1))[i]? = some x := by rw [List.getElem?_map, hi]; rfl
  have h2 : (l.map (·.1))[j]? = some x := by rw [List.getElem?_map, hj]; rfl
  exact (List.getElem?_inj (List.getElem?_eq_some_iff.1 h1).1 hnd).1 (h1.trans h2.symm)
theorem mvIdx_lt [DecidableEq α] {l : List (α × β)} {x : α} (h : mvIdx l x < l.length) : ∃ u, l[mvIdx l x]? = some (x, u) := by
  have h1 : decide ((l[mvIdx l x]'h).1 = x) = true := List.findIdx_getElem (w := h)
  have h2 := of_decide_eq_true h1
  refine ⟨(l[mvIdx l x]'h).2, ?_⟩
  rw [List.getElem?_eq_getElem h]
  congr 1
  exact Prod.ext h2 rfl
theorem mvIdx_at [DecidableEq α] {l : List (α × β)} (hnd : (l.map (·.1)).Nodup) {j : Nat} {x : α} {v : β} (h : l[j]? = some (x, v)) : mvIdx l x = j := by
  have hj := (List.getElem?_eq_some_iff.1 h).1
  have hlt : mvIdx l x < l.length := List.findIdx_lt_length.2 ⟨_, List.mem_of_getElem? h, by simp⟩
  obtain ⟨u, hu⟩ := mvIdx_lt hlt
  exact nodup_idx hnd hu h
theorem mvIdx_no [DecidableEq α] {l : List (α × β)} {x : α} (h : ∀ p, p ∈ l → p.1 ≠ x) : mvIdx l x = l.length := List.findIdx_eq_length.2 fun p hp => by simpa using h p hp
theorem mvPut_keys [DecidableEq α] {l : List (α × β)} (hnd : (l.map (·.1)).Nodup) (x : α) (v : β) : ((mvPut l x v).map (·.1)).Nodup ∧ ∀ p, p ∈ mvPut l x v → p.1 = x ∨ p ∈ l := by
  unfold mvPut
  split
  · rename_i hlt
    obtain ⟨u, hu⟩ := mvIdx_lt hlt
    refine ⟨?_, fun p hp => ?_⟩
    · have : (l.set (mvIdx l x) (x, v)).map (·.1) = l.map (·.1) := by
        rw [List.map_set]
        show (l.map (·.1)).set (mvIdx l x) x = _
        apply List.ext_getElem?
        intro i
        rw [List.getElem?_set]
        split
        · rename_i e; subst e
          rw [if_pos (by simpa using hlt), List.getElem?_map, hu]; rfl
        · rfl
      rw [this]; exact hnd
    · rcases List.mem_or_eq_of_mem_set hp with h | h
      · exact .inr h
      · exact .inl (by rw [h])
  · rename_i hge
    have hno : ∀ p, p ∈ l → p.1 ≠ x := fun p hp e => hge (List.findIdx_lt_length.2 ⟨p, hp, by simpa using e⟩)
    refine ⟨?_, fun p hp => ?_⟩
    · rw [List.map_append, List.nodup_append]
      exact ⟨hnd, by simp, fun a ha b hb => by
        obtain ⟨p, hp, rfl⟩ := List.mem_map.1 ha
        simp at hb; subst hb; exact hno p hp⟩
    · rcases List.mem_append.1 hp with h | h
      · exact .inr h
      · simp at h; exact .inl (by rw [h])
theorem mvPut_mem [DecidableEq α] (l : List (α × β)) (x : α) (v : β) : (x, v) ∈ mvPut l x v := by
  unfold mvPut
  split
  · rename_i hlt; exact List.mem_iff_getElem?.2 ⟨mvIdx l x, by rw [List.getElem?_set, if_pos rfl, if_pos hlt]⟩
  · simp
theorem mvGet_put [DecidableEq α] {l : List (α × β)} (hnd : (l.map (·.1)).Nodup) (x : α) (v : β) (y : α) : mvGet (mvPut l x v) y = if y = x then some v else mvGet l y := by
  by_cases e : y = x
  · subst e
    rw [if_pos rfl]
    exact mvGet_of (mvPut_keys hnd y v).1 (mvPut_mem l y v)
  · rw [if_neg e]
    cases hg : mvGet l y with
    | none =>
      refine mvGet_no fun p hp => ?_
      rcases (mvPut_keys hnd x v).2 p hp with h | h
      · rw [h]; exact fun h2 => e h2.symm
      · exact mvGet_none hg p h
    | some u =>
      refine mvGet_of (mvPut_keys hnd x v).1 ?_
      have hm := mvGet_some hg
      unfold mvPut
      split
      · rename_i hlt
        obtain ⟨j, hj⟩ := List.getElem?_of_mem hm
        obtain ⟨u', hu⟩ := mvIdx_lt hlt
        have hne : mvIdx l x ≠ j := fun e2 => e (by
          rw [e2, hj] at hu
          injection hu with hu
          exact congrArg (·.1) hu)
        exact List.mem_iff_getElem?.2 ⟨j, by rw [List.getElem?_set, if_neg hne]; exact hj⟩
      · exact List.mem_append.2 (.inl hm)
/-- what lies in an iterator -/
def iterObj (bm n : Nat) (ss : List Nat) : Obj := .mapIter (some bm) n ss.toArray n
def nextV (kf : α → Value) (vf : β → Value) (l : List (α × β)) : Option Nat → Value
  | none => .tuple #[.bool false]
  | some i => match l[i]? with
    | some p => .tuple #[.bool true, kf p.1, vf p.2]
    | none => .tuple #[.bool true]
def NextOk (n : Nat) (ss : List Nat) : Option Nat → Prop
  | none => ∀ i, i < n → i ∈ ss
  | some i => i < n ∧ i ∉ ss
end
structure KV {α : Type} (P : Program) (kt : TypeId) (kf : α → Value) (okk : α → Prop) : Prop extends KF P kt kf okk where
  stays : ∀ (w : World) (a : α), okk a → (Instr.keyThatStays (kf a) (kf a)).run P w = .ok (kf a) w
theorem KV.of_law {α : Type} {P : Program} {kt : TypeId} {kf : α → Value} {okk : α → Prop} (KL : WideMaps.KeyLaw P kt) (hko : ∀ a, okk a → ∃ l, keyOf P kt (kf a) = some l) (hinj : ∀ a b, kf a = kf b → a = b) : KV P kt kf okk where
  toKF := KF.of_law KL hko hinj
  stays := fun w a ha => by obtain ⟨l, hl⟩ := hko a ha; exact KL.stays w hl
theorem mv_find {α β : Type} [DecidableEq α] {P : Program} {kt : TypeId} {kf : α → Value} {vf : β → Value} {okk : α → Prop} (K : KF P kt kf okk) {l : List (α × β)} (hB : ∀ p, p ∈ l → okk p.1) (hnd : (l.map (·.1)).Nodup) {x : α} (hi : okk x) (w : World) :
    (mvGet l x = none ∧ mvIdx l x = l.length ∧ (Instr.findKey kt (kf x) (mvEs kf vf l)).run P w = .ok none w) ∨ ∃ j v, l[j]? = some (x, v) ∧ mvGet l x = some v ∧ mvIdx l x = j ∧ (Instr.findKey kt (kf x) (mvEs kf vf l)).run P w = .ok (some (j, vf v)) w := by
  rcases K.find w x hi (mvEs kf vf l) (mvEs_ok hB) with ⟨h2, h3⟩ | ⟨j, e, h2, h3, h4⟩
  · have hno : ∀ p, p ∈ l → p.1 ≠ x := fun p hp e => by
      obtain ⟨n, hn⟩ := List.getElem?_of_mem hp
      have he : (mvEs kf vf l)[n]? = some { key := kf p.1, val := vf p.2, born := n } := by rw [mvEs_at, hn]; rfl
      exact h3 _ (List.mem_of_getElem? he) (by rw [← e])
    exact .inl ⟨mvGet_no hno, mvIdx_no hno, h2⟩
  · obtain ⟨x', v, h5, h6, h7, _⟩ := mvEs_get h3
    rw [h6] at h4
    have hx := K.inj _ _ h4
    subst hx
    rw [h7] at h2
    exact .inr ⟨j, v, h5, mvGet_of hnd (List.mem_of_getElem? h5), mvIdx_at hnd h5, h2⟩
section
variable {α β : Type} [DecidableEq α] {X : Ctx} {Q : Post} {L : List (Nat × Value)} {rs : List Res} {ops : Array Oper} {rest : List Oper} {ty t t' e e' kt et : TypeId} {v u : Value} {d n : Nat} {pos : String} {af : Array Edge} {x y m kx vx : Operand} {d0 : TypeDesc} {k : IntKind} {kf : α → Value} {vf : β → Value} {okk : α → Prop} {b : Nat} {l : List (α × β)} {x0 : α} {b0 : β}
omit [DecidableEq α] in
theorem sq_makeMapV (kf : α → Value) (vf : β → Value) (hd : Nat.ble (d + 1) X.N = true) (k : ∀ b, SQ X ops Q rest ((d, .map (some b)) :: L) (.blk b (mvM kf vf []) :: rs)) : SQ X ops Q (⟨some d, .makeMap t none, ty, pos, af, none⟩ :: rest) L rs := sq_makeMap hd k
theorem sq_mapPutV {b1 : β} {rest' : List Res} (K : KF X.P kt kf okk) (hB : ∀ p, p ∈ l → okk p.1) (hnd : (l.map (·.1)).Nodup) (hi : okk x0) (hu : X.P.underlying t = some (.map kt et)) (hm : ev L m = some (.map (some b))) (hr : Rem (.blk b (mvM kf vf l)) rs rest') (hx : ev L kx = some (kf x0)) (hv : ev L vx = some (vf b1))
    (hnew : mvGet l x0 = none) (k : SQ X ops Q rest L (.blk b (mvM kf vf (l ++ [(x0, b1)])) :: rest')) : SQ X ops Q (⟨none, .mapUpdate t m kx vx, ty, pos, af, none⟩ :: rest) L rs := by
  intro a w ha hw
  have hb : w.heap[b]? = some (mvM kf vf l) := hw.ok _ hr.mem.1
  refine wpListIn_plain rfl fun K' hK => ⟨fun _ _ => trivial, ?_⟩
  have hfind : (Instr.findKey kt (kf x0) (mvEs kf vf l)).run X.P w = .ok none w := by
    rcases mv_find (vf := vf) K hB hnd hi w with ⟨_, _, h⟩ | ⟨j, v, _, h, _⟩
    · exact h
    · rw [hnew] at h; cases h
  have hget : (getObj b).run X.P w = .ok (mvM kf vf l) w := by simp [getObj, Sem.run, hb]; rfl
  have hset : ∀ o, (setObj b o).run X.P w = .ok () (w.putObj b o) := fun o => by simp [setObj, Sem.run, hb, World.putObj]; rfl
  have hrun : (execOp a.eval ⟨none, .mapUpdate t m kx vx, ty, pos, af, none⟩).run X.P w = .ok .skip (w.putObj b (mvM kf vf (l ++ [(x0, b1)]))) := by
    have : (Instr.mapUpdate t (.map (some b)) (kf x0) (vf b1)).run X.P w = .ok () (w.putObj b (mvM kf vf (l ++ [(x0, b1)]))) := by
      unfold Instr.mapUpdate
      simp only [Sem.run_bind, run_underlying hu, Result.andThen_ok, hget]
      simp only [mvM, Sem.run_bind, K.check w false x0 hi, hfind, Result.andThen_ok]
      rw [hset, ← mvM, mvM_snoc]
    simp [execOp, ha.eval hm, ha.eval hx, ha.eval hv, this]
  rw [Oper.semAt_eq _ _ _ (by simp), hrun]
  exact hK _ _ (k _ _ (ha.put_none _) (hp_put hw hr _))
theorem y_lookupV (K : KF X.P kt kf okk) (hB : ∀ p, p ∈ l → okk p.1) (hnd : (l.map (·.1)).Nodup) (hi : okk x0) (hu : X.P.underlying t = some (.map kt et)) (hz : ∀ w, (zeroValue et).run X.P w = .ok (vf b0) w) (hm : ev L m = some (.map (some b))) (hr : ∀ w, Hp X.w0 rs w → w.heap[b]? = some (mvM kf vf l)) (hx : ev L kx = some (kf x0)) :
    OpS X L rs (.lookup t m kx false) ty (vf ((mvGet l x0).getD b0)) := .val fun o h1 _ a w ha hw => by
  have hb : w.heap[b]? = some (mvM kf vf l) := hr w hw
  have hget : (getObj b).run X.P w = .ok (mvM kf vf l) w := by simp [getObj, Sem.run, hb]; rfl
  simp only [execOp, h1, ha.eval hm, ha.eval hx, Instr.lookup, Sem.run_bind, run_underlying hu, Result.andThen_ok, hget]
  rcases mv_find (vf := vf) K hB hnd hi w with ⟨h2, _, h3⟩ | ⟨j, v, _, h2, _, h3⟩
  · simp [mvM, Sem.run_bind, K.check w _ x0 hi, h3, hz, h2]
  · simp [mvM, Sem.run_bind, K.check w _ x0 hi, h3, h2]
theorem y_lookupOkV (K : KF X.P kt kf okk) (hB : ∀ p, p ∈ l → okk p.1) (hnd : (l.map (·.1)).Nodup) (hi : okk x0) (hu : X.P.underlying t = some (.map kt et)) (hz : ∀ w, (zeroValue et).run X.P w = .ok (vf b0) w) (hm : ev L m = some (.map (some b))) (hr : ∀ w, Hp X.w0 rs w → w.heap[b]? = some (mvM kf vf l)) (hx : ev L kx = some (kf x0)) :
    OpS X L rs (.lookup t m kx true) ty (.tuple #[vf ((mvGet l x0).getD b0), .bool (mvGet l x0).isSome]) := .val fun o h1 _ a w ha hw => by
  have hb : w.heap[b]? = some (mvM kf vf l) := hr w hw
  have hget : (getObj b).run X.P w = .ok (mvM kf vf l) w := by simp [getObj, Sem.run, hb]; rfl
  simp only [execOp, h1, ha.eval hm, ha.eval hx, Instr.lookup, Sem.run_bind, run_underlying hu, Result.andThen_ok, hget]
  rcases mv_find (vf := vf) K hB hnd hi w with ⟨h2, _, h3⟩ | ⟨j, v, _, h2, _, h3⟩
  · simp [mvM, Sem.run_bind, K.check w _ x0 hi, h3, hz, h2]
  · simp [mvM, Sem.run_bind, K.check w _ x0 hi, h3, h2]
/-- m[k] op= ..: the entry is laid, or found -/
theorem sq_mapEntry {rest' : List Res} (K : KV X.P kt kf okk) (hB : ∀ p, p ∈ l → okk p.1) (hnd : (l.map (·.1)).Nodup) (hi : okk x0) (hu : X.P.underlying t = some (.map kt et)) (hz : ∀ w, (zeroValue et).run X.P w = .ok (vf b0) w) (hm : ev L m = some (.map (some b))) (hr : Rem (.blk b (mvM kf vf l)) rs rest') (hx : ev L kx = some (kf x0)) (hd : Nat.ble (d + 1) X.N = true)
    (kk : SQ X ops Q rest ((d, .tuple #[vf ((mvGet l x0).getD b0), .int .i64 (mvIdx l x0 : Nat)]) :: L) (.blk b (mvM kf vf (mvPut l x0 ((mvGet l x0).getD b0))) :: rest')) : SQ X ops Q (⟨some d, .mapEntry t m kx, ty, pos, af, none⟩ :: rest) L rs := by
  refine sq_run (P' := fun v w' => v = .tuple #[vf ((mvGet l x0).getD b0), .int .i64 (mvIdx l x0 : Nat)] ∧ Hp X.w0 (.blk b (mvM kf vf (mvPut l x0 ((mvGet l x0).getD b0))) :: rest') w') (by simp) hd ?_ (fun v w' hp => ⟨_, hp.2, by rw [hp.1]; exact kk⟩)
  intro a w ha hw
  have hb : w.heap[b]? = some (mvM kf vf l) := hw.ok _ hr.mem.1
  have hget : (getObj b).run X.P w = .ok (mvM kf vf l) w := by simp [getObj, Sem.run, hb]; rfl
  have hset : ∀ o, (setObj b o).run X.P w = .ok () (w.putObj b o) := fun o => by simp [setObj, Sem.run, hb, World.putObj]; rfl
  refine ⟨_, w.putObj b (mvM kf vf (mvPut l x0 ((mvGet l x0).getD b0))), ?_, rfl, hp_put hw hr _⟩
  have : (Instr.mapEntry t (.map (some b)) (kf x0)).run X.P w = .ok (.tuple #[vf ((mvGet l x0).getD b0), .int .i64 (mvIdx l x0 : Nat)]) (w.putObj b (mvM kf vf (mvPut l x0 ((mvGet l x0).getD b0)))) := by
    unfold Instr.mapEntry
    simp only [Sem.run_bind, run_underlying hu, Result.andThen_ok, hget]
    rcases mv_find (vf := vf) K.toKF hB hnd hi w with ⟨h2, h4, h3⟩ | ⟨j, v, h1, h2, h4, h3⟩
    · have hp : mvPut l x0 b0 = l ++ [(x0, b0)] := by unfold mvPut; rw [if_neg (by omega)]
      simp only [mvM, Sem.run_bind, K.check w false x0 hi, h3, hz, Result.andThen_ok, h2, Option.getD_none, hp, h4]
      rw [hset, ← mvM, mvM_snoc]
      rfl
    · have hj := (List.getElem?_eq_some_iff.1 h1).1
      have hp : mvPut l x0 v = l := by
        unfold mvPut; rw [if_pos (by omega), h4]
        apply List.ext_getElem?
        intro i
        rw [List.getElem?_set]
        by_cases e : j = i
        · subst e; rw [if_pos rfl, if_pos hj, h1]
        · rw [if_neg e]
      have he : (mvEs kf vf l).toArray[j]? = some { key := kf x0, val := vf v, born := j } := by rw [List.getElem?_toArray, mvEs_at, h1]; rfl
      have hmod : (mvEs kf vf l).toArray.modify j (fun e => { e with key := kf x0 }) = (mvEs kf vf l).toArray := by
        apply Array.ext_getElem?
        intro i
        rw [Array.getElem?_modify]
        split
        · rename_i e; subst e; rw [he]; rfl
        · rfl
      simp only [mvM, Sem.run_bind, K.check w false x0 hi, h3, Result.andThen_ok, h2, Option.getD_some, hp, h4]
      simp only [he, Option.map_some, Option.getD_some, K.stays w x0 hi, Result.andThen_ok, hmod, hset]
      rfl
  simp [execOp, ha.eval hm, ha.eval hx, this]
theorem sq_entryStore {b1 b2 : β} {rest' : List Res} (hm : ev L m = some (.map (some b))) (hr : Rem (.blk b (mvM kf vf (mvPut l x0 b1))) rs rest') (hx : ev L kx = some (.int .i64 (mvIdx l x0 : Nat))) (hv : ev L vx = some (vf b2))
    (k : SQ X ops Q rest L (.blk b (mvM kf vf (mvPut l x0 b2)) :: rest')) : SQ X ops Q (⟨none, .entryStore t m kx vx, ty, pos, af, none⟩ :: rest) L rs := by
  intro a w ha hw
  have hb : w.heap[b]? = some (mvM kf vf (mvPut l x0 b1)) := hw.ok _ hr.mem.1
  refine wpListIn_plain rfl fun K' hK => ⟨fun _ _ => trivial, ?_⟩
  have hget : (getObj b).run X.P w = .ok (mvM kf vf (mvPut l x0 b1)) w := by simp [getObj, Sem.run, hb]; rfl
  have hset : ∀ o, (setObj b o).run X.P w = .ok () (w.putObj b o) := fun o => by simp [setObj, Sem.run, hb, World.putObj]; rfl
  have hlen : ∀ c : β, (mvPut l x0 c).length = if mvIdx l x0 < l.length then l.length else l.length + 1 := fun c => by unfold mvPut; split <;> simp
  have hix : mvIdx l x0 ≤ l.length := List.findIdx_le_length
  have hat : ∀ (c : β) (i : Nat), (mvPut l x0 c)[i]? = if i = mvIdx l x0 then some (x0, c) else l[i]? := fun c i => by
    unfold mvPut
    split
    · rename_i hlt
      rw [List.getElem?_set]
      by_cases e : mvIdx l x0 = i
      · rw [if_pos e, if_pos e.symm, if_pos hlt]
      · rw [if_neg e, if_neg (fun h => e h.symm)]
    · rename_i hge
      have he : mvIdx l x0 = l.length := by omega
      by_cases e : i = mvIdx l x0
      · rw [if_pos e, e, he]; simp
      · rw [if_neg e]
        rcases Nat.lt_or_ge i l.length with h | h
        · rw [List.getElem?_append_left h]
        · rw [List.getElem?_eq_none (by simp; omega), List.getElem?_eq_none h]
  have hfi : (mvEs kf vf (mvPut l x0 b1)).toArray.findIdx? (fun e => (e.born : Int) == ((mvIdx l x0 : Nat) : Int)) = some (mvIdx l x0) := by
    rw [List.findIdx?_toArray, List.findIdx?_eq_some_iff_getElem]
    have hl : mvIdx l x0 < (mvEs kf vf (mvPut l x0 b1)).length := by rw [mvEs_len, hlen]; split <;> omega
    refine ⟨hl, ?_, fun j hj => ?_⟩
    · have := mvEs_get (List.getElem?_eq_getElem hl)
      obtain ⟨_, _, _, _, _, h5⟩ := this
      simp [h5]
    · have := mvEs_get (List.getElem?_eq_getElem (Nat.lt_trans hj hl))
      obtain ⟨_, _, _, _, _, h5⟩ := this
      simp [h5]; omega
  have hmod : (mvEs kf vf (mvPut l x0 b1)).toArray.modify (mvIdx l x0) (fun e => { e with val := vf b2 }) = (mvEs kf vf (mvPut l x0 b2)).toArray := by
    apply Array.ext_getElem?
    intro i
    rw [Array.getElem?_modify, List.getElem?_toArray, List.getElem?_toArray, mvEs_at, mvEs_at, hat, hat]
    by_cases e : mvIdx l x0 = i
    · rw [if_pos e, if_pos e.symm, if_pos e.symm]; rfl
    · rw [if_neg e, if_neg (fun h => e h.symm), if_neg (fun h => e h.symm)]
  have hrun : (execOp a.eval ⟨none, .entryStore t m kx vx, ty, pos, af, none⟩).run X.P w = .ok .skip (w.putObj b (mvM kf vf (mvPut l x0 b2))) := by
    have : (Instr.entryStore t (.map (some b)) (.int .i64 (mvIdx l x0 : Nat)) (vf b2)).run X.P w = .ok () (w.putObj b (mvM kf vf (mvPut l x0 b2))) := by
      unfold Instr.entryStore
      simp only [Sem.run_bind, Result.andThen_ok, hget]
      simp only [mvM, Sem.run_bind, asInt, asIntOf, Sem.run_pure, Result.andThen_ok, hfi, hset, hmod]
      rw [hlen, hlen]
    simp [execOp, ha.eval hm, ha.eval hx, ha.eval hv, this]
  rw [Oper.semAt_eq _ _ _ (by simp), hrun]
  exact hK _ _ (k _ _ (ha.put_none _) (hp_put hw hr _))
/-! ### a range over a map -/
omit [DecidableEq α] in
theorem sq_range (hu : X.P.underlying t = some (.map kt et)) (hm : ev L m = some (.map (some b))) (hr : ∀ w, Hp X.w0 rs w → w.heap[b]? = some (mvM kf vf l)) (hd : Nat.ble (d + 1) X.N = true)
    (kk : ∀ r, SQ X ops Q rest ((d, .pointer (some ⟨r, 0, none⟩)) :: L) (.blk r (iterObj b l.length []) :: rs)) : SQ X ops Q (⟨some d, .range t m, ty, pos, af, none⟩ :: rest) L rs := by
  refine sq_run (P' := fun v w' => ∃ w : World, Hp X.w0 rs w ∧ v = .pointer (some ⟨w.heap.size, 0, none⟩) ∧ w' = w.alloc (iterObj b l.length [])) (by simp) hd ?_ ?_
  · intro a w ha hw
    have hb : w.heap[b]? = some (.map (mvEs kf vf l).toArray l.length) := hr w hw
    exact ⟨_, _, by simp [execOp, ha.eval hm, run_range_map w t kt et b _ _ hu hb]; rfl, w, hw, rfl, rfl⟩
  · rintro v w' ⟨w, hw, rfl, rfl⟩
    exact ⟨_, hp_alloc hw _, kk _⟩
omit [DecidableEq α] in
theorem sq_next {r : Nat} {ss : List Nat} {rest' : List Res} (hit : ev L m = some (.pointer (some ⟨r, 0, none⟩))) (hr : Rem (.blk r (iterObj b l.length ss)) rs rest') (hm : ∀ w, Hp X.w0 rs w → w.heap[b]? = some (mvM kf vf l)) (hd : Nat.ble (d + 1) X.N = true)
    (kk : ∀ o, NextOk l.length ss o → SQ X ops Q rest ((d, nextV kf vf l o) :: L) (.blk r (iterObj b l.length (ss ++ o.toList)) :: rest')) : SQ X ops Q (⟨some d, .next m false, ty, pos, af, none⟩ :: rest) L rs := by
  refine sq_run (P' := fun v w' => ∃ o, NextOk l.length ss o ∧ v = nextV kf vf l o ∧ Hp X.w0 (.blk r (iterObj b l.length (ss ++ o.toList)) :: rest') w') (by simp) hd ?_ (fun v w' hp => by
    obtain ⟨o, h1, rfl, h2⟩ := hp
    exact ⟨_, h2, kk o h1⟩)
  intro a w ha hw
  have hrr : w.heap[r]? = some (.mapIter (some b) l.length ss.toArray l.length) := hw.ok _ hr.mem.1
  have hb : w.heap[b]? = some (.map (mvEs kf vf l).toArray l.length) := hm w hw
  have hold : ∀ x ∈ (mvEs kf vf l).toArray.toList, x.born < l.length := fun x hx => by
    obtain ⟨n, hn⟩ := List.getElem?_of_mem hx
    obtain ⟨_, _, h1, _, _, h2⟩ := mvEs_get hn
    rw [h2]; exact (List.getElem?_eq_some_iff.1 h1).1
  rcases run_next_at (P := X.P) w ty r b l.length l.length ss.toArray _ _ hrr hb hold (Nat.le_refl _) with ⟨h0, hrun⟩ | ⟨e, he, w1, hal, hrun⟩
  · refine ⟨_, w, by simp [execOp, ha.eval hit, hrun]; rfl, none, ?_, rfl, by
      have := hw.sel (Sel.cons hr (Sel.refl _)); simpa using this⟩
    intro i hi
    have hx : { key := kf l[i].1, val := vf l[i].2, born := i : MapEntry } ∈ (mvEs kf vf l).toArray.toList := List.mem_of_getElem? (i := i) (by show (mvEs kf vf l)[i]? = _; rw [mvEs_at, List.getElem?_eq_getElem hi]; rfl)
    have := all_seen _ _ h0 _ hx
    simpa using this
  · obtain ⟨h1, h2⟩ := mem_left he
    obtain ⟨n, hn⟩ := List.getElem?_of_mem h1
    obtain ⟨xk, xv, h3, h4, h5, h6⟩ := mvEs_get hn
    rw [h4, h5, h6] at hrun
    rw [h6] at h2
    have hw1 : Hp X.w0 rs w1 := by rcases hal with rfl | rfl; exact hw; exact hw.drew
    refine ⟨_, _, by simp [execOp, ha.eval hit, hrun]; exact ⟨rfl, rfl⟩, some n, ⟨(List.getElem?_eq_some_iff.1 h3).1, by simpa using h2⟩, by simp [nextV, h3], ?_⟩
    have := hp_put hw1 hr (.mapIter (some b) l.length (ss.toArray.push n) l.length)
    simpa [iterObj, ChangeMaps.setBlock, World.putObj] using this
omit [DecidableEq α] in
theorem y_nextOk {o : Option Nat} (hx : ev L x = some (nextV kf vf l o)) : OpS X L rs (.extract x 0) ty (.bool o.isSome) := by
  cases o with
  | none => exact y_extract hx rfl
  | some i =>
    cases hp : l[i]? with
    | none => exact y_extract (hx.trans (show some (nextV kf vf l (some i)) = some (.tuple #[.bool true]) by simp only [nextV, hp])) rfl
    | some p => exact y_extract (hx.trans (show some (nextV kf vf l (some i)) = some (.tuple #[.bool true, kf p.1, vf p.2]) by simp only [nextV, hp])) rfl
omit [DecidableEq α] in
theorem y_entry {r i : Nat} {ss : List Nat} {b1 : β} (hx' : ev L x = some (.pointer (some ⟨r, 0, none⟩))) (hr : ∀ w, Hp X.w0 rs w → w.heap[r]? = some (iterObj b l.length (ss ++ [i]))) (hm : ∀ w, Hp X.w0 rs w → w.heap[b]? = some (mvM kf vf l)) (hi : l[i]? = some (x0, b1)) :
    OpS X L rs (.entry x) ty (.tuple #[kf x0, vf b1]) := .val fun o h1 _ a w ha hw => by
  have hb : w.heap[b]? = some (.map (mvEs kf vf l).toArray l.length) := hm w hw
  have hrr : w.heap[r]? = some (.mapIter (some b) l.length (ss.toArray.push i) l.length) := by have := hr w hw; simpa [iterObj] using this
  have he : { key := kf x0, val := vf b1, born := i : MapEntry } ∈ (mvEs kf vf l).toArray.toList := List.mem_of_getElem? (i := i) (by show (mvEs kf vf l)[i]? = _; rw [mvEs_at, hi]; rfl)
  have hn : ((mvEs kf vf l).toArray.toList.map (·.born)).Nodup := by
    have : (mvEs kf vf l).toArray.toList.map (·.born) = List.range l.length := by
      show (mvEs kf vf l).map (·.born) = _
      apply List.ext_getElem?
      intro j
      rw [List.getElem?_map, mvEs_at]
      rcases Nat.lt_or_ge j l.length with h | h
      · rw [List.getElem?_eq_getElem h, List.getElem?_range h]; rfl
      · rw [List.getElem?_eq_none h, List.getElem?_eq_none (by simpa using h)]; rfl
    rw [this]; exact List.nodup_range
  have hrun := run_entry_at (P := X.P) w r b l.length ss.toArray _ _ _ hrr hb he hn
  simp [execOp, h1, ha.eval hx', hrun]
end
end Go.Eng
