/- The engine, part 5: slices that are made and grown, literals of slices, bits, maps keyed by integers, the ends of functions. -/
import Derived.Test.YtpijahglojichaaDoorEng4
namespace Go.Eng
open Go Go.RowKit

inductive EvI (L : List (Nat × Value)) : Nat → List (Nat × Operand) → List Value → Prop
  | nil {q : Nat} : EvI L q [] []
  | cons {q : Nat} {x : Operand} {v : Value} {ps : List (Nat × Operand)} {us : List Value} (h : ev L x = some v) (t : EvI L (q + 1) ps us) : EvI L q ((q, x) :: ps) (v :: us)
section
variable {X : Ctx} {Q : Post} {L : List (Nat × Value)} {rs : List Res} {ops : Array Oper} {rest : List Oper} {op : Op} {ty t t' e : TypeId} {v u : Value} {d n : Nat} {pos : String} {af : Array Edge} {x y : Operand} {d0 : TypeDesc} {k : IntKind}
/-- one operation that moves the world: its run, and what is known behind it -/
theorem sq_run {P' : Value → World → Prop} (hnd : ∀ c, op ≠ .defer c) (hd : Nat.ble (d + 1) X.N = true)
    (hrun : ∀ a w, St X.N X.D L a → Hp X.w0 rs w → ∃ v w', (execOp a.eval ⟨some d, op, ty, pos, af, none⟩).run X.P w = .ok (.value v) w' ∧ P' v w')
    (k : ∀ v w', P' v w' → ∃ rs', Hp X.w0 rs' w' ∧ SQ X ops Q rest ((d, v) :: L) rs') : SQ X ops Q (⟨some d, op, ty, pos, af, none⟩ :: rest) L rs := by
  intro a w ha hw
  obtain ⟨v, w', hr, hp⟩ := hrun a w ha hw
  obtain ⟨rs', hw', hk⟩ := k v w' hp
  refine wpListIn_plain rfl fun K hK => ⟨fun _ _ => trivial, ?_⟩
  rw [Oper.semAt_eq _ _ _ (fun c => hnd c), hr]
  exact hK _ _ (hk _ _ (ha.put (Nat.le_of_ble_eq_true hd) _) hw')
/-! ### slices of slices and arrays -/
theorem y_slice_h {a0 : Option Addr} {ln cp h : Nat} (hu : X.P.underlying t = some (.slice e)) (hz : ∀ w, (Go.sizeOf e).run X.P w = .ok n w) (hx : ev L x = some (.slice a0 ln cp)) (hy : ev L y = some (.int k (h : Int))) (hh : h ≤ cp) :
    OpS X L rs (.slice t x none (some y) none) ty (.slice a0 h cp) := .val fun o h1 _ a w ha _ => by
  cases a0 <;> simp [execOp, h1, ha.eval hx, ha.eval hy, Instr.sliceAt, run_underlying hu, Instr.slice, Instr.sliceBounds, Instr.sliceBound, asIntOf, hh, hz, Addr.add_zero']
theorem y_slice_arr {b ln h : Nat} (hu : X.P.underlying t = some (.array ln e)) (hz : ∀ w, (Go.sizeOf e).run X.P w = .ok n w) (hx : ev L x = some (.pointer (some ⟨b, 0, none⟩))) (hy : ev L y = some (.int k (h : Int))) (hh : h ≤ ln) :
    OpS X L rs (.slice t x none (some y) none) ty (.slice (some ⟨b, 0, none⟩) h ln) := .val fun o h1 _ a w ha _ => by
  simp [execOp, h1, ha.eval hx, ha.eval hy, Instr.sliceAt, run_underlying hu, Instr.sureAddr, Instr.sliceBounds, Instr.sliceBound, asIntOf, hh, hz, Addr.add_zero']
theorem y_nilCheck {p : Addr} (hx : ev L x = some (.pointer (some p))) : OpS X L rs (.nilCheck x) ty (.pointer (some p)) := .val fun o h1 _ a w ha _ => by
  simp [execOp, h1, ha.eval hx]
/-! ### what a type's table says -/
def EI (P : Program) (e : TypeId) (z : Value) (sz by' : Nat) : Prop := (P.info? e).map (fun i => (i.zero, i.size, i.bytes)) = some (some z, sz, by')
theorem EI.parts {P : Program} {e z sz b} (h : EI P e z sz b) : ∃ i, P.info? e = some i ∧ i.zero = some z ∧ i.size = sz ∧ i.bytes = b := by
  unfold EI at h
  cases hi : P.info? e with
  | none => rw [hi] at h; cases h
  | some i => rw [hi] at h; simp at h; exact ⟨i, rfl, h.1, h.2.1, h.2.2⟩
/-! ### make -/
theorem madeCells_one (z : Value) (n : Nat) : madeCells #[z] n = (List.replicate n z).toArray := by
  apply Array.ext
  · simp [madeCells]
  · intro i h1 h2
    simp [madeCells, Nat.mod_one]
theorem sq_make {z : Value} {sz by' : Nat} {c : Nat} {kl kc : IntKind} {l : Nat} (hu : X.P.underlying t = some (.slice e)) (he : EI X.P e z sz by') (hx : ev L x = some (.int kl (l : Int))) (hy : ev L y = some (.int kc (c : Int))) (hlc : l ≤ c) (hb : by' * c ≤ 140737488355328) (hc : c ≤ 9223372036854775807)
    (hd : Nat.ble (d + 1) X.N = true) (k : ∀ b, SQ X ops Q rest ((d, .slice (some ⟨b, 0, none⟩) l c) :: L) (.blk b (.cells (madeCells z.cells (c * sz)) e (0, 0)) :: rs)) :
    SQ X ops Q (⟨some d, .makeSlice t x y, ty, pos, af, none⟩ :: rest) L rs := by
  obtain ⟨i, hi, hz, hsz, hby⟩ := he.parts
  refine sq_run (P' := fun v w' => ∃ w : World, Hp X.w0 rs w ∧ v = .slice (some ⟨w.heap.size, 0, none⟩) l c ∧ w' = w.alloc (.cells (madeCells z.cells (c * sz)) e)) (by simp) hd ?_ ?_
  · intro a w ha hw
    have hbb : (i.bytes : Int) * (c : Int) ≤ 281474976710656 := by rw [hby]; have : ((by' * c : Nat) : Int) ≤ 281474976710656 := by omega
                                                                   rwa [Int.natCast_mul] at this
    have hr := run_make (P := X.P) w t e i z hu hi hz kl kc l c (by omega) (by omega) hbb (by omega)
    simp only [Int.toNat_natCast, hsz] at hr
    exact ⟨_, _, by simp [execOp, ha.eval hx, ha.eval hy, hr], w, hw, rfl, rfl⟩
  · rintro v w' ⟨w, hw, rfl, rfl⟩
    exact ⟨_, hp_alloc hw _, k _⟩
/-! ### literals of slices -/
theorem fold_set : ∀ (cs : List Value) (off j : Nat) (cells : Array Value), off + j + cs.length ≤ cells.size → ((cs.zipIdx j).foldl (fun c p => c.setIfInBounds (off + p.2) p.1) cells).toList = cells.toList.take (off + j) ++ cs ++ cells.toList.drop (off + j + cs.length)
  | [], off, j, cells, _ => by simp
  | c :: cs, off, j, cells, h => by
    simp only [List.zipIdx_cons, List.foldl_cons]
    have hlt : off + j < cells.size := by simp at h; omega
    rw [fold_set cs off (j + 1) _ (by simp at h ⊢; omega)]
    simp only [Array.toList_setIfInBounds, List.length_cons]
    have e1 : off + (j + 1) = (off + j) + 1 := by omega
    rw [e1, List.take_set, List.drop_set_of_lt (by omega)]
    have e2 : off + j + 1 + cs.length = off + j + (cs.length + 1) := by omega
    rw [e2]
    have e3 : (List.take (off + j + 1) cells.toList).set (off + j) c = List.take (off + j) cells.toList ++ [c] := by
      rw [List.take_succ_eq_append_getElem (by simpa using hlt)]
      rw [List.set_append_right _ _ (by simp; omega)]
      simp [Nat.min_eq_left (Nat.le_of_lt hlt)]
    rw [e3]; simp
theorem fill_all {a : Act} {N D} (ha : St N D L a) (sz : Nat) : ∀ (ps : List (Nat × Operand)) (us : List Value) (k : Nat) (cells : Array Value), EvI L k ps us → (∀ u, u ∈ us → u.cells.size = sz) → (k + us.length) * sz = cells.size →
    Instr.fill (fun i => some (i * sz, sz)) cells (ps.map fun p => (p.1, a.eval p.2)) = some (cells.toList.take (k * sz) ++ us.flatMap (fun u => u.cells.toList)).toArray := by
  intro ps us k cells h
  induction h generalizing cells with
  | nil => rename_i k; intro _ hs; simp only [List.length_nil, Nat.add_zero] at hs; simp only [List.map_nil, Instr.fill, List.flatMap_nil, List.append_nil, hs]; rw [List.take_of_length_le (by simp)]
  | cons h t ih =>
    rename_i k x v ps us
    intro hu hs
    have hv : v.cells.size = sz := hu v (List.mem_cons_self ..)
    have hle : (k + 1) * sz ≤ cells.size := by rw [← hs]; exact Nat.mul_le_mul_right _ (by simp)
    have hle' : k * sz + sz ≤ cells.size := by rw [Nat.add_mul, Nat.one_mul] at hle; exact hle
    simp only [List.map_cons, Instr.fill, ha.eval h]
    rw [if_neg (by simp [hv]; omega)]
    have hf := fold_set v.cells.toList (k * sz) 0 cells (by simp [hv]; omega)
    have hz : v.cells.zipIdx.foldl (fun cs x => cs.setIfInBounds (k * sz + x.2) x.1) cells = (List.foldl (fun c p => c.setIfInBounds (k * sz + p.2) p.1) cells (v.cells.toList.zipIdx 0)) := by
      rw [← Array.foldl_toList, Array.toList_zipIdx]
    rw [show (v.cells.zipIdx.foldl (fun cs x => match x with | (c, j) => cs.setIfInBounds (k * sz + j) c) cells) = v.cells.zipIdx.foldl (fun cs x => cs.setIfInBounds (k * sz + x.2) x.1) cells from rfl, hz]
    have hsz : (List.foldl (fun c (p : Value × Nat) => c.setIfInBounds (k * sz + p.2) p.1) cells (v.cells.toList.zipIdx 0)).size = cells.size := by
      rw [← Array.length_toList, hf]; simp [hv]; omega
    rw [ih _ (fun u hm => hu u (List.mem_cons_of_mem _ hm)) (by rw [hsz, ← hs]; simp; congr 1; omega)]
    congr 2
    rw [hf]
    simp only [Nat.add_zero, List.flatMap_cons]
    have l1 : (List.take (k * sz) cells.toList).length = k * sz := by simp; omega
    have l2 : v.cells.toList.length = sz := by simp [hv]
    have l3 : (k + 1) * sz = (List.take (k * sz) cells.toList ++ v.cells.toList).length := by rw [List.length_append, l1, l2, Nat.add_mul, Nat.one_mul]
    rw [l3, List.take_left, List.append_assoc]
theorem sq_bs {z : Value} {sz by' : Nat} {ps : List (Nat × Operand)} {us : List Value} (hu : X.P.underlying t = some (.slice e)) (he : EI X.P e z sz by') (hp : EvI L 0 ps us) (hsz : ∀ u, u ∈ us → u.cells.size = sz) (hn : us.length = n) (hlim : Nat.ble (n * sz) 16777216 = true)
    (hd : Nat.ble (d + 1) X.N = true) (k : ∀ b, SQ X ops Q rest ((d, .slice (some ⟨b, 0, none⟩) n n) :: L) (.blk b (.cells (us.flatMap (fun u => u.cells.toList)).toArray e (0, 0)) :: rs)) :
    SQ X ops Q (⟨some d, .buildSlice t n ps.toArray, ty, pos, af, none⟩ :: rest) L rs := by
  obtain ⟨i, hi, hiz, hisz, _⟩ := he.parts
  refine sq_run (P' := fun v w' => ∃ w : World, Hp X.w0 rs w ∧ v = .slice (some ⟨w.heap.size, 0, none⟩) n n ∧ w' = w.alloc (.cells (us.flatMap (fun u => u.cells.toList)).toArray e)) (by simp) hd ?_ ?_
  · intro a w ha hw
    have hlim' := Nat.le_of_ble_eq_true hlim
    have hf : ∀ Zc : Array Value, Instr.fill (fun i => some (i * sz, sz)) ((Array.range (n * sz)).map fun x => Zc[x % Zc.size]!) (ps.map fun p => (p.1, a.eval p.2)) = some (us.flatMap (fun u => u.cells.toList)).toArray := fun Zc => by
      have := fill_all ha sz ps us 0 ((Array.range (n * sz)).map fun x => Zc[x % Zc.size]!) hp hsz (by rw [Array.size_map, Array.size_range, Nat.zero_add, hn])
      simpa only [Nat.zero_mul, List.take_zero, List.nil_append] using this
    refine ⟨_, _, ?_, w, hw, rfl, rfl⟩
    have hnot : ¬ (n * sz > 2 ^ 24) := by simp only [Nat.reducePow]; omega
    have hs : (Go.sizeOf e).run X.P w = .ok sz w := by simp [sizeOf, typeInfo, hi, hisz]
    have hzv : (zeroValue e).run X.P w = .ok z w := by simp [zeroValue, typeInfo, hi, hiz]
    have hrun : (Instr.buildSlice t n (ps.toArray.map fun p => (p.1, a.eval p.2))).run X.P w = .ok (.slice (some ⟨w.heap.size, 0, none⟩) n n) (w.alloc (.cells (us.flatMap (fun u => u.cells.toList)).toArray e)) := by
      simp only [Instr.buildSlice, Sem.run_bind, run_underlying hu, Result.andThen_ok, hs, if_neg hnot, List.map_toArray]
      by_cases h0 : n * sz = 0
      · simp only [if_pos h0, Sem.run_pure, Result.andThen_ok, hf, newRow, Sem.run_bind, run_newObj_alloc]
      · simp only [if_neg h0, Sem.run_pure, Sem.run_bind, hzv, Result.andThen_ok, hf, newRow, run_newObj_alloc]
    simp only [execOp, Sem.run_bind]
    rw [show (fun (x : Nat × Operand) => match x with | (i, x) => (i, a.eval x)) = (fun p => (p.1, a.eval p.2)) from rfl, hrun]
    rfl
  · rintro v w' ⟨w, hw, rfl, rfl⟩
    exact ⟨_, hp_alloc hw _, k _⟩
/-! ### append -/
theorem hp_own {w0 w w' : World} {rest' : List Res} {v v' : Value} {sz m m' : Nat} {xs xs' : List Value} (h : Hp w0 rs w) (hr : Rem (.own v e sz m xs) rs rest') (hown : w'.ownsRow 0 e sz v' m' xs') (hg : w.grownBy w' v.ownBlock) (hdom : ∀ k, v'.ownBlock = some k → v.ownBlock = some k ∨ w.heap.size ≤ k) : Hp w0 (.own v' e sz m' xs' :: rest') w' :=
  h.swap hr _ hg.os hg.tape hg.output hg.size (fun k hk hd => hg.block k hk (fun e => hd e.symm)) hown hdom
theorem append_dom {P : Program} (w : World) (t ty e : TypeId) (i : TypeInfo) (z : Value) (sz by' : Nat) (ht : P.underlying t = some (.slice e)) (hi : P.info? e = some i) (hz : i.zero = some z) (hsize : i.size = sz) (hby : i.bytes = by') (hzs : z.cells.size = sz) (hsz : 0 < sz)
    (v : Value) (n : Nat) (xs : List Value) (hown : w.ownsRow 0 e sz v n xs) (a : Addr) (m c : Nat) (news : List Value) (hl : news.length = m * sz) (hnews : ∀ j u, news[j]? = some u → w.cell? (a.add j) = some u) (h1 : ∀ u ∈ news, u.oneCell' = true)
    (h63 : n + m ≤ maxLen) (hbytes : (n + m) * by' ≤ 140737488355328) {v' : Value} {w' : World} (hrun : (Builtin.append_ #[t, t] ty #[v, .slice (some a) m c]).run P w = .ok v' w') : ∀ k, v'.ownBlock = some k → v.ownBlock = some k ∨ w.heap.size ≤ k := by
  intro k hk
  rcases hown.2 with ⟨hv, hn⟩ | ⟨g, cap, cur, hv, hbg, hg, hnc, hcm, hcs, htake⟩
  · obtain ⟨v2, w2, hr2, h2, _, _⟩ := run_append_own (P := P) w w.heap.size t ty e i z sz by' ht hi hz hsize hby hzs hsz v n xs ⟨hown.1, .inl ⟨hv, hn⟩⟩ a m c news hl hnews h1 h63 hbytes (Nat.le_refl _)
    rw [hrun] at hr2
    injection hr2 with e1 e2
    subst e1; subst e2
    exact .inr (World.ownsRow.lt (w := w') h2 k hk).1
  · subst hsize; subst hby; subst hv
    by_cases hroom : n + m ≤ cap
    · have hfit : n * i.size + news.length ≤ cur.size := by rw [hl, hcs, ← Nat.add_mul]; exact Nat.mul_le_mul_right _ hroom
      have hr := run_append_room (P := P) w t ty e i ht hi g n cap cur hg a m c news hl hnews h1 hroom hfit
      rw [hrun] at hr
      injection hr with e1 e2
      subst e1
      exact .inl hk
    · have holds : ∀ j u, xs[j]? = some u → w.cell? ((⟨g, 0, none⟩ : Addr).add j) = some u := World.ownsRow.cells (w := w) hown (g := g) rfl
      have h64 : n + m ≤ 9223372036854775807 := by simp only [maxLen] at h63; omega
      have hr := run_append_grow (P := P) w t ty e i z ht hi hz ⟨g, 0, none⟩ n cap xs hown.1 holds a m c news hl hnews (by omega) (by omega) (growslice_fits (by omega) hbytes)
      rw [hrun] at hr
      injection hr with e1 e2
      subst e1
      simp [Value.ownBlock] at hk
      exact .inr (by omega)
theorem sq_append {z : Value} {sz by' : Nat} {v : Value} {m mm c : Nat} {xs news : List Value} {ad : Addr} {rest' : List Res} (hu : X.P.underlying t = some (.slice e)) (he : EI X.P e z sz by') (hzs : z.cells.size = sz) (hsz : 0 < sz)
    (hx : ev L x = some v) (hr : Rem (.own v e sz m xs) rs rest') (hy : ev L y = some (.slice (some ad) mm c)) (hl : news.length = mm * sz) (hnews : ∀ w, Hp X.w0 rs w → ∀ j u, news[j]? = some u → w.cell? (ad.add j) = some u) (h1 : ∀ u ∈ news, u.oneCell' = true)
    (hb : (m + mm) * (by' + 1) ≤ 140737488355328) (hd : Nat.ble (d + 1) X.N = true) (k : ∀ v', v'.oneCell' = true → SQ X ops Q rest ((d, v') :: L) (.own v' e sz (m + mm) (xs ++ news) :: rest')) :
    SQ X ops Q (⟨some d, .call { callee := .builtin .append, args := #[x, y], argTypes := #[t, t] }, ty, pos, af, none⟩ :: rest) L rs := by
  obtain ⟨i, hi, hz, hisz, hby⟩ := he.parts
  have hb1 : m + mm ≤ maxLen := by unfold maxLen; have : m + mm ≤ (m + mm) * (by' + 1) := Nat.le_mul_of_pos_right _ (by omega); omega
  have hb2 : (m + mm) * by' ≤ 140737488355328 := Nat.le_trans (Nat.mul_le_mul_left _ (by omega)) hb
  refine sq_run (P' := fun v' w' => Hp X.w0 (.own v' e sz (m + mm) (xs ++ news) :: rest') w') (by simp) hd ?_ (fun v' w' h => ⟨_, h, k v' (by
    have hown : w'.ownsRow 0 e sz v' (m + mm) (xs ++ news) := h.ok _ (.head _)
    rcases hown.2 with ⟨hv, _⟩ | ⟨g, cap, cur, hv, _⟩ <;> subst hv <;> rfl)⟩)
  intro a w ha hw
  have hown : w.ownsRow 0 e sz v m xs := hw.ok _ hr.mem.1
  obtain ⟨v', w', hrun, h2, h3, _⟩ := run_append_own (P := X.P) w 0 t ty e i z sz by' hu hi hz hisz hby hzs hsz v m xs hown ad mm c news hl (hnews w hw) h1 hb1 hb2 (Nat.zero_le _)
  refine ⟨v', w', ?_, ?_⟩
  · simp [execOp, resolve, invoke, builtin, ha.eval hx, ha.eval hy, hrun]
  · exact hp_own hw hr h2 h3 (append_dom (P := X.P) w t ty e i z sz by' hu hi hz hisz hby hzs hsz v m xs hown ad mm c news hl (hnews w hw) h1 hb1 hb2 hrun)
end
end Go.Eng
