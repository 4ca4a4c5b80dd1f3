/- The engine, part 7: contracts over resources, own slices that hold nothing, ranges over functions, maps that are filled in order. -/
import Derived.Test.YtpijahglojichaaDoorEng6
import Derived.RangeFuncRecord
import Derived.Scope
namespace Go.Eng
open Go Go.RowKit
/-- some resources are taken; the rest -/
inductive Rems : List Res → List Res → List Res → Prop
  | nil {rs} : Rems [] rs rs
  | cons {r t rs rs' rest} (h : Rem r rs rs') (k : Rems t rs' rest) : Rems (r :: t) rs rest
theorem Rems.sel {t rs rest} (h : Rems t rs rest) : Sel (t ++ rest) rs := by
  induction h with
  | nil => exact Sel.refl _
  | cons h k ih => exact .cons h ih
/-! ### scopes -/
section
variable {F : Fence} {n : Nat} {P : Program} {b : Frame} {a : Act} {k : List Item} {cs : List Frame} {w : World} {Q : Exit → Act → World → Prop}
theorem stepR_scope {c : Code} : step P (lone (b.atR a (.code (.scope c) :: k)) cs w) = .next (lone (b.atR a (.code c :: .inScope c :: k)) cs w) := step_lone_go (by simp [stepG, stepG.exec, Frame.atR])
theorem stepR_inScope {c : Code} : step P (lone (b.atR a (.inScope c :: k)) cs w) = .next (lone (b.atR a k) cs w) := step_lone_go (by simp [stepG, stepG.exec, Frame.atR])
theorem wpIn_scope {c : Code} (h : c.wpIn F n P (Exit.noGoto Q) a w) : (Code.scope c).wpIn F n P Q a w := by
  intro b k cs hro hb hr
  have h0 : (lone (b.atR a (.code (.scope c) :: k)) cs w).fenced P F := fenced_calm hb hr rfl
  obtain ⟨e, a₁, w₁, hq, harr⟩ := h b (.inScope c :: k) cs hro hb hr
  cases e with
  | normal => exact ⟨.normal, a₁, w₁, hq, .head h0 stepR_scope (StepsIn.trans harr (.one (fenced_calm hb hr rfl) stepR_inScope))⟩
  | exit id' =>
    have hx : exitTo id' (.inScope c :: k) = exitTo id' k := by simp [exitTo]
    exact ⟨.exit id', a₁, w₁, hq, fun k' hk => .head h0 stepR_scope (harr.1 k' (by rw [hx]; exact hk)),
      fun hr' hk => let ⟨k₁, h1, h2⟩ := harr.2 hr' (by rw [hx]; exact hk); ⟨k₁, h1, .head h0 stepR_scope h2⟩⟩
  | goto l => exact hq.elim
  | ret => exact ⟨_, a₁, w₁, hq, .of_steps (.one h0 stepR_scope) harr⟩
  | panic ch => exact ⟨_, a₁, w₁, hq, .of_steps (.one h0 stepR_scope) harr⟩
  | outgrown => exact ⟨_, a₁, w₁, hq, .of_steps (.one h0 stepR_scope) harr⟩
end
section
variable {X : Ctx} {Q : Post} {L : List (Nat × Value)} {rs : List Res} {ops : Array Oper} {rest : List Oper} {op : Op} {ty t t' e : TypeId} {v u : Value} {d n : Nat} {pos : String} {af : Array Edge} {x y : Operand} {d0 : TypeDesc} {k : IntKind}
theorem sc_scope {c : Code} (h : SC X c (Exit.noGoto Q) L rs) : SC X (.scope c) Q L rs := fun a w ha hw => wpIn_scope (h a w ha hw)
theorem sc_label {l : Nat} (h : SX X Q .normal L rs) : SC X (.label l) Q L rs := fun a w ha hw => wpIn_label (h a w ha hw)
theorem sx_scope (h : SX X Q .normal L rs) : SX X (Exit.noGoto Q) .normal L rs := h
theorem sx_scope_exit {i} (h : SX X Q (.exit i) L rs) : SX X (Exit.noGoto Q) (.exit i) L rs := h
theorem sx_scope_ret (h : SX X Q .ret L rs) : SX X (Exit.noGoto Q) .ret L rs := h
/-! ### small things -/
theorem Hp.nilOwn {w0 rs w} (h : Hp w0 rs w) (e : TypeId) (sz : Nat) : Hp w0 (.own (.slice none 0 0) e sz 0 [] :: rs) w :=
  ⟨h.os, h.tape, h.output, h.size, fun r hr => by
    rcases List.mem_cons.1 hr with rfl | hr
    · exact World.ownsRow_nil w 0 e sz
    · exact h.ok r hr, List.pairwise_cons.2 ⟨fun s _ k hk => by simp [Res.dom, Value.ownBlock] at hk, h.apart⟩⟩
theorem sc_nil_own {c : Code} (e : TypeId) (sz : Nat) (h : SC X c Q L (.own (.slice none 0 0) e sz 0 [] :: rs)) : SC X c Q L rs := fun a w ha hw => h a w ha (hw.nilOwn e sz)
theorem sq_nil_own {l : List Oper} (e : TypeId) (sz : Nat) (h : SQ X ops Q l L (.own (.slice none 0 0) e sz 0 [] :: rs)) : SQ X ops Q l L rs := fun a w ha hw => h a w ha (hw.nilOwn e sz)
theorem Sel.skip {t rs : List Res} {r : Res} (h : Sel t rs) : Sel t (r :: rs) := by
  induction h with
  | nil => exact .nil
  | cons h k ih => exact .cons (.there h) ih
theorem news_blk {w0 w : World} (hw : Hp w0 rs w) {b : Nat} {vs : List Value} {fz : Nat × Nat} (hm : Res.blk b (.cells vs.toArray e fz) ∈ rs) : ∀ j u, vs[j]? = some u → w.cell? ((⟨b, 0, none⟩ : Addr).add j) = some u := fun j v hj => by
  rw [Addr.add_lit, Nat.zero_add]; exact (cell_blk hw hm).trans (by simpa using hj)
/-- a function's contract, over resources that lay there before -/
theorem calls_of_SCr {P : Program} {f : FuncId} {fn : Func} {c : Code} {args : List Value} {w0 w : World} {rs : List Res} {R : Ending → World → Prop} {N : Nat} (hf : P.funcs[f]? = some fn) (hb : fn.body = some c) (hN : fn.ntmps = N) (hn0 : Nat.ble args.length N = true) (hw : Hp w0 rs w)
    (h : SC ⟨none, P, N, [], w0⟩ c (bodyPost P fn R) (argL 0 args) rs) : Calls P f args.toArray w R := by
  have hn := Nat.le_of_ble_eq_true hn0
  refine calls_of_wp hf hb (wpIn_wide.1 (h _ w ⟨?_, rfl, fun i v hv => ?_⟩ hw))
  · simp [hN]; omega
  · obtain ⟨h1, h2⟩ := lk_argL args 0 i v hv
    simp at h2
    have hi : i < args.length := (List.getElem?_eq_some_iff.1 h2).1
    rw [Array.getElem?_append_left (by simpa using hi)]; simpa using h2
/-- a call that takes some of the resources, and leaves others in their place -/
theorem sq_call_fr {Z : Type} {g : Operand} {f : FuncId} {first caps : List Value} {args : List Operand} {vs : List Value} {ats : Array TypeId} {rs1 rest' : List Res} (vz : Z → Value) (rz : Z → List Res) (C : Z → Prop) (hg : ev L g = some (.func (.func f) first.toArray caps.toArray)) (hcf : ∀ args w, (callFunc f args).run X.P w = .ok (.enter f args) w) (hv : EvL L args vs)
    (hr : Rems rs1 rs rest') (hc : ∀ w, Hp X.w0 (rs1 ++ rest') w → Calls X.P f (first ++ vs ++ caps).toArray w fun e w' => ∃ z, C z ∧ e = .returned (vz z) ∧ Hp X.w0 (rz z ++ rest') w') (hd : Nat.ble (d + 1) X.N = true) (k : ∀ z, C z → SQ X ops Q rest ((d, vz z) :: L) (rz z ++ rest')) :
    SQ X ops Q (⟨some d, .call { callee := .value g, args := args.toArray, argTypes := ats }, ty, pos, af, none⟩ :: rest) L rs :=
  sq_call vz (fun z => rz z ++ rest') C hg hcf hv (fun w hw => hc w (hw.sel hr.sel)) hd k
/-! ### ways that meet again, with something that differs -/
def MidE (X : Ctx) {Z : Type} (L' : Z → List (Nat × Value)) (rs' : Z → List Res) (Q : Post) : Post := Exit.then (fun a w => ∃ z, St X.N X.D (L' z) a ∧ Hp X.w0 (rs' z) w) Q
theorem sc_midE {Z : Type} {c : Code} (L' : Z → List (Nat × Value)) (rs' : Z → List Res) (h : SC X c (MidE X L' rs' Q) L rs) (k : ∀ z, SX X Q .normal (L' z) (rs' z)) : SC X c Q L rs := fun a w ha hw =>
  wpIn_mono (h a w ha hw) fun e a' w' hq => by cases e <;> first | exact hq | (obtain ⟨z, h1, h2⟩ := hq; exact k z a' w' h1 h2)
theorem sx_midE {Z : Type} {L' : Z → List (Nat × Value)} {rs' : Z → List Res} (z : Z) (hL : SubL (L' z) L) (hB : Sel (rs' z) rs) : SX X (MidE X L' rs' Q) .normal L rs := fun _ _ ha hw => ⟨z, ha.sub hL, hw.sel hB⟩
/-! ### a function with a range over a function in it -/
theorem calls_of_SCm {P : Program} {f : FuncId} {fn : Func} {c : Code} {args : List Value} {w : World} {R : Ending → World → Prop} {N : Nat} (hf : P.funcs[f]? = some fn) (hb : fn.body = some c) (hN : fn.ntmps = N) (hn0 : Nat.ble args.length N = true)
    (h : SC ⟨none, P, N, [], w⟩ c (bodyPostM (FW none) 0 P fn R) (argL 0 args) [.reg 0 w]) : Calls P f args.toArray w R := by
  have hn := Nat.le_of_ble_eq_true hn0
  refine callsIn_wide.1 (callsIn_of_wp_marks (F := Fence.wide) (n := 0) hf hb trivial (h _ w ⟨?_, rfl, fun i v hv => ?_⟩ (Hp.init w)) rfl)
  · simp [hN]; omega
  · obtain ⟨h1, h2⟩ := lk_argL args 0 i v hv
    simp at h2
    have hi : i < args.length := (List.getElem?_eq_some_iff.1 h2).1
    rw [Array.getElem?_append_left (by simpa using hi)]; simpa using h2
theorem hp_put {w0 w : World} {rest' : List Res} {b : Nat} {o : Obj} (h : Hp w0 rs w) (hr : Rem (.blk b o) rs rest') (o' : Obj) : Hp w0 (.blk b o' :: rest') (w.putObj b o') := by
  have hb : w.heap[b]? = some o := h.ok _ hr.mem.1
  have hlt : b < w.heap.size := (Array.getElem?_eq_some_iff.1 hb).1
  exact h.swap hr (.blk b o') rfl rfl rfl (by simp) (fun k _ hk => World.putObj_heap_other (fun e => hk e)) (World.putObj_heap_same hlt) (fun k hk => .inl hk)
def LP (fn : FuncId) (tm : Array Value) (ps : List Tmp) (c d : Code) (D : Nat) : Loop := { state := .ready, pending := none, fn, tmps := tm, params := ps.toArray, assign := c, body := d, defers := D }
theorem sc_rangeFunc {Z : Type} {g : Operand} {gf : FuncId} {lb : List Value} {ps : List Tmp} {c cd : Code} (rz : Z → List Res) (C : Z → Prop) (hro : X.r = none) (hg : ev L g = some (.func (.func gf) #[] lb.toArray)) (hcf : ∀ args w, (callFunc gf args).run X.P w = .ok (.enter gf args) w)
    (hc : ∀ fn tm l D, tm.size = X.N → (∀ i v, lk L i = some v → tm[i]? = some v) → ∀ w, Hp X.w0 (.blk l (.loop (LP fn tm ps c cd D)) :: .blk D (.deferred (some [])) :: rs) w →
      Calls X.P gf (.func (.yield l) #[] #[] :: lb).toArray w fun e w' => ∃ z, C z ∧ (∃ v, e = .returned v) ∧ Hp X.w0 (.blk l (.loop (LP fn tm ps c cd D)) :: .blk D (.deferred (some [])) :: rz z) w')
    (k : ∀ D z, C z → SX { X with D := { target := .collected D, args := #[] } :: X.D } Q .normal L (.blk D (.deferred (some [])) :: rz z)) : SC X (.rangeFunc g ps.toArray c cd) Q L rs := by
  intro a w ha hw
  refine wpIn_rangeFunc ?_
  intro fn _
  have hr0 : (FW X.r).round = none := hro
  rw [hr0]
  have hw1 := hp_alloc (hp_alloc hw (.deferred (some []))) (.loop (LP fn a.tmps ps c cd w.heap.size))
  obtain ⟨W1, hW1⟩ : ∃ W1, (w.alloc (.deferred (some []))).alloc (.loop (LP fn a.tmps ps c cd w.heap.size)) = W1 := ⟨_, rfl⟩
  rw [hW1, World.size_alloc] at hw1
  refine ⟨w.heap.size + 1, [{ target := .collected w.heap.size, args := #[] }], W1, { target := .fn (.func gf) lb.toArray, args := #[.func (.yield (w.heap.size + 1)) #[] #[]] }, W1, gf,
    (.func (.yield (w.heap.size + 1)) #[] #[] :: lb).toArray, W1, ?_, ?_, ?_, ?_, fun h => (by cases h), ?_⟩
  · rw [← hW1]; exact run_enterLoop_outer _ _ _ _ _
  · simp only [resolve, ha.eval hg]
    simp [go_sem]
  · intro f' _; trivial
  · simp [invoke, go_sem, hcf]
  · refine callsIn_FW ((hc fn a.tmps (w.heap.size + 1) w.heap.size ha.size ha.get W1 hw1).mono ?_)
    rintro e w' ⟨z, hz, ⟨v, rfl⟩, hw'⟩
    have hl : w'.heap[w.heap.size + 1]? = some (.loop (LP fn a.tmps ps c cd w.heap.size)) := hw'.ok _ (.head _)
    refine ⟨none, _, run_endLoop (P := X.P) hl (by simp [LP]), ?_⟩
    exact k w.heap.size z hz _ _ ⟨ha.size, by simp [ha.defs], ha.get⟩ ((hp_put hw' .here _).sel (.cons (.there .here) (by
      have : ∀ (r : Res) (l : List Res), Sel l (r :: l) := fun r l => by
        have key : ∀ (l : List Res), Sel l (r :: l) := by
          intro l
          induction l with
          | nil => exact .nil
          | cons s l ih => exact .cons (.there .here) ih
        exact key l
      exact this _ _)))
/-- the end of a function after such a range -/
theorem sx_ret1m {fn : Func} {R : Ending → World → Prop} {r : Tmp} {en : Exit} {b : Nat} {rest' : List Res} (hen : en = .ret ∨ en = .normal) (hD : X.D = [{ target := .collected b, args := #[] }]) (hm : Rem (.blk b (.deferred (some []))) rs rest') (hr : fn.results = #[.tmp r]) (hv : lk L r = some v)
    (h : ∀ w, Hp X.w0 rest' w → R (.returned v) w) : SX X (bodyPostM (FW none) 0 X.P fn R) en L rs := by
  intro a w ha hw
  have hb : w.heap[b]? = some (.deferred (some [])) := hw.ok _ hm.mem.1
  have hw2 := hp_put hw hm (.deferred none)
  have hres : ∀ w, (results fn a.tmps).run X.P w = .ok v w := fun w => by
    rw [results_tmp hr]; simp [Array.getD_eq_getD_getElem?, ha.get _ _ hv]
  have key : LeavesInM (FW none) 0 X.P fn a.tmps R a.defers .returning w := by
    rw [ha.defs, hD]
    exact ⟨by simp, .inl ⟨b, _, rfl, run_takeDeferred hb, ⟨v, hres _, h _ (hw2.sel (by
      have key : ∀ (r : Res) (l : List Res), Sel l (r :: l) := by
        intro r l
        induction l with
        | nil => exact .nil
        | cons s l ih => exact .cons (.there .here) ih
      exact key _ _))⟩⟩⟩
  rcases hen with rfl | rfl <;> exact key
/-- yield is called: a round of the loop that runs -/
theorem sq_yield {Z : Type} {g : Operand} {l : Nat} {args : List Operand} {vs : List Value} {ats : Array TypeId} {r : Loop} {rs' : List Res} (vz : Z → Value) (rz : Z → List Res) (C : Z → Prop) (hg : ev L g = some (.func (.yield l) #[] #[])) (hv : EvL L args vs) (hl : Res.blk l (.loop r) ∈ rs') (hs : Sel rs' rs) (hn : vs.length = r.params.size)
    (hc : ∀ w, Hp X.w0 rs' w → RoundIn (FW X.r) 0 X.P l r.fn ((r.params.zip vs.toArray).foldl (fun tmps (t, a) => tmps.setIfInBounds t a) r.tmps) r.assign r.body w fun e w' => ∃ z, C z ∧ e = .returned (vz z) ∧ Hp X.w0 (rz z) w') (hd : Nat.ble (d + 1) X.N = true) (k : ∀ z, C z → SQ X ops Q rest ((d, vz z) :: L) (rz z)) :
    SQ X ops Q (⟨some d, .call { callee := .value g, args := args.toArray, argTypes := ats }, ty, pos, af, none⟩ :: rest) L rs := by
  intro a w ha hw
  have hw' := hw.sel hs
  have hb : w.heap[l]? = some (.loop r) := hw'.ok _ hl
  refine wpListIn_plain rfl fun K hK => ⟨fun _ _ => trivial, ?_⟩
  rw [Oper.semAt_eq _ _ _ (by simp)]
  have hrun : (execOp a.eval ⟨some d, .call { callee := .value g, args := args.toArray, argTypes := ats }, ty, pos, af, none⟩).run X.P w = .ok (.round l r.fn ((r.params.zip vs.toArray).foldl (fun tmps (t, a) => tmps.setIfInBounds t a) r.tmps) r.assign r.body) w := by
    simp [execOp, resolve, Deferred.ofValue, ha.eval hg, hv.map ha, invoke]
    have hy := run_yield (P := X.P) (args := vs.toArray) hb (by simpa using hn)
    simpa using hy
  rw [hrun]
  refine ⟨fun h => (by cases h), (hc w hw').mono ?_⟩
  rintro e w2 ⟨z, hz, rfl, hw2⟩
  exact hK _ _ (k z hz _ _ (ha.put (Nat.le_of_ble_eq_true hd) _) hw2)
/-! ### a round -/
def RA (X : Ctx) (l : Nat) (body : Code) (R : Ending → World → Prop) : Post := Exit.then (fun a₁ w₁ => ∃ w₂, (Instr.beginRound l).run X.P w₁ = .ok () w₂ ∧ body.wpIn ((FW none).inRound l) 0 X.P (roundPost X.P l R) a₁ w₂) (fun _ _ _ => False)
theorem round_of_SC {P : Program} {N : Nat} {w0 w : World} {l : Nat} {f : FuncId} {tm : Array Value} {c cd : Code} {R : Ending → World → Prop} (hs : tm.size = N) (hL : ∀ i v, lk L i = some v → tm[i]? = some v) (hw : Hp w0 rs w)
    (h : SC ⟨some l, P, N, [], w0⟩ c (RA ⟨some l, P, N, [], w0⟩ l cd R) L rs) : RoundIn (FW none) 0 P l f tm c cd w R :=
  roundIn_of_wpIn (F := FW none) trivial (h { tmps := tm, defers := [] } w ⟨hs, rfl, hL⟩ hw)
theorem sx_begin {l : Nat} {cd : Code} {R : Ending → World → Prop} {r : Loop} {rest' : List Res} (hr0 : X.r = some l) (hm : Rem (.blk l (.loop r)) rs rest') (hr : r.state = .ready) (h : SC X cd (roundPost X.P l R) L (.blk l (.loop { r with state := .busy }) :: rest')) : SX X (RA X l cd R) .normal L rs := by
  intro a w ha hw
  have hb : w.heap[l]? = some (.loop r) := hw.ok _ hm.mem.1
  have := h a _ ha (hp_put hw hm _)
  rw [hr0] at this
  exact ⟨_, run_beginRound hb hr, this⟩
theorem sx_endround {l : Nat} {R : Ending → World → Prop} {r : Loop} {rest' : List Res} (hm : Rem (.blk l (.loop r)) rs rest') (h : ∀ w, Hp X.w0 (.blk l (.loop { r with state := .ready, pending := none }) :: rest') w → R (.returned (.bool true)) w) : SX X (roundPost X.P l R) .normal L rs := by
  intro a w ha hw
  have hb : w.heap[l]? = some (.loop r) := hw.ok _ hm.mem.1
  exact ⟨_, _, run_endRound none hb, h _ (hp_put hw hm _)⟩
/-! ### maps that are filled in order -/
def denseEs (vs : List Value) : List MapEntry := vs.zipIdx.map fun p => { key := .int .i64 p.2, val := p.1, born := p.2 }
def dense (vs : List Value) : Obj := .map (denseEs vs).toArray vs.length
theorem dense_snoc (vs : List Value) (v : Value) : dense (vs ++ [v]) = .map ((denseEs vs).toArray.push { key := .int .i64 (vs.length : Int), val := v, born := vs.length }) (vs.length + 1) := by
  simp [dense, denseEs, List.zipIdx_append]
theorem findNow_none (key : Int) : ∀ (es : List MapEntry) (i : Nat), (∀ e, e ∈ es → ∃ z : Int, e.key = .int .i64 z ∧ z ≠ key) → Instr.findNow (.int .i64) (.int .i64 key) es i = some none
  | [], _, _ => rfl
  | e :: es, i, h => by
    obtain ⟨z, h1, h2⟩ := h e (.head _)
    have : Instr.sameNow (.int .i64) (.int .i64 key) e.key = some false := by rw [h1]; simp [Instr.sameNow]; exact fun e => h2 e.symm
    simp only [Instr.findNow, this]
    exact findNow_none key es _ fun e he => h e (.tail _ he)
theorem findNow_hit (key : Int) : ∀ (es : List MapEntry) (i j : Nat) (e : MapEntry), es[j]? = some e → e.key = .int .i64 key → (∀ j' e', j' < j → es[j']? = some e' → ∃ z : Int, e'.key = .int .i64 z ∧ z ≠ key) → Instr.findNow (.int .i64) (.int .i64 key) es i = some (some (i + j, e.val))
  | [], _, _, _, h, _, _ => by simp at h
  | e0 :: es, i, 0, e, h, hk, _ => by
    simp at h; subst h
    have : Instr.sameNow (.int .i64) (.int .i64 key) e0.key = some true := by rw [hk]; simp [Instr.sameNow]
    simp [Instr.findNow, this]
  | e0 :: es, i, j + 1, e, h, hk, hne => by
    obtain ⟨z, h1, h2⟩ := hne 0 e0 (by omega) rfl
    have : Instr.sameNow (.int .i64) (.int .i64 key) e0.key = some false := by rw [h1]; simp [Instr.sameNow]; exact fun e => h2 e.symm
    simp only [Instr.findNow, this]
    have := findNow_hit key es (i + 1) j e (by simpa using h) hk (fun j' e' hj he => hne (j' + 1) e' (by omega) (by simpa using he))
    rw [this]; congr 3; omega
theorem denseEs_get {vs : List Value} {j : Nat} {e : MapEntry} (h : (denseEs vs)[j]? = some e) : e.key = .int .i64 (j : Int) ∧ vs[j]? = some e.val := by
  simp only [denseEs, List.getElem?_map, List.getElem?_zipIdx, Option.map_map] at h
  cases hv : vs[j]? with
  | none => rw [hv] at h; simp at h
  | some v => rw [hv] at h; simp at h; subst h; simp
theorem checkKey_int {P : Program} {b : Bool} {kt : TypeId} (hk : P.underlying kt = some (.int .i64)) (key : Int) (w : World) : (Instr.checkKey b 10000 kt (.int .i64 key)).run P w = .ok () w := by
  unfold Instr.checkKey
  simp [Sem.run_bind, run_underlying hk]
theorem sq_makeMap (hd : Nat.ble (d + 1) X.N = true) (k : ∀ b, SQ X ops Q rest ((d, .map (some b)) :: L) (.blk b (dense []) :: rs)) : SQ X ops Q (⟨some d, .makeMap t none, ty, pos, af, none⟩ :: rest) L rs := by
  refine sq_run (P' := fun v w' => ∃ w : World, Hp X.w0 rs w ∧ v = .map (some w.heap.size) ∧ w' = w.alloc (dense [])) (by simp) hd ?_ ?_
  · intro a w ha hw
    exact ⟨_, _, by simp [execOp, run_makeMap]; rfl, w, hw, rfl, rfl⟩
  · rintro v w' ⟨w, hw, rfl, rfl⟩
    exact ⟨_, hp_alloc hw _, k _⟩
theorem sq_mapPut {m kx vx : Operand} {kt et : TypeId} {b : Nat} {vs : List Value} {rest' : List Res} (hu : X.P.underlying t = some (.map kt et)) (hk : X.P.underlying kt = some (.int .i64)) (hm : ev L m = some (.map (some b))) (hr : Rem (.blk b (dense vs)) rs rest') (hx : ev L kx = some (.int .i64 (vs.length : Int))) (hv : ev L vx = some v)
    (k : SQ X ops Q rest L (.blk b (dense (vs ++ [v])) :: rest')) : SQ X ops Q (⟨none, .mapUpdate t m kx vx, ty, pos, af, none⟩ :: rest) L rs := by
  intro a w ha hw
  have hb : w.heap[b]? = some (dense vs) := hw.ok _ hr.mem.1
  refine wpListIn_plain rfl fun K hK => ⟨fun _ _ => trivial, ?_⟩
  have hfind : Instr.findNow (.int .i64) (.int .i64 (vs.length : Int)) (denseEs vs).toArray.toList 0 = some none := findNow_none _ _ _ fun e he => by
    obtain ⟨j, hj, rfl⟩ := List.getElem_of_mem he
    obtain ⟨h1, h2⟩ := denseEs_get (List.getElem?_eq_getElem hj)
    have : j < vs.length := (List.getElem?_eq_some_iff.1 h2).1
    exact ⟨j, h1, by omega⟩
  have hget : (getObj b).run X.P w = .ok (dense vs) w := by simp [getObj, Sem.run, hb]; rfl
  have hset : ∀ o, (setObj b o).run X.P w = .ok () (w.putObj b o) := fun o => by simp [setObj, Sem.run, hb, World.putObj]; rfl
  have hrun : (execOp a.eval ⟨none, .mapUpdate t m kx vx, ty, pos, af, none⟩).run X.P w = .ok .skip (w.putObj b (dense (vs ++ [v]))) := by
    have : (Instr.mapUpdate t (.map (some b)) (.int .i64 (vs.length : Int)) v).run X.P w = .ok () (w.putObj b (dense (vs ++ [v]))) := by
      unfold Instr.mapUpdate
      simp only [Sem.run_bind, run_underlying hu, Result.andThen_ok, hget]
      simp only [dense, Instr.findKey, Sem.run_bind, checkKey_int hk, run_underlying hk, Result.andThen_ok, hfind, Sem.run_pure]
      rw [hset, ← dense, dense_snoc]
    simp [execOp, ha.eval hm, ha.eval hx, ha.eval hv, this]
  rw [Oper.semAt_eq _ _ _ (by simp), hrun]
  exact hK _ _ (k _ _ (ha.put_none _) (hp_put hw hr _))
theorem map_blk {w0 w : World} {b : Nat} {vs : List Value} (hw : Hp w0 rs w) (hm : Res.blk b (dense vs) ∈ rs) : w.heap[b]? = some (dense vs) := hw.ok _ hm
theorem y_lookup {m kx : Operand} {kt et : TypeId} {b : Nat} {vs : List Value} {i : Nat} (hu : X.P.underlying t = some (.map kt et)) (hk : X.P.underlying kt = some (.int .i64)) (hm : ev L m = some (.map (some b))) (hr : ∀ w, Hp X.w0 rs w → w.heap[b]? = some (dense vs)) (hx : ev L kx = some (.int .i64 (i : Int))) (hi : vs[i]? = some v) :
    OpS X L rs (.lookup t m kx false) ty v := .val fun o h1 _ a w ha hw => by
  have hb : w.heap[b]? = some (dense vs) := hr w hw
  have hget : (getObj b).run X.P w = .ok (dense vs) w := by simp [getObj, Sem.run, hb]; rfl
  have hlt : i < vs.length := (List.getElem?_eq_some_iff.1 hi).1
  obtain ⟨e, he⟩ : ∃ e, (denseEs vs)[i]? = some e := ⟨_, List.getElem?_eq_getElem (by simpa [denseEs] using hlt)⟩
  obtain ⟨h2, h3⟩ := denseEs_get he
  have hv : e.val = v := by rw [hi] at h3; simpa using h3.symm
  have hfind : Instr.findNow (.int .i64) (.int .i64 (i : Int)) (denseEs vs).toArray.toList 0 = some (some (i, v)) := by
    have := findNow_hit (i : Int) (denseEs vs) 0 i e he h2 (fun j' e' hj he' => ⟨j', (denseEs_get he').1, by omega⟩)
    rw [hv] at this; simpa using this
  simp only [execOp, h1, ha.eval hm, ha.eval hx, Instr.lookup, Sem.run_bind, run_underlying hu, Result.andThen_ok, hget]
  simp [dense, Instr.findKey, Sem.run_bind, checkKey_int hk, run_underlying hk]
  simp at hfind
  simp [hfind]
end
end Go.Eng
