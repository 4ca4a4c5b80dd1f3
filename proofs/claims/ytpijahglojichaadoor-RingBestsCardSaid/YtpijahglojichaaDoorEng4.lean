/- The engine, part 4: regions that draw their order, whatever operations they hold: an operation that leaves the world alone may be taken first; of the others each order is walked. -/
import Derived.Test.YtpijahglojichaaDoorEng3
import Derived.OrdersIn
namespace Go.Eng
open Go Go.RowKit

def QF : Post := fun _ _ _ => False
theorem wpIn_monoQ {F : Fence} {n : Nat} {P : Program} {o : Oper} {a : Act} {w : World} {K : Act → World → Prop} {Q Q' : Post} (hq : ∀ e a w, e ≠ .normal → Q e a w → Q' e a w) (h : o.wpIn F n P a w K Q) : o.wpIn F n P a w K Q' := by
  unfold Oper.wpIn at *
  refine ⟨h.1, ?_⟩
  have h := h.2
  generalize (o.semAt F.round a.eval).run P w = r at *
  cases r with
  | ok x w' =>
    cases x <;> simp only [Oper.uponIn] at h ⊢
    case enter f args =>
      refine ⟨h.1, CallsIn.mono h.2 fun e w'' he => ?_⟩
      cases e with
      | returned v => exact he
      | panicked c => exact hq _ _ _ (by simp) he
      | outgrown => obtain ⟨a', w', h'⟩ := he; exact ⟨a', w', hq _ _ _ (by simp) h'⟩
    case round l f tmps assign body =>
      refine ⟨h.1, RoundIn.mono h.2 fun e w'' he => ?_⟩
      cases e with
      | returned v => exact he
      | panicked c => exact hq _ _ _ (by simp) he
      | outgrown => obtain ⟨a', w', h'⟩ := he; exact ⟨a', w', hq _ _ _ (by simp) h'⟩
    all_goals exact h
  | halt x w' =>
    cases x <;> simp only [Oper.uponIn] at h ⊢
    case panic u => exact hq _ _ _ (by simp) h
section
variable {r : Option Nat} {P : Program} {ops : Array Oper} {C : World → Prop} {K : Act → World → Prop} {md : Region.Mode}
def opX (r : Option Nat) (P : Program) (ops : Array Oper) (i : Nat) (K : Act → World → Prop) (a : Act) (w : World) : Prop :=
  match ops[i]? with
  | none => K a w
  | some o => if Region.wanted o (yielded ops a.tmps) then o.wpIn (FW r) 0 P a w K QF else K (a.put o.dst undef) w
theorem opX_mono {i : Nat} {a : Act} {w : World} {K K' : Act → World → Prop} (h : ∀ a w, K a w → K' a w) (hh : opX r P ops i K a w) : opX r P ops i K' a w := by
  unfold opX at *
  split
  · exact h _ _ (by simpa [*] using hh)
  · rename_i o ho
    simp only [ho] at hh
    split
    · rename_i hw; simp only [hw, if_true] at hh; exact Oper.wpIn_mono h hh
    · rename_i hw; simp only [hw] at hh; exact h _ _ hh
/-- it comes after all others, in one step or in two -/
def lastOp (ops : Array Oper) (j : Nat) : Bool := match ops[j]? with
  | none => false
  | some o => (List.range ops.size).all fun k => Nat.beq k j || o.after.toList.any fun e => Region.binds .any e && (Nat.beq e.on k || match ops[e.on]? with
    | none => false
    | some o2 => o2.after.toList.any fun e2 => Region.binds .any e2 && Nat.beq e2.on k)
/-- what is listed has all listed that it comes after -/
def closedB (ops : Array Oper) (listed : Array Bool) : Bool := (List.range ops.size).all fun k => match ops[k]? with
  | none => true
  | some o => !(listed.getD k false) || o.after.toList.all fun e => !(Region.binds .any e) || listed.getD e.on false
def Closed (ops : Array Oper) (listed : Array Bool) : Prop := ∀ k o, ops[k]? = some o → listed.getD k false = true → ∀ e ∈ o.after, Region.binds .any e = true → listed.getD e.on false = true
theorem closedB_spec {listed : Array Bool} (h : closedB ops listed = true) : Closed ops listed := fun k o ho hl e he hb => by
  have := List.all_eq_true.1 h k (List.mem_range.2 (Array.getElem?_eq_some_iff.1 ho).1)
  simp only [ho, hl, Bool.not_true, Bool.false_or] at this
  have := List.all_eq_true.1 this e (by simpa using he)
  rw [hb] at this
  simpa using this
theorem Closed.set {listed : Array Bool} {j : Nat} (h : Closed ops listed) (hj : j ∈ Region.ready .any ops listed) : Closed ops (listed.setIfInBounds j true) := fun k o ho hl e he hb => by
  obtain ⟨hjun, oj, hoj, hall⟩ := mem_ready.1 hj
  by_cases hkj : j = k
  · subst hkj
    rw [ho] at hoj; cases hoj
    exact getD_set_true (hall e he hb)
  · rw [getD_set_ne false hkj] at hl
    exact getD_set_true (h k o ho hl e he hb)
theorem lastOp_no {listed : Array Bool} {i j : Nat} {oi : Oper} (hcl : Closed ops listed) (hi : ops[i]? = some oi) (hir : i ∈ Region.ready .any ops listed) (hj : j ∈ Region.ready .any ops listed) (hij : i ≠ j) : lastOp ops j = false := by
  cases h : lastOp ops j with
  | false => rfl
  | true =>
    exfalso
    obtain ⟨_, oj, hoj, hall⟩ := mem_ready.1 hj
    have hiun := (mem_ready.1 hir).1
    have hno : listed.getD i false ≠ true := fun h1 => by
      rcases Nat.lt_or_ge i listed.size with h' | h'
      · simp [h'] at hiun h1; rw [hiun] at h1; cases h1
      · simp [Array.getElem?_eq_none h'] at h1
    unfold lastOp at h
    rw [hoj] at h
    have h1 := List.all_eq_true.1 h i (List.mem_range.2 (Array.getElem?_eq_some_iff.1 hi).1)
    rcases Bool.or_eq_true_iff.1 h1 with h1 | h1
    · exact hij (Nat.eq_of_beq_eq_true h1)
    · obtain ⟨e, he, h2⟩ := List.any_eq_true.1 h1
      rw [Bool.and_eq_true, Bool.or_eq_true] at h2
      obtain ⟨hb, h2⟩ := h2
      have hl := hall e (by simpa using he) hb
      rcases h2 with h2 | h2
      · rw [Nat.eq_of_beq_eq_true h2] at hl; exact hno hl
      · split at h2
        · cases h2
        · rename_i o2 ho2
          obtain ⟨e2, he2, h3⟩ := List.any_eq_true.1 h2
          rw [Bool.and_eq_true] at h3
          have := hcl _ o2 ho2 hl e2 (by simpa using he2) h3.1
          rw [Nat.eq_of_beq_eq_true h3.2] at this; exact hno this
def wpX (r : Option Nat) (P : Program) (ops : Array Oper) (C : World → Prop) (K : Act → World → Prop) : Nat → Array Bool → Act → World → Prop
  | 0, listed, a, w => Region.ready .any ops listed = [] ∧ K a w
  | fuel + 1, listed, a, w =>
    (Region.ready .any ops listed = [] → K a w) ∧
    ∀ i ∈ Region.ready .any ops listed, opX r P ops i (fun a' w' => (lastOp ops i = false → C w') ∧ wpX r P ops C K fuel (listed.setIfInBounds i true) a' w') a w
theorem wpAnyIn_of_wpX {Q : Post} : ∀ (fuel : Nat) (listed : Array Bool) (a : Act) (w : World), wpX r P ops C (fun a w => Q .normal a w) fuel listed a w → wpAnyIn (FW r) 0 P .any ops Q fuel listed a w
  | 0, _, _, _, h => h
  | fuel + 1, listed, a, w, h => by
    refine ⟨h.1, fun i hi => ?_⟩
    have h2 := h.2 i hi
    unfold wpOpIn
    unfold opX at h2
    split
    · rename_i ho; simp only [ho] at h2; exact wpAnyIn_of_wpX fuel _ _ _ h2.2
    · rename_i o ho
      simp only [ho] at h2
      split
      · rename_i hw
        simp only [hw, if_true] at h2
        exact wpIn_monoQ (fun _ _ _ _ hf => hf.elim) (Oper.wpIn_mono (fun a' w' h3 => wpAnyIn_of_wpX fuel _ _ _ h3.2) h2)
      · rename_i hw
        simp only [hw] at h2
        exact ⟨fun _ _ => trivial, wpAnyIn_of_wpX fuel _ _ _ h2.2⟩
/-- in every world of the class the operation yields v, and leaves the world alone -/
def YC (P : Program) (ops : Array Oper) (C : World → Prop) (o : Oper) (v : Value) (a : Act) : Prop :=
  (Region.wanted o (yielded ops a.tmps) = true ∧ ∀ w, C w → (execOp a.eval o).run P w = .ok (.value v) w) ∨ (Region.wanted o (yielded ops a.tmps) = false ∧ v = undef)
theorem YC.of_same {o : Oper} {v : Value} {a a' : Act} (hy : YC P ops C o v a) (he : execOp a'.eval o = execOp a.eval o) (hw : Region.wanted o (yielded ops a'.tmps) = Region.wanted o (yielded ops a.tmps)) : YC P ops C o v a' := by
  unfold YC at *; rw [he, hw]; exact hy
theorem notDefer_of_value {P : Program} {o : Oper} {a : Act} {w w' : World} {v : Value} (h : (execOp a.eval o).run P w = .ok (.value v) w') : ∀ c, o.op ≠ .defer c := by
  intro c hc
  unfold execOp at h
  rw [hc] at h
  simp only [Sem.run_bind] at h
  generalize (resolve a.eval c o.type).run P w = r at h
  cases r <;> simp at h
theorem YC.opX {i : Nat} {o : Oper} {v : Value} {a : Act} (hi : ops[i]? = some o) (hy : YC P ops C o v a) {w : World} (hC : C w) (h : K (a.put o.dst v) w) : opX r P ops i K a w := by
  unfold Eng.opX
  simp only [hi]
  rcases hy with ⟨hw, hv⟩ | ⟨hw, rfl⟩
  · simp only [hw, if_true]
    refine ⟨fun _ _ => trivial, ?_⟩
    rw [Oper.semAt_eq _ _ _ (notDefer_of_value (hv w hC)), hv w hC]
    exact h
  · simp only [hw, Bool.false_eq_true, if_false]; exact h
theorem opX_put {j : Nat} {oi oj : Oper} {v : Value} (hj : ops[j]? = some oj) (hap : oi.apart ops oj = true) (hsi : ∀ cs b, oi.op ≠ .select cs b) (hsj : ∀ cs b, oj.op ≠ .select cs b) (hdj : ∀ c, oj.op ≠ .defer c)
    {a : Act} {w : World} (hy : YC P ops C oi v a) (h : opX r P ops j K (a.put oi.dst v) w) : opX r P ops j (fun a' w' => YC P ops C oi v a' ∧ K (a'.put oi.dst v) w') a w := by
  obtain ⟨h1, h2, h3⟩ := Oper.apart_spec hap
  have keep : ∀ (a : Act), YC P ops C oi v a → ∀ u, YC P ops C oi v (a.put oj.dst u) := fun a hy u => hy.of_same (execOp_put oi hsi a oj.dst u h3) (wanted_put oi a oj.dst u h3)
  have keepD : ∀ d, YC P ops C oi v { a with defers := d :: a.defers } := fun d => hy.of_same rfl rfl
  unfold opX at *
  simp only [hj] at *
  rw [wanted_put oj a oi.dst v h1] at h
  split
  · rename_i hw
    simp only [hw, if_true] at h
    unfold Oper.wpIn at *
    refine ⟨fun _ _ => trivial, ?_⟩
    have h := h.2
    rw [Oper.semAt_eq _ _ _ hdj, execOp_put oj hsj a oi.dst v h1] at h
    rw [Oper.semAt_eq _ _ _ hdj]
    generalize (execOp a.eval oj).run P w = r at *
    cases r with
    | ok x w' =>
      cases x <;> simp only [Oper.uponIn] at h ⊢
      case value u => exact ⟨keep a hy u, by rw [← Act.put_comm a v u h2]; exact h⟩
      case skip => exact ⟨keep a hy _, by rw [← Act.put_comm a v undef h2]; exact h⟩
      case defer d =>
        refine ⟨keep _ (keepD d) _, ?_⟩
        rw [← Act.put_comm _ v undef h2, ← Act.put_defers]
        exact h
      case enter f args =>
        refine ⟨h.1, CallsIn.mono h.2 fun e w'' he => ?_⟩
        cases e with
        | returned u => exact ⟨keep a hy u, by rw [← Act.put_comm a v u h2]; exact he⟩
        | panicked c => exact he
        | outgrown => exact he
      case row row args => exact ⟨h.1, RowsIn.mono h.2 fun u w'' he => ⟨keep a hy u, by rw [← Act.put_comm a v u h2]; exact he⟩⟩
      case round l f tmps assign body =>
        refine ⟨h.1, RoundIn.mono h.2 fun e w'' he => ?_⟩
        cases e with
        | returned u => exact ⟨keep a hy u, by rw [← Act.put_comm a v u h2]; exact he⟩
        | panicked c => exact he
        | outgrown => exact he
    | halt x w' => cases x <;> simp only [Oper.uponIn] at h ⊢; exact h
  · rename_i hw
    simp only [hw] at h
    exact ⟨keep a hy _, by rw [← Act.put_comm a v undef h2]; exact h⟩
theorem wpX_first {i : Nat} {oi : Oper} {v : Value} (hi : ops[i]? = some oi) (hsel : ∀ (j : Nat) (o : Oper) cs b, ops[j]? = some o → o.op ≠ .select cs b) (hdf : ∀ (j : Nat) (o : Oper) c, ops[j]? = some o → o.op ≠ .defer c) :
    ∀ (fuel : Nat) (listed : Array Bool) (a : Act) (w : World),
      (∀ j oj, ops[j]? = some oj → j ≠ i → listed.getD j true = false → (∀ e ∈ oj.after, Region.binds .any e = true → e.on ≠ i) → oi.apart ops oj = true) →
      Closed ops listed → i ∈ Region.ready .any ops listed → YC P ops C oi v a → C w →
      wpX r P ops C K fuel (listed.setIfInBounds i true) (a.put oi.dst v) w → wpX r P ops C K (fuel + 1) listed a w := by
  intro fuel
  induction fuel with
  | zero =>
    intro listed a w _ hcl hr hy hC H
    refine ⟨fun h => (by rw [h] at hr; cases hr), fun j hj => ?_⟩
    by_cases hji : j = i
    · subst hji; exact hy.opX hi hC ⟨fun _ => hC, H⟩
    · have := ready_mono hj hji
      rw [H.1] at this
      cases this
  | succ fuel ih =>
    intro listed a w hfree hcl hr hy hC H
    refine ⟨fun h => (by rw [h] at hr; cases hr), fun j hj => ?_⟩
    by_cases hji : j = i
    · subst hji; exact hy.opX hi hC ⟨fun _ => hC, H⟩
    · have h1 := H.2 j (ready_mono hj hji)
      obtain ⟨hjun, oj, hoj, hall⟩ := mem_ready.1 hj
      have hnot : ∀ e ∈ oj.after, Region.binds .any e = true → e.on ≠ i := fun e he hb heq => by
        have h1 := hall e he hb
        have h0 := (mem_ready.1 hr).1
        rw [heq] at h1
        rcases Nat.lt_or_ge i listed.size with h' | h'
        · simp [h'] at h0 h1; rw [h0] at h1; cases h1
        · simp [Array.getElem?_eq_none h'] at h1
      have hlast : lastOp ops j = false := lastOp_no hcl hi hr hj (Ne.symm hji)
      have h2 := opX_put hoj (hfree j oj hoj hji hjun hnot) (fun cs b => hsel i oi cs b hi) (fun cs b => hsel j oj cs b hoj) (fun c => hdf j oj c hoj) hy h1
      have hfree' : ∀ k ok, ops[k]? = some ok → k ≠ i → (listed.setIfInBounds j true).getD k true = false →
          (∀ e ∈ ok.after, Region.binds .any e = true → e.on ≠ i) → oi.apart ops ok = true := fun k ok hk hki hun hno => by
        refine hfree k ok hk hki ?_ hno
        by_cases hjk : j = k
        · subst hjk; exact hjun
        · rw [getD_set_ne true hjk] at hun; exact hun
      refine opX_mono (fun a' w' h3 => ⟨h3.2.1, ih (listed.setIfInBounds j true) a' w' hfree' (hcl.set hj) (ready_mono hr (Ne.symm hji)) h3.1 (h3.2.1 hlast) ?_⟩) h2
      rw [Array.setIfInBounds_comm _ _ hji]
      exact h3.2.2
def noSD (ops : Array Oper) : Bool := ops.all fun o => match o.op with | .select .. | .defer _ => false | _ => true
theorem noSD_sel (h : noSD ops = true) (j : Nat) (o : Oper) (cs : Array SelectCase) (b : Bool) (ho : ops[j]? = some o) : o.op ≠ .select cs b := by
  intro heq; have := Array.all_eq_true_iff_forall_mem.1 h o (Array.mem_of_getElem? ho); simp [heq] at this
theorem noSD_def (h : noSD ops = true) (j : Nat) (o : Oper) (c : Call) (ho : ops[j]? = some o) : o.op ≠ .defer c := by
  intro heq; have := Array.all_eq_true_iff_forall_mem.1 h o (Array.mem_of_getElem? ho); simp [heq] at this
end
/-- the state of a region that draws: which operations have been carried out; what is known -/
def XJ (X : Ctx) (ops : Array Oper) (rq : List Res) (Q : Post) (fuel : Nat) (listed : Array Bool) (L : List (Nat × Value)) (rs : List Res) : Prop :=
  ∀ a w, St X.N X.D L a → Hp X.w0 rs w → wpX X.r X.P ops (Hp X.w0 rq) (fun a w => Q .normal a w) fuel listed a w
/-- what may be looked at for taking i first -/
def okFirst (ops : Array Oper) (listed : Array Bool) (i : Nat) : Bool := noSD ops && (Region.ready .any ops listed).contains i && Region.free .any ops listed i && closedB ops listed
section
variable {X : Ctx} {Q : Post} {L : List (Nat × Value)} {rs rq : List Res} {ops : Array Oper} {op : Op} {ty : TypeId} {v : Value} {d : Nat} {pos : String} {af : Array Edge} {fuel : Nat} {listed : Array Bool}
theorem sc_drawX {i : Nat} {l : List Oper} (rq : List Res) (hm : X.P.follows .mixedOrders = true) (h : XJ X l.toArray rq Q l.length (Array.replicate l.length false) L rs) : SC X (.region i l.toArray true) Q L rs := by
  intro a w ha hw
  refine wpIn_region_any hm (wpAnyIn_of_wpX (C := Hp X.w0 rq) _ _ _ _ ?_)
  have := h a _ ha hw.drew
  simpa using this
theorem sc_drawR {i : Nat} {l : List Oper} (hm : X.P.follows .mixedOrders = true) (h : XJ X l.toArray rs Q l.length (Array.replicate l.length false) L rs) : SC X (.region i l.toArray true) Q L rs := sc_drawX rs hm h
theorem xj_done (hr : Region.ready .any ops listed = []) (h : SX X Q .normal L rs) : XJ X ops rq Q fuel listed L rs := fun a w ha hw => by
  cases fuel with
  | zero => exact ⟨hr, h a w ha hw⟩
  | succ n => exact ⟨fun _ => h a w ha hw, fun i hi => by rw [hr] at hi; cases hi⟩
theorem xj_s (i : Nat) (hi : ops[i]? = some ⟨some d, op, ty, pos, af, none⟩) (hok : okFirst ops listed i = true) (hq : Sel rq rs) (hy : OpS X L rq op ty v) (hd : Nat.ble (d + 1) X.N = true) (k : XJ X ops rq Q fuel (listed.setIfInBounds i true) ((d, v) :: L) rs) :
    XJ X ops rq Q (fuel + 1) listed L rs := fun a w ha hw => by
  simp only [okFirst, Bool.and_eq_true] at hok
  exact wpX_first hi (noSD_sel hok.1.1.1) (noSD_def hok.1.1.1) fuel listed a w (Region.free_spec hi hok.1.2) (closedB_spec hok.2) (by simpa using hok.1.1.2) (.inl ⟨rfl, fun w' hw' => hy _ rfl rfl a w' ha hw'⟩) (hw.sel hq) (k _ _ (ha.put (Nat.le_of_ble_eq_true hd) v) hw)
theorem xj_gt (i : Nat) {j t : Nat} {b : Bool} (hi : ops[i]? = some ⟨some d, op, ty, pos, af, some (j, b)⟩) (hj : (ops[j]?).bind (·.dst) = some t) (ht : lk L t = some (.bool b)) (hok : okFirst ops listed i = true) (hq : Sel rq rs) (hy : OpS X L rq op ty v) (hd : Nat.ble (d + 1) X.N = true)
    (k : XJ X ops rq Q fuel (listed.setIfInBounds i true) ((d, v) :: L) rs) : XJ X ops rq Q (fuel + 1) listed L rs := fun a w ha hw => by
  simp only [okFirst, Bool.and_eq_true] at hok
  exact wpX_first hi (noSD_sel hok.1.1.1) (noSD_def hok.1.1.1) fuel listed a w (Region.free_spec hi hok.1.2) (closedB_spec hok.2) (by simpa using hok.1.1.2) (.inl ⟨by simp [Region.wanted, yielded_of ha hj ht], fun w' hw' => hy _ rfl rfl a w' ha hw'⟩) (hw.sel hq) (k _ _ (ha.put (Nat.le_of_ble_eq_true hd) v) hw)
theorem xj_gf (i : Nat) {j t : Nat} {b b' : Bool} (hi : ops[i]? = some ⟨some d, op, ty, pos, af, some (j, b)⟩) (hj : (ops[j]?).bind (·.dst) = some t) (ht : lk L t = some (.bool b')) (hb : b' = !b) (hok : okFirst ops listed i = true) (hq : Sel rq rs) (hd : Nat.ble (d + 1) X.N = true)
    (k : XJ X ops rq Q fuel (listed.setIfInBounds i true) ((d, undef) :: L) rs) : XJ X ops rq Q (fuel + 1) listed L rs := fun a w ha hw => by
  simp only [okFirst, Bool.and_eq_true] at hok
  exact wpX_first hi (noSD_sel hok.1.1.1) (noSD_def hok.1.1.1) fuel listed a w (Region.free_spec hi hok.1.2) (closedB_spec hok.2) (by simpa using hok.1.1.2) (.inr ⟨by subst hb; simp [Region.wanted, yielded_of ha hj ht], rfl⟩) (hw.sel hq) (k _ _ (ha.put (Nat.le_of_ble_eq_true hd) undef) hw)
/-- the post of one operation that is not taken first: it is carried out now -/
def XP (X : Ctx) (ops : Array Oper) (rq : List Res) (Q : Post) (fuel : Nat) (listed : Array Bool) (last : Bool) : Post
  | .normal, a, w => (last = false → Hp X.w0 rq w) ∧ wpX X.r X.P ops (Hp X.w0 rq) (fun a w => Q .normal a w) fuel listed a w
  | _, _, _ => False
theorem sx_xp {last : Bool} (hq : Sel rq rs) (h : XJ X ops rq Q fuel listed L rs) : SX X (XP X ops rq Q fuel listed last) .normal L rs := fun a w ha hw => ⟨fun _ => hw.sel hq, h a w ha hw⟩
theorem sx_xpl {last : Bool} (hl : last = true) (h : XJ X ops rq Q fuel listed L rs) : SX X (XP X ops rq Q fuel listed last) .normal L rs := fun a w ha hw => ⟨fun h0 => absurd h0 (by rw [hl]; exact Bool.noConfusion), h a w ha hw⟩
/-- whichever of those that may come up now comes up -/
inductive Each (p : Nat → Prop) : List Nat → Prop
  | nil : Each p []
  | cons {i l} (h : p i) (t : Each p l) : Each p (i :: l)
theorem Each.all {p : Nat → Prop} {l : List Nat} (h : Each p l) : ∀ i, i ∈ l → p i := by
  induction h with
  | nil => intro i hi; cases hi
  | cons h t ih => intro i hi; rcases List.mem_cons.1 hi with rfl | hi; · exact h
                   · exact ih i hi
theorem xj_all {l : List Nat} (hr : Region.ready .any ops listed = l) (hne : l ≠ []) (h : Each (fun i => ∃ o, ops[i]? = some o ∧ SQ X ops (XP X ops rq Q fuel (listed.setIfInBounds i true) (lastOp ops i)) [o] L rs) l) : XJ X ops rq Q (fuel + 1) listed L rs := fun a w ha hw => by
  refine ⟨fun h0 => absurd (hr ▸ h0) hne, fun i hi => ?_⟩
  obtain ⟨o, ho, hs⟩ := h.all i (hr ▸ hi)
  have h1 := hs a w ha hw
  unfold opX
  simp only [ho]
  unfold wpListIn at h1
  split
  · rename_i hw'
    rw [if_pos hw'] at h1
    refine wpIn_monoQ (Q := XP X ops rq Q fuel (listed.setIfInBounds i true) (lastOp ops i)) (fun e _ _ hne hf => ?_) (Oper.wpIn_mono (fun a' w' h3 => h3) h1)
    cases e <;> first | exact hf.elim | exact absurd rfl hne
  · rename_i hw'
    rw [if_neg hw'] at h1
    exact h1.2
/-- only one may come up -/
theorem xj_one (i : Nat) {o : Oper} (ho : ops[i]? = some o) (hr : Region.ready .any ops listed = [i]) (h : SQ X ops (XP X ops rq Q fuel (listed.setIfInBounds i true) (lastOp ops i)) [o] L rs) : XJ X ops rq Q (fuel + 1) listed L rs :=
  xj_all hr (by simp) (.cons ⟨o, ho, h⟩ .nil)
theorem xj_split {tt : Nat} {b : Bool} (h : lk L tt = some (.bool b)) (h1 : b = true → XJ X ops rq Q fuel listed ((tt, .bool true) :: L) rs) (h2 : b = false → XJ X ops rq Q fuel listed ((tt, .bool false) :: L) rs) : XJ X ops rq Q fuel listed L rs := by
  intro a w ha hw
  cases b
  · exact h2 rfl a w (ha.know h) hw
  · exact h1 rfl a w (ha.know h) hw
theorem xj_splitd {tt : Nat} {p : Prop} [Decidable p] (h : lk L tt = some (.bool (decide p))) (h1 : p → XJ X ops rq Q fuel listed ((tt, .bool true) :: L) rs) (h2 : ¬ p → XJ X ops rq Q fuel listed ((tt, .bool false) :: L) rs) : XJ X ops rq Q fuel listed L rs :=
  xj_split h (fun e => h1 (of_decide_eq_true e)) (fun e => h2 (of_decide_eq_false e))
theorem xj_splitn {tt : Nat} {p : Prop} [Decidable p] (h : lk L tt = some (.bool (!decide p))) (h1 : ¬ p → XJ X ops rq Q fuel listed ((tt, .bool true) :: L) rs) (h2 : p → XJ X ops rq Q fuel listed ((tt, .bool false) :: L) rs) : XJ X ops rq Q fuel listed L rs :=
  xj_split h (fun e => h1 (by simpa using e)) (fun e => h2 (by simpa using e))
theorem xj_known {tt : Nat} {b b' : Bool} (h : lk L tt = some (.bool b)) (e : b = b') (k : XJ X ops rq Q fuel listed ((tt, .bool b') :: L) rs) : XJ X ops rq Q fuel listed L rs := by
  subst e; intro a w ha hw; exact k a w (ha.know h) hw
end
end Go.Eng
