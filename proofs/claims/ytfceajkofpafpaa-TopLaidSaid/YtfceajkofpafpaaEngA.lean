/- The engine: symbolic frames, resources of the heap, judgements on code and their rules. Merged by mergeng.py: Eng1, Eng2, Eng3, Eng4, Eng5, Eng6, Eng7, Eng8, Eng9, Eng10, Eng11. -/
import Derived.WalkKit
import Derived.OwnWalkIn
import Derived.Deep.Quiet
import Derived.KernelRfl
import Derived.RangeFuncIn
import Derived.OrdersIn
import Derived.RangeFuncRecord
import Derived.Scope
/- The engine, part 1: symbolic frames, resources of the heap, judgements on code, and the rules for control flow. Nothing here names a program. -/
namespace Go.Eng
open Go Go.RowKit

def FW (r : Option Nat) : Fence := { fn := fun _ => True, depth := none, alive := false, round := r }
theorem FW_none : FW none = Fence.wide := rfl
theorem FW_some (l : Nat) : FW (some l) = Fence.wide.inRound l := rfl
theorem FW_room (r : Option Nat) (k : Nat) : (FW r).room k := fun d h => by cases h

theorem callsIn_FW {r : Option Nat} {n : Nat} {P : Program} {f : FuncId} {args : Array Value} {w : World} {R : Ending → World → Prop} (h : Calls P f args w R) : CallsIn (FW r) n P f args w R := by
  refine ⟨trivial, fun cs _ => ?_⟩
  obtain ⟨e, w', fr, hr, hc, h1, h2⟩ := h cs
  refine ⟨e, w', fr, hr, ?_, h1, h2⟩
  have : Machine.fenced P (FW r) = Machine.fenced P Fence.wide := by cases r <;> rfl
  rw [this]
  exact comesIn_wide.2 hc

/-! ### frames -/
def lk : List (Nat × Value) → Nat → Option Value
  | [], _ => none
  | (j, v) :: L, i => bif Nat.beq j i then some v else lk L i
def ev (L : List (Nat × Value)) : Operand → Option Value
  | .tmp t => lk L t
  | .const v => some v
  | .global g => some (.pointer (some ⟨g, 0, none⟩))
  | .func f => some (.func (.func f) #[] #[])
structure St (N : Nat) (D : List Deferred) (L : List (Nat × Value)) (a : Act) : Prop where
  size : a.tmps.size = N
  defs : a.defers = D
  get : ∀ i v, lk L i = some v → a.tmps[i]? = some v
theorem St.eval {N D L a} (h : St N D L a) {x : Operand} {v : Value} (hv : ev L x = some v) : a.eval x = v := by
  cases x with
  | tmp t => have := h.get t v hv; simp [Act.eval, Array.getD_eq_getD_getElem?, this]
  | const u => simp [ev] at hv; simp [Act.eval, hv]
  | global g => simp [ev] at hv; simp [Act.eval, hv]
  | func f => simp [ev] at hv; simp [Act.eval, hv]
theorem lk_cons {L : List (Nat × Value)} {d i : Nat} {u : Value} : lk ((d, u) :: L) i = if d = i then some u else lk L i := by
  by_cases h : d = i
  · subst h; simp [lk]
  · have : Nat.beq d i = false := by
      cases hb : Nat.beq d i
      · rfl
      · exact absurd (Nat.eq_of_beq_eq_true hb) h
    simp [lk, this, h]
theorem St.put {N D L a} (h : St N D L a) {d : Nat} (hd : d < N) (v : Value) : St N D ((d, v) :: L) (a.put (some d) v) := by
  refine ⟨by simp [Act.put, h.size], h.defs, fun i u hu => ?_⟩
  rw [lk_cons] at hu
  by_cases e : d = i
  · subst e; simp at hu; subst hu; simp [Act.put, h.size, hd]
  · simp [e] at hu; simp [Act.put, Array.getElem?_setIfInBounds_ne e, h.get i u hu]
theorem St.put_none {N D L a} (h : St N D L a) (v : Value) : St N D L (a.put none v) := h
def SubL (L' L : List (Nat × Value)) : Prop := ∀ i v, lk L' i = some v → lk L i = some v
theorem SubL.nil {L} : SubL [] L := fun _ _ h => by cases h
theorem SubL.cons {L' L i v} (h : lk L i = some v) (t : SubL L' L) : SubL ((i, v) :: L') L := fun j u hu => by
  rw [lk_cons] at hu
  by_cases e : i = j
  · subst e; simp at hu; subst hu; exact h
  · simp [e] at hu; exact t j u hu
theorem SubL.refl (L) : SubL L L := fun _ _ h => h
theorem St.sub {N D L L' a} (h : St N D L a) (hs : SubL L' L) : St N D L' a := ⟨h.size, h.defs, fun i v hv => h.get i v (hs i v hv)⟩
theorem lk_int {L i k x y} (h : lk L i = some (.int k x)) (e : x = y) : lk L i = some (.int k y) := e ▸ h
theorem lk_bool {L i} {x y : Bool} (h : lk L i = some (.bool x)) (e : x = y) : lk L i = some (.bool y) := e ▸ h
theorem lk_eq {L i v u} (h : lk L i = some v) (e : v = u) : lk L i = some u := e ▸ h
theorem ev_int {L x k n m} (h : ev L x = some (.int k n)) (e : n = m) : ev L x = some (.int k m) := e ▸ h

/-! ### resources -/
inductive Res where
  | blk (b : Nat) (o : Obj)
  | reg (lo : Nat) (wr : World)
  | own (v : Value) (e : TypeId) (sz n : Nat) (xs : List Value)
  | set (D : Nat → Prop) (wr : World)
def Res.dom : Res → Nat → Prop
  | .blk b _, k => k = b
  | .reg lo wr, k => lo ≤ k ∧ k < wr.heap.size
  | .own v _ _ _ _, k => v.ownBlock = some k
  | .set D _, k => D k
def Res.ok (w : World) : Res → Prop
  | .blk b o => w.heap[b]? = some o
  | .reg lo wr => wr.heap.size ≤ w.heap.size ∧ ∀ k, lo ≤ k → k < wr.heap.size → w.heap[k]? = wr.heap[k]?
  | .own v e sz n xs => w.ownsRow 0 e sz v n xs
  | .set D wr => wr.heap.size ≤ w.heap.size ∧ ∀ k, D k → k < wr.heap.size ∧ w.heap[k]? = wr.heap[k]?
theorem Res.ok_lt {w : World} {r : Res} (h : r.ok w) {k : Nat} (hk : r.dom k) : k < w.heap.size := by
  cases r with
  | blk b o => cases hk; exact (Array.getElem?_eq_some_iff.1 h).1
  | reg lo wr => exact Nat.lt_of_lt_of_le hk.2 h.1
  | own v e sz n xs => exact (World.ownsRow.lt (w := w) h k hk).2
  | set D wr => exact Nat.lt_of_lt_of_le (h.2 k hk).1 h.1
theorem Res.ok_same {w w' : World} {r : Res} (h : r.ok w) (hs : w.heap.size ≤ w'.heap.size) (hk : ∀ k, r.dom k → w'.heap[k]? = w.heap[k]?) : r.ok w' := by
  cases r with
  | blk b o => exact (hk b rfl).trans h
  | reg lo wr => exact ⟨Nat.le_trans h.1 hs, fun k h1 h2 => (hk k ⟨h1, h2⟩).trans (h.2 k h1 h2)⟩
  | own v e sz n xs =>
    refine ⟨h.1, ?_⟩
    rcases h.2 with h2 | ⟨g, cap, cur, hv, h3, h4, h5⟩
    · exact .inl h2
    · exact .inr ⟨g, cap, cur, hv, h3, (hk g (by subst hv; rfl)).trans h4, h5⟩
  | set D wr => exact ⟨Nat.le_trans h.1 hs, fun k h1 => ⟨(h.2 k h1).1, (hk k h1).trans (h.2 k h1).2⟩⟩
structure Hp (w0 : World) (rs : List Res) (w : World) : Prop where
  os : w.os = w0.os
  tape : w.tape = w0.tape
  output : w.output = w0.output
  size : w0.heap.size ≤ w.heap.size
  ok : ∀ r, r ∈ rs → r.ok w
  apart : rs.Pairwise (fun r s => ∀ k, r.dom k → ¬ s.dom k)
theorem Hp.init (w0 : World) : Hp w0 [.reg 0 w0] w0 :=
  ⟨rfl, rfl, rfl, Nat.le_refl _, fun r hr => by simp at hr; subst hr; exact ⟨Nat.le_refl _, fun _ _ _ => rfl⟩, by simp⟩
theorem Hp.ext {w0 rs w w'} (h : Hp w0 rs w) (hb : Below w.heap.size w w') : Hp w0 rs w' :=
  ⟨hb.os.trans h.os, hb.tape.trans h.tape, hb.output.trans h.output, Nat.le_trans h.size hb.size,
   fun r hr => Res.ok_same (h.ok r hr) hb.size fun k hk => hb.block k (Res.ok_lt (h.ok r hr) hk), h.apart⟩
theorem Hp.drew {w0 rs w} (h : Hp w0 rs w) : Hp w0 rs { w with drawn := w.drawn + 1 } := h.ext ⟨rfl, rfl, rfl, Nat.le_refl _, fun _ _ => rfl⟩
theorem Hp.new {w0 rs w w'} (h : Hp w0 rs w) (hb : Below w.heap.size w w') (r : Res) (hok : r.ok w') (hd : ∀ k, r.dom k → w.heap.size ≤ k) : Hp w0 (r :: rs) w' := by
  have h' := h.ext hb
  refine ⟨h'.os, h'.tape, h'.output, h'.size, ?_, ?_⟩
  · intro s hs
    rcases List.mem_cons.1 hs with rfl | hs
    · exact hok
    · exact h'.ok s hs
  · refine List.pairwise_cons.2 ⟨fun s hs k hk hk' => ?_, h.apart⟩
    have := Res.ok_lt (h.ok s hs) hk'
    have := hd k hk
    omega
/-- all that the callee made is kept from now on -/
theorem Hp.region {w0 rs w w'} (h : Hp w0 rs w) (hb : Below w.heap.size w w') : Hp w0 (.reg w.heap.size w' :: rs) w' :=
  h.new hb _ ⟨Nat.le_refl _, fun _ _ _ => rfl⟩ fun _ hk => hk.1
theorem Hp.below {w0 rs w} (h : Hp w0 rs w) (hm : Res.reg 0 w0 ∈ rs) : Below w0.heap.size w0 w :=
  ⟨h.os, h.tape, h.output, h.size, fun k hk => (h.ok _ hm).2 k (Nat.zero_le _) hk⟩
/-- selection of some resources, in some order -/
inductive Rem (r : Res) : List Res → List Res → Prop
  | here {rs} : Rem r (r :: rs) rs
  | there {s rs rs'} (h : Rem r rs rs') : Rem r (s :: rs) (s :: rs')
inductive Sel : List Res → List Res → Prop
  | nil {rs} : Sel [] rs
  | cons {r rs rs' t} (h : Rem r rs rs') (k : Sel t rs') : Sel (r :: t) rs
theorem Rem.mem {r rs rs'} (h : Rem r rs rs') : r ∈ rs ∧ ∀ s, s ∈ rs' → s ∈ rs := by
  induction h with
  | here => exact ⟨List.mem_cons_self .., fun s hs => List.mem_cons_of_mem _ hs⟩
  | there h ih => exact ⟨List.mem_cons_of_mem _ ih.1, fun s hs => by
      rcases List.mem_cons.1 hs with rfl | hs
      · exact List.mem_cons_self ..
      · exact List.mem_cons_of_mem _ (ih.2 s hs)⟩
theorem Rem.pairwise {R : Res → Res → Prop} (hsym : ∀ a b, R a b → R b a) {r rs rs'} (h : Rem r rs rs') (hp : rs.Pairwise R) : (r :: rs').Pairwise R := by
  induction h with
  | here => exact hp
  | there h ih =>
    obtain ⟨h1, h2⟩ := List.pairwise_cons.1 hp
    obtain ⟨h3, h4⟩ := List.pairwise_cons.1 (ih h2)
    refine List.pairwise_cons.2 ⟨fun s hs => ?_, List.pairwise_cons.2 ⟨fun s hs => h1 s (h.mem.2 s hs), h4⟩⟩
    rcases List.mem_cons.1 hs with rfl | hs
    · exact hsym _ _ (h1 _ h.mem.1)
    · exact h3 s hs
theorem apart_sym (a b : Res) (h : ∀ k, a.dom k → ¬ b.dom k) : ∀ k, b.dom k → ¬ a.dom k := fun k hb ha => h k ha hb
theorem Sel.mem {t rs} (h : Sel t rs) : ∀ s, s ∈ t → s ∈ rs := by
  induction h with
  | nil => intro s hs; cases hs
  | cons h k ih =>
    intro s hs
    rcases List.mem_cons.1 hs with rfl | hs
    · exact h.mem.1
    · exact h.mem.2 s (ih s hs)
theorem Sel.pairwise {t rs} (h : Sel t rs) (hp : rs.Pairwise (fun r s => ∀ k, r.dom k → ¬ s.dom k)) : t.Pairwise (fun r s => ∀ k, r.dom k → ¬ s.dom k) := by
  induction h with
  | nil => exact .nil
  | cons h k ih =>
    obtain ⟨h1, h2⟩ := List.pairwise_cons.1 (h.pairwise apart_sym hp)
    exact List.pairwise_cons.2 ⟨fun s hs => h1 s (k.mem s hs), ih h2⟩
theorem Hp.sel {w0 rs rs' w} (h : Hp w0 rs w) (hs : Sel rs' rs) : Hp w0 rs' w :=
  ⟨h.os, h.tape, h.output, h.size, fun r hr => h.ok r (hs.mem r hr), hs.pairwise h.apart⟩
/-- one resource is taken, and another one put into its place -/
theorem Hp.swap {w0 rs rest w w'} {r : Res} (h : Hp w0 rs w) (hr : Rem r rs rest) (r' : Res) (hos : w'.os = w.os) (ht : w'.tape = w.tape) (ho : w'.output = w.output) (hsz : w.heap.size ≤ w'.heap.size)
    (hsame : ∀ k, k < w.heap.size → ¬ r.dom k → w'.heap[k]? = w.heap[k]?) (hok : r'.ok w') (hdom : ∀ k, r'.dom k → r.dom k ∨ w.heap.size ≤ k) : Hp w0 (r' :: rest) w' := by
  obtain ⟨h1, h2⟩ := List.pairwise_cons.1 (hr.pairwise apart_sym h.apart)
  refine ⟨hos.trans h.os, ht.trans h.tape, ho.trans h.output, Nat.le_trans h.size hsz, ?_, ?_⟩
  · intro s hs
    rcases List.mem_cons.1 hs with rfl | hs
    · exact hok
    · have hsok := h.ok s (hr.mem.2 s hs)
      exact Res.ok_same hsok hsz fun k hk => hsame k (Res.ok_lt hsok hk) fun hrk => h1 s hs k hrk hk
  · refine List.pairwise_cons.2 ⟨fun s hs k hk hk' => ?_, h2⟩
    rcases hdom k hk with hr' | hge
    · exact h1 s hs k hr' hk'
    · have := Res.ok_lt (h.ok s (hr.mem.2 s hs)) hk'; omega

/-! ### judgements -/
structure Ctx where
  r : Option Nat
  P : Program
  N : Nat
  D : List Deferred
  w0 : World
abbrev Post := Exit → Act → World → Prop
def SC (X : Ctx) (c : Code) (Q : Post) (L : List (Nat × Value)) (rs : List Res) : Prop := ∀ a w, St X.N X.D L a → Hp X.w0 rs w → c.wpIn (FW X.r) 0 X.P Q a w
def SQ (X : Ctx) (ops : Array Oper) (Q : Post) (l : List Oper) (L : List (Nat × Value)) (rs : List Res) : Prop := ∀ a w, St X.N X.D L a → Hp X.w0 rs w → wpListIn (FW X.r) 0 X.P ops Q l a w
def SX (X : Ctx) (Q : Post) (e : Exit) (L : List (Nat × Value)) (rs : List Res) : Prop := ∀ a w, St X.N X.D L a → Hp X.w0 rs w → Q e a w
/-- the continuation of a sequence -/
def Then (X : Ctx) (c : Code) (Q : Post) : Post := Exit.then (fun a w => c.wpIn (FW X.r) 0 X.P Q a w) Q
section
variable {X : Ctx} {Q : Post} {L : List (Nat × Value)} {rs : List Res} {c d : Code}
theorem sc_seq (h : SC X c (Then X d Q) L rs) : SC X (.seq c d) Q L rs := fun a w ha hw => wpIn_seq (h a w ha hw)
theorem sx_then (h : SC X d Q L rs) : SX X (Then X d Q) .normal L rs := h
theorem sx_then_exit {i} (h : SX X Q (.exit i) L rs) : SX X (Then X d Q) (.exit i) L rs := h
theorem sx_then_ret (h : SX X Q .ret L rs) : SX X (Then X d Q) .ret L rs := h
theorem sc_skip (h : SX X Q .normal L rs) : SC X .skip Q L rs := fun a w ha hw => wpIn_skip (h a w ha hw)
theorem sc_exit {i} (h : SX X Q (.exit i) L rs) : SC X (.exit i) Q L rs := fun a w ha hw => wpIn_exit (h a w ha hw)
theorem sc_ret (h : SX X Q .ret L rs) : SC X .ret Q L rs := fun a w ha hw => wpIn_ret (h a w ha hw)
theorem sc_block {i} (h : SC X c (Exit.inBlock i Q) L rs) : SC X (.block i c) Q L rs := fun a w ha hw => wpIn_block (h a w ha hw)
theorem sx_blk {i} (h : SX X Q .normal L rs) : SX X (Exit.inBlock i Q) .normal L rs := h
theorem sx_blk_hit {i} (h : SX X Q .normal L rs) : SX X (Exit.inBlock i Q) (.exit i) L rs := fun a w ha hw => by
  simp only [Exit.inBlock, if_true]; exact h a w ha hw
theorem sx_blk_miss {i j} (hij : Nat.beq j i = false) (h : SX X Q (.exit j) L rs) : SX X (Exit.inBlock i Q) (.exit j) L rs := fun a w ha hw => by
  have : j ≠ i := fun e => by subst e; simp at hij
  simp only [Exit.inBlock, if_neg this]; exact h a w ha hw
theorem sx_blk_ret {i} (h : SX X Q .ret L rs) : SX X (Exit.inBlock i Q) .ret L rs := h
theorem sc_cond {x : Operand} {b : Bool} (hx : ev L x = some (.bool b)) (ht : b = true → SC X c Q L rs) (hf : b = false → SC X d Q L rs) : SC X (.cond x c d) Q L rs :=
  fun a w ha hw => wpIn_cond_split (ha.eval hx) (fun e => ht e a w ha hw) (fun e => hf e a w ha hw)
theorem sc_if {x : Operand} {p : Prop} [Decidable p] (hx : ev L x = some (.bool (decide p))) (ht : p → SC X c Q L rs) (hf : ¬ p → SC X d Q L rs) : SC X (.cond x c d) Q L rs :=
  sc_cond hx (fun e => ht (of_decide_eq_true e)) (fun e => hf (of_decide_eq_false e))
theorem sc_ifn {x : Operand} {p : Prop} [Decidable p] (hx : ev L x = some (.bool (!decide p))) (ht : ¬ p → SC X c Q L rs) (hf : p → SC X d Q L rs) : SC X (.cond x c d) Q L rs :=
  sc_cond hx (fun e => ht (by simpa using e)) (fun e => hf (by simpa using e))
theorem sc_t {x : Operand} (hx : ev L x = some (.bool true)) (h : SC X c Q L rs) : SC X (.cond x c d) Q L rs := sc_cond hx (fun _ => h) (fun e => by cases e)
theorem sc_f {x : Operand} (hx : ev L x = some (.bool false)) (h : SC X d Q L rs) : SC X (.cond x c d) Q L rs := sc_cond hx (fun e => by cases e) (fun _ => h)
theorem sc_region {i : Nat} {l : List Oper} (h : SQ X l.toArray Q l L rs) : SC X (.region i l.toArray false) Q L rs := fun a w ha hw => wpIn_region_lit (h a w ha hw)
theorem sq_nil {ops} (h : SX X Q .normal L rs) : SQ X ops Q [] L rs := h
theorem sc_sub {L' rs'} (hL : SubL L' L) (hr : Sel rs' rs) (h : SC X c Q L' rs') : SC X c Q L rs := fun a w ha hw => h a w (ha.sub hL) (hw.sel hr)
theorem sx_sub {L' rs' e} (hL : SubL L' L) (hr : Sel rs' rs) (h : SX X Q e L' rs') : SX X Q e L rs := fun a w ha hw => h a w (ha.sub hL) (hw.sel hr)
theorem sq_sub {L' rs' ops l} (hL : SubL L' L) (hr : Sel rs' rs) (h : SQ X ops Q l L' rs') : SQ X ops Q l L rs := fun a w ha hw => h a w (ha.sub hL) (hw.sel hr)
/-- the post of a loop's round -/
def Round (X : Ctx) {σ : Type} (I : σ → List (Nat × Value)) (B : σ → List Res) (C : σ → Prop) (m : σ → Nat) (Q : Post) (s : σ) : Post :=
  Exit.then (fun a w => ∃ s', C s' ∧ m s' < m s ∧ St X.N X.D (I s') a ∧ Hp X.w0 (B s') w) Q
theorem sc_loop {σ : Type} (I : σ → List (Nat × Value)) (B : σ → List Res) (C : σ → Prop) (m : σ → Nat) (s0 : σ) (hC : C s0) (hL : SubL (I s0) L) (hB : Sel (B s0) rs)
    (hb : ∀ s, C s → SC X c (Round X I B C m Q s) (I s) (B s)) : SC X (.loop c) Q L rs := by
  intro a w ha hw
  have key : ∀ n s, m s = n → C s → ∀ a w, St X.N X.D (I s) a → Hp X.w0 (B s) w → (Code.loop c).wpIn (FW X.r) 0 X.P Q a w := by
    intro n s hn hs a w ha hw
    refine wpIn_loop (fun a w => ∃ s, C s ∧ m s ≤ n ∧ St X.N X.D (I s) a ∧ Hp X.w0 (B s) w) (fun a w => Classical.epsilon fun k => ∃ s, C s ∧ m s = k ∧ St X.N X.D (I s) a ∧ Hp X.w0 (B s) w ∧ ∀ s', C s' → St X.N X.D (I s') a → Hp X.w0 (B s') w → k ≤ m s') ⟨s, hs, by omega, ha, hw⟩ ?_
    intro a w ⟨s1, h1, h2, h3, h4⟩
    have hex : ∃ k, ∃ s, C s ∧ m s = k ∧ St X.N X.D (I s) a ∧ Hp X.w0 (B s) w ∧ ∀ s', C s' → St X.N X.D (I s') a → Hp X.w0 (B s') w → k ≤ m s' := by
      have : ∀ k, ∀ s, C s → m s ≤ k → St X.N X.D (I s) a → Hp X.w0 (B s) w → ∃ k, ∃ s, C s ∧ m s = k ∧ St X.N X.D (I s) a ∧ Hp X.w0 (B s) w ∧ ∀ s', C s' → St X.N X.D (I s') a → Hp X.w0 (B s') w → k ≤ m s' := by
        intro k
        induction k with
        | zero => exact fun s h1 h2 h3 h4 => ⟨0, s, h1, by omega, h3, h4, fun _ _ _ _ => Nat.zero_le _⟩
        | succ k ih =>
          intro s h1 h2 h3 h4
          by_cases hmin : ∀ s', C s' → St X.N X.D (I s') a → Hp X.w0 (B s') w → m s ≤ m s'
          · exact ⟨m s, s, h1, rfl, h3, h4, hmin⟩
          · simp only [Classical.not_forall] at hmin
            obtain ⟨s', a1, a2, a3, a4⟩ := hmin
            exact ih s' a1 (by omega) a2 a3
      exact this (m s1) s1 h1 (Nat.le_refl _) h3 h4
    obtain ⟨s2, g1, g2, g3, g4, g5⟩ := Classical.epsilon_spec hex
    have hle : m s2 ≤ n := by
      have := g5 s1 h1 h3 h4
      omega
    refine wpIn_mono (hb s2 g1 a w g3 g4) ?_
    intro e a' w' hq
    cases e with
    | normal =>
      obtain ⟨s', q1, q2, q3, q4⟩ := hq
      refine ⟨⟨s', q1, by omega, q3, q4⟩, ?_⟩
      have hex' : ∃ k, ∃ s, C s ∧ m s = k ∧ St X.N X.D (I s) a' ∧ Hp X.w0 (B s) w' ∧ ∀ s', C s' → St X.N X.D (I s') a' → Hp X.w0 (B s') w' → k ≤ m s' := by
        have : ∀ k, ∀ s, C s → m s ≤ k → St X.N X.D (I s) a' → Hp X.w0 (B s) w' → ∃ k, ∃ s, C s ∧ m s = k ∧ St X.N X.D (I s) a' ∧ Hp X.w0 (B s) w' ∧ ∀ s', C s' → St X.N X.D (I s') a' → Hp X.w0 (B s') w' → k ≤ m s' := by
          intro k
          induction k with
          | zero => exact fun s h1 h2 h3 h4 => ⟨0, s, h1, by omega, h3, h4, fun _ _ _ _ => Nat.zero_le _⟩
          | succ k ih =>
            intro s h1 h2 h3 h4
            by_cases hmin : ∀ s', C s' → St X.N X.D (I s') a' → Hp X.w0 (B s') w' → m s ≤ m s'
            · exact ⟨m s, s, h1, rfl, h3, h4, hmin⟩
            · simp only [Classical.not_forall] at hmin
              obtain ⟨s', a1, a2, a3, a4⟩ := hmin
              exact ih s' a1 (by omega) a2 a3
        exact this (m s') s' q1 (Nat.le_refl _) q3 q4
      obtain ⟨s3, e1, e2, e3, e4, e5⟩ := Classical.epsilon_spec hex'
      have := e5 s' q1 q3 q4
      omega
    | _ => exact hq
  exact key _ s0 rfl hC a w (ha.sub hL) (hw.sel hB)
theorem sx_round {σ : Type} {I : σ → List (Nat × Value)} {B : σ → List Res} {C : σ → Prop} {m : σ → Nat} {s : σ} (s' : σ) (hC : C s') (hm : m s' < m s) (hL : SubL (I s') L) (hB : Sel (B s') rs) :
    SX X (Round X I B C m Q s) .normal L rs := fun _ _ ha hw => ⟨s', hC, hm, ha.sub hL, hw.sel hB⟩
theorem sx_round_exit {σ : Type} {I : σ → List (Nat × Value)} {B : σ → List Res} {C : σ → Prop} {m : σ → Nat} {s : σ} {i} (h : SX X Q (.exit i) L rs) : SX X (Round X I B C m Q s) (.exit i) L rs := h
theorem sx_round_ret {σ : Type} {I : σ → List (Nat × Value)} {B : σ → List Res} {C : σ → Prop} {m : σ → Nat} {s : σ} (h : SX X Q .ret L rs) : SX X (Round X I B C m Q s) .ret L rs := h
/-- what stands in between: ways meet again -/
def Mid (X : Ctx) (L' : List (Nat × Value)) (rs' : List Res) (Q : Post) : Post := Exit.then (fun a w => St X.N X.D L' a ∧ Hp X.w0 rs' w) Q
theorem sc_mid (L' : List (Nat × Value)) (rs' : List Res) (h : SC X c (Mid X L' rs' Q) L rs) (k : SX X Q .normal L' rs') : SC X c Q L rs := fun a w ha hw =>
  wpIn_mono (h a w ha hw) fun e a' w' hq => by cases e <;> first | exact hq | exact k a' w' hq.1 hq.2
theorem sx_mid {L' rs'} (hL : SubL L' L) (hB : Sel rs' rs) : SX X (Mid X L' rs' Q) .normal L rs := fun _ _ ha hw => ⟨ha.sub hL, hw.sel hB⟩
theorem sx_mid_exit {L' rs' i} (h : SX X Q (.exit i) L rs) : SX X (Mid X L' rs' Q) (.exit i) L rs := h
theorem sx_mid_ret {L' rs'} (h : SX X Q .ret L rs) : SX X (Mid X L' rs' Q) .ret L rs := h
end
/-- the arguments, in the first slots -/
def argL : Nat → List Value → List (Nat × Value)
  | _, [] => []
  | k, v :: vs => (k, v) :: argL (k + 1) vs
theorem lk_argL : ∀ (vs : List Value) (k i : Nat) (v : Value), lk (argL k vs) i = some v → k ≤ i ∧ vs[i - k]? = some v
  | [], _, _, _, h => by cases h
  | u :: vs, k, i, v, h => by
    simp only [argL] at h
    rw [lk_cons] at h
    by_cases e : k = i
    · subst e; simp at h; subst h; simp
    · simp [e] at h
      obtain ⟨h1, h2⟩ := lk_argL vs (k + 1) i v h
      refine ⟨by omega, ?_⟩
      have : i - k = (i - (k + 1)) + 1 := by omega
      rw [this]; simpa using h2
theorem calls_of_SC {P : Program} {f : FuncId} {fn : Func} {c : Code} {args : List Value} {w : World} {R : Ending → World → Prop} {N : Nat} (hf : P.funcs[f]? = some fn) (hb : fn.body = some c) (hN : fn.ntmps = N) (hn0 : Nat.ble args.length N = true)
    (h : SC ⟨none, P, N, [], w⟩ c (bodyPost P fn R) (argL 0 args) [.reg 0 w]) : Calls P f args.toArray w R := by
  have hn := Nat.le_of_ble_eq_true hn0
  refine calls_of_wp hf hb (wpIn_wide.1 (h _ w ⟨?_, rfl, fun i v hv => ?_⟩ (Hp.init w)))
  · simp [hN]; omega
  · obtain ⟨h1, h2⟩ := lk_argL args 0 i v hv
    simp at h2
    have hi : i < args.length := (List.getElem?_eq_some_iff.1 h2).1
    rw [Array.getElem?_append_left (by simpa using hi)]; simpa using h2

/-! ### short words: what is shown by looking -/
theorem RF {p : Prop} (h : p := by exact rfl) : p := h
theorem MM {p : Prop} (h : p := by repeat (first | exact .head _ | refine .tail _ ?_)) : p := h
theorem RM {p : Prop} (h : p := by repeat (first | exact Rem.here | apply Rem.there)) : p := h
theorem SE {p : Prop} (h : p := by repeat (first | exact Sel.nil | refine Sel.cons (by repeat (first | exact Rem.here | apply Rem.there)) ?_)) : p := h
theorem SU {p : Prop} (h : p := by repeat (first | exact SubL.nil | refine SubL.cons (by first | exact rfl | exact lk_int rfl (by omega) | exact lk_eq rfl (by simp)) ?_)) : p := h
end Go.Eng

/- The engine, part 2: single operations. -/
namespace Go.Eng
open Go Go.RowKit

/-- op yields v in every world of the class, and leaves a world of the class -/
def OpY (X : Ctx) (L : List (Nat × Value)) (rs : List Res) (op : Op) (ty : TypeId) (v : Value) : Prop :=
  ∀ o : Oper, o.op = op → o.type = ty → ∀ a w, St X.N X.D L a → Hp X.w0 rs w → Oper.quietAt X.P o a (Hp X.w0 rs) w v
section
variable {X : Ctx} {Q : Post} {L : List (Nat × Value)} {rs : List Res} {ops : Array Oper} {rest : List Oper} {op : Op} {ty : TypeId} {v : Value} {d : Nat} {pos : String} {af : Array Edge}
/-- op leaves the world alone -/
def OpS (X : Ctx) (L : List (Nat × Value)) (rs : List Res) (op : Op) (ty : TypeId) (v : Value) : Prop :=
  ∀ o : Oper, o.op = op → o.type = ty → ∀ a w, St X.N X.D L a → Hp X.w0 rs w → (execOp a.eval o).run X.P w = .ok (.value v) w
theorem OpS.val (h : ∀ o : Oper, o.op = op → o.type = ty → ∀ a w, St X.N X.D L a → Hp X.w0 rs w → (execOp a.eval o).run X.P w = .ok (.value v) w) : OpS X L rs op ty v := h
theorem OpY.s (h : OpS X L rs op ty v) : OpY X L rs op ty v := fun o h1 h2 a w ha hw => by
  unfold Oper.quietAt; rw [h o h1 h2 a w ha hw]; exact ⟨rfl, rfl⟩
theorem OpY.notDefer (h : OpY X L rs op ty v) {o : Oper} (h1 : o.op = op) (h2 : o.type = ty) {a w} (ha : St X.N X.D L a) (hw : Hp X.w0 rs w) : ∀ c, o.op ≠ .defer c := by
  intro c hc
  have hq := h o h1 h2 a w ha hw
  unfold Oper.quietAt execOp at hq
  rw [hc] at hq
  simp only [Sem.run_bind] at hq
  generalize (resolve a.eval c o.type).run X.P w = r at hq
  cases r with
  | ok d w' => simp [Oper.quietUpon] at hq
  | halt x w' => simp [Oper.quietUpon] at hq
/-- an operation's run, in a sequence -/
theorem wpIn_of_quiet (h : OpY X L rs op ty v) {o : Oper} (h1 : o.op = op) (h2 : o.type = ty) {a w} (ha : St X.N X.D L a) (hw : Hp X.w0 rs w) {K : Act → World → Prop}
    (hk : ∀ w', Hp X.w0 rs w' → K (a.put o.dst v) w') : o.wpIn (FW X.r) 0 X.P a w K Q := by
  refine ⟨fun _ _ => trivial, ?_⟩
  have hq := h o h1 h2 a w ha hw
  have hnd := h.notDefer h1 h2 ha hw
  rw [Oper.semAt_eq _ _ _ hnd]
  unfold Oper.quietAt at hq
  generalize (execOp a.eval o).run X.P w = r at hq
  cases r with
  | ok n w' =>
    cases n <;> simp only [Oper.quietUpon] at hq
    case value u => obtain ⟨rfl, rfl⟩ := hq; exact hk _ hw
    case skip => obtain ⟨rfl, rfl⟩ := hq; exact hk _ hw
    case enter f args =>
      obtain ⟨rfl, hc⟩ := hq
      refine ⟨fun h => (by cases h), callsIn_FW (hc.mono fun e w'' ⟨he, hw''⟩ => ?_)⟩
      subst he
      exact hk _ hw''
  | halt x w' => simp only [Oper.quietUpon] at hq
theorem sq_y (hy : OpY X L rs op ty v) (hd : Nat.ble (d + 1) X.N = true) (k : SQ X ops Q rest ((d, v) :: L) rs) : SQ X ops Q (⟨some d, op, ty, pos, af, none⟩ :: rest) L rs := by
  intro a w ha hw
  refine wpListIn_plain rfl fun K hK => wpIn_of_quiet hy rfl rfl ha hw fun w' hw' => hK _ _ (k _ _ (ha.put (Nat.le_of_ble_eq_true hd) v) hw')
theorem sq_y0 (hy : OpY X L rs op ty v) (k : SQ X ops Q rest L rs) : SQ X ops Q (⟨none, op, ty, pos, af, none⟩ :: rest) L rs := by
  intro a w ha hw
  exact wpListIn_plain rfl fun K hK => wpIn_of_quiet hy rfl rfl ha hw fun w' hw' => hK _ _ (k _ _ ha hw')
theorem yielded_of {a : Act} (ha : St X.N X.D L a) {j t : Nat} {b : Bool} (hj : (ops[j]?).bind (·.dst) = some t) (ht : lk L t = some (.bool b)) : yielded ops a.tmps j = some b := by
  unfold yielded
  rw [hj]
  simp [ha.get t _ ht]
theorem sq_gt {j t : Nat} {b : Bool} (hj : (ops[j]?).bind (·.dst) = some t) (ht : lk L t = some (.bool b)) (hy : OpY X L rs op ty v) (hd : Nat.ble (d + 1) X.N = true) (k : SQ X ops Q rest ((d, v) :: L) rs) :
    SQ X ops Q (⟨some d, op, ty, pos, af, some (j, b)⟩ :: rest) L rs := by
  intro a w ha hw
  refine wpListIn_step fun K hK => ?_
  have : Region.wanted ⟨some d, op, ty, pos, af, some (j, b)⟩ (yielded ops a.tmps) = true := by simp [Region.wanted, yielded_of ha hj ht]
  rw [if_pos this]
  exact wpIn_of_quiet hy rfl rfl ha hw fun w' hw' => hK _ _ (k _ _ (ha.put (Nat.le_of_ble_eq_true hd) v) hw')
theorem sq_gf {j t : Nat} {b b' : Bool} (hj : (ops[j]?).bind (·.dst) = some t) (ht : lk L t = some (.bool b')) (hb : b' = !b) (hd : Nat.ble (d + 1) X.N = true) (k : SQ X ops Q rest ((d, undef) :: L) rs) :
    SQ X ops Q (⟨some d, op, ty, pos, af, some (j, b)⟩ :: rest) L rs := by
  intro a w ha hw
  refine wpListIn_step fun K hK => ?_
  have : ¬ Region.wanted ⟨some d, op, ty, pos, af, some (j, b)⟩ (yielded ops a.tmps) = true := by subst hb; simp [Region.wanted, yielded_of ha hj ht]
  rw [if_neg this]
  exact ⟨fun _ _ => trivial, hK _ _ (k _ _ (ha.put (Nat.le_of_ble_eq_true hd) undef) hw)⟩

/-! ### regions that draw their order -/
def QQ (X : Ctx) (ops : Array Oper) (Q : Post) (l : List Oper) (L : List (Nat × Value)) (rs : List Res) : Prop :=
  ∀ a, St X.N X.D L a → wpQuiet X.P ops (Hp X.w0 rs) (fun a' => ∀ w', Hp X.w0 rs w' → Q .normal a' w') l a
theorem qq_nil (h : SX X Q .normal L rs) : QQ X ops Q [] L rs := fun a ha => fun w' hw' => h a w' ha hw'
theorem qq_y (hy : OpY X L rs op ty v) (hd : Nat.ble (d + 1) X.N = true) (k : QQ X ops Q rest ((d, v) :: L) rs) : QQ X ops Q (⟨some d, op, ty, pos, af, none⟩ :: rest) L rs := by
  intro a ha
  unfold wpQuiet
  rw [if_pos (by simp [Region.wanted])]
  exact ⟨v, fun w hw => hy _ rfl rfl a w ha hw, k _ (ha.put (Nat.le_of_ble_eq_true hd) v)⟩
theorem qq_gt {j t : Nat} {b : Bool} (hj : (ops[j]?).bind (·.dst) = some t) (ht : lk L t = some (.bool b)) (hy : OpY X L rs op ty v) (hd : Nat.ble (d + 1) X.N = true) (k : QQ X ops Q rest ((d, v) :: L) rs) :
    QQ X ops Q (⟨some d, op, ty, pos, af, some (j, b)⟩ :: rest) L rs := by
  intro a ha
  unfold wpQuiet
  rw [if_pos (by simp [Region.wanted, yielded_of ha hj ht])]
  exact ⟨v, fun w hw => hy _ rfl rfl a w ha hw, k _ (ha.put (Nat.le_of_ble_eq_true hd) v)⟩
theorem qq_gf {j t : Nat} {b b' : Bool} (hj : (ops[j]?).bind (·.dst) = some t) (ht : lk L t = some (.bool b')) (hb : b' = !b) (hd : Nat.ble (d + 1) X.N = true) (k : QQ X ops Q rest ((d, undef) :: L) rs) :
    QQ X ops Q (⟨some d, op, ty, pos, af, some (j, b)⟩ :: rest) L rs := by
  intro a ha
  unfold wpQuiet
  rw [if_neg (by subst hb; simp [Region.wanted, yielded_of ha hj ht])]
  exact k _ (ha.put (Nat.le_of_ble_eq_true hd) undef)
theorem sc_draw {i : Nat} {l : List Oper} (hr : X.r = none) (hm : X.P.follows .mixedOrders = true) (hB : Region.lexB .any l.toArray = true) (h : QQ X l.toArray Q l L rs) : SC X (.region i l.toArray true) Q L rs := by
  intro a w ha hw
  rw [hr]
  refine wpIn_wide.2 (wp_region_quiet hm hB hw.drew ?_)
  exact h a ha

/-! ### the operations that only reckon -/
theorem y_move {x} (hx : ev L x = some v) : OpS X L rs (.move x) ty v := .val fun o h1 _ a w ha _ => by
  simp [execOp, h1, ha.eval hx]
theorem y_assign {x} (hx : ev L x = some v) : OpS X L rs (.assign x) ty v := .val fun o h1 _ a w ha _ => by
  simp [execOp, h1, ha.eval hx]
theorem y_pick_t {c x y} (hc : ev L c = some (.bool true)) (hx : ev L x = some v) : OpS X L rs (.pick c x y) ty v := .val fun o h1 _ a w ha _ => by
  simp [execOp, h1, ha.eval hc, ha.eval hx, asBool]
theorem y_pick_f {c x y} (hc : ev L c = some (.bool false)) (hy : ev L y = some v) : OpS X L rs (.pick c x y) ty v := .val fun o h1 _ a w ha _ => by
  simp [execOp, h1, ha.eval hc, ha.eval hy, asBool]
variable {k : IntKind} {m n : Int} {x y : Operand} {t t' : TypeId}
theorem wrap64_in {z : Int} (h1 : -9223372036854775808 ≤ z) (h2 : z ≤ 9223372036854775807) : IntKind.i64.wrap z = z := by rw [IntKind.wrap_i64]; omega
theorem y_add (hx : ev L x = some (.int .i64 m)) (hy : ev L y = some (.int .i64 n)) (hb : -9223372036854775808 ≤ m + n ∧ m + n ≤ 9223372036854775807) : OpS X L rs (.binOp .add t x y t') ty (.int .i64 (m + n)) := .val fun o h1 _ a w ha _ => by
  simp [execOp, h1, ha.eval hx, ha.eval hy, binOp, eqGuard, Op.intArith, wrap64_in hb.1 hb.2]
theorem y_sub (hx : ev L x = some (.int .i64 m)) (hy : ev L y = some (.int .i64 n)) (hb : -9223372036854775808 ≤ m - n ∧ m - n ≤ 9223372036854775807) : OpS X L rs (.binOp .sub t x y t') ty (.int .i64 (m - n)) := .val fun o h1 _ a w ha _ => by
  simp [execOp, h1, ha.eval hx, ha.eval hy, binOp, eqGuard, Op.intArith, wrap64_in hb.1 hb.2]
theorem y_mul (hx : ev L x = some (.int .i64 m)) (hy : ev L y = some (.int .i64 n)) (hb : -9223372036854775808 ≤ m * n ∧ m * n ≤ 9223372036854775807) : OpS X L rs (.binOp .mul t x y t') ty (.int .i64 (m * n)) := .val fun o h1 _ a w ha _ => by
  simp [execOp, h1, ha.eval hx, ha.eval hy, binOp, eqGuard, Op.intArith, wrap64_in hb.1 hb.2]
/-- sums that are only looked at by their value modulo 2^64 -/
theorem y_addw (hx : ev L x = some (.int k m)) (hy : ev L y = some (.int k n)) : OpS X L rs (.binOp .add t x y t') ty (.int k (k.wrap (m + n))) := .val fun o h1 _ a w ha _ => by
  simp [execOp, h1, ha.eval hx, ha.eval hy, binOp, eqGuard, Op.intArith]
theorem y_subw (hx : ev L x = some (.int k m)) (hy : ev L y = some (.int k n)) : OpS X L rs (.binOp .sub t x y t') ty (.int k (k.wrap (m - n))) := .val fun o h1 _ a w ha _ => by
  simp [execOp, h1, ha.eval hx, ha.eval hy, binOp, eqGuard, Op.intArith]
theorem y_quo (hx : ev L x = some (.int .i64 m)) (hy : ev L y = some (.int .i64 n)) (hm : 0 ≤ m ∧ m ≤ 9223372036854775807) (hn : 0 < n) : OpS X L rs (.binOp .quo t x y t') ty (.int .i64 (m / n)) := .val fun o h1 _ a w ha _ => by
  have h0 : 0 ≤ m / n := Int.ediv_nonneg hm.1 (by omega)
  have h2 : m / n ≤ m := Int.ediv_le_self n hm.1
  have hn0 : n ≠ 0 := by omega
  simp [execOp, h1, ha.eval hx, ha.eval hy, binOp, eqGuard, Op.intDiv, hn0, Int.tdiv_eq_ediv_of_nonneg hm.1, wrap64_in (z := m / n) (by omega) (by omega)]
theorem y_rem (hx : ev L x = some (.int k m)) (hy : ev L y = some (.int k n)) (hm : 0 ≤ m) (hn : 0 < n) : OpS X L rs (.binOp .rem t x y t') ty (.int k (m % n)) := .val fun o h1 _ a w ha _ => by
  have hn0 : n ≠ 0 := by omega
  simp [execOp, h1, ha.eval hx, ha.eval hy, binOp, eqGuard, Op.intDiv, hn0, Int.tmod_eq_emod_of_nonneg hm]
theorem y_lss (hx : ev L x = some (.int k m)) (hy : ev L y = some (.int k n)) : OpS X L rs (.binOp .lss t x y t') ty (.bool (decide (m < n))) := .val fun o h1 _ a w ha _ => by
  simp [execOp, h1, ha.eval hx, ha.eval hy, binOp, eqGuard, Op.intCmp]
theorem y_leq (hx : ev L x = some (.int k m)) (hy : ev L y = some (.int k n)) : OpS X L rs (.binOp .leq t x y t') ty (.bool (decide (m ≤ n))) := .val fun o h1 _ a w ha _ => by
  simp [execOp, h1, ha.eval hx, ha.eval hy, binOp, eqGuard, Op.intCmp]
theorem y_gtr (hx : ev L x = some (.int k m)) (hy : ev L y = some (.int k n)) : OpS X L rs (.binOp .gtr t x y t') ty (.bool (decide (n < m))) := .val fun o h1 _ a w ha _ => by
  simp [execOp, h1, ha.eval hx, ha.eval hy, binOp, eqGuard, Op.intCmp]
theorem y_geq (hx : ev L x = some (.int k m)) (hy : ev L y = some (.int k n)) : OpS X L rs (.binOp .geq t x y t') ty (.bool (decide (n ≤ m))) := .val fun o h1 _ a w ha _ => by
  simp [execOp, h1, ha.eval hx, ha.eval hy, binOp, eqGuard, Op.intCmp]
theorem beq_dec (m n : Int) : (m == n) = decide (m = n) := by rw [Bool.eq_iff_iff]; simp
theorem y_eql (hx : ev L x = some (.int k m)) (hy : ev L y = some (.int k n)) : OpS X L rs (.binOp .eql t x y t') ty (.bool (decide (m = n))) := .val fun o h1 _ a w ha _ => by
  simp [execOp, h1, ha.eval hx, ha.eval hy, binOp, eqGuard, Op.intCmp, beq_dec]
theorem y_neq (hx : ev L x = some (.int k m)) (hy : ev L y = some (.int k n)) : OpS X L rs (.binOp .neq t x y t') ty (.bool (!decide (m = n))) := .val fun o h1 _ a w ha _ => by
  simp [execOp, h1, ha.eval hx, ha.eval hy, binOp, eqGuard, Op.intCmp, bne, beq_dec]
theorem y_eqlb {p q : Bool} (ht : X.P.underlying t = some .bool) (hx : ev L x = some (.bool p)) (hy : ev L y = some (.bool q)) : OpS X L rs (.binOp .eql t x y t') ty (.bool (p == q)) := .val fun o h1 _ a w ha _ => by
  simp [execOp, h1, ha.eval hx, ha.eval hy, eqGuard, run_eql_bool _ t _ _ ht]
theorem y_neqb {p q : Bool} (ht : X.P.underlying t = some .bool) (hx : ev L x = some (.bool p)) (hy : ev L y = some (.bool q)) : OpS X L rs (.binOp .neq t x y t') ty (.bool (!(p == q))) := .val fun o h1 _ a w ha _ => by
  simp [execOp, h1, ha.eval hx, ha.eval hy, eqGuard, run_neq_bool _ t _ _ ht]
theorem y_not {p : Bool} (hx : ev L x = some (.bool p)) : OpS X L rs (.unOp .not t x) ty (.bool (!p)) := .val fun o h1 _ a w ha _ => by
  simp [execOp, h1, ha.eval hx, Op.unary]
theorem y_neg (hx : ev L x = some (.int .i64 m)) (hb : -9223372036854775808 < m ∧ m ≤ 9223372036854775807) : OpS X L rs (.unOp .neg t x) ty (.int .i64 (-m)) := .val fun o h1 _ a w ha _ => by
  simp [execOp, h1, ha.eval hx, Op.unary, Op.intArith, wrap64_in (z := -m) (by omega) (by omega)]
theorem y_extract {vs : Array Value} {i : Nat} (hx : ev L x = some (.tuple vs)) (hi : vs[i]? = some v) : OpS X L rs (.extract x i) ty v := .val fun o h1 _ a w ha _ => by
  simp [execOp, h1, ha.eval hx, Instr.extract, hi]
theorem y_len {a0 : Option Addr} {ln cp : Nat} {e : TypeId} (hu : X.P.underlying t = some (.slice e)) (hx : ev L x = some (.slice a0 ln cp)) :
    OpS X L rs (.call { callee := .builtin .len, args := #[x], argTypes := #[t] }) ty (.int .i64 ln) := .val fun o h1 _ a w ha _ => by
  simp [execOp, h1, resolve, invoke, builtin, ha.eval hx, Builtin.len_, run_underlying hu, goInt]
theorem min_if (m n : Int) : (if n < m then n else m) = min m n := by omega
theorem max_if (m n : Int) : (if n > m then n else m) = max m n := by omega
theorem y_min {ts} (hx : ev L x = some (.int k m)) (hy : ev L y = some (.int k n)) : OpS X L rs (.call { callee := .builtin .min, args := #[x, y], argTypes := ts }) ty (.int k (min m n)) := .val fun o h1 _ a w ha _ => by
  simp only [execOp, h1, resolve, Sem.run_bind, Sem.run_pure, Result.andThen_ok, invoke, builtin, List.map_toArray, List.map_cons, List.map_nil, ha.eval hx, ha.eval hy, run_min_int2, min_if]
theorem y_max {ts} (hx : ev L x = some (.int k m)) (hy : ev L y = some (.int k n)) : OpS X L rs (.call { callee := .builtin .max, args := #[x, y], argTypes := ts }) ty (.int k (max m n)) := .val fun o h1 _ a w ha _ => by
  simp only [execOp, h1, resolve, Sem.run_bind, Sem.run_pure, Result.andThen_ok, invoke, builtin, List.map_toArray, List.map_cons, List.map_nil, ha.eval hx, ha.eval hy, run_max_int2, max_if]
theorem y_conv {dk : IntKind} {d0} (hs : X.P.underlying t = some d0) (hd : X.P.underlying t' = some (.int dk)) (hx : ev L x = some (.int k n)) (hw : dk.wrap n = n) : OpS X L rs (.convert t t' x) ty (.int dk n) := .val fun o h1 _ a w ha _ => by
  simp [execOp, h1, ha.eval hx, convert, run_underlying hs, run_underlying hd]
  cases d0 <;> simp [Conv.intToInt, hw]
end
end Go.Eng

/- The engine, part 3: memory. -/
namespace Go.Eng
open Go Go.RowKit

def scal : TypeDesc → Bool
  | .struct _ | .array _ _ => false
  | _ => true
theorem run_isAgg_scal {P : Program} {t d} (hu : P.underlying t = some d) (hs : scal d = true) (w : World) : (isAgg t).run P w = .ok false w := by
  simp only [isAgg, Sem.run_bind, run_underlying hu, Result.andThen_ok]
  cases d <;> first | rfl | cases hs
theorem run_isAgg_agg {P : Program} {t d} (hu : P.underlying t = some d) (hs : scal d = false) (w : World) : (isAgg t).run P w = .ok true w := by
  simp only [isAgg, Sem.run_bind, run_underlying hu, Result.andThen_ok]
  cases d <;> first | rfl | cases hs
theorem run_loadVar_scal {P : Program} {t d p v} {w : World} (hu : P.underlying t = some d) (hs : scal d = true) (hc : w.cell? p = some v) : (loadVar t p).run P w = .ok v w := by
  simp [loadVar, run_isAgg_scal hu hs, hc]
theorem run_loadVar_agg {P : Program} {t d p n} {w : World} {vs : List Value} (hu : P.underlying t = some d) (hs : scal d = false) (hz : ∀ w, (Go.sizeOf t).run P w = .ok n w) (hl : vs.length = n)
    (hc : ∀ j v, vs[j]? = some v → w.cell? (p.add j) = some v) : (loadVar t p).run P w = .ok (.agg vs.toArray) w := by
  have := run_loadCells_list (P := P) w p vs hc
  rw [hl] at this
  simp [loadVar, run_isAgg_agg hu hs, hz, this]
theorem Addr.add_zero' (p : Addr) : p.add 0 = p := rfl

/-! the cells of a region -/
def CA (lo : Nat) (wr : World) (p : Addr) (vs : List Value) : Prop := lo ≤ p.block ∧ ∀ j v, vs[j]? = some v → wr.cell? (p.add j) = some v
theorem Addr.add_block (p : Addr) (n : Nat) : (p.add n).block = p.block := by unfold Addr.add; split <;> rfl
theorem cell_reg {w0 rs w lo wr} (h : Hp w0 rs w) (hm : Res.reg lo wr ∈ rs) {p : Addr} {v : Value} (hlo : lo ≤ p.block) (hc : wr.cell? p = some v) : w.cell? p = some v := by
  have hlt := block_lt_of_cell hc
  exact (World.cell?_of_block (w := wr) ((h.ok _ hm).2 _ hlo hlt)).trans hc
/-- a slice in a region: row after row -/
def elt (a : Option Addr) (i sz : Nat) : Addr := (a.getD ⟨0, 0, none⟩).add (i * sz)
def SlA (lo : Nat) (wr : World) (sz : Nat) (a : Option Addr) (rows : List (List Value)) : Prop :=
  ∀ i row, rows[i]? = some row → a.isSome = true ∧ row.length = sz ∧ CA lo wr (elt a i sz) row

section
variable {X : Ctx} {Q : Post} {L : List (Nat × Value)} {rs : List Res} {ops : Array Oper} {rest : List Oper} {op : Op} {ty t e : TypeId} {v u : Value} {d n : Nat} {pos : String} {af : Array Edge} {x y : Operand} {d0 : TypeDesc}
/-! ### addresses -/
theorem y_fa {S f k : Nat} {fs : Array Field} {fld : Field} {p : Addr} {n : Nat} (hu : X.P.underlying S = some (.struct fs)) (hf : fs[f]? = some fld) (hz : ∀ w, (Go.sizeOf fld.type).run X.P w = .ok (n + 1) w) (hx : ev L x = some (.pointer (some p))) (hk : fld.offset = k) :
    OpS X L rs (.fieldAddr S x f) ty (.pointer (some (p.add k))) := .val fun o h1 _ a w ha _ => by
  simp [execOp, h1, ha.eval hx, Instr.fieldAt, run_underlying hu, hf, Instr.sureAddr, fieldPlace, hz, hk]
theorem y_fab {S f k b o : Nat} {fs : Array Field} {fld : Field} {n : Nat} (hu : X.P.underlying S = some (.struct fs)) (hf : fs[f]? = some fld) (hz : ∀ w, (Go.sizeOf fld.type).run X.P w = .ok (n + 1) w) (hx : ev L x = some (.pointer (some ⟨b, o, none⟩))) (hk : fld.offset = k) :
    OpS X L rs (.fieldAddr S x f) ty (.pointer (some ⟨b, o + k, none⟩)) := by
  have := y_fa (rs := rs) (ty := ty) hu hf hz hx hk
  rwa [Addr.add_lit] at this
/-- an index, at a slice: its own block's head -/
theorem y_ia_blk {b o ln cp sz i : Nat} {k : IntKind} (hu : X.P.underlying t = some (.slice e)) (hz : ∀ w, (Go.sizeOf e).run X.P w = .ok sz w) (hx : ev L x = some (.slice (some ⟨b, o, none⟩) ln cp)) (hy : ev L y = some (.int k (i : Int))) (hi : i < ln) :
    OpS X L rs (.indexAddr t x y) ty (.pointer (some ⟨b, o + i * sz, none⟩)) := .val fun o' h1 _ a w ha _ => by
  simp [execOp, h1, ha.eval hx, ha.eval hy, Instr.indexAt, asIntOf, run_underlying hu, hi, hz, Addr.add_lit]
theorem y_ia_el {a0 : Option Addr} {ln cp sz i : Nat} {k : IntKind} (hu : X.P.underlying t = some (.slice e)) (hz : ∀ w, (Go.sizeOf e).run X.P w = .ok sz w) (hx : ev L x = some (.slice a0 ln cp)) (hy : ev L y = some (.int k (i : Int))) (hi : i < ln) (ha0 : a0.isSome = true) :
    OpS X L rs (.indexAddr t x y) ty (.pointer (some (elt a0 i sz))) := .val fun o' h1 _ a w ha _ => by
  cases a0 with
  | none => cases ha0
  | some p => simp [execOp, h1, ha.eval hx, ha.eval hy, Instr.indexAt, asIntOf, run_underlying hu, hi, hz, elt]
theorem y_ia_arr {b o ln sz i : Nat} {k : IntKind} (hu : X.P.underlying t = some (.array ln e)) (hz : ∀ w, (Go.sizeOf e).run X.P w = .ok sz w) (hx : ev L x = some (.pointer (some ⟨b, o, none⟩))) (hy : ev L y = some (.int k (i : Int))) (hi : i < ln) :
    OpS X L rs (.indexAddr t x y) ty (.pointer (some ⟨b, o + i * sz, none⟩)) := .val fun o' h1 _ a w ha _ => by
  simp [execOp, h1, ha.eval hx, ha.eval hy, Instr.indexAt, Instr.sureAddr, asIntOf, run_underlying hu, hi, hz, Addr.add_lit]
/-! ### loads -/
theorem cell_blk {w0 w : World} (h : Hp w0 rs w) {b o : Nat} {cs : Array Value} {e : TypeId} {fz : Nat × Nat} (hm : Res.blk b (.cells cs e fz) ∈ rs) : w.cell? ⟨b, o, none⟩ = cs[o]? := cell_of_row w b o cs e fz (h.ok _ hm)
theorem y_load_blk {b o : Nat} {cs : Array Value} {fz : Nat × Nat} (hu : X.P.underlying t = some d0) (hs : scal d0 = true) (hx : ev L x = some (.pointer (some ⟨b, o, none⟩))) (hm : Res.blk b (.cells cs e fz) ∈ rs) (hc : cs[o]? = some v) :
    OpS X L rs (.load t x) ty v := .val fun o' h1 _ a w ha hw => by
  simp [execOp, h1, ha.eval hx, Instr.loadAt, Instr.sureAddr, run_loadVar_scal hu hs ((cell_blk hw hm).trans hc)]
theorem y_load_blks {b o : Nat} {cs : Array Value} {fz : Nat × Nat} (vs : List Value) (hu : X.P.underlying t = some d0) (hs : scal d0 = false) (hz : ∀ w, (Go.sizeOf t).run X.P w = .ok n w) (hx : ev L x = some (.pointer (some ⟨b, o, none⟩))) (hm : Res.blk b (.cells cs e fz) ∈ rs)
    (hl : vs.length = n) (hc : ∀ j v, vs[j]? = some v → cs[o + j]? = some v) : OpS X L rs (.load t x) ty (.agg vs.toArray) := .val fun o' h1 _ a w ha hw => by
  have := run_loadVar_agg (P := X.P) (p := ⟨b, o, none⟩) (w := w) hu hs hz hl (fun j v hj => by rw [Addr.add_lit]; exact (cell_blk hw hm).trans (hc j v hj))
  simp [execOp, h1, ha.eval hx, Instr.loadAt, Instr.sureAddr, this]
/-- the whole of a block -/
theorem y_load_all {b : Nat} {vs : List Value} {fz : Nat × Nat} (hu : X.P.underlying t = some d0) (hs : scal d0 = false) (hz : ∀ w, (Go.sizeOf t).run X.P w = .ok n w) (hx : ev L x = some (.pointer (some ⟨b, 0, none⟩))) (hm : Res.blk b (.cells vs.toArray e fz) ∈ rs)
    (hl : vs.length = n) : OpS X L rs (.load t x) ty (.agg vs.toArray) := y_load_blks vs hu hs hz hx hm hl (fun j v hj => by simpa using hj)
theorem y_load_2 {b o : Nat} {cs : Array Value} {fz : Nat × Nat} {u0 u1 : Value} (hu : X.P.underlying t = some d0) (hs : scal d0 = false) (hz : ∀ w, (Go.sizeOf t).run X.P w = .ok 2 w) (hx : ev L x = some (.pointer (some ⟨b, o, none⟩))) (hm : Res.blk b (.cells cs e fz) ∈ rs)
    (h0 : cs[o]? = some u0) (h1 : cs[o + 1]? = some u1) : OpS X L rs (.load t x) ty (.agg #[u0, u1]) := y_load_blks [u0, u1] hu hs hz hx hm rfl (fun j v hj => by
  rcases j with _ | _ | j
  · simp at hj; subst hj; exact h0
  · simp at hj; subst hj; exact h1
  · simp at hj)
theorem y_load_reg {lo : Nat} {wr : World} {p : Addr} (hu : X.P.underlying t = some d0) (hs : scal d0 = true) (hx : ev L x = some (.pointer (some p))) (hm : Res.reg lo wr ∈ rs) (hlo : lo ≤ p.block) (hc : wr.cell? p = some v) :
    OpS X L rs (.load t x) ty v := .val fun o' h1 _ a w ha hw => by
  simp [execOp, h1, ha.eval hx, Instr.loadAt, Instr.sureAddr, run_loadVar_scal hu hs (cell_reg hw hm hlo hc)]
theorem y_load_ca {lo : Nat} {wr : World} {p : Addr} {vs : List Value} (hu : X.P.underlying t = some d0) (hs : scal d0 = false) (hz : ∀ w, (Go.sizeOf t).run X.P w = .ok n w) (hx : ev L x = some (.pointer (some p))) (hm : Res.reg lo wr ∈ rs) (hc : CA lo wr p vs) (hl : vs.length = n) :
    OpS X L rs (.load t x) ty (.agg vs.toArray) := .val fun o' h1 _ a w ha hw => by
  have := run_loadVar_agg (P := X.P) (p := p) (w := w) hu hs hz hl (fun j v hj => cell_reg hw hm (by rw [Addr.add_block]; exact hc.1) (hc.2 j v hj))
  simp [execOp, h1, ha.eval hx, Instr.loadAt, Instr.sureAddr, this]
/-- a cell of a row of a region: at an address with an offset, and at the head -/
theorem y_load_caj {lo j : Nat} {wr : World} {p : Addr} {vs : List Value} (hu : X.P.underlying t = some d0) (hs : scal d0 = true) (hx : ev L x = some (.pointer (some (p.add j)))) (hm : Res.reg lo wr ∈ rs) (hc : CA lo wr p vs) (hv : vs[j]? = some v) :
    OpS X L rs (.load t x) ty v := y_load_reg hu hs hx hm (by rw [Addr.add_block]; exact hc.1) (hc.2 j v hv)
theorem y_load_ca0 {lo : Nat} {wr : World} {p : Addr} {vs : List Value} (hu : X.P.underlying t = some d0) (hs : scal d0 = true) (hx : ev L x = some (.pointer (some p))) (hm : Res.reg lo wr ∈ rs) (hc : CA lo wr p vs) (hv : vs[0]? = some v) :
    OpS X L rs (.load t x) ty v := y_load_reg hu hs hx hm hc.1 (hc.2 0 v hv)
/-- a cell of an own slice -/
theorem own_cell {w0 w : World} (h : Hp w0 rs w) {b o ln cp sz m : Nat} {xs : List Value} (hm : Res.own (.slice (some ⟨b, 0, none⟩) ln cp) e sz m xs ∈ rs) (hc : xs[o]? = some v) : w.cell? ⟨b, o, none⟩ = some v := by
  have := World.ownsRow.cells (h.ok _ hm) (g := b) rfl o v hc
  rwa [Addr.add_lit, Nat.zero_add] at this
/-! ### stores, new variables -/
theorem setCell_heap {w : World} {b o : Nat} {cs : Array Value} {e : TypeId} (hg : w.heap[b]? = some (.cells cs e (0, 0))) (u : Value) : (w.setCell ⟨b, o, none⟩ u).heap[b]? = some (.cells (cs.setIfInBounds o u) e (0, 0)) := by
  simp [World.setCell, Array.getElem?_modify, hg]
theorem hp_store {w0 w : World} {rest' : List Res} (h : Hp w0 rs w) {b o : Nat} {cs : Array Value} (hr : Rem (.blk b (.cells cs e (0, 0))) rs rest') (u : Value) : Hp w0 (.blk b (.cells (cs.setIfInBounds o u) e (0, 0)) :: rest') (w.setCell ⟨b, o, none⟩ u) :=
  h.swap hr _ rfl rfl rfl (by simp) (fun k _ hd => heap_setCell_other w _ k u (fun e => hd e)) (setCell_heap (h.ok _ hr.mem.1) u) (fun k hk => .inl hk)
theorem run_storeVar_one {P : Program} {t p u} {w : World} (hz : ∀ w, (Go.sizeOf t).run P w = .ok 1 w) (h1 : u.oneCell' = true) (hc : (w.cell? p).isSome = true) (hf : w.frozen? p = false) : (storeVar t p u).run P w = .ok () (w.setCell p u) := by
  have hcs : u.cells = #[u] := by cases u <;> first | rfl | cases h1
  have hst := run_store P w p u .plain h1
  cases hcc : w.cell? p with
  | none => rw [hcc] at hc; cases hc
  | some u0 =>
    rw [hcc] at hst
    simp [hf] at hst
    simp [storeVar, hcs, hz, storeCells, Addr.add_zero', hst]
theorem sq_store {b o : Nat} {cs : Array Value} {rest' : List Res} (hz : ∀ w, (Go.sizeOf t).run X.P w = .ok 1 w) (hx : ev L x = some (.pointer (some ⟨b, o, none⟩))) (hy : ev L y = some u) (h1 : u.oneCell' = true) (hr : Rem (.blk b (.cells cs e (0, 0))) rs rest') (ho : o < cs.size)
    (k : SQ X ops Q rest L (.blk b (.cells (cs.setIfInBounds o u) e (0, 0)) :: rest')) : SQ X ops Q (⟨none, .store t x y, ty, pos, af, none⟩ :: rest) L rs := by
  intro a w ha hw
  refine wpListIn_plain rfl fun K hK => ⟨fun _ _ => trivial, ?_⟩
  have hok := hw.ok _ hr.mem.1
  have hcell : w.cell? ⟨b, o, none⟩ = cs[o]? := cell_of_row w b o cs e (0, 0) hok
  have hrun : (execOp a.eval ⟨none, .store t x y, ty, pos, af, none⟩).run X.P w = .ok .skip (w.setCell ⟨b, o, none⟩ u) := by
    simp [execOp, ha.eval hx, ha.eval hy, Instr.storeAt, Instr.sureAddr, run_storeVar_one hz h1 (by rw [hcell]; simp [ho]) (frozen_of_row w b o cs e hok)]
  rw [Oper.semAt_eq _ _ _ (by simp)]
  rw [hrun]
  exact hK _ _ (k _ _ ha (hp_store hw hr u))
/-- the same; what the block holds behind it is named -/
theorem sq_store_eq {b o : Nat} {cs cs' : Array Value} {rest' : List Res} (hz : ∀ w, (Go.sizeOf t).run X.P w = .ok 1 w) (hx : ev L x = some (.pointer (some ⟨b, o, none⟩))) (hy : ev L y = some u) (h1 : u.oneCell' = true) (hr : Rem (.blk b (.cells cs e (0, 0))) rs rest') (ho : o < cs.size)
    (he : cs.setIfInBounds o u = cs') (k : SQ X ops Q rest L (.blk b (.cells cs' e (0, 0)) :: rest')) : SQ X ops Q (⟨none, .store t x y, ty, pos, af, none⟩ :: rest) L rs :=
  sq_store hz hx hy h1 hr ho (he ▸ k)
/-- a whole variable -/
theorem sq_store_all {b : Nat} {cs : Array Value} {vs : List Value} {rest' : List Res} (hz : ∀ w, (Go.sizeOf t).run X.P w = .ok n w) (hx : ev L x = some (.pointer (some ⟨b, 0, none⟩))) (hy : ev L y = some (.agg vs.toArray)) (h1 : vs.all (·.oneCell') = true) (hr : Rem (.blk b (.cells cs e (0, 0))) rs rest')
    (hl : vs.length = n) (hl' : cs.size = n) (k : SQ X ops Q rest L (.blk b (.cells vs.toArray e (0, 0)) :: rest')) : SQ X ops Q (⟨none, .store t x y, ty, pos, af, none⟩ :: rest) L rs := by
  intro a w ha hw
  refine wpListIn_plain rfl fun K hK => ⟨fun _ _ => trivial, ?_⟩
  have hok := hw.ok _ hr.mem.1
  have h2 := run_storeCells_from (P := X.P) b e vs 0 cs w hok (by omega) (fun v hv => (List.all_eq_true.1 h1) v hv)
  have hrun : (execOp a.eval ⟨none, .store t x y, ty, pos, af, none⟩).run X.P w = .ok .skip (w.setRow b vs.toArray) := by
    simp [execOp, ha.eval hx, ha.eval hy, Instr.storeAt, Instr.sureAddr, storeVar, Value.cells, hz, hl, h2]
  rw [Oper.semAt_eq _ _ _ (by simp)]
  rw [hrun]
  refine hK _ _ (k _ _ ha (hw.swap hr _ rfl rfl rfl (by simp) (fun k _ hd => setRow_other w b k vs.toArray (fun e => hd e)) (setRow_heap w b cs vs.toArray e _ hok) (fun k hk => .inl hk)))
theorem below_alloc (w : World) (o : Obj) : Below w.heap.size w (w.alloc o) := (Below.refl _ _).alloc (Nat.le_refl _) _
theorem hp_alloc {w0 w : World} (h : Hp w0 rs w) (o : Obj) : Hp w0 (.blk w.heap.size o :: rs) (w.alloc o) :=
  h.new (below_alloc w o) _ (heap_alloc_new w o) (fun k hk => by cases hk; exact Nat.le_refl _)
theorem sq_alloc {z : Value} (hz : ∀ w, (zeroValue t).run X.P w = .ok z w) (hd : Nat.ble (d + 1) X.N = true) (k : ∀ b, SQ X ops Q rest ((d, .pointer (some ⟨b, 0, none⟩)) :: L) (.blk b (.cells z.cells t (0, 0)) :: rs)) :
    SQ X ops Q (⟨some d, .alloc t, ty, pos, af, none⟩ :: rest) L rs := by
  intro a w ha hw
  refine wpListIn_plain rfl fun K hK => ⟨fun _ _ => trivial, ?_⟩
  have hrun : (execOp a.eval ⟨some d, .alloc t, ty, pos, af, none⟩).run X.P w = .ok (.value (.pointer (some ⟨w.heap.size, 0, none⟩))) (w.alloc (.cells z.cells t)) := by
    simp [execOp, Instr.alloc, hz, newVar, newRow]
  rw [Oper.semAt_eq _ _ _ (by simp)]
  rw [hrun]
  exact hK _ _ (k _ _ _ (ha.put (Nat.le_of_ble_eq_true hd) _) (hp_alloc hw _))
theorem sq_box (hx : ev L x = some v) (hd : Nat.ble (d + 1) X.N = true) (k : ∀ b, SQ X ops Q rest ((d, .pointer (some ⟨b, 0, none⟩)) :: L) (.blk b (.cells v.cells t (0, 0)) :: rs)) :
    SQ X ops Q (⟨some d, .box t x, ty, pos, af, none⟩ :: rest) L rs := by
  intro a w ha hw
  refine wpListIn_plain rfl fun K hK => ⟨fun _ _ => trivial, ?_⟩
  have hrun : (execOp a.eval ⟨some d, .box t x, ty, pos, af, none⟩).run X.P w = .ok (.value (.pointer (some ⟨w.heap.size, 0, none⟩))) (w.alloc (.cells v.cells t)) := by
    simp [execOp, Instr.box, ha.eval hx, newVar, newRow]
  rw [Oper.semAt_eq _ _ _ (by simp)]
  rw [hrun]
  exact hK _ _ (k _ _ _ (ha.put (Nat.le_of_ble_eq_true hd) _) (hp_alloc hw _))
/-! ### structs, functions, interfaces -/
inductive EvL (L : List (Nat × Value)) : List Operand → List Value → Prop
  | nil : EvL L [] []
  | cons {x v xs vs} (h : ev L x = some v) (t : EvL L xs vs) : EvL L (x :: xs) (v :: vs)
theorem EvL.map {L N D a xs vs} (h : EvL L xs vs) (ha : St N D L a) : xs.map a.eval = vs := by
  induction h with
  | nil => rfl
  | cons h _ ih => simp [ha.eval h, ih]
inductive EvP (L : List (Nat × Value)) : List (Nat × Operand) → List (Nat × Value) → Prop
  | nil : EvP L [] []
  | cons {i x v xs vs} (h : ev L x = some v) (t : EvP L xs vs) : EvP L ((i, x) :: xs) ((i, v) :: vs)
theorem EvP.map {L N D a xs vs} (h : EvP L xs vs) (ha : St N D L a) : xs.map (fun p => (p.1, a.eval p.2)) = vs := by
  induction h with
  | nil => rfl
  | cons h _ ih => simp [ha.eval h, ih]
/-- what a struct's literal is built of: the places of its fields, its zero value -/
def BT (P : Program) (t : TypeId) (places : List (Nat × Nat)) (z : Value) : Prop := ∀ parts cells, Instr.fill (places.toArray[·]?) z.cells parts = some cells → P.built t parts = some cells
theorem BT.mk {P : Program} {t : TypeId} {it : TypeInfo} {fields : Array Field} {places : List (Nat × Nat)} {z : Value} (hi : P.info? t = some it) (hu : P.underlying t = some (.struct fields)) (hz : it.zero = some z)
    (hp : fields.toList.mapM (fun f => (P.info? f.type).map fun i => (f.offset, i.size)) = some places) : BT P t places z := fun parts cells h => by
  simp [Program.built, hi, hu, hz, hp]; simpa using h
theorem y_build {places : List (Nat × Nat)} {z : Value} {ps : List (Nat × Operand)} {vs : List (Nat × Value)} {cells : Array Value} (hb : BT X.P t places z) (hp : EvP L ps vs) (hf : Instr.fill (places.toArray[·]?) z.cells vs = some cells) :
    OpS X L rs (.build t ps.toArray) ty (.agg cells) := .val fun o h1 _ a w ha _ => by
  have h2 := hp.map ha
  have h3 := run_build (P := X.P) w t (ps.toArray.map fun (i, x) => (i, a.eval x)) cells (by simpa [h2] using hb vs cells hf)
  simp [execOp, h1] at h3 ⊢
  simp [h3]
theorem y_makeFunc {fn : Fn} {fs cs : List Operand} {vf vc : List Value} (hf : EvL L fs vf) (hc : EvL L cs vc) : OpS X L rs (.makeFunc fn fs.toArray cs.toArray) ty (.func fn vf.toArray vc.toArray) := .val fun o h1 _ a w ha _ => by
  simp [execOp, h1, Instr.makeFunc, hf.map ha, hc.map ha]
theorem y_makeIface (hu : X.P.underlying t = some d0) (hi : ∀ ms, d0 ≠ .interface ms) (hx : ev L x = some v) : OpS X L rs (.makeInterface t x) ty (.iface t v) := .val fun o h1 _ a w ha _ => by
  simp only [execOp, h1, Sem.run_bind, Instr.makeInterface, run_underlying hu, Result.andThen_ok, ha.eval hx]
  cases d0 <;> first | rfl | exact absurd rfl (hi _)
/-! ### calls -/
theorem run_call {P : Program} {L N D a} (ha : St N D L a) {g : Operand} {f : FuncId} {first caps : Array Value} {args : List Operand} {vs : List Value} {ats : Array TypeId} {o : Oper} (h1 : o.op = .call { callee := .value g, args := args.toArray, argTypes := ats }) (hg : ev L g = some (.func (.func f) first caps))
    (hcf : ∀ args w, (callFunc f args).run P w = .ok (.enter f args) w) (hv : EvL L args vs) (w : World) : (execOp a.eval o).run P w = .ok (.enter f (first ++ vs.toArray ++ caps)) w := by
  simp [execOp, h1, resolve, Deferred.ofValue, ha.eval hg, hv.map ha, invoke, hcf]
theorem y_call {g : Operand} {f : FuncId} {first caps : List Value} {args : List Operand} {vs : List Value} {ats : Array TypeId} (hg : ev L g = some (.func (.func f) first.toArray caps.toArray)) (hcf : ∀ args w, (callFunc f args).run X.P w = .ok (.enter f args) w) (hv : EvL L args vs)
    (hc : ∀ w, Hp X.w0 rs w → Calls X.P f (first ++ vs ++ caps).toArray w fun e w' => e = .returned v ∧ Below w.heap.size w w') : OpY X L rs (.call { callee := .value g, args := args.toArray, argTypes := ats }) ty v := fun o h1 _ a w ha hw => by
  have := run_call ha h1 hg hcf hv w
  unfold Oper.quietAt
  rw [this]
  refine ⟨rfl, ?_⟩
  have h2 := hc w hw
  simp only [List.append_toArray]
  exact h2.mono fun e w' ⟨he, hb⟩ => ⟨he, hw.ext hb⟩
/-- a call whatever it does -/
theorem sq_call {Z : Type} {g : Operand} {f : FuncId} {first caps : List Value} {args : List Operand} {vs : List Value} {ats : Array TypeId} (vz : Z → Value) (rz : Z → List Res) (C : Z → Prop) (hg : ev L g = some (.func (.func f) first.toArray caps.toArray)) (hcf : ∀ args w, (callFunc f args).run X.P w = .ok (.enter f args) w) (hv : EvL L args vs)
    (hc : ∀ w, Hp X.w0 rs w → Calls X.P f (first ++ vs ++ caps).toArray w fun e w' => ∃ z, C z ∧ e = .returned (vz z) ∧ Hp X.w0 (rz z) w') (hd : Nat.ble (d + 1) X.N = true) (k : ∀ z, C z → SQ X ops Q rest ((d, vz z) :: L) (rz z)) :
    SQ X ops Q (⟨some d, .call { callee := .value g, args := args.toArray, argTypes := ats }, ty, pos, af, none⟩ :: rest) L rs := by
  intro a w ha hw
  refine wpListIn_plain rfl fun K hK => ⟨fun _ _ => trivial, ?_⟩
  rw [Oper.semAt_eq _ _ _ (by simp)]
  rw [run_call ha rfl hg hcf hv w]
  refine ⟨fun h => (by cases h), callsIn_FW ?_⟩
  have h2 := hc w hw
  simp only [List.append_toArray]
  refine h2.mono fun _ w' ⟨z, hz, he, hw'⟩ => ?_
  subst he
  exact hK _ _ (k z hz _ _ (ha.put (Nat.le_of_ble_eq_true hd) _) hw')
/-- a call that leaves something new -/
theorem sq_call_new {Z : Type} {g : Operand} {f : FuncId} {first caps : List Value} {args : List Operand} {vs : List Value} {ats : Array TypeId} (vz : Z → Value) (D : Nat → World → Z → Prop) (hg : ev L g = some (.func (.func f) first.toArray caps.toArray)) (hcf : ∀ args w, (callFunc f args).run X.P w = .ok (.enter f args) w) (hv : EvL L args vs)
    (hc : ∀ w, Hp X.w0 rs w → Calls X.P f (first ++ vs ++ caps).toArray w fun e w' => ∃ z, e = .returned (vz z) ∧ Below w.heap.size w w' ∧ D w.heap.size w' z) (hd : Nat.ble (d + 1) X.N = true) (k : ∀ lo w' z, D lo w' z → SQ X ops Q rest ((d, vz z) :: L) (.reg lo w' :: rs)) :
    SQ X ops Q (⟨some d, .call { callee := .value g, args := args.toArray, argTypes := ats }, ty, pos, af, none⟩ :: rest) L rs :=
  sq_call (Z := Nat × World × Z) (fun z => vz z.2.2) (fun z => .reg z.1 z.2.1 :: rs) (fun z => D z.1 z.2.1 z.2.2) hg hcf hv (fun w hw => (hc w hw).mono fun _ w' ⟨z, he, hb, hD⟩ => ⟨(w.heap.size, w', z), hD, he, hw.region hb⟩) hd (fun _ hz => k _ _ _ hz)
/-! ### ways that part, and meet again -/
theorem St.know {N D a} (ha : St N D L a) {tt : Nat} {u : Value} (h : lk L tt = some u) : St N D ((tt, u) :: L) a := ⟨ha.size, ha.defs, fun i v hv => by
  rw [lk_cons] at hv
  by_cases e : tt = i
  · subst e; simp at hv; subst hv; exact ha.get _ _ h
  · simp [e] at hv; exact ha.get _ _ hv⟩
theorem sq_split {tt : Nat} {b : Bool} {l : List Oper} (h : lk L tt = some (.bool b)) (h1 : b = true → SQ X ops Q l ((tt, .bool true) :: L) rs) (h2 : b = false → SQ X ops Q l ((tt, .bool false) :: L) rs) : SQ X ops Q l L rs := by
  intro a w ha hw
  cases b
  · exact h2 rfl a w (ha.know h) hw
  · exact h1 rfl a w (ha.know h) hw
theorem sq_splitd {tt : Nat} {p : Prop} [Decidable p] {l : List Oper} (h : lk L tt = some (.bool (decide p))) (h1 : p → SQ X ops Q l ((tt, .bool true) :: L) rs) (h2 : ¬ p → SQ X ops Q l ((tt, .bool false) :: L) rs) : SQ X ops Q l L rs :=
  sq_split h (fun e => h1 (of_decide_eq_true e)) (fun e => h2 (of_decide_eq_false e))
theorem sq_splitn {tt : Nat} {p : Prop} [Decidable p] {l : List Oper} (h : lk L tt = some (.bool (!decide p))) (h1 : ¬ p → SQ X ops Q l ((tt, .bool true) :: L) rs) (h2 : p → SQ X ops Q l ((tt, .bool false) :: L) rs) : SQ X ops Q l L rs :=
  sq_split h (fun e => h1 (by simpa using e)) (fun e => h2 (by simpa using e))
theorem sq_known {tt : Nat} {b b' : Bool} {l : List Oper} (h : lk L tt = some (.bool b)) (e : b = b') (k : SQ X ops Q l ((tt, .bool b') :: L) rs) : SQ X ops Q l L rs := by
  subst e; intro a w ha hw; exact k a w (ha.know h) hw
theorem qq_split {tt : Nat} {b : Bool} {l : List Oper} (h : lk L tt = some (.bool b)) (h1 : b = true → QQ X ops Q l ((tt, .bool true) :: L) rs) (h2 : b = false → QQ X ops Q l ((tt, .bool false) :: L) rs) : QQ X ops Q l L rs := by
  intro a ha
  cases b
  · exact h2 rfl a (ha.know h)
  · exact h1 rfl a (ha.know h)
theorem qq_splitd {tt : Nat} {p : Prop} [Decidable p] {l : List Oper} (h : lk L tt = some (.bool (decide p))) (h1 : p → QQ X ops Q l ((tt, .bool true) :: L) rs) (h2 : ¬ p → QQ X ops Q l ((tt, .bool false) :: L) rs) : QQ X ops Q l L rs :=
  qq_split h (fun e => h1 (of_decide_eq_true e)) (fun e => h2 (of_decide_eq_false e))
theorem qq_splitn {tt : Nat} {p : Prop} [Decidable p] {l : List Oper} (h : lk L tt = some (.bool (!decide p))) (h1 : ¬ p → QQ X ops Q l ((tt, .bool true) :: L) rs) (h2 : p → QQ X ops Q l ((tt, .bool false) :: L) rs) : QQ X ops Q l L rs :=
  qq_split h (fun e => h1 (by simpa using e)) (fun e => h2 (by simpa using e))
theorem qq_known {tt : Nat} {b b' : Bool} {l : List Oper} (h : lk L tt = some (.bool b)) (e : b = b') (k : QQ X ops Q l ((tt, .bool b') :: L) rs) : QQ X ops Q l L rs := by
  subst e; intro a ha; exact k a (ha.know h)
theorem SubL.skip {L' L1 : List (Nat × Value)} {i : Nat} {u : Value} (h : lk L' i = none) (k : SubL L' L1) : SubL L' ((i, u) :: L1) := fun j v hv => by
  rw [lk_cons]
  by_cases e : i = j
  · subst e; rw [h] at hv; cases hv
  · simp [e]; exact k j v hv
/-- a piece whose ways meet again: one slot is known behind it, beside what was known ahead of it -/
theorem sc_merge {c : Code} (tt : Nat) (u : Value) (h : SC X c (Mid X ((tt, u) :: L) rs Q) L rs) (k : SX X Q .normal ((tt, u) :: L) rs) : SC X c Q L rs := sc_mid _ _ h k
theorem Sel.refl : ∀ rs, Sel rs rs
  | [] => .nil
  | _ :: rs => .cons .here (Sel.refl rs)
def SubX (tt : Nat) (L' L : List (Nat × Value)) : Prop := ∀ i v, i ≠ tt → lk L' i = some v → lk L i = some v
theorem SubX.refl (tt : Nat) (L : List (Nat × Value)) : SubX tt L L := fun _ _ _ h => h
theorem SubX.skip {tt : Nat} {L' L1 : List (Nat × Value)} {i : Nat} {u : Value} (h : lk L' i = none) (k : SubX tt L' L1) : SubX tt L' ((i, u) :: L1) := fun j v hj hv => by
  rw [lk_cons]
  by_cases e : i = j
  · subst e; rw [h] at hv; cases hv
  · simp [e]; exact k j v hj hv
theorem SubX.skipT {tt : Nat} {L' L1 : List (Nat × Value)} {u : Value} (k : SubX tt L' L1) : SubX tt L' ((tt, u) :: L1) := fun j v hj hv => by
  rw [lk_cons, if_neg (fun e => hj e.symm)]; exact k j v hj hv
theorem sx_merge {tt : Nat} {u : Value} {L1 : List (Nat × Value)} (h : lk L1 tt = some u) (hs : SubX tt L L1) : SX X (Mid X ((tt, u) :: L) rs Q) .normal L1 rs := fun _ _ ha hw => ⟨ha.sub fun i v hv => by
  rw [lk_cons] at hv
  by_cases e : tt = i
  · subst e; simp at hv; subst hv; exact h
  · simp [e] at hv; exact hs i v (fun h => e h.symm) hv, hw⟩
/-! ### the end of a function -/
theorem sx_ret1 {fn : Func} {R : Ending → World → Prop} {r : Tmp} {en : Exit} (hen : en = .ret ∨ en = .normal) (hD : X.D = []) (hr : fn.results = #[.tmp r]) (hv : lk L r = some v) (h : ∀ w, Hp X.w0 rs w → R (.returned v) w) : SX X (bodyPost X.P fn R) en L rs := by
  intro a w ha hw
  have hres : (results fn a.tmps).run X.P w = .ok v w := by
    rw [results_tmp hr]; simp [Array.getD_eq_getD_getElem?, ha.get _ _ hv]
  rcases hen with rfl | rfl <;> exact ⟨ha.defs.trans hD, v, hres, h w hw⟩
theorem sx_ret2 {fn : Func} {R : Ending → World → Prop} {r s : Tmp} {en : Exit} (hen : en = .ret ∨ en = .normal) (hD : X.D = []) (hr : fn.results = #[.tmp r, .tmp s]) (hv : lk L r = some v) (hu : lk L s = some u) (h : ∀ w, Hp X.w0 rs w → R (.returned (.tuple #[v, u])) w) : SX X (bodyPost X.P fn R) en L rs := by
  intro a w ha hw
  have hres : (results fn a.tmps).run X.P w = .ok (.tuple #[v, u]) w := by
    rw [results_tmp2 hr]; simp [Array.getD_eq_getD_getElem?, ha.get _ _ hv, ha.get _ _ hu]
  rcases hen with rfl | rfl <;> exact ⟨ha.defs.trans hD, _, hres, h w hw⟩
theorem sx_ret0 {fn : Func} {R : Ending → World → Prop} {en : Exit} (hen : en = .ret ∨ en = .normal) (hD : X.D = []) (hr : fn.results = #[]) (h : ∀ w, Hp X.w0 rs w → R (.returned (.tuple #[])) w) : SX X (bodyPost X.P fn R) en L rs := by
  intro a w ha hw
  have hres : (results fn a.tmps).run X.P w = .ok (.tuple #[]) w := by rw [results_none hr]
  rcases hen with rfl | rfl <;> exact ⟨ha.defs.trans hD, _, hres, h w hw⟩
end
end Go.Eng

/- The engine, part 4: regions that draw their order, whatever operations they hold: an operation that leaves the world alone may be taken first; of the others each order is walked. -/
namespace Go.Eng
open Go Go.RowKit

def QF : Post := fun _ _ _ => False
theorem wpIn_monoQ {F : Fence} {n : Nat} {P : Program} {o : Oper} {a : Act} {w : World} {K : Act → World → Prop} {Q Q' : Post} (hq : ∀ e a w, e ≠ .normal → Q e a w → Q' e a w) (h : o.wpIn F n P a w K Q) : o.wpIn F n P a w K Q' := by
  unfold Oper.wpIn at *
  refine ⟨h.1, ?_⟩
  have h := h.2
  generalize (o.semAt F.round a.eval).run P w = r at *
  cases r with
  | ok x w' =>
    cases x <;> simp only [Oper.uponIn] at h ⊢
    case enter f args =>
      refine ⟨h.1, CallsIn.mono h.2 fun e w'' he => ?_⟩
      cases e with
      | returned v => exact he
      | panicked c => exact hq _ _ _ (by simp) he
      | outgrown => obtain ⟨a', w', h'⟩ := he; exact ⟨a', w', hq _ _ _ (by simp) h'⟩
    case round l f tmps assign body =>
      refine ⟨h.1, RoundIn.mono h.2 fun e w'' he => ?_⟩
      cases e with
      | returned v => exact he
      | panicked c => exact hq _ _ _ (by simp) he
      | outgrown => obtain ⟨a', w', h'⟩ := he; exact ⟨a', w', hq _ _ _ (by simp) h'⟩
    all_goals exact h
  | halt x w' =>
    cases x <;> simp only [Oper.uponIn] at h ⊢
    case panic u => exact hq _ _ _ (by simp) h
section
variable {r : Option Nat} {P : Program} {ops : Array Oper} {C : World → Prop} {K : Act → World → Prop} {md : Region.Mode}
def opX (r : Option Nat) (P : Program) (ops : Array Oper) (i : Nat) (K : Act → World → Prop) (a : Act) (w : World) : Prop :=
  match ops[i]? with
  | none => K a w
  | some o => if Region.wanted o (yielded ops a.tmps) then o.wpIn (FW r) 0 P a w K QF else K (a.put o.dst undef) w
theorem opX_mono {i : Nat} {a : Act} {w : World} {K K' : Act → World → Prop} (h : ∀ a w, K a w → K' a w) (hh : opX r P ops i K a w) : opX r P ops i K' a w := by
  unfold opX at *
  split
  · exact h _ _ (by simpa [*] using hh)
  · rename_i o ho
    simp only [ho] at hh
    split
    · rename_i hw; simp only [hw, if_true] at hh; exact Oper.wpIn_mono h hh
    · rename_i hw; simp only [hw] at hh; exact h _ _ hh
/-- it comes after all others, in one step or in two -/
def lastOp (ops : Array Oper) (j : Nat) : Bool := match ops[j]? with
  | none => false
  | some o => (List.range ops.size).all fun k => Nat.beq k j || o.after.toList.any fun e => Region.binds .any e && (Nat.beq e.on k || match ops[e.on]? with
    | none => false
    | some o2 => o2.after.toList.any fun e2 => Region.binds .any e2 && Nat.beq e2.on k)
/-- what is listed has all listed that it comes after -/
def closedB (ops : Array Oper) (listed : Array Bool) : Bool := (List.range ops.size).all fun k => match ops[k]? with
  | none => true
  | some o => !(listed.getD k false) || o.after.toList.all fun e => !(Region.binds .any e) || listed.getD e.on false
def Closed (ops : Array Oper) (listed : Array Bool) : Prop := ∀ k o, ops[k]? = some o → listed.getD k false = true → ∀ e ∈ o.after, Region.binds .any e = true → listed.getD e.on false = true
theorem closedB_spec {listed : Array Bool} (h : closedB ops listed = true) : Closed ops listed := fun k o ho hl e he hb => by
  have := List.all_eq_true.1 h k (List.mem_range.2 (Array.getElem?_eq_some_iff.1 ho).1)
  simp only [ho, hl, Bool.not_true, Bool.false_or] at this
  have := List.all_eq_true.1 this e (by simpa using he)
  rw [hb] at this
  simpa using this
theorem Closed.set {listed : Array Bool} {j : Nat} (h : Closed ops listed) (hj : j ∈ Region.ready .any ops listed) : Closed ops (listed.setIfInBounds j true) := fun k o ho hl e he hb => by
  obtain ⟨hjun, oj, hoj, hall⟩ := mem_ready.1 hj
  by_cases hkj : j = k
  · subst hkj
    rw [ho] at hoj; cases hoj
    exact getD_set_true (hall e he hb)
  · rw [getD_set_ne false hkj] at hl
    exact getD_set_true (h k o ho hl e he hb)
theorem lastOp_no {listed : Array Bool} {i j : Nat} {oi : Oper} (hcl : Closed ops listed) (hi : ops[i]? = some oi) (hir : i ∈ Region.ready .any ops listed) (hj : j ∈ Region.ready .any ops listed) (hij : i ≠ j) : lastOp ops j = false := by
  cases h : lastOp ops j with
  | false => rfl
  | true =>
    exfalso
    obtain ⟨_, oj, hoj, hall⟩ := mem_ready.1 hj
    have hiun := (mem_ready.1 hir).1
    have hno : listed.getD i false ≠ true := fun h1 => by
      rcases Nat.lt_or_ge i listed.size with h' | h'
      · simp [h'] at hiun h1; rw [hiun] at h1; cases h1
      · simp [Array.getElem?_eq_none h'] at h1
    unfold lastOp at h
    rw [hoj] at h
    have h1 := List.all_eq_true.1 h i (List.mem_range.2 (Array.getElem?_eq_some_iff.1 hi).1)
    rcases Bool.or_eq_true_iff.1 h1 with h1 | h1
    · exact hij (Nat.eq_of_beq_eq_true h1)
    · obtain ⟨e, he, h2⟩ := List.any_eq_true.1 h1
      rw [Bool.and_eq_true, Bool.or_eq_true] at h2
      obtain ⟨hb, h2⟩ := h2
      have hl := hall e (by simpa using he) hb
      rcases h2 with h2 | h2
      · rw [Nat.eq_of_beq_eq_true h2] at hl; exact hno hl
      · split at h2
        · cases h2
        · rename_i o2 ho2
          obtain ⟨e2, he2, h3⟩ := List.any_eq_true.1 h2
          rw [Bool.and_eq_true] at h3
          have := hcl _ o2 ho2 hl e2 (by simpa using he2) h3.1
          rw [Nat.eq_of_beq_eq_true h3.2] at this; exact hno this
def wpX (r : Option Nat) (P : Program) (ops : Array Oper) (C : World → Prop) (K : Act → World → Prop) : Nat → Array Bool → Act → World → Prop
  | 0, listed, a, w => Region.ready .any ops listed = [] ∧ K a w
  | fuel + 1, listed, a, w =>
    (Region.ready .any ops listed = [] → K a w) ∧
    ∀ i ∈ Region.ready .any ops listed, opX r P ops i (fun a' w' => (lastOp ops i = false → C w') ∧ wpX r P ops C K fuel (listed.setIfInBounds i true) a' w') a w
theorem wpAnyIn_of_wpX {Q : Post} : ∀ (fuel : Nat) (listed : Array Bool) (a : Act) (w : World), wpX r P ops C (fun a w => Q .normal a w) fuel listed a w → wpAnyIn (FW r) 0 P .any ops Q fuel listed a w
  | 0, _, _, _, h => h
  | fuel + 1, listed, a, w, h => by
    refine ⟨h.1, fun i hi => ?_⟩
    have h2 := h.2 i hi
    unfold wpOpIn
    unfold opX at h2
    split
    · rename_i ho; simp only [ho] at h2; exact wpAnyIn_of_wpX fuel _ _ _ h2.2
    · rename_i o ho
      simp only [ho] at h2
      split
      · rename_i hw
        simp only [hw, if_true] at h2
        exact wpIn_monoQ (fun _ _ _ _ hf => hf.elim) (Oper.wpIn_mono (fun a' w' h3 => wpAnyIn_of_wpX fuel _ _ _ h3.2) h2)
      · rename_i hw
        simp only [hw] at h2
        exact ⟨fun _ _ => trivial, wpAnyIn_of_wpX fuel _ _ _ h2.2⟩
/-- in every world of the class the operation yields v, and leaves the world alone -/
def YC (P : Program) (ops : Array Oper) (C : World → Prop) (o : Oper) (v : Value) (a : Act) : Prop :=
  (Region.wanted o (yielded ops a.tmps) = true ∧ ∀ w, C w → (execOp a.eval o).run P w = .ok (.value v) w) ∨ (Region.wanted o (yielded ops a.tmps) = false ∧ v = undef)
theorem YC.of_same {o : Oper} {v : Value} {a a' : Act} (hy : YC P ops C o v a) (he : execOp a'.eval o = execOp a.eval o) (hw : Region.wanted o (yielded ops a'.tmps) = Region.wanted o (yielded ops a.tmps)) : YC P ops C o v a' := by
  unfold YC at *; rw [he, hw]; exact hy
theorem notDefer_of_value {P : Program} {o : Oper} {a : Act} {w w' : World} {v : Value} (h : (execOp a.eval o).run P w = .ok (.value v) w') : ∀ c, o.op ≠ .defer c := by
  intro c hc
  unfold execOp at h
  rw [hc] at h
  simp only [Sem.run_bind] at h
  generalize (resolve a.eval c o.type).run P w = r at h
  cases r <;> simp at h
theorem YC.opX {i : Nat} {o : Oper} {v : Value} {a : Act} (hi : ops[i]? = some o) (hy : YC P ops C o v a) {w : World} (hC : C w) (h : K (a.put o.dst v) w) : opX r P ops i K a w := by
  unfold Eng.opX
  simp only [hi]
  rcases hy with ⟨hw, hv⟩ | ⟨hw, rfl⟩
  · simp only [hw, if_true]
    refine ⟨fun _ _ => trivial, ?_⟩
    rw [Oper.semAt_eq _ _ _ (notDefer_of_value (hv w hC)), hv w hC]
    exact h
  · simp only [hw, Bool.false_eq_true, if_false]; exact h
theorem opX_put {j : Nat} {oi oj : Oper} {v : Value} (hj : ops[j]? = some oj) (hap : oi.apart ops oj = true) (hsi : ∀ cs b, oi.op ≠ .select cs b) (hsj : ∀ cs b, oj.op ≠ .select cs b) (hdj : ∀ c, oj.op ≠ .defer c)
    {a : Act} {w : World} (hy : YC P ops C oi v a) (h : opX r P ops j K (a.put oi.dst v) w) : opX r P ops j (fun a' w' => YC P ops C oi v a' ∧ K (a'.put oi.dst v) w') a w := by
  obtain ⟨h1, h2, h3⟩ := Oper.apart_spec hap
  have keep : ∀ (a : Act), YC P ops C oi v a → ∀ u, YC P ops C oi v (a.put oj.dst u) := fun a hy u => hy.of_same (execOp_put oi hsi a oj.dst u h3) (wanted_put oi a oj.dst u h3)
  have keepD : ∀ d, YC P ops C oi v { a with defers := d :: a.defers } := fun d => hy.of_same rfl rfl
  unfold opX at *
  simp only [hj] at *
  rw [wanted_put oj a oi.dst v h1] at h
  split
  · rename_i hw
    simp only [hw, if_true] at h
    unfold Oper.wpIn at *
    refine ⟨fun _ _ => trivial, ?_⟩
    have h := h.2
    rw [Oper.semAt_eq _ _ _ hdj, execOp_put oj hsj a oi.dst v h1] at h
    rw [Oper.semAt_eq _ _ _ hdj]
    generalize (execOp a.eval oj).run P w = r at *
    cases r with
    | ok x w' =>
      cases x <;> simp only [Oper.uponIn] at h ⊢
      case value u => exact ⟨keep a hy u, by rw [← Act.put_comm a v u h2]; exact h⟩
      case skip => exact ⟨keep a hy _, by rw [← Act.put_comm a v undef h2]; exact h⟩
      case defer d =>
        refine ⟨keep _ (keepD d) _, ?_⟩
        rw [← Act.put_comm _ v undef h2, ← Act.put_defers]
        exact h
      case enter f args =>
        refine ⟨h.1, CallsIn.mono h.2 fun e w'' he => ?_⟩
        cases e with
        | returned u => exact ⟨keep a hy u, by rw [← Act.put_comm a v u h2]; exact he⟩
        | panicked c => exact he
        | outgrown => exact he
      case row row args => exact ⟨h.1, RowsIn.mono h.2 fun u w'' he => ⟨keep a hy u, by rw [← Act.put_comm a v u h2]; exact he⟩⟩
      case round l f tmps assign body =>
        refine ⟨h.1, RoundIn.mono h.2 fun e w'' he => ?_⟩
        cases e with
        | returned u => exact ⟨keep a hy u, by rw [← Act.put_comm a v u h2]; exact he⟩
        | panicked c => exact he
        | outgrown => exact he
    | halt x w' => cases x <;> simp only [Oper.uponIn] at h ⊢; exact h
  · rename_i hw
    simp only [hw] at h
    exact ⟨keep a hy _, by rw [← Act.put_comm a v undef h2]; exact h⟩
theorem wpX_first {i : Nat} {oi : Oper} {v : Value} (hi : ops[i]? = some oi) (hsel : ∀ (j : Nat) (o : Oper) cs b, ops[j]? = some o → o.op ≠ .select cs b) (hdf : ∀ (j : Nat) (o : Oper) c, ops[j]? = some o → o.op ≠ .defer c) :
    ∀ (fuel : Nat) (listed : Array Bool) (a : Act) (w : World),
      (∀ j oj, ops[j]? = some oj → j ≠ i → listed.getD j true = false → (∀ e ∈ oj.after, Region.binds .any e = true → e.on ≠ i) → oi.apart ops oj = true) →
      Closed ops listed → i ∈ Region.ready .any ops listed → YC P ops C oi v a → C w →
      wpX r P ops C K fuel (listed.setIfInBounds i true) (a.put oi.dst v) w → wpX r P ops C K (fuel + 1) listed a w := by
  intro fuel
  induction fuel with
  | zero =>
    intro listed a w _ hcl hr hy hC H
    refine ⟨fun h => (by rw [h] at hr; cases hr), fun j hj => ?_⟩
    by_cases hji : j = i
    · subst hji; exact hy.opX hi hC ⟨fun _ => hC, H⟩
    · have := ready_mono hj hji
      rw [H.1] at this
      cases this
  | succ fuel ih =>
    intro listed a w hfree hcl hr hy hC H
    refine ⟨fun h => (by rw [h] at hr; cases hr), fun j hj => ?_⟩
    by_cases hji : j = i
    · subst hji; exact hy.opX hi hC ⟨fun _ => hC, H⟩
    · have h1 := H.2 j (ready_mono hj hji)
      obtain ⟨hjun, oj, hoj, hall⟩ := mem_ready.1 hj
      have hnot : ∀ e ∈ oj.after, Region.binds .any e = true → e.on ≠ i := fun e he hb heq => by
        have h1 := hall e he hb
        have h0 := (mem_ready.1 hr).1
        rw [heq] at h1
        rcases Nat.lt_or_ge i listed.size with h' | h'
        · simp [h'] at h0 h1; rw [h0] at h1; cases h1
        · simp [Array.getElem?_eq_none h'] at h1
      have hlast : lastOp ops j = false := lastOp_no hcl hi hr hj (Ne.symm hji)
      have h2 := opX_put hoj (hfree j oj hoj hji hjun hnot) (fun cs b => hsel i oi cs b hi) (fun cs b => hsel j oj cs b hoj) (fun c => hdf j oj c hoj) hy h1
      have hfree' : ∀ k ok, ops[k]? = some ok → k ≠ i → (listed.setIfInBounds j true).getD k true = false →
          (∀ e ∈ ok.after, Region.binds .any e = true → e.on ≠ i) → oi.apart ops ok = true := fun k ok hk hki hun hno => by
        refine hfree k ok hk hki ?_ hno
        by_cases hjk : j = k
        · subst hjk; exact hjun
        · rw [getD_set_ne true hjk] at hun; exact hun
      refine opX_mono (fun a' w' h3 => ⟨h3.2.1, ih (listed.setIfInBounds j true) a' w' hfree' (hcl.set hj) (ready_mono hr (Ne.symm hji)) h3.1 (h3.2.1 hlast) ?_⟩) h2
      rw [Array.setIfInBounds_comm _ _ hji]
      exact h3.2.2
def noSD (ops : Array Oper) : Bool := ops.all fun o => match o.op with | .select .. | .defer _ => false | _ => true
theorem noSD_sel (h : noSD ops = true) (j : Nat) (o : Oper) (cs : Array SelectCase) (b : Bool) (ho : ops[j]? = some o) : o.op ≠ .select cs b := by
  intro heq; have := Array.all_eq_true_iff_forall_mem.1 h o (Array.mem_of_getElem? ho); simp [heq] at this
theorem noSD_def (h : noSD ops = true) (j : Nat) (o : Oper) (c : Call) (ho : ops[j]? = some o) : o.op ≠ .defer c := by
  intro heq; have := Array.all_eq_true_iff_forall_mem.1 h o (Array.mem_of_getElem? ho); simp [heq] at this
end
/-- the state of a region that draws: which operations have been carried out; what is known -/
def XJ (X : Ctx) (ops : Array Oper) (rq : List Res) (Q : Post) (fuel : Nat) (listed : Array Bool) (L : List (Nat × Value)) (rs : List Res) : Prop :=
  ∀ a w, St X.N X.D L a → Hp X.w0 rs w → wpX X.r X.P ops (Hp X.w0 rq) (fun a w => Q .normal a w) fuel listed a w
/-- what may be looked at for taking i first -/
def okFirst (ops : Array Oper) (listed : Array Bool) (i : Nat) : Bool := noSD ops && (Region.ready .any ops listed).contains i && Region.free .any ops listed i && closedB ops listed
section
variable {X : Ctx} {Q : Post} {L : List (Nat × Value)} {rs rq : List Res} {ops : Array Oper} {op : Op} {ty : TypeId} {v : Value} {d : Nat} {pos : String} {af : Array Edge} {fuel : Nat} {listed : Array Bool}
theorem sc_drawX {i : Nat} {l : List Oper} (rq : List Res) (hm : X.P.follows .mixedOrders = true) (h : XJ X l.toArray rq Q l.length (Array.replicate l.length false) L rs) : SC X (.region i l.toArray true) Q L rs := by
  intro a w ha hw
  refine wpIn_region_any hm (wpAnyIn_of_wpX (C := Hp X.w0 rq) _ _ _ _ ?_)
  have := h a _ ha hw.drew
  simpa using this
theorem sc_drawR {i : Nat} {l : List Oper} (hm : X.P.follows .mixedOrders = true) (h : XJ X l.toArray rs Q l.length (Array.replicate l.length false) L rs) : SC X (.region i l.toArray true) Q L rs := sc_drawX rs hm h
theorem xj_done (hr : Region.ready .any ops listed = []) (h : SX X Q .normal L rs) : XJ X ops rq Q fuel listed L rs := fun a w ha hw => by
  cases fuel with
  | zero => exact ⟨hr, h a w ha hw⟩
  | succ n => exact ⟨fun _ => h a w ha hw, fun i hi => by rw [hr] at hi; cases hi⟩
theorem xj_s (i : Nat) (hi : ops[i]? = some ⟨some d, op, ty, pos, af, none⟩) (hok : okFirst ops listed i = true) (hq : Sel rq rs) (hy : OpS X L rq op ty v) (hd : Nat.ble (d + 1) X.N = true) (k : XJ X ops rq Q fuel (listed.setIfInBounds i true) ((d, v) :: L) rs) :
    XJ X ops rq Q (fuel + 1) listed L rs := fun a w ha hw => by
  simp only [okFirst, Bool.and_eq_true] at hok
  exact wpX_first hi (noSD_sel hok.1.1.1) (noSD_def hok.1.1.1) fuel listed a w (Region.free_spec hi hok.1.2) (closedB_spec hok.2) (by simpa using hok.1.1.2) (.inl ⟨rfl, fun w' hw' => hy _ rfl rfl a w' ha hw'⟩) (hw.sel hq) (k _ _ (ha.put (Nat.le_of_ble_eq_true hd) v) hw)
theorem xj_gt (i : Nat) {j t : Nat} {b : Bool} (hi : ops[i]? = some ⟨some d, op, ty, pos, af, some (j, b)⟩) (hj : (ops[j]?).bind (·.dst) = some t) (ht : lk L t = some (.bool b)) (hok : okFirst ops listed i = true) (hq : Sel rq rs) (hy : OpS X L rq op ty v) (hd : Nat.ble (d + 1) X.N = true)
    (k : XJ X ops rq Q fuel (listed.setIfInBounds i true) ((d, v) :: L) rs) : XJ X ops rq Q (fuel + 1) listed L rs := fun a w ha hw => by
  simp only [okFirst, Bool.and_eq_true] at hok
  exact wpX_first hi (noSD_sel hok.1.1.1) (noSD_def hok.1.1.1) fuel listed a w (Region.free_spec hi hok.1.2) (closedB_spec hok.2) (by simpa using hok.1.1.2) (.inl ⟨by simp [Region.wanted, yielded_of ha hj ht], fun w' hw' => hy _ rfl rfl a w' ha hw'⟩) (hw.sel hq) (k _ _ (ha.put (Nat.le_of_ble_eq_true hd) v) hw)
theorem xj_gf (i : Nat) {j t : Nat} {b b' : Bool} (hi : ops[i]? = some ⟨some d, op, ty, pos, af, some (j, b)⟩) (hj : (ops[j]?).bind (·.dst) = some t) (ht : lk L t = some (.bool b')) (hb : b' = !b) (hok : okFirst ops listed i = true) (hq : Sel rq rs) (hd : Nat.ble (d + 1) X.N = true)
    (k : XJ X ops rq Q fuel (listed.setIfInBounds i true) ((d, undef) :: L) rs) : XJ X ops rq Q (fuel + 1) listed L rs := fun a w ha hw => by
  simp only [okFirst, Bool.and_eq_true] at hok
  exact wpX_first hi (noSD_sel hok.1.1.1) (noSD_def hok.1.1.1) fuel listed a w (Region.free_spec hi hok.1.2) (closedB_spec hok.2) (by simpa using hok.1.1.2) (.inr ⟨by subst hb; simp [Region.wanted, yielded_of ha hj ht], rfl⟩) (hw.sel hq) (k _ _ (ha.put (Nat.le_of_ble_eq_true hd) undef) hw)
/-- the post of one operation that is not taken first: it is carried out now -/
def XP (X : Ctx) (ops : Array Oper) (rq : List Res) (Q : Post) (fuel : Nat) (listed : Array Bool) (last : Bool) : Post
  | .normal, a, w => (last = false → Hp X.w0 rq w) ∧ wpX X.r X.P ops (Hp X.w0 rq) (fun a w => Q .normal a w) fuel listed a w
  | _, _, _ => False
theorem sx_xp {last : Bool} (hq : Sel rq rs) (h : XJ X ops rq Q fuel listed L rs) : SX X (XP X ops rq Q fuel listed last) .normal L rs := fun a w ha hw => ⟨fun _ => hw.sel hq, h a w ha hw⟩
theorem sx_xpl {last : Bool} (hl : last = true) (h : XJ X ops rq Q fuel listed L rs) : SX X (XP X ops rq Q fuel listed last) .normal L rs := fun a w ha hw => ⟨fun h0 => absurd h0 (by rw [hl]; exact Bool.noConfusion), h a w ha hw⟩
/-- whichever of those that may come up now comes up -/
inductive Each (p : Nat → Prop) : List Nat → Prop
  | nil : Each p []
  | cons {i l} (h : p i) (t : Each p l) : Each p (i :: l)
theorem Each.all {p : Nat → Prop} {l : List Nat} (h : Each p l) : ∀ i, i ∈ l → p i := by
  induction h with
  | nil => intro i hi; cases hi
  | cons h t ih => intro i hi; rcases List.mem_cons.1 hi with rfl | hi; · exact h
                   · exact ih i hi
theorem xj_all {l : List Nat} (hr : Region.ready .any ops listed = l) (hne : l ≠ []) (h : Each (fun i => ∃ o, ops[i]? = some o ∧ SQ X ops (XP X ops rq Q fuel (listed.setIfInBounds i true) (lastOp ops i)) [o] L rs) l) : XJ X ops rq Q (fuel + 1) listed L rs := fun a w ha hw => by
  refine ⟨fun h0 => absurd (hr ▸ h0) hne, fun i hi => ?_⟩
  obtain ⟨o, ho, hs⟩ := h.all i (hr ▸ hi)
  have h1 := hs a w ha hw
  unfold opX
  simp only [ho]
  unfold wpListIn at h1
  split
  · rename_i hw'
    rw [if_pos hw'] at h1
    refine wpIn_monoQ (Q := XP X ops rq Q fuel (listed.setIfInBounds i true) (lastOp ops i)) (fun e _ _ hne hf => ?_) (Oper.wpIn_mono (fun a' w' h3 => h3) h1)
    cases e <;> first | exact hf.elim | exact absurd rfl hne
  · rename_i hw'
    rw [if_neg hw'] at h1
    exact h1.2
/-- only one may come up -/
theorem xj_one (i : Nat) {o : Oper} (ho : ops[i]? = some o) (hr : Region.ready .any ops listed = [i]) (h : SQ X ops (XP X ops rq Q fuel (listed.setIfInBounds i true) (lastOp ops i)) [o] L rs) : XJ X ops rq Q (fuel + 1) listed L rs :=
  xj_all hr (by simp) (.cons ⟨o, ho, h⟩ .nil)
theorem xj_split {tt : Nat} {b : Bool} (h : lk L tt = some (.bool b)) (h1 : b = true → XJ X ops rq Q fuel listed ((tt, .bool true) :: L) rs) (h2 : b = false → XJ X ops rq Q fuel listed ((tt, .bool false) :: L) rs) : XJ X ops rq Q fuel listed L rs := by
  intro a w ha hw
  cases b
  · exact h2 rfl a w (ha.know h) hw
  · exact h1 rfl a w (ha.know h) hw
theorem xj_splitd {tt : Nat} {p : Prop} [Decidable p] (h : lk L tt = some (.bool (decide p))) (h1 : p → XJ X ops rq Q fuel listed ((tt, .bool true) :: L) rs) (h2 : ¬ p → XJ X ops rq Q fuel listed ((tt, .bool false) :: L) rs) : XJ X ops rq Q fuel listed L rs :=
  xj_split h (fun e => h1 (of_decide_eq_true e)) (fun e => h2 (of_decide_eq_false e))
theorem xj_splitn {tt : Nat} {p : Prop} [Decidable p] (h : lk L tt = some (.bool (!decide p))) (h1 : ¬ p → XJ X ops rq Q fuel listed ((tt, .bool true) :: L) rs) (h2 : p → XJ X ops rq Q fuel listed ((tt, .bool false) :: L) rs) : XJ X ops rq Q fuel listed L rs :=
  xj_split h (fun e => h1 (by simpa using e)) (fun e => h2 (by simpa using e))
theorem xj_known {tt : Nat} {b b' : Bool} (h : lk L tt = some (.bool b)) (e : b = b') (k : XJ X ops rq Q fuel listed ((tt, .bool b') :: L) rs) : XJ X ops rq Q fuel listed L rs := by
  subst e; intro a w ha hw; exact k a w (ha.know h) hw
end
end Go.Eng

/- The engine, part 5: slices that are made and grown, literals of slices, bits, maps keyed by integers, the ends of functions. -/
namespace Go.Eng
open Go Go.RowKit

inductive EvI (L : List (Nat × Value)) : Nat → List (Nat × Operand) → List Value → Prop
  | nil {q : Nat} : EvI L q [] []
  | cons {q : Nat} {x : Operand} {v : Value} {ps : List (Nat × Operand)} {us : List Value} (h : ev L x = some v) (t : EvI L (q + 1) ps us) : EvI L q ((q, x) :: ps) (v :: us)
section
variable {X : Ctx} {Q : Post} {L : List (Nat × Value)} {rs : List Res} {ops : Array Oper} {rest : List Oper} {op : Op} {ty t t' e : TypeId} {v u : Value} {d n : Nat} {pos : String} {af : Array Edge} {x y : Operand} {d0 : TypeDesc} {k : IntKind}
/-- one operation that moves the world: its run, and what is known behind it -/
theorem sq_run {P' : Value → World → Prop} (hnd : ∀ c, op ≠ .defer c) (hd : Nat.ble (d + 1) X.N = true)
    (hrun : ∀ a w, St X.N X.D L a → Hp X.w0 rs w → ∃ v w', (execOp a.eval ⟨some d, op, ty, pos, af, none⟩).run X.P w = .ok (.value v) w' ∧ P' v w')
    (k : ∀ v w', P' v w' → ∃ rs', Hp X.w0 rs' w' ∧ SQ X ops Q rest ((d, v) :: L) rs') : SQ X ops Q (⟨some d, op, ty, pos, af, none⟩ :: rest) L rs := by
  intro a w ha hw
  obtain ⟨v, w', hr, hp⟩ := hrun a w ha hw
  obtain ⟨rs', hw', hk⟩ := k v w' hp
  refine wpListIn_plain rfl fun K hK => ⟨fun _ _ => trivial, ?_⟩
  rw [Oper.semAt_eq _ _ _ (fun c => hnd c), hr]
  exact hK _ _ (hk _ _ (ha.put (Nat.le_of_ble_eq_true hd) _) hw')
/-! ### slices of slices and arrays -/
theorem y_slice_h {a0 : Option Addr} {ln cp h : Nat} (hu : X.P.underlying t = some (.slice e)) (hz : ∀ w, (Go.sizeOf e).run X.P w = .ok n w) (hx : ev L x = some (.slice a0 ln cp)) (hy : ev L y = some (.int k (h : Int))) (hh : h ≤ cp) :
    OpS X L rs (.slice t x none (some y) none) ty (.slice a0 h cp) := .val fun o h1 _ a w ha _ => by
  cases a0 <;> simp [execOp, h1, ha.eval hx, ha.eval hy, Instr.sliceAt, run_underlying hu, Instr.slice, Instr.sliceBounds, Instr.sliceBound, asIntOf, hh, hz, Addr.add_zero']
theorem y_slice_arr {b ln h : Nat} (hu : X.P.underlying t = some (.array ln e)) (hz : ∀ w, (Go.sizeOf e).run X.P w = .ok n w) (hx : ev L x = some (.pointer (some ⟨b, 0, none⟩))) (hy : ev L y = some (.int k (h : Int))) (hh : h ≤ ln) :
    OpS X L rs (.slice t x none (some y) none) ty (.slice (some ⟨b, 0, none⟩) h ln) := .val fun o h1 _ a w ha _ => by
  simp [execOp, h1, ha.eval hx, ha.eval hy, Instr.sliceAt, run_underlying hu, Instr.sureAddr, Instr.sliceBounds, Instr.sliceBound, asIntOf, hh, hz, Addr.add_zero']
theorem y_nilCheck {p : Addr} (hx : ev L x = some (.pointer (some p))) : OpS X L rs (.nilCheck x) ty (.pointer (some p)) := .val fun o h1 _ a w ha _ => by
  simp [execOp, h1, ha.eval hx]
/-! ### what a type's table says -/
def EI (P : Program) (e : TypeId) (z : Value) (sz by' : Nat) : Prop := (P.info? e).map (fun i => (i.zero, i.size, i.bytes)) = some (some z, sz, by')
theorem EI.parts {P : Program} {e z sz b} (h : EI P e z sz b) : ∃ i, P.info? e = some i ∧ i.zero = some z ∧ i.size = sz ∧ i.bytes = b := by
  unfold EI at h
  cases hi : P.info? e with
  | none => rw [hi] at h; cases h
  | some i => rw [hi] at h; simp at h; exact ⟨i, rfl, h.1, h.2.1, h.2.2⟩
/-! ### make -/
theorem madeCells_one (z : Value) (n : Nat) : madeCells #[z] n = (List.replicate n z).toArray := by
  apply Array.ext
  · simp [madeCells]
  · intro i h1 h2
    simp [madeCells, Nat.mod_one]
theorem sq_make {z : Value} {sz by' : Nat} {c : Nat} {kl kc : IntKind} {l : Nat} (hu : X.P.underlying t = some (.slice e)) (he : EI X.P e z sz by') (hx : ev L x = some (.int kl (l : Int))) (hy : ev L y = some (.int kc (c : Int))) (hlc : l ≤ c) (hb : by' * c ≤ 140737488355328) (hc : c ≤ 9223372036854775807)
    (hd : Nat.ble (d + 1) X.N = true) (k : ∀ b, SQ X ops Q rest ((d, .slice (some ⟨b, 0, none⟩) l c) :: L) (.blk b (.cells (madeCells z.cells (c * sz)) e (0, 0)) :: rs)) :
    SQ X ops Q (⟨some d, .makeSlice t x y, ty, pos, af, none⟩ :: rest) L rs := by
  obtain ⟨i, hi, hz, hsz, hby⟩ := he.parts
  refine sq_run (P' := fun v w' => ∃ w : World, Hp X.w0 rs w ∧ v = .slice (some ⟨w.heap.size, 0, none⟩) l c ∧ w' = w.alloc (.cells (madeCells z.cells (c * sz)) e)) (by simp) hd ?_ ?_
  · intro a w ha hw
    have hbb : (i.bytes : Int) * (c : Int) ≤ 281474976710656 := by rw [hby]; have : ((by' * c : Nat) : Int) ≤ 281474976710656 := by omega
                                                                   rwa [Int.natCast_mul] at this
    have hr := run_make (P := X.P) w t e i z hu hi hz kl kc l c (by omega) (by omega) hbb (by omega)
    simp only [Int.toNat_natCast, hsz] at hr
    exact ⟨_, _, by simp [execOp, ha.eval hx, ha.eval hy, hr], w, hw, rfl, rfl⟩
  · rintro v w' ⟨w, hw, rfl, rfl⟩
    exact ⟨_, hp_alloc hw _, k _⟩
/-! ### literals of slices -/
theorem fold_set : ∀ (cs : List Value) (off j : Nat) (cells : Array Value), off + j + cs.length ≤ cells.size → ((cs.zipIdx j).foldl (fun c p => c.setIfInBounds (off + p.2) p.1) cells).toList = cells.toList.take (off + j) ++ cs ++ cells.toList.drop (off + j + cs.length)
  | [], off, j, cells, _ => by simp
  | c :: cs, off, j, cells, h => by
    simp only [List.zipIdx_cons, List.foldl_cons]
    have hlt : off + j < cells.size := by simp at h; omega
    rw [fold_set cs off (j + 1) _ (by simp at h ⊢; omega)]
    simp only [Array.toList_setIfInBounds, List.length_cons]
    have e1 : off + (j + 1) = (off + j) + 1 := by omega
    rw [e1, List.take_set, List.drop_set_of_lt (by omega)]
    have e2 : off + j + 1 + cs.length = off + j + (cs.length + 1) := by omega
    rw [e2]
    have e3 : (List.take (off + j + 1) cells.toList).set (off + j) c = List.take (off + j) cells.toList ++ [c] := by
      rw [List.take_succ_eq_append_getElem (by simpa using hlt)]
      rw [List.set_append_right _ _ (by simp; omega)]
      simp [Nat.min_eq_left (Nat.le_of_lt hlt)]
    rw [e3]; simp
theorem fill_all {a : Act} {N D} (ha : St N D L a) (sz : Nat) : ∀ (ps : List (Nat × Operand)) (us : List Value) (k : Nat) (cells : Array Value), EvI L k ps us → (∀ u, u ∈ us → u.cells.size = sz) → (k + us.length) * sz = cells.size →
    Instr.fill (fun i => some (i * sz, sz)) cells (ps.map fun p => (p.1, a.eval p.2)) = some (cells.toList.take (k * sz) ++ us.flatMap (fun u => u.cells.toList)).toArray := by
  intro ps us k cells h
  induction h generalizing cells with
  | nil => rename_i k; intro _ hs; simp only [List.length_nil, Nat.add_zero] at hs; simp only [List.map_nil, Instr.fill, List.flatMap_nil, List.append_nil, hs]; rw [List.take_of_length_le (by simp)]
  | cons h t ih =>
    rename_i k x v ps us
    intro hu hs
    have hv : v.cells.size = sz := hu v (List.mem_cons_self ..)
    have hle : (k + 1) * sz ≤ cells.size := by rw [← hs]; exact Nat.mul_le_mul_right _ (by simp)
    have hle' : k * sz + sz ≤ cells.size := by rw [Nat.add_mul, Nat.one_mul] at hle; exact hle
    simp only [List.map_cons, Instr.fill, ha.eval h]
    rw [if_neg (by simp [hv]; omega)]
    have hf := fold_set v.cells.toList (k * sz) 0 cells (by simp [hv]; omega)
    have hz : v.cells.zipIdx.foldl (fun cs x => cs.setIfInBounds (k * sz + x.2) x.1) cells = (List.foldl (fun c p => c.setIfInBounds (k * sz + p.2) p.1) cells (v.cells.toList.zipIdx 0)) := by
      rw [← Array.foldl_toList, Array.toList_zipIdx]
    rw [show (v.cells.zipIdx.foldl (fun cs x => match x with | (c, j) => cs.setIfInBounds (k * sz + j) c) cells) = v.cells.zipIdx.foldl (fun cs x => cs.setIfInBounds (k * sz + x.2) x.1) cells from rfl, hz]
    have hsz : (List.foldl (fun c (p : Value × Nat) => c.setIfInBounds (k * sz + p.2) p.1) cells (v.cells.toList.zipIdx 0)).size = cells.size := by
      rw [← Array.length_toList, hf]; simp [hv]; omega
    rw [ih _ (fun u hm => hu u (List.mem_cons_of_mem _ hm)) (by rw [hsz, ← hs]; simp; congr 1; omega)]
    congr 2
    rw [hf]
    simp only [Nat.add_zero, List.flatMap_cons]
    have l1 : (List.take (k * sz) cells.toList).length = k * sz := by simp; omega
    have l2 : v.cells.toList.length = sz := by simp [hv]
    have l3 : (k + 1) * sz = (List.take (k * sz) cells.toList ++ v.cells.toList).length := by rw [List.length_append, l1, l2, Nat.add_mul, Nat.one_mul]
    rw [l3, List.take_left, List.append_assoc]
theorem sq_bs {z : Value} {sz by' : Nat} {ps : List (Nat × Operand)} {us : List Value} (hu : X.P.underlying t = some (.slice e)) (he : EI X.P e z sz by') (hp : EvI L 0 ps us) (hsz : ∀ u, u ∈ us → u.cells.size = sz) (hn : us.length = n) (hlim : Nat.ble (n * sz) 16777216 = true)
    (hd : Nat.ble (d + 1) X.N = true) (k : ∀ b, SQ X ops Q rest ((d, .slice (some ⟨b, 0, none⟩) n n) :: L) (.blk b (.cells (us.flatMap (fun u => u.cells.toList)).toArray e (0, 0)) :: rs)) :
    SQ X ops Q (⟨some d, .buildSlice t n ps.toArray, ty, pos, af, none⟩ :: rest) L rs := by
  obtain ⟨i, hi, hiz, hisz, _⟩ := he.parts
  refine sq_run (P' := fun v w' => ∃ w : World, Hp X.w0 rs w ∧ v = .slice (some ⟨w.heap.size, 0, none⟩) n n ∧ w' = w.alloc (.cells (us.flatMap (fun u => u.cells.toList)).toArray e)) (by simp) hd ?_ ?_
  · intro a w ha hw
    have hlim' := Nat.le_of_ble_eq_true hlim
    have hf : ∀ Zc : Array Value, Instr.fill (fun i => some (i * sz, sz)) ((Array.range (n * sz)).map fun x => Zc[x % Zc.size]!) (ps.map fun p => (p.1, a.eval p.2)) = some (us.flatMap (fun u => u.cells.toList)).toArray := fun Zc => by
      have := fill_all ha sz ps us 0 ((Array.range (n * sz)).map fun x => Zc[x % Zc.size]!) hp hsz (by rw [Array.size_map, Array.size_range, Nat.zero_add, hn])
      simpa only [Nat.zero_mul, List.take_zero, List.nil_append] using this
    refine ⟨_, _, ?_, w, hw, rfl, rfl⟩
    have hnot : ¬ (n * sz > 2 ^ 24) := by simp only [Nat.reducePow]; omega
    have hs : (Go.sizeOf e).run X.P w = .ok sz w := by simp [sizeOf, typeInfo, hi, hisz]
    have hzv : (zeroValue e).run X.P w = .ok z w := by simp [zeroValue, typeInfo, hi, hiz]
    have hrun : (Instr.buildSlice t n (ps.toArray.map fun p => (p.1, a.eval p.2))).run X.P w = .ok (.slice (some ⟨w.heap.size, 0, none⟩) n n) (w.alloc (.cells (us.flatMap (fun u => u.cells.toList)).toArray e)) := by
      simp only [Instr.buildSlice, Sem.run_bind, run_underlying hu, Result.andThen_ok, hs, if_neg hnot, List.map_toArray]
      by_cases h0 : n * sz = 0
      · simp only [if_pos h0, Sem.run_pure, Result.andThen_ok, hf, newRow, Sem.run_bind, run_newObj_alloc]
      · simp only [if_neg h0, Sem.run_pure, Sem.run_bind, hzv, Result.andThen_ok, hf, newRow, run_newObj_alloc]
    simp only [execOp, Sem.run_bind]
    rw [show (fun (x : Nat × Operand) => match x with | (i, x) => (i, a.eval x)) = (fun p => (p.1, a.eval p.2)) from rfl, hrun]
    rfl
  · rintro v w' ⟨w, hw, rfl, rfl⟩
    exact ⟨_, hp_alloc hw _, k _⟩
/-! ### append -/
theorem hp_own {w0 w w' : World} {rest' : List Res} {v v' : Value} {sz m m' : Nat} {xs xs' : List Value} (h : Hp w0 rs w) (hr : Rem (.own v e sz m xs) rs rest') (hown : w'.ownsRow 0 e sz v' m' xs') (hg : w.grownBy w' v.ownBlock) (hdom : ∀ k, v'.ownBlock = some k → v.ownBlock = some k ∨ w.heap.size ≤ k) : Hp w0 (.own v' e sz m' xs' :: rest') w' :=
  h.swap hr _ hg.os hg.tape hg.output hg.size (fun k hk hd => hg.block k hk (fun e => hd e.symm)) hown hdom
theorem append_dom {P : Program} (w : World) (t ty e : TypeId) (i : TypeInfo) (z : Value) (sz by' : Nat) (ht : P.underlying t = some (.slice e)) (hi : P.info? e = some i) (hz : i.zero = some z) (hsize : i.size = sz) (hby : i.bytes = by') (hzs : z.cells.size = sz) (hsz : 0 < sz)
    (v : Value) (n : Nat) (xs : List Value) (hown : w.ownsRow 0 e sz v n xs) (a : Addr) (m c : Nat) (news : List Value) (hl : news.length = m * sz) (hnews : ∀ j u, news[j]? = some u → w.cell? (a.add j) = some u) (h1 : ∀ u ∈ news, u.oneCell' = true)
    (h63 : n + m ≤ maxLen) (hbytes : (n + m) * by' ≤ 140737488355328) {v' : Value} {w' : World} (hrun : (Builtin.append_ #[t, t] ty #[v, .slice (some a) m c]).run P w = .ok v' w') : ∀ k, v'.ownBlock = some k → v.ownBlock = some k ∨ w.heap.size ≤ k := by
  intro k hk
  rcases hown.2 with ⟨hv, hn⟩ | ⟨g, cap, cur, hv, hbg, hg, hnc, hcm, hcs, htake⟩
  · obtain ⟨v2, w2, hr2, h2, _, _⟩ := run_append_own (P := P) w w.heap.size t ty e i z sz by' ht hi hz hsize hby hzs hsz v n xs ⟨hown.1, .inl ⟨hv, hn⟩⟩ a m c news hl hnews h1 h63 hbytes (Nat.le_refl _)
    rw [hrun] at hr2
    injection hr2 with e1 e2
    subst e1; subst e2
    exact .inr (World.ownsRow.lt (w := w') h2 k hk).1
  · subst hsize; subst hby; subst hv
    by_cases hroom : n + m ≤ cap
    · have hfit : n * i.size + news.length ≤ cur.size := by rw [hl, hcs, ← Nat.add_mul]; exact Nat.mul_le_mul_right _ hroom
      have hr := run_append_room (P := P) w t ty e i ht hi g n cap cur hg a m c news hl hnews h1 hroom hfit
      rw [hrun] at hr
      injection hr with e1 e2
      subst e1
      exact .inl hk
    · have holds : ∀ j u, xs[j]? = some u → w.cell? ((⟨g, 0, none⟩ : Addr).add j) = some u := World.ownsRow.cells (w := w) hown (g := g) rfl
      have h64 : n + m ≤ 9223372036854775807 := by simp only [maxLen] at h63; omega
      have hr := run_append_grow (P := P) w t ty e i z ht hi hz ⟨g, 0, none⟩ n cap xs hown.1 holds a m c news hl hnews (by omega) (by omega) (growslice_fits (by omega) hbytes)
      rw [hrun] at hr
      injection hr with e1 e2
      subst e1
      simp [Value.ownBlock] at hk
      exact .inr (by omega)
theorem sq_append {z : Value} {sz by' : Nat} {v : Value} {m mm c : Nat} {xs news : List Value} {ad : Addr} {rest' : List Res} (hu : X.P.underlying t = some (.slice e)) (he : EI X.P e z sz by') (hzs : z.cells.size = sz) (hsz : 0 < sz)
    (hx : ev L x = some v) (hr : Rem (.own v e sz m xs) rs rest') (hy : ev L y = some (.slice (some ad) mm c)) (hl : news.length = mm * sz) (hnews : ∀ w, Hp X.w0 rs w → ∀ j u, news[j]? = some u → w.cell? (ad.add j) = some u) (h1 : ∀ u ∈ news, u.oneCell' = true)
    (hb : (m + mm) * (by' + 1) ≤ 140737488355328) (hd : Nat.ble (d + 1) X.N = true) (k : ∀ v', v'.oneCell' = true → SQ X ops Q rest ((d, v') :: L) (.own v' e sz (m + mm) (xs ++ news) :: rest')) :
    SQ X ops Q (⟨some d, .call { callee := .builtin .append, args := #[x, y], argTypes := #[t, t] }, ty, pos, af, none⟩ :: rest) L rs := by
  obtain ⟨i, hi, hz, hisz, hby⟩ := he.parts
  have hb1 : m + mm ≤ maxLen := by unfold maxLen; have : m + mm ≤ (m + mm) * (by' + 1) := Nat.le_mul_of_pos_right _ (by omega); omega
  have hb2 : (m + mm) * by' ≤ 140737488355328 := Nat.le_trans (Nat.mul_le_mul_left _ (by omega)) hb
  refine sq_run (P' := fun v' w' => Hp X.w0 (.own v' e sz (m + mm) (xs ++ news) :: rest') w') (by simp) hd ?_ (fun v' w' h => ⟨_, h, k v' (by
    have hown : w'.ownsRow 0 e sz v' (m + mm) (xs ++ news) := h.ok _ (.head _)
    rcases hown.2 with ⟨hv, _⟩ | ⟨g, cap, cur, hv, _⟩ <;> subst hv <;> rfl)⟩)
  intro a w ha hw
  have hown : w.ownsRow 0 e sz v m xs := hw.ok _ hr.mem.1
  obtain ⟨v', w', hrun, h2, h3, _⟩ := run_append_own (P := X.P) w 0 t ty e i z sz by' hu hi hz hisz hby hzs hsz v m xs hown ad mm c news hl (hnews w hw) h1 hb1 hb2 (Nat.zero_le _)
  refine ⟨v', w', ?_, ?_⟩
  · simp [execOp, resolve, invoke, builtin, ha.eval hx, ha.eval hy, hrun]
  · exact hp_own hw hr h2 h3 (append_dom (P := X.P) w t ty e i z sz by' hu hi hz hisz hby hzs hsz v m xs hown ad mm c news hl (hnews w hw) h1 hb1 hb2 hrun)
end
end Go.Eng

/- The engine, part 6: bits, maps keyed by integers, structs compared, methods, the ends of functions. -/
namespace Go.Eng
open Go Go.RowKit

theorem wrap_nat {n : Nat} (h : n < 9223372036854775808) : IntKind.i64.wrap (n : Int) = n := wrap64_in (by omega) (by omega)
section
variable {X : Ctx} {Q : Post} {L : List (Nat × Value)} {rs : List Res} {ops : Array Oper} {rest : List Oper} {op : Op} {ty t t' e : TypeId} {v u : Value} {d n : Nat} {pos : String} {af : Array Edge} {x y : Operand} {d0 : TypeDesc} {k : IntKind} {p q : Int}
/-! ### bits, of numbers that are not negative -/
theorem ofInt_nat (a : Nat) : BitVec.ofInt 64 (a : Int) = BitVec.ofNat 64 a := by
  apply BitVec.eq_of_toNat_eq; simp
theorem y_and (hx : ev L x = some (.int .i64 p)) (hy : ev L y = some (.int .i64 q)) (hp : 0 ≤ p ∧ p ≤ 9223372036854775807) (hq : 0 ≤ q ∧ q ≤ 9223372036854775807) : OpS X L rs (.binOp .and t x y t') ty (.int .i64 ((p.toNat &&& q.toNat : Nat) : Int)) := .val fun o h1 _ a w ha _ => by
  obtain ⟨m, rfl⟩ := Int.eq_ofNat_of_zero_le hp.1
  obtain ⟨j, rfl⟩ := Int.eq_ofNat_of_zero_le hq.1
  have hle : m &&& j ≤ m := Nat.and_le_left
  have e : (BitVec.ofInt IntKind.i64.bits (m : Int) &&& BitVec.ofInt IntKind.i64.bits (j : Int)).toNat = m &&& j := by
    show (BitVec.ofInt 64 (m : Int) &&& BitVec.ofInt 64 (j : Int)).toNat = _
    rw [ofInt_nat, ofInt_nat, BitVec.toNat_and, BitVec.toNat_ofNat, BitVec.toNat_ofNat, Nat.mod_eq_of_lt (by omega), Nat.mod_eq_of_lt (by omega)]
  have hr : (Op.intBits .and .i64 (m : Int) (j : Int)).run X.P w = .ok (.int .i64 ((m &&& j : Nat) : Int)) w := by
    refine (show _ = Result.ok (Value.int .i64 (IntKind.i64.wrap (((BitVec.ofInt IntKind.i64.bits (m : Int) &&& BitVec.ofInt IntKind.i64.bits (j : Int)).toNat : Nat) : Int))) w from rfl).trans ?_
    rw [e, wrap_nat (by omega)]
  simp [execOp, h1, ha.eval hx, ha.eval hy, binOp, eqGuard, hr]
theorem y_or (hx : ev L x = some (.int .i64 p)) (hy : ev L y = some (.int .i64 q)) (hp : 0 ≤ p ∧ p ≤ 9223372036854775807) (hq : 0 ≤ q ∧ q ≤ 9223372036854775807) : OpS X L rs (.binOp .or t x y t') ty (.int .i64 ((p.toNat ||| q.toNat : Nat) : Int)) := .val fun o h1 _ a w ha _ => by
  obtain ⟨m, rfl⟩ := Int.eq_ofNat_of_zero_le hp.1
  obtain ⟨j, rfl⟩ := Int.eq_ofNat_of_zero_le hq.1
  have hlt : m ||| j < 2 ^ 63 := Nat.or_lt_two_pow (by omega) (by omega)
  have e : (BitVec.ofInt IntKind.i64.bits (m : Int) ||| BitVec.ofInt IntKind.i64.bits (j : Int)).toNat = m ||| j := by
    show (BitVec.ofInt 64 (m : Int) ||| BitVec.ofInt 64 (j : Int)).toNat = _
    rw [ofInt_nat, ofInt_nat, BitVec.toNat_or, BitVec.toNat_ofNat, BitVec.toNat_ofNat, Nat.mod_eq_of_lt (by omega), Nat.mod_eq_of_lt (by omega)]
  have hr : (Op.intBits .or .i64 (m : Int) (j : Int)).run X.P w = .ok (.int .i64 ((m ||| j : Nat) : Int)) w := by
    refine (show _ = Result.ok (Value.int .i64 (IntKind.i64.wrap (((BitVec.ofInt IntKind.i64.bits (m : Int) ||| BitVec.ofInt IntKind.i64.bits (j : Int)).toNat : Nat) : Int))) w from rfl).trans ?_
    rw [e, wrap_nat (by omega)]
  simp [execOp, h1, ha.eval hx, ha.eval hy, binOp, eqGuard, hr]
/-- m &^ j -/
def andNotN (m j : Nat) : Nat := m &&& (m ^^^ j)
theorem y_andNot (hx : ev L x = some (.int .i64 p)) (hy : ev L y = some (.int .i64 q)) (hp : 0 ≤ p ∧ p ≤ 9223372036854775807) (hq : 0 ≤ q ∧ q ≤ 9223372036854775807) : OpS X L rs (.binOp .andNot t x y t') ty (.int .i64 ((andNotN p.toNat q.toNat : Nat) : Int)) := .val fun o h1 _ a w ha _ => by
  obtain ⟨m, rfl⟩ := Int.eq_ofNat_of_zero_le hp.1
  obtain ⟨j, rfl⟩ := Int.eq_ofNat_of_zero_le hq.1
  have hle : andNotN m j ≤ m := Nat.and_le_left
  have e : (BitVec.ofInt IntKind.i64.bits (m : Int) &&& ~~~ BitVec.ofInt IntKind.i64.bits (j : Int)).toNat = andNotN m j := by
    show (BitVec.ofInt 64 (m : Int) &&& ~~~ BitVec.ofInt 64 (j : Int)).toNat = _
    have : BitVec.ofNat 64 m &&& ~~~ BitVec.ofNat 64 j = BitVec.ofNat 64 m &&& (BitVec.ofNat 64 m ^^^ BitVec.ofNat 64 j) := by
      ext i hi
      simp only [BitVec.getElem_and, BitVec.getElem_not, BitVec.getElem_xor]
      cases (BitVec.ofNat 64 m)[i] <;> cases (BitVec.ofNat 64 j)[i] <;> rfl
    rw [ofInt_nat, ofInt_nat, this, BitVec.toNat_and, BitVec.toNat_xor, BitVec.toNat_ofNat, BitVec.toNat_ofNat, Nat.mod_eq_of_lt (by omega), Nat.mod_eq_of_lt (by omega)]
    rfl
  have hr : (Op.intBits .andNot .i64 (m : Int) (j : Int)).run X.P w = .ok (.int .i64 ((andNotN m j : Nat) : Int)) w := by
    refine (show _ = Result.ok (Value.int .i64 (IntKind.i64.wrap (((BitVec.ofInt IntKind.i64.bits (m : Int) &&& ~~~ BitVec.ofInt IntKind.i64.bits (j : Int)).toNat : Nat) : Int))) w from rfl).trans ?_
    rw [e, wrap_nat (by omega)]
  simp [execOp, h1, ha.eval hx, ha.eval hy, binOp, eqGuard, hr]
theorem y_shr {k' : IntKind} (hx : ev L x = some (.int k p)) (hy : ev L y = some (.int k' q)) (hq : 0 ≤ q ∧ q ≤ k.bits) : OpS X L rs (.binOp .shr t x y t') ty (.int k (p / 2 ^ q.toNat)) := .val fun o h1 _ a w ha _ => by
  have h2 : ¬ q < 0 := by omega
  have h3 : min q.toNat k.bits = q.toNat := by omega
  simp [execOp, h1, ha.eval hx, ha.eval hy, binOp, eqGuard, Op.shift, h2, h3]
  exact Int.fdiv_eq_ediv_of_nonneg _ (Int.le_of_lt (Int.pow_pos (by decide)))
theorem y_shl {k' : IntKind} (hx : ev L x = some (.int .i64 p)) (hy : ev L y = some (.int k' q)) (hq : 0 ≤ q ∧ q ≤ 64) (hb : -9223372036854775808 ≤ p * 2 ^ q.toNat ∧ p * 2 ^ q.toNat ≤ 9223372036854775807) : OpS X L rs (.binOp .shl t x y t') ty (.int .i64 (p * 2 ^ q.toNat)) := .val fun o h1 _ a w ha _ => by
  have h2 : ¬ q < 0 := by omega
  have h3 : min q.toNat IntKind.i64.bits = q.toNat := by simp [IntKind.bits]; omega
  have hr : (Op.shift .shl .i64 p k' q).run X.P w = .ok (.int .i64 (p * 2 ^ q.toNat)) w := by
    simp only [Op.shift, if_neg h2, h3, Sem.run_pure, wrap64_in hb.1 hb.2]
  have hb' : binOp .shl t (.int .i64 p) (.int k' q) = Op.shift .shl .i64 p k' q := rfl
  have hg : (eqGuard .shl t x y (.int .i64 p) (.int k' q)).run X.P w = .ok () w := by simp [eqGuard]
  simp only [execOp, h1, ha.eval hx, ha.eval hy, Sem.run_bind, hb', hg, Result.andThen_ok, hr]
  rfl
/-! ### structs compared -/
theorem y_eqls {xs ys : Array Value} {b : Bool} (hg : X.P.eqGuardType X.P.depth t = false) (hx : ev L x = some (.agg xs)) (hy : ev L y = some (.agg ys)) (h : ∀ w, (binOp .eql t (.agg xs) (.agg ys)).run X.P w = .ok (.bool b) w) : OpS X L rs (.binOp .eql t x y t') ty (.bool b) := .val fun o h1 _ a w ha _ => by
  simp [execOp, h1, ha.eval hx, ha.eval hy, run_eqGuard_agg w .eql t x y xs ys hg, h]
theorem y_neqs {xs ys : Array Value} {b : Bool} (hg : X.P.eqGuardType X.P.depth t = false) (hx : ev L x = some (.agg xs)) (hy : ev L y = some (.agg ys)) (h : ∀ w, (binOp .neq t (.agg xs) (.agg ys)).run X.P w = .ok (.bool b) w) : OpS X L rs (.binOp .neq t x y t') ty (.bool b) := .val fun o h1 _ a w ha _ => by
  simp [execOp, h1, ha.eval hx, ha.eval hy, run_eqGuard_agg w .neq t x y xs ys hg, h]
/-! ### a method, of a value in an interface -/
theorem y_invoke {f : FuncId} {g : Operand} {nm : String} {T : TypeId} {rv rv' : Value} {args : List Operand} {vs : List Value} {ats : Array TypeId} (hg : ev L g = some (.iface T rv)) (hm : ∀ w, (method (X.P.types.size + Made.depth) T rv nm).run X.P w = .ok (f, rv') w) (hcf : ∀ args w, (callFunc f args).run X.P w = .ok (.enter f args) w) (hv : EvL L args vs)
    (hc : ∀ w, Hp X.w0 rs w → Calls X.P f (rv' :: vs).toArray w fun e w' => e = .returned v ∧ Below w.heap.size w w') : OpY X L rs (.call { callee := .invoke g nm, args := args.toArray, argTypes := ats }) ty v := fun o h1 _ a w ha hw => by
  have hr : (execOp a.eval o).run X.P w = .ok (.enter f (rv' :: vs).toArray) w := by
    simp only [execOp, h1, resolve, Sem.run_bind, Sem.run_pure, Result.andThen_ok, invoke]
    simp [ha.eval hg, hv.map ha, callMethod, hm, hcf]
  unfold Oper.quietAt
  rw [hr]
  exact ⟨rfl, (hc w hw).mono fun e w' ⟨he, hb⟩ => ⟨he, hw.ext hb⟩⟩
/-! ### the ends of functions -/
theorem cell_var {w : World} {P : Program} (hw : Hp X.w0 rs w) {b : Nat} {vs : List Value} {fz : Nat × Nat} (hu : P.underlying t = some d0) (hs : scal d0 = false) (hz : ∀ w, (Go.sizeOf t).run P w = .ok n w) (hm : Res.blk b (.cells vs.toArray e fz) ∈ rs) (hl : vs.length = n) : (loadVar t ⟨b, 0, none⟩).run P w = .ok (.agg vs.toArray) w :=
  run_loadVar_agg hu hs hz hl (fun j v hj => by rw [Addr.add_lit, Nat.zero_add]; exact (cell_blk hw hm).trans (by simpa using hj))
theorem sx_retc {fn : Func} {R : Ending → World → Prop} {r : Tmp} {en : Exit} {b : Nat} {vs : List Value} {fz : Nat × Nat} (hen : en = .ret ∨ en = .normal) (hD : X.D = []) (hr : fn.results = #[.cell r t]) (hu : X.P.underlying t = some d0) (hs : scal d0 = false) (hz : ∀ w, (Go.sizeOf t).run X.P w = .ok n w)
    (hv : lk L r = some (.pointer (some ⟨b, 0, none⟩))) (hm : Res.blk b (.cells vs.toArray e fz) ∈ rs) (hl : vs.length = n) (h : ∀ w, Hp X.w0 rs w → R (.returned (.agg vs.toArray)) w) : SX X (bodyPost X.P fn R) en L rs := by
  intro a w ha hw
  have hg : a.tmps[r]? = some (.pointer (some ⟨b, 0, none⟩)) := ha.get _ _ hv
  have hres : (results fn a.tmps).run X.P w = .ok (.agg vs.toArray) w := by
    simp [results, hr, hg, asAddr, cell_var hw hu hs hz hm hl]
  rcases hen with rfl | rfl <;> exact ⟨ha.defs.trans hD, _, hres, h w hw⟩
theorem sx_retct {fn : Func} {R : Ending → World → Prop} {r s : Tmp} {en : Exit} {b : Nat} {vs : List Value} {fz : Nat × Nat} (hen : en = .ret ∨ en = .normal) (hD : X.D = []) (hr : fn.results = #[.cell r t, .tmp s]) (hu : X.P.underlying t = some d0) (hs : scal d0 = false) (hz : ∀ w, (Go.sizeOf t).run X.P w = .ok n w)
    (hv : lk L r = some (.pointer (some ⟨b, 0, none⟩))) (hm : Res.blk b (.cells vs.toArray e fz) ∈ rs) (hl : vs.length = n) (hv2 : lk L s = some u) (h : ∀ w, Hp X.w0 rs w → R (.returned (.tuple #[.agg vs.toArray, u])) w) : SX X (bodyPost X.P fn R) en L rs := by
  intro a w ha hw
  have hg : a.tmps[r]? = some (.pointer (some ⟨b, 0, none⟩)) := ha.get _ _ hv
  have hg2 : a.tmps[s]? = some u := ha.get _ _ hv2
  have hres : (results fn a.tmps).run X.P w = .ok (.tuple #[.agg vs.toArray, u]) w := by
    simp [results, hr, hg, hg2, asAddr, cell_var hw hu hs hz hm hl]
  rcases hen with rfl | rfl <;> exact ⟨ha.defs.trans hD, _, hres, h w hw⟩
theorem sx_ret3 {fn : Func} {R : Ending → World → Prop} {r s q : Tmp} {en : Exit} {z : Value} (hen : en = .ret ∨ en = .normal) (hD : X.D = []) (hr : fn.results = #[.tmp r, .tmp s, .tmp q]) (hv : lk L r = some v) (hu : lk L s = some u) (hz : lk L q = some z) (h : ∀ w, Hp X.w0 rs w → R (.returned (.tuple #[v, u, z])) w) : SX X (bodyPost X.P fn R) en L rs := by
  intro a w ha hw
  have h1 := ha.get _ _ hv
  have h2 := ha.get _ _ hu
  have h3 := ha.get _ _ hz
  have hres : (results fn a.tmps).run X.P w = .ok (.tuple #[v, u, z]) w := by simp [results, hr, h1, h2, h3]
  rcases hen with rfl | rfl <;> exact ⟨ha.defs.trans hD, _, hres, h w hw⟩
/-- two structs and a bool, or the like -/
theorem sx_retcct {fn : Func} {R : Ending → World → Prop} {r r2 s : Tmp} {t2 e2 : TypeId} {d2 : TypeDesc} {n2 : Nat} {en : Exit} {b b2 : Nat} {vs vs2 : List Value} {fz fz2 : Nat × Nat} (hen : en = .ret ∨ en = .normal) (hD : X.D = []) (hr : fn.results = #[.cell r t, .cell r2 t2, .tmp s]) (hu : X.P.underlying t = some d0) (hs : scal d0 = false) (hz : ∀ w, (Go.sizeOf t).run X.P w = .ok n w)
    (hu2 : X.P.underlying t2 = some d2) (hs2 : scal d2 = false) (hz2 : ∀ w, (Go.sizeOf t2).run X.P w = .ok n2 w)
    (hv : lk L r = some (.pointer (some ⟨b, 0, none⟩))) (hm : Res.blk b (.cells vs.toArray e fz) ∈ rs) (hl : vs.length = n) (hvb : lk L r2 = some (.pointer (some ⟨b2, 0, none⟩))) (hm2 : Res.blk b2 (.cells vs2.toArray e2 fz2) ∈ rs) (hl2 : vs2.length = n2) (hv2 : lk L s = some u) (h : ∀ w, Hp X.w0 rs w → R (.returned (.tuple #[.agg vs.toArray, .agg vs2.toArray, u])) w) : SX X (bodyPost X.P fn R) en L rs := by
  intro a w ha hw
  have hg : a.tmps[r]? = some (.pointer (some ⟨b, 0, none⟩)) := ha.get _ _ hv
  have hgb : a.tmps[r2]? = some (.pointer (some ⟨b2, 0, none⟩)) := ha.get _ _ hvb
  have hg2 : a.tmps[s]? = some u := ha.get _ _ hv2
  have hres : (results fn a.tmps).run X.P w = .ok (.tuple #[.agg vs.toArray, .agg vs2.toArray, u]) w := by
    simp [results, hr, hg, hgb, hg2, asAddr, cell_var hw hu hs hz hm hl, cell_var hw hu2 hs2 hz2 hm2 hl2]
  rcases hen with rfl | rfl <;> exact ⟨ha.defs.trans hD, _, hres, h w hw⟩
end
theorem BT.of {P : Program} {t : TypeId} {fields : Array Field} {places : List (Nat × Nat)} {z : Value} (hu : P.underlying t = some (.struct fields)) (hi : (P.info? t).map (·.zero) = some (some z))
    (hp : fields.toList.mapM (fun f => (P.info? f.type).map fun i => (f.offset, i.size)) = some places) : BT P t places z := by
  cases h : P.info? t with
  | none => rw [h] at hi; cases hi
  | some it => rw [h] at hi; exact BT.mk h hu (by simpa using hi) hp
end Go.Eng

/- The engine, part 7: contracts over resources, own slices that hold nothing, ranges over functions, maps that are filled in order. -/
namespace Go.Eng
open Go Go.RowKit
/-- some resources are taken; the rest -/
inductive Rems : List Res → List Res → List Res → Prop
  | nil {rs} : Rems [] rs rs
  | cons {r t rs rs' rest} (h : Rem r rs rs') (k : Rems t rs' rest) : Rems (r :: t) rs rest
theorem Rems.sel {t rs rest} (h : Rems t rs rest) : Sel (t ++ rest) rs := by
  induction h with
  | nil => exact Sel.refl _
  | cons h k ih => exact .cons h ih
/-! ### scopes -/
section
variable {F : Fence} {n : Nat} {P : Program} {b : Frame} {a : Act} {k : List Item} {cs : List Frame} {w : World} {Q : Exit → Act → World → Prop}
theorem stepR_scope {c : Code} : step P (lone (b.atR a (.code (.scope c) :: k)) cs w) = .next (lone (b.atR a (.code c :: .inScope c :: k)) cs w) := step_lone_go (by simp [stepG, stepG.exec, Frame.atR])
theorem stepR_inScope {c : Code} : step P (lone (b.atR a (.inScope c :: k)) cs w) = .next (lone (b.atR a k) cs w) := step_lone_go (by simp [stepG, stepG.exec, Frame.atR])
theorem wpIn_scope {c : Code} (h : c.wpIn F n P (Exit.noGoto Q) a w) : (Code.scope c).wpIn F n P Q a w := by
  intro b k cs hro hb hr
  have h0 : (lone (b.atR a (.code (.scope c) :: k)) cs w).fenced P F := fenced_calm hb hr rfl
  obtain ⟨e, a₁, w₁, hq, harr⟩ := h b (.inScope c :: k) cs hro hb hr
  cases e with
  | normal => exact ⟨.normal, a₁, w₁, hq, .head h0 stepR_scope (StepsIn.trans harr (.one (fenced_calm hb hr rfl) stepR_inScope))⟩
  | exit id' =>
    have hx : exitTo id' (.inScope c :: k) = exitTo id' k := by simp [exitTo]
    exact ⟨.exit id', a₁, w₁, hq, fun k' hk => .head h0 stepR_scope (harr.1 k' (by rw [hx]; exact hk)),
      fun hr' hk => let ⟨k₁, h1, h2⟩ := harr.2 hr' (by rw [hx]; exact hk); ⟨k₁, h1, .head h0 stepR_scope h2⟩⟩
  | goto l => exact hq.elim
  | ret => exact ⟨_, a₁, w₁, hq, .of_steps (.one h0 stepR_scope) harr⟩
  | panic ch => exact ⟨_, a₁, w₁, hq, .of_steps (.one h0 stepR_scope) harr⟩
  | outgrown => exact ⟨_, a₁, w₁, hq, .of_steps (.one h0 stepR_scope) harr⟩
end
section
variable {X : Ctx} {Q : Post} {L : List (Nat × Value)} {rs : List Res} {ops : Array Oper} {rest : List Oper} {op : Op} {ty t t' e : TypeId} {v u : Value} {d n : Nat} {pos : String} {af : Array Edge} {x y : Operand} {d0 : TypeDesc} {k : IntKind}
theorem sc_scope {c : Code} (h : SC X c (Exit.noGoto Q) L rs) : SC X (.scope c) Q L rs := fun a w ha hw => wpIn_scope (h a w ha hw)
theorem sc_label {l : Nat} (h : SX X Q .normal L rs) : SC X (.label l) Q L rs := fun a w ha hw => wpIn_label (h a w ha hw)
theorem sx_scope (h : SX X Q .normal L rs) : SX X (Exit.noGoto Q) .normal L rs := h
theorem sx_scope_exit {i} (h : SX X Q (.exit i) L rs) : SX X (Exit.noGoto Q) (.exit i) L rs := h
theorem sx_scope_ret (h : SX X Q .ret L rs) : SX X (Exit.noGoto Q) .ret L rs := h
/-! ### small things -/
theorem Hp.nilOwn {w0 rs w} (h : Hp w0 rs w) (e : TypeId) (sz : Nat) : Hp w0 (.own (.slice none 0 0) e sz 0 [] :: rs) w :=
  ⟨h.os, h.tape, h.output, h.size, fun r hr => by
    rcases List.mem_cons.1 hr with rfl | hr
    · exact World.ownsRow_nil w 0 e sz
    · exact h.ok r hr, List.pairwise_cons.2 ⟨fun s _ k hk => by simp [Res.dom, Value.ownBlock] at hk, h.apart⟩⟩
theorem sc_nil_own {c : Code} (e : TypeId) (sz : Nat) (h : SC X c Q L (.own (.slice none 0 0) e sz 0 [] :: rs)) : SC X c Q L rs := fun a w ha hw => h a w ha (hw.nilOwn e sz)
theorem sq_nil_own {l : List Oper} (e : TypeId) (sz : Nat) (h : SQ X ops Q l L (.own (.slice none 0 0) e sz 0 [] :: rs)) : SQ X ops Q l L rs := fun a w ha hw => h a w ha (hw.nilOwn e sz)
theorem Sel.skip {t rs : List Res} {r : Res} (h : Sel t rs) : Sel t (r :: rs) := by
  induction h with
  | nil => exact .nil
  | cons h k ih => exact .cons (.there h) ih
theorem news_blk {w0 w : World} (hw : Hp w0 rs w) {b : Nat} {vs : List Value} {fz : Nat × Nat} (hm : Res.blk b (.cells vs.toArray e fz) ∈ rs) : ∀ j u, vs[j]? = some u → w.cell? ((⟨b, 0, none⟩ : Addr).add j) = some u := fun j v hj => by
  rw [Addr.add_lit, Nat.zero_add]; exact (cell_blk hw hm).trans (by simpa using hj)
/-- a function's contract, over resources that lay there before -/
theorem calls_of_SCr {P : Program} {f : FuncId} {fn : Func} {c : Code} {args : List Value} {w0 w : World} {rs : List Res} {R : Ending → World → Prop} {N : Nat} (hf : P.funcs[f]? = some fn) (hb : fn.body = some c) (hN : fn.ntmps = N) (hn0 : Nat.ble args.length N = true) (hw : Hp w0 rs w)
    (h : SC ⟨none, P, N, [], w0⟩ c (bodyPost P fn R) (argL 0 args) rs) : Calls P f args.toArray w R := by
  have hn := Nat.le_of_ble_eq_true hn0
  refine calls_of_wp hf hb (wpIn_wide.1 (h _ w ⟨?_, rfl, fun i v hv => ?_⟩ hw))
  · simp [hN]; omega
  · obtain ⟨h1, h2⟩ := lk_argL args 0 i v hv
    simp at h2
    have hi : i < args.length := (List.getElem?_eq_some_iff.1 h2).1
    rw [Array.getElem?_append_left (by simpa using hi)]; simpa using h2
/-- a call that takes some of the resources, and leaves others in their place -/
theorem sq_call_fr {Z : Type} {g : Operand} {f : FuncId} {first caps : List Value} {args : List Operand} {vs : List Value} {ats : Array TypeId} {rs1 rest' : List Res} (vz : Z → Value) (rz : Z → List Res) (C : Z → Prop) (hg : ev L g = some (.func (.func f) first.toArray caps.toArray)) (hcf : ∀ args w, (callFunc f args).run X.P w = .ok (.enter f args) w) (hv : EvL L args vs)
    (hr : Rems rs1 rs rest') (hc : ∀ w, Hp X.w0 (rs1 ++ rest') w → Calls X.P f (first ++ vs ++ caps).toArray w fun e w' => ∃ z, C z ∧ e = .returned (vz z) ∧ Hp X.w0 (rz z ++ rest') w') (hd : Nat.ble (d + 1) X.N = true) (k : ∀ z, C z → SQ X ops Q rest ((d, vz z) :: L) (rz z ++ rest')) :
    SQ X ops Q (⟨some d, .call { callee := .value g, args := args.toArray, argTypes := ats }, ty, pos, af, none⟩ :: rest) L rs :=
  sq_call vz (fun z => rz z ++ rest') C hg hcf hv (fun w hw => hc w (hw.sel hr.sel)) hd k
/-! ### ways that meet again, with something that differs -/
def MidE (X : Ctx) {Z : Type} (L' : Z → List (Nat × Value)) (rs' : Z → List Res) (Q : Post) : Post := Exit.then (fun a w => ∃ z, St X.N X.D (L' z) a ∧ Hp X.w0 (rs' z) w) Q
theorem sc_midE {Z : Type} {c : Code} (L' : Z → List (Nat × Value)) (rs' : Z → List Res) (h : SC X c (MidE X L' rs' Q) L rs) (k : ∀ z, SX X Q .normal (L' z) (rs' z)) : SC X c Q L rs := fun a w ha hw =>
  wpIn_mono (h a w ha hw) fun e a' w' hq => by cases e <;> first | exact hq | (obtain ⟨z, h1, h2⟩ := hq; exact k z a' w' h1 h2)
theorem sx_midE {Z : Type} {L' : Z → List (Nat × Value)} {rs' : Z → List Res} (z : Z) (hL : SubL (L' z) L) (hB : Sel (rs' z) rs) : SX X (MidE X L' rs' Q) .normal L rs := fun _ _ ha hw => ⟨z, ha.sub hL, hw.sel hB⟩
/-! ### a function with a range over a function in it -/
theorem calls_of_SCm {P : Program} {f : FuncId} {fn : Func} {c : Code} {args : List Value} {w : World} {R : Ending → World → Prop} {N : Nat} (hf : P.funcs[f]? = some fn) (hb : fn.body = some c) (hN : fn.ntmps = N) (hn0 : Nat.ble args.length N = true)
    (h : SC ⟨none, P, N, [], w⟩ c (bodyPostM (FW none) 0 P fn R) (argL 0 args) [.reg 0 w]) : Calls P f args.toArray w R := by
  have hn := Nat.le_of_ble_eq_true hn0
  refine callsIn_wide.1 (callsIn_of_wp_marks (F := Fence.wide) (n := 0) hf hb trivial (h _ w ⟨?_, rfl, fun i v hv => ?_⟩ (Hp.init w)) rfl)
  · simp [hN]; omega
  · obtain ⟨h1, h2⟩ := lk_argL args 0 i v hv
    simp at h2
    have hi : i < args.length := (List.getElem?_eq_some_iff.1 h2).1
    rw [Array.getElem?_append_left (by simpa using hi)]; simpa using h2
theorem hp_put {w0 w : World} {rest' : List Res} {b : Nat} {o : Obj} (h : Hp w0 rs w) (hr : Rem (.blk b o) rs rest') (o' : Obj) : Hp w0 (.blk b o' :: rest') (w.putObj b o') := by
  have hb : w.heap[b]? = some o := h.ok _ hr.mem.1
  have hlt : b < w.heap.size := (Array.getElem?_eq_some_iff.1 hb).1
  exact h.swap hr (.blk b o') rfl rfl rfl (by simp) (fun k _ hk => World.putObj_heap_other (fun e => hk e)) (World.putObj_heap_same hlt) (fun k hk => .inl hk)
def LP (fn : FuncId) (tm : Array Value) (ps : List Tmp) (c d : Code) (D : Nat) : Loop := { state := .ready, pending := none, fn, tmps := tm, params := ps.toArray, assign := c, body := d, defers := D }
theorem sc_rangeFunc {Z : Type} {g : Operand} {gf : FuncId} {lb : List Value} {ps : List Tmp} {c cd : Code} (rz : Z → List Res) (C : Z → Prop) (hro : X.r = none) (hg : ev L g = some (.func (.func gf) #[] lb.toArray)) (hcf : ∀ args w, (callFunc gf args).run X.P w = .ok (.enter gf args) w)
    (hc : ∀ fn tm l D, tm.size = X.N → (∀ i v, lk L i = some v → tm[i]? = some v) → ∀ w, Hp X.w0 (.blk l (.loop (LP fn tm ps c cd D)) :: .blk D (.deferred (some [])) :: rs) w →
      Calls X.P gf (.func (.yield l) #[] #[] :: lb).toArray w fun e w' => ∃ z, C z ∧ (∃ v, e = .returned v) ∧ Hp X.w0 (.blk l (.loop (LP fn tm ps c cd D)) :: .blk D (.deferred (some [])) :: rz z) w')
    (k : ∀ D z, C z → SX { X with D := { target := .collected D, args := #[] } :: X.D } Q .normal L (.blk D (.deferred (some [])) :: rz z)) : SC X (.rangeFunc g ps.toArray c cd) Q L rs := by
  intro a w ha hw
  refine wpIn_rangeFunc ?_
  intro fn _
  have hr0 : (FW X.r).round = none := hro
  rw [hr0]
  have hw1 := hp_alloc (hp_alloc hw (.deferred (some []))) (.loop (LP fn a.tmps ps c cd w.heap.size))
  obtain ⟨W1, hW1⟩ : ∃ W1, (w.alloc (.deferred (some []))).alloc (.loop (LP fn a.tmps ps c cd w.heap.size)) = W1 := ⟨_, rfl⟩
  rw [hW1, World.size_alloc] at hw1
  refine ⟨w.heap.size + 1, [{ target := .collected w.heap.size, args := #[] }], W1, { target := .fn (.func gf) lb.toArray, args := #[.func (.yield (w.heap.size + 1)) #[] #[]] }, W1, gf,
    (.func (.yield (w.heap.size + 1)) #[] #[] :: lb).toArray, W1, ?_, ?_, ?_, ?_, fun h => (by cases h), ?_⟩
  · rw [← hW1]; exact run_enterLoop_outer _ _ _ _ _
  · simp only [resolve, ha.eval hg]
    simp [go_sem]
  · intro f' _; trivial
  · simp [invoke, go_sem, hcf]
  · refine callsIn_FW ((hc fn a.tmps (w.heap.size + 1) w.heap.size ha.size ha.get W1 hw1).mono ?_)
    rintro e w' ⟨z, hz, ⟨v, rfl⟩, hw'⟩
    have hl : w'.heap[w.heap.size + 1]? = some (.loop (LP fn a.tmps ps c cd w.heap.size)) := hw'.ok _ (.head _)
    refine ⟨none, _, run_endLoop (P := X.P) hl (by simp [LP]), ?_⟩
    exact k w.heap.size z hz _ _ ⟨ha.size, by simp [ha.defs], ha.get⟩ ((hp_put hw' .here _).sel (.cons (.there .here) (by
      have : ∀ (r : Res) (l : List Res), Sel l (r :: l) := fun r l => by
        have key : ∀ (l : List Res), Sel l (r :: l) := by
          intro l
          induction l with
          | nil => exact .nil
          | cons s l ih => exact .cons (.there .here) ih
        exact key l
      exact this _ _)))
/-- the end of a function after such a range -/
theorem sx_ret1m {fn : Func} {R : Ending → World → Prop} {r : Tmp} {en : Exit} {b : Nat} {rest' : List Res} (hen : en = .ret ∨ en = .normal) (hD : X.D = [{ target := .collected b, args := #[] }]) (hm : Rem (.blk b (.deferred (some []))) rs rest') (hr : fn.results = #[.tmp r]) (hv : lk L r = some v)
    (h : ∀ w, Hp X.w0 rest' w → R (.returned v) w) : SX X (bodyPostM (FW none) 0 X.P fn R) en L rs := by
  intro a w ha hw
  have hb : w.heap[b]? = some (.deferred (some [])) := hw.ok _ hm.mem.1
  have hw2 := hp_put hw hm (.deferred none)
  have hres : ∀ w, (results fn a.tmps).run X.P w = .ok v w := fun w => by
    rw [results_tmp hr]; simp [Array.getD_eq_getD_getElem?, ha.get _ _ hv]
  have key : LeavesInM (FW none) 0 X.P fn a.tmps R a.defers .returning w := by
    rw [ha.defs, hD]
    exact ⟨by simp, .inl ⟨b, _, rfl, run_takeDeferred hb, ⟨v, hres _, h _ (hw2.sel (by
      have key : ∀ (r : Res) (l : List Res), Sel l (r :: l) := by
        intro r l
        induction l with
        | nil => exact .nil
        | cons s l ih => exact .cons (.there .here) ih
      exact key _ _))⟩⟩⟩
  rcases hen with rfl | rfl <;> exact key
/-- yield is called: a round of the loop that runs -/
theorem sq_yield {Z : Type} {g : Operand} {l : Nat} {args : List Operand} {vs : List Value} {ats : Array TypeId} {r : Loop} {rs' : List Res} (vz : Z → Value) (rz : Z → List Res) (C : Z → Prop) (hg : ev L g = some (.func (.yield l) #[] #[])) (hv : EvL L args vs) (hl : Res.blk l (.loop r) ∈ rs') (hs : Sel rs' rs) (hn : vs.length = r.params.size)
    (hc : ∀ w, Hp X.w0 rs' w → RoundIn (FW X.r) 0 X.P l r.fn ((r.params.zip vs.toArray).foldl (fun tmps (t, a) => tmps.setIfInBounds t a) r.tmps) r.assign r.body w fun e w' => ∃ z, C z ∧ e = .returned (vz z) ∧ Hp X.w0 (rz z) w') (hd : Nat.ble (d + 1) X.N = true) (k : ∀ z, C z → SQ X ops Q rest ((d, vz z) :: L) (rz z)) :
    SQ X ops Q (⟨some d, .call { callee := .value g, args := args.toArray, argTypes := ats }, ty, pos, af, none⟩ :: rest) L rs := by
  intro a w ha hw
  have hw' := hw.sel hs
  have hb : w.heap[l]? = some (.loop r) := hw'.ok _ hl
  refine wpListIn_plain rfl fun K hK => ⟨fun _ _ => trivial, ?_⟩
  rw [Oper.semAt_eq _ _ _ (by simp)]
  have hrun : (execOp a.eval ⟨some d, .call { callee := .value g, args := args.toArray, argTypes := ats }, ty, pos, af, none⟩).run X.P w = .ok (.round l r.fn ((r.params.zip vs.toArray).foldl (fun tmps (t, a) => tmps.setIfInBounds t a) r.tmps) r.assign r.body) w := by
    simp [execOp, resolve, Deferred.ofValue, ha.eval hg, hv.map ha, invoke]
    have hy := run_yield (P := X.P) (args := vs.toArray) hb (by simpa using hn)
    simpa using hy
  rw [hrun]
  refine ⟨fun h => (by cases h), (hc w hw').mono ?_⟩
  rintro e w2 ⟨z, hz, rfl, hw2⟩
  exact hK _ _ (k z hz _ _ (ha.put (Nat.le_of_ble_eq_true hd) _) hw2)
/-! ### a round -/
def RA (X : Ctx) (l : Nat) (body : Code) (R : Ending → World → Prop) : Post := Exit.then (fun a₁ w₁ => ∃ w₂, (Instr.beginRound l).run X.P w₁ = .ok () w₂ ∧ body.wpIn ((FW none).inRound l) 0 X.P (roundPost X.P l R) a₁ w₂) (fun _ _ _ => False)
theorem round_of_SC {P : Program} {N : Nat} {w0 w : World} {l : Nat} {f : FuncId} {tm : Array Value} {c cd : Code} {R : Ending → World → Prop} (hs : tm.size = N) (hL : ∀ i v, lk L i = some v → tm[i]? = some v) (hw : Hp w0 rs w)
    (h : SC ⟨some l, P, N, [], w0⟩ c (RA ⟨some l, P, N, [], w0⟩ l cd R) L rs) : RoundIn (FW none) 0 P l f tm c cd w R :=
  roundIn_of_wpIn (F := FW none) trivial (h { tmps := tm, defers := [] } w ⟨hs, rfl, hL⟩ hw)
theorem sx_begin {l : Nat} {cd : Code} {R : Ending → World → Prop} {r : Loop} {rest' : List Res} (hr0 : X.r = some l) (hm : Rem (.blk l (.loop r)) rs rest') (hr : r.state = .ready) (h : SC X cd (roundPost X.P l R) L (.blk l (.loop { r with state := .busy }) :: rest')) : SX X (RA X l cd R) .normal L rs := by
  intro a w ha hw
  have hb : w.heap[l]? = some (.loop r) := hw.ok _ hm.mem.1
  have := h a _ ha (hp_put hw hm _)
  rw [hr0] at this
  exact ⟨_, run_beginRound hb hr, this⟩
theorem sx_endround {l : Nat} {R : Ending → World → Prop} {r : Loop} {rest' : List Res} (hm : Rem (.blk l (.loop r)) rs rest') (h : ∀ w, Hp X.w0 (.blk l (.loop { r with state := .ready, pending := none }) :: rest') w → R (.returned (.bool true)) w) : SX X (roundPost X.P l R) .normal L rs := by
  intro a w ha hw
  have hb : w.heap[l]? = some (.loop r) := hw.ok _ hm.mem.1
  exact ⟨_, _, run_endRound none hb, h _ (hp_put hw hm _)⟩
/-! ### maps that are filled in order -/
def denseEs (vs : List Value) : List MapEntry := vs.zipIdx.map fun p => { key := .int .i64 p.2, val := p.1, born := p.2 }
def dense (vs : List Value) : Obj := .map (denseEs vs).toArray vs.length
theorem dense_snoc (vs : List Value) (v : Value) : dense (vs ++ [v]) = .map ((denseEs vs).toArray.push { key := .int .i64 (vs.length : Int), val := v, born := vs.length }) (vs.length + 1) := by
  simp [dense, denseEs, List.zipIdx_append]
theorem findNow_none (key : Int) : ∀ (es : List MapEntry) (i : Nat), (∀ e, e ∈ es → ∃ z : Int, e.key = .int .i64 z ∧ z ≠ key) → Instr.findNow (.int .i64) (.int .i64 key) es i = some none
  | [], _, _ => rfl
  | e :: es, i, h => by
    obtain ⟨z, h1, h2⟩ := h e (.head _)
    have : Instr.sameNow (.int .i64) (.int .i64 key) e.key = some false := by rw [h1]; simp [Instr.sameNow]; exact fun e => h2 e.symm
    simp only [Instr.findNow, this]
    exact findNow_none key es _ fun e he => h e (.tail _ he)
theorem findNow_hit (key : Int) : ∀ (es : List MapEntry) (i j : Nat) (e : MapEntry), es[j]? = some e → e.key = .int .i64 key → (∀ j' e', j' < j → es[j']? = some e' → ∃ z : Int, e'.key = .int .i64 z ∧ z ≠ key) → Instr.findNow (.int .i64) (.int .i64 key) es i = some (some (i + j, e.val))
  | [], _, _, _, h, _, _ => by simp at h
  | e0 :: es, i, 0, e, h, hk, _ => by
    simp at h; subst h
    have : Instr.sameNow (.int .i64) (.int .i64 key) e0.key = some true := by rw [hk]; simp [Instr.sameNow]
    simp [Instr.findNow, this]
  | e0 :: es, i, j + 1, e, h, hk, hne => by
    obtain ⟨z, h1, h2⟩ := hne 0 e0 (by omega) rfl
    have : Instr.sameNow (.int .i64) (.int .i64 key) e0.key = some false := by rw [h1]; simp [Instr.sameNow]; exact fun e => h2 e.symm
    simp only [Instr.findNow, this]
    have := findNow_hit key es (i + 1) j e (by simpa using h) hk (fun j' e' hj he => hne (j' + 1) e' (by omega) (by simpa using he))
    rw [this]; congr 3; omega
theorem denseEs_get {vs : List Value} {j : Nat} {e : MapEntry} (h : (denseEs vs)[j]? = some e) : e.key = .int .i64 (j : Int) ∧ vs[j]? = some e.val := by
  simp only [denseEs, List.getElem?_map, List.getElem?_zipIdx, Option.map_map] at h
  cases hv : vs[j]? with
  | none => rw [hv] at h; simp at h
  | some v => rw [hv] at h; simp at h; subst h; simp
theorem checkKey_int {P : Program} {b : Bool} {kt : TypeId} (hk : P.underlying kt = some (.int .i64)) (key : Int) (w : World) : (Instr.checkKey b 10000 kt (.int .i64 key)).run P w = .ok () w := by
  unfold Instr.checkKey
  simp [Sem.run_bind, run_underlying hk]
theorem sq_makeMap (hd : Nat.ble (d + 1) X.N = true) (k : ∀ b, SQ X ops Q rest ((d, .map (some b)) :: L) (.blk b (dense []) :: rs)) : SQ X ops Q (⟨some d, .makeMap t none, ty, pos, af, none⟩ :: rest) L rs := by
  refine sq_run (P' := fun v w' => ∃ w : World, Hp X.w0 rs w ∧ v = .map (some w.heap.size) ∧ w' = w.alloc (dense [])) (by simp) hd ?_ ?_
  · intro a w ha hw
    exact ⟨_, _, by simp [execOp, run_makeMap]; rfl, w, hw, rfl, rfl⟩
  · rintro v w' ⟨w, hw, rfl, rfl⟩
    exact ⟨_, hp_alloc hw _, k _⟩
theorem sq_mapPut {m kx vx : Operand} {kt et : TypeId} {b : Nat} {vs : List Value} {rest' : List Res} (hu : X.P.underlying t = some (.map kt et)) (hk : X.P.underlying kt = some (.int .i64)) (hm : ev L m = some (.map (some b))) (hr : Rem (.blk b (dense vs)) rs rest') (hx : ev L kx = some (.int .i64 (vs.length : Int))) (hv : ev L vx = some v)
    (k : SQ X ops Q rest L (.blk b (dense (vs ++ [v])) :: rest')) : SQ X ops Q (⟨none, .mapUpdate t m kx vx, ty, pos, af, none⟩ :: rest) L rs := by
  intro a w ha hw
  have hb : w.heap[b]? = some (dense vs) := hw.ok _ hr.mem.1
  refine wpListIn_plain rfl fun K hK => ⟨fun _ _ => trivial, ?_⟩
  have hfind : Instr.findNow (.int .i64) (.int .i64 (vs.length : Int)) (denseEs vs).toArray.toList 0 = some none := findNow_none _ _ _ fun e he => by
    obtain ⟨j, hj, rfl⟩ := List.getElem_of_mem he
    obtain ⟨h1, h2⟩ := denseEs_get (List.getElem?_eq_getElem hj)
    have : j < vs.length := (List.getElem?_eq_some_iff.1 h2).1
    exact ⟨j, h1, by omega⟩
  have hget : (getObj b).run X.P w = .ok (dense vs) w := by simp [getObj, Sem.run, hb]; rfl
  have hset : ∀ o, (setObj b o).run X.P w = .ok () (w.putObj b o) := fun o => by simp [setObj, Sem.run, hb, World.putObj]; rfl
  have hrun : (execOp a.eval ⟨none, .mapUpdate t m kx vx, ty, pos, af, none⟩).run X.P w = .ok .skip (w.putObj b (dense (vs ++ [v]))) := by
    have : (Instr.mapUpdate t (.map (some b)) (.int .i64 (vs.length : Int)) v).run X.P w = .ok () (w.putObj b (dense (vs ++ [v]))) := by
      unfold Instr.mapUpdate
      simp only [Sem.run_bind, run_underlying hu, Result.andThen_ok, hget]
      simp only [dense, Instr.findKey, Sem.run_bind, checkKey_int hk, run_underlying hk, Result.andThen_ok, hfind, Sem.run_pure]
      rw [hset, ← dense, dense_snoc]
    simp [execOp, ha.eval hm, ha.eval hx, ha.eval hv, this]
  rw [Oper.semAt_eq _ _ _ (by simp), hrun]
  exact hK _ _ (k _ _ (ha.put_none _) (hp_put hw hr _))
theorem map_blk {w0 w : World} {b : Nat} {vs : List Value} (hw : Hp w0 rs w) (hm : Res.blk b (dense vs) ∈ rs) : w.heap[b]? = some (dense vs) := hw.ok _ hm
theorem y_lookup {m kx : Operand} {kt et : TypeId} {b : Nat} {vs : List Value} {i : Nat} (hu : X.P.underlying t = some (.map kt et)) (hk : X.P.underlying kt = some (.int .i64)) (hm : ev L m = some (.map (some b))) (hr : ∀ w, Hp X.w0 rs w → w.heap[b]? = some (dense vs)) (hx : ev L kx = some (.int .i64 (i : Int))) (hi : vs[i]? = some v) :
    OpS X L rs (.lookup t m kx false) ty v := .val fun o h1 _ a w ha hw => by
  have hb : w.heap[b]? = some (dense vs) := hr w hw
  have hget : (getObj b).run X.P w = .ok (dense vs) w := by simp [getObj, Sem.run, hb]; rfl
  have hlt : i < vs.length := (List.getElem?_eq_some_iff.1 hi).1
  obtain ⟨e, he⟩ : ∃ e, (denseEs vs)[i]? = some e := ⟨_, List.getElem?_eq_getElem (by simpa [denseEs] using hlt)⟩
  obtain ⟨h2, h3⟩ := denseEs_get he
  have hv : e.val = v := by rw [hi] at h3; simpa using h3.symm
  have hfind : Instr.findNow (.int .i64) (.int .i64 (i : Int)) (denseEs vs).toArray.toList 0 = some (some (i, v)) := by
    have := findNow_hit (i : Int) (denseEs vs) 0 i e he h2 (fun j' e' hj he' => ⟨j', (denseEs_get he').1, by omega⟩)
    rw [hv] at this; simpa using this
  simp only [execOp, h1, ha.eval hm, ha.eval hx, Instr.lookup, Sem.run_bind, run_underlying hu, Result.andThen_ok, hget]
  simp [dense, Instr.findKey, Sem.run_bind, checkKey_int hk, run_underlying hk]
  simp at hfind
  simp [hfind]
end
end Go.Eng

/- The engine, part 8: a block as an own slice; what is appended is nothing; rows of an own slice, to be read. -/
namespace Go.Eng
open Go Go.RowKit
section
variable {X : Ctx} {Q : Post} {L : List (Nat × Value)} {rs : List Res} {ops : Array Oper} {rest : List Oper} {op : Op} {ty t t' e : TypeId} {v u : Value} {d n : Nat} {pos : String} {af : Array Edge} {x y : Operand} {d0 : TypeDesc} {k : IntKind}
theorem Hp.blkOwn {w0 w : World} {rest' : List Res} {b sz : Nat} {xs : List Value} (h : Hp w0 rs w) (hr : Rem (.blk b (.cells xs.toArray e (0, 0))) rs rest') (hl : xs.length = n * sz) (hn : n ≤ maxLen) : Hp w0 (.own (.slice (some ⟨b, 0, none⟩) n n) e sz n xs :: rest') w :=
  h.swap hr _ rfl rfl rfl (Nat.le_refl _) (fun _ _ _ => rfl) ⟨hl, .inr ⟨b, n, xs.toArray, rfl, Nat.zero_le _, h.ok _ hr.mem.1, Nat.le_refl _, hn, by simp [hl], by simp [← hl]⟩⟩ (fun k hk => .inl (by simp [Res.dom, Value.ownBlock] at hk ⊢; exact hk.symm))
theorem sq_blk_own {l : List Oper} {rest' : List Res} {b sz : Nat} {xs : List Value} (hr : Rem (.blk b (.cells xs.toArray e (0, 0))) rs rest') (hl : xs.length = n * sz) (hn : n ≤ maxLen) (h : SQ X ops Q l L (.own (.slice (some ⟨b, 0, none⟩) n n) e sz n xs :: rest')) : SQ X ops Q l L rs :=
  fun a w ha hw => h a w ha (hw.blkOwn hr hl hn)
theorem sc_blk_own {c : Code} {rest' : List Res} {b sz : Nat} {xs : List Value} (hr : Rem (.blk b (.cells xs.toArray e (0, 0))) rs rest') (hl : xs.length = n * sz) (hn : n ≤ maxLen) (h : SC X c Q L (.own (.slice (some ⟨b, 0, none⟩) n n) e sz n xs :: rest')) : SC X c Q L rs :=
  fun a w ha hw => h a w ha (hw.blkOwn hr hl hn)
theorem y_append_nil {sz cp c1 c2 : Nat} {ad : Addr} (hu : X.P.underlying t = some (.slice e)) (hz : ∀ w, (Go.sizeOf e).run X.P w = .ok sz w) (hx : ev L x = some (.slice (some ad) n cp)) (hy : ev L y = some (.slice none c1 c2)) (h1 : c1 = 0) (hn : n ≤ cp) :
    OpS X L rs (.call { callee := .builtin .append, args := #[x, y], argTypes := #[t, t] }) ty (.slice (some ad) n cp) := .val fun o ho _ a w ha _ => by
  subst h1
  simp [execOp, ho, resolve, invoke, builtin, Builtin.append_, ha.eval hx, ha.eval hy, Sem.run_bind, run_underlying hu, hz, Builtin.lenOf, Builtin.firstCells, hn, storeCells]
/-- a guard that holds -/
theorem sq_guard {j t : Nat} {b : Bool} {dst : Option Nat} (hj : (ops[j]?).bind (·.dst) = some t) (ht : lk L t = some (.bool b)) (h : SQ X ops Q (⟨dst, op, ty, pos, af, none⟩ :: rest) L rs) : SQ X ops Q (⟨dst, op, ty, pos, af, some (j, b)⟩ :: rest) L rs := by
  intro a w ha hw
  have h1 := h a w ha hw
  unfold wpListIn at h1 ⊢
  rw [if_pos (by rfl)] at h1
  rw [if_pos (by simp [Region.wanted, yielded_of ha hj ht])]
  exact h1
end
/-- rows, one after another -/
theorem flat_get {α : Type} {row : α → List Value} {sz : Nat} (hr : ∀ x, (row x).length = sz) : ∀ (l : List α) (i : Nat) (x : α), l[i]? = some x → ∀ j v, (row x)[j]? = some v → (l.flatMap row)[i * sz + j]? = some v
  | [], i, x, h => by simp at h
  | a :: l, i, x, h => by
    intro j v hj
    have hj2 : j < sz := by have := (List.getElem?_eq_some_iff.1 hj).1; rw [hr] at this; exact this
    rcases i with _ | i
    · simp at h; subst h
      rw [List.flatMap_cons, List.getElem?_append_left (by rw [hr]; omega)]; simpa using hj
    · simp at h
      rw [List.flatMap_cons, List.getElem?_append_right (by rw [hr, Nat.add_mul]; omega)]
      have : (i + 1) * sz + j - (row a).length = i * sz + j := by rw [hr, Nat.add_mul]; omega
      rw [this]; exact flat_get hr l i x h j v hj
theorem flat_len {α : Type} {row : α → List Value} {sz : Nat} (hr : ∀ x, (row x).length = sz) (l : List α) : (l.flatMap row).length = l.length * sz := by
  induction l with
  | nil => simp
  | cons a l ih => rw [List.flatMap_cons, List.length_append, ih, hr, List.length_cons, Nat.add_mul]; omega
theorem own_rows {α : Type} {row : α → List Value} {sz : Nat} (hr : ∀ x, (row x).length = sz) {w : World} {base : Nat} {v : Value} {l : List α} {e : TypeId} (h : w.ownsRow base e sz v l.length (l.flatMap row)) : ∃ a c, v = .slice a l.length c ∧ l.length ≤ c ∧ ∀ i x, l[i]? = some x → a.isSome = true ∧ CA base w (elt a i sz) (row x) := by
  rcases h.2 with ⟨hv, h0⟩ | ⟨g, cap, cur, hv, hb, hg, h3, h4, h5, h6⟩
  · have hl : l = [] := List.eq_nil_of_length_eq_zero h0
    subst hl
    exact ⟨none, 0, hv, Nat.le_refl _, fun i x hi => by simp at hi⟩
  · refine ⟨some ⟨g, 0, none⟩, cap, hv, h3, fun i x hi => ⟨rfl, ?_⟩⟩
    have e1 : elt (some ⟨g, 0, none⟩) i sz = (⟨g, i * sz, none⟩ : Addr) := by simp [elt, Addr.add_lit]
    rw [e1]
    refine ⟨hb, fun j v hj => ?_⟩
    have hc := World.ownsRow.cells (w := w) h (g := g) (by rw [hv]; rfl) (i * sz + j) v (flat_get hr l i x hi j v hj)
    rw [Addr.add_lit, Nat.zero_add] at hc
    rw [Addr.add_lit]; exact hc
end Go.Eng

/- The engine, part 9: an own slice looked at as a block; what is appended comes from anywhere. -/
namespace Go.Eng
open Go Go.RowKit
section
variable {X : Ctx} {Q : Post} {L : List (Nat × Value)} {rs : List Res} {ops : Array Oper} {rest : List Oper} {op : Op} {ty t t' e : TypeId} {v u : Value} {d n : Nat} {pos : String} {af : Array Edge} {x y : Operand} {d0 : TypeDesc} {k : IntKind}
theorem Hp.ownBlk {w0 w : World} {rest' : List Res} {sz : Nat} {xs : List Value} (h : Hp w0 rs w) (hr : Rem (.own v e sz n xs) rs rest') (hn : 0 < n) : ∃ g cap cur, v = .slice (some ⟨g, 0, none⟩) n cap ∧ n ≤ cap ∧ cap ≤ maxLen ∧ cur.size = cap * sz ∧ cur.toList.take (n * sz) = xs ∧ Hp w0 (.blk g (.cells cur e (0, 0)) :: rest') w := by
  have ho : w.ownsRow 0 e sz v n xs := h.ok _ hr.mem.1
  rcases ho.2 with ⟨_, h0⟩ | ⟨g, cap, cur, hv, _, hg, h1, h2, h3, h4⟩
  · omega
  · refine ⟨g, cap, cur, hv, h1, h2, h3, h4, h.swap hr (.blk g (.cells cur e (0, 0))) rfl rfl rfl (Nat.le_refl _) (fun _ _ _ => rfl) hg (fun k hk => .inl ?_)⟩
    cases hk; subst hv; rfl
theorem sq_own_blk {l : List Oper} {rest' : List Res} {sz : Nat} {xs : List Value} (hr : Rem (.own v e sz n xs) rs rest') (hn : 0 < n)
    (h : ∀ g cap cur, v = .slice (some ⟨g, 0, none⟩) n cap → n ≤ cap → cap ≤ maxLen → cur.size = cap * sz → cur.toList.take (n * sz) = xs → SQ X ops Q l L (.blk g (.cells cur e (0, 0)) :: rest')) : SQ X ops Q l L rs := fun a w ha hw => by
  obtain ⟨g, cap, cur, h1, h2, h3, h4, h5, h6⟩ := hw.ownBlk hr hn
  exact h g cap cur h1 h2 h3 h4 h5 a w ha h6
theorem sc_own_blk {c : Code} {rest' : List Res} {sz : Nat} {xs : List Value} (hr : Rem (.own v e sz n xs) rs rest') (hn : 0 < n)
    (h : ∀ g cap cur, v = .slice (some ⟨g, 0, none⟩) n cap → n ≤ cap → cap ≤ maxLen → cur.size = cap * sz → cur.toList.take (n * sz) = xs → SC X c Q L (.blk g (.cells cur e (0, 0)) :: rest')) : SC X c Q L rs := fun a w ha hw => by
  obtain ⟨g, cap, cur, h1, h2, h3, h4, h5, h6⟩ := hw.ownBlk hr hn
  exact h g cap cur h1 h2 h3 h4 h5 a w ha h6
theorem run_append_none {P : Program} {sz cp c2 : Nat} {base : Option Addr} (hu : P.underlying t = some (.slice e)) (hz : ∀ w, (Go.sizeOf e).run P w = .ok sz w) (hn : n ≤ cp) (w : World) : (Builtin.append_ #[t, t] ty #[.slice base n cp, .slice none 0 c2]).run P w = .ok (.slice base n cp) w := by
  cases base <;> simp [Builtin.append_, Sem.run_bind, run_underlying hu, hz, Builtin.lenOf, Builtin.firstCells, hn, storeCells]
/-- what is appended comes from anywhere, and may be nothing -/
theorem sq_append_rows {z : Value} {sz by' : Nat} {v : Value} {m mm c : Nat} {xs news : List Value} {ya : Option Addr} {rest' : List Res} (hu : X.P.underlying t = some (.slice e)) (he : EI X.P e z sz by') (hze : ∀ w, (Go.sizeOf e).run X.P w = .ok sz w) (hzs : z.cells.size = sz) (hsz : 0 < sz)
    (hx : ev L x = some v) (hr : Rem (.own v e sz m xs) rs rest') (hy : ev L y = some (.slice ya mm c)) (h0 : ya = none → mm = 0) (hl : news.length = mm * sz) (hnews : ∀ ad, ya = some ad → ∀ w, Hp X.w0 rs w → ∀ j u, news[j]? = some u → w.cell? (ad.add j) = some u) (h1 : ∀ u ∈ news, u.oneCell' = true)
    (hb : (m + mm) * (by' + 1) ≤ 140737488355328) (hd : Nat.ble (d + 1) X.N = true) (k : ∀ v', v'.oneCell' = true → SQ X ops Q rest ((d, v') :: L) (.own v' e sz (m + mm) (xs ++ news) :: rest')) :
    SQ X ops Q (⟨some d, .call { callee := .builtin .append, args := #[x, y], argTypes := #[t, t] }, ty, pos, af, none⟩ :: rest) L rs := by
  cases ya with
  | some ad => exact sq_append hu he hzs hsz hx hr hy hl (hnews ad rfl) h1 hb hd k
  | none =>
    have hmm := h0 rfl
    subst hmm
    have hnil : news = [] := List.eq_nil_of_length_eq_zero (by simpa using hl)
    subst hnil
    rw [Nat.add_zero] at k
    rw [List.append_nil] at k
    refine sq_run (P' := fun v' w' => v' = v ∧ v.oneCell' = true ∧ Hp X.w0 (.own v e sz m xs :: rest') w') (by simp) hd ?_ (fun v' w' ⟨h2, h3, h4⟩ => ⟨_, h4, by subst h2; exact k _ h3⟩)
    intro a w ha hw
    have hown : w.ownsRow 0 e sz v m xs := hw.ok _ hr.mem.1
    have hsw : Hp X.w0 (.own v e sz m xs :: rest') w := hw.swap hr _ rfl rfl rfl (Nat.le_refl _) (fun _ _ _ => rfl) hown (fun _ hk => .inl hk)
    rcases hown.2 with ⟨hv, hm0⟩ | ⟨g, cap, cur, hv, _, _, hmc, _⟩
    · subst hv; subst hm0
      have hrun := run_append_none (P := X.P) (ty := ty) (base := none) (n := 0) (cp := 0) (c2 := c) hu hze (Nat.le_refl _) w
      exact ⟨_, w, by simp [execOp, resolve, invoke, builtin, ha.eval hx, ha.eval hy, hrun], rfl, rfl, hsw⟩
    · subst hv
      have hrun := run_append_none (P := X.P) (ty := ty) (base := some ⟨g, 0, none⟩) (n := m) (cp := cap) (c2 := c) hu hze hmc w
      exact ⟨_, w, by simp [execOp, resolve, invoke, builtin, ha.eval hx, ha.eval hy, hrun], rfl, rfl, hsw⟩
end
/-! ### a guard whose source was skipped itself -/
theorem yielded_undef {X : Ctx} {L : List (Nat × Value)} {ops : Array Oper} {a : Act} (ha : St X.N X.D L a) {j t : Nat} (hj : (ops[j]?).bind (·.dst) = some t) (ht : lk L t = some undef) : yielded ops a.tmps j = none := by
  unfold yielded
  rw [hj]
  simp [ha.get t _ ht, undef]
section
variable {X : Ctx} {Q : Post} {L : List (Nat × Value)} {rs rq : List Res} {ops : Array Oper} {rest : List Oper} {op : Op} {ty : TypeId} {d : Nat} {pos : String} {af : Array Edge} {fuel : Nat} {listed : Array Bool}
theorem sq_gu {j t : Nat} {b : Bool} (hj : (ops[j]?).bind (·.dst) = some t) (ht : lk L t = some undef) (hd : Nat.ble (d + 1) X.N = true) (k : SQ X ops Q rest ((d, undef) :: L) rs) :
    SQ X ops Q (⟨some d, op, ty, pos, af, some (j, b)⟩ :: rest) L rs := by
  intro a w ha hw
  refine wpListIn_step fun K hK => ?_
  have : ¬ Region.wanted ⟨some d, op, ty, pos, af, some (j, b)⟩ (yielded ops a.tmps) = true := by simp [Region.wanted, yielded_undef ha hj ht]
  rw [if_neg this]
  exact ⟨fun _ _ => trivial, hK _ _ (k _ _ (ha.put (Nat.le_of_ble_eq_true hd) undef) hw)⟩
theorem qq_gu {j t : Nat} {b : Bool} (hj : (ops[j]?).bind (·.dst) = some t) (ht : lk L t = some undef) (hd : Nat.ble (d + 1) X.N = true) (k : QQ X ops Q rest ((d, undef) :: L) rs) :
    QQ X ops Q (⟨some d, op, ty, pos, af, some (j, b)⟩ :: rest) L rs := by
  intro a ha
  unfold wpQuiet
  rw [if_neg (by simp [Region.wanted, yielded_undef ha hj ht])]
  exact k _ (ha.put (Nat.le_of_ble_eq_true hd) undef)
theorem xj_gu (i : Nat) {j t : Nat} {b : Bool} (hi : ops[i]? = some ⟨some d, op, ty, pos, af, some (j, b)⟩) (hj : (ops[j]?).bind (·.dst) = some t) (ht : lk L t = some undef) (hok : okFirst ops listed i = true) (hq : Sel rq rs) (hd : Nat.ble (d + 1) X.N = true)
    (k : XJ X ops rq Q fuel (listed.setIfInBounds i true) ((d, undef) :: L) rs) : XJ X ops rq Q (fuel + 1) listed L rs := fun a w ha hw => by
  simp only [okFirst, Bool.and_eq_true] at hok
  exact wpX_first hi (noSD_sel hok.1.1.1) (noSD_def hok.1.1.1) fuel listed a w (Region.free_spec hi hok.1.2) (closedB_spec hok.2) (by simpa using hok.1.1.2) (.inr ⟨by simp [Region.wanted, yielded_undef ha hj ht], rfl⟩) (hw.sel hq) (k _ _ (ha.put (Nat.le_of_ble_eq_true hd) undef) hw)
end
/-- rows that lie in memory, cell after cell -/
theorem rows_cells {α : Type} {row : α → List Value} {sz : Nat} (hr : ∀ x, (row x).length = sz) (hsz : 0 < sz) {w : World} {ad : Addr} {l : List α} (h : ∀ i x, l[i]? = some x → CA 0 w (elt (some ad) i sz) (row x)) : ∀ j u, (l.flatMap row)[j]? = some u → w.cell? (ad.add j) = some u := fun j u hj => by
  have hjl : j < l.length * sz := by have := (List.getElem?_eq_some_iff.1 hj).1; rwa [flat_len hr] at this
  have hi : j / sz < l.length := Nat.div_lt_of_lt_mul (by rw [Nat.mul_comm]; exact hjl)
  have hm : j % sz < sz := Nat.mod_lt _ hsz
  have hx := List.getElem?_eq_getElem hi
  obtain ⟨v, hv⟩ : ∃ v, (row l[j / sz])[j % sz]? = some v := ⟨_, List.getElem?_eq_getElem (show j % sz < (row l[j / sz]).length by rw [hr]; exact hm)⟩
  have hf := flat_get hr l _ _ hx _ _ hv
  have e : j / sz * sz + j % sz = j := by rw [Nat.mul_comm]; exact Nat.div_add_mod j sz
  rw [e, hj] at hf
  have := (h _ _ hx).2 _ _ hv
  rw [← Option.some.inj hf] at this
  have e2 : (elt (some ad) (j / sz) sz).add (j % sz) = ad.add j := by
    unfold elt
    rw [Option.getD_some, Addr.add_add, e]
  rw [e2] at this; exact this
end Go.Eng

/- The engine, part 10: an own slice is read. -/
namespace Go.Eng
open Go Go.RowKit
def baseA : Value → Option Addr
  | .slice a _ _ => a
  | _ => none
section
variable {X : Ctx} {Q : Post} {L : List (Nat × Value)} {rs : List Res} {ops : Array Oper} {rest : List Oper} {op : Op} {ty t t' e e' : TypeId} {v u : Value} {d n : Nat} {pos : String} {af : Array Edge} {x y : Operand} {d0 : TypeDesc} {k : IntKind}
/-- what is known of an own slice -/
theorem own_shape {w0 w : World} {sz m : Nat} {xs : List Value} (h : Hp w0 rs w) (hm : Res.own v e sz m xs ∈ rs) (h0 : 0 < m) : ∃ g cap, v = .slice (some ⟨g, 0, none⟩) m cap ∧ m ≤ cap ∧ m ≤ maxLen ∧ ∀ o u, xs[o]? = some u → w.cell? ⟨g, o, none⟩ = some u := by
  have ho : w.ownsRow 0 e sz v m xs := h.ok _ hm
  rcases ho.2 with ⟨_, h1⟩ | ⟨g, cap, cur, hv, _, _, h1, h2, _⟩
  · omega
  · refine ⟨g, cap, hv, h1, by omega, fun o u hu => ?_⟩
    subst hv
    have := World.ownsRow.cells (w := w) ho (g := g) rfl o u hu
    rwa [Addr.add_lit, Nat.zero_add] at this
theorem y_ia_own {sz m i : Nat} {xs : List Value} (hu : X.P.underlying t = some (.slice e)) (hz : ∀ w, (Go.sizeOf e).run X.P w = .ok sz w) (hx : ev L x = some v) (hm : Res.own v e' sz m xs ∈ rs) (hy : ev L y = some (.int k (i : Int))) (hi : i < m) :
    OpS X L rs (.indexAddr t x y) ty (.pointer (some (elt (baseA v) i sz))) := .val fun o' h1 _ a w ha hw => by
  obtain ⟨g, cap, rfl, hc, _⟩ := own_shape hw hm (by omega)
  simp [execOp, h1, ha.eval hx, ha.eval hy, Instr.indexAt, asIntOf, run_underlying hu, hi, hz, elt, baseA]
theorem elt_own (g i sz : Nat) (m cap : Nat) : elt (baseA (.slice (some ⟨g, 0, none⟩) m cap)) i sz = (⟨g, i * sz, none⟩ : Addr) := by simp [elt, baseA, Addr.add_lit]
/-- a row of an own slice -/
theorem y_load_own {sz m i : Nat} {xs row : List Value} (hu : X.P.underlying t = some d0) (hs : scal d0 = false) (hz : ∀ w, (Go.sizeOf t).run X.P w = .ok n w) (hx : ev L x = some (.pointer (some (elt (baseA v) i sz)))) (hm : Res.own v e sz m xs ∈ rs) (h0 : i < m)
    (hrow : ∀ j u, row[j]? = some u → xs[i * sz + j]? = some u) (hl : row.length = n) : OpS X L rs (.load t x) ty (.agg row.toArray) := .val fun o' h1 _ a w ha hw => by
  obtain ⟨g, cap, rfl, hc, _, hcell⟩ := own_shape hw hm (by omega)
  rw [elt_own] at hx
  have := run_loadVar_agg (P := X.P) (p := ⟨g, i * sz, none⟩) (w := w) hu hs hz hl (fun j v hj => by rw [Addr.add_lit]; exact hcell _ _ (hrow j v hj))
  simp [execOp, h1, ha.eval hx, Instr.loadAt, Instr.sureAddr, this]
/-- a cell of a row of an own slice -/
theorem y_load_ownj {sz m i j : Nat} {xs : List Value} (hu : X.P.underlying t = some d0) (hs : scal d0 = true) (hx : ev L x = some (.pointer (some ((elt (baseA v) i sz).add j)))) (hm : Res.own v e sz m xs ∈ rs) (h0 : i < m) (hc : xs[i * sz + j]? = some u) : OpS X L rs (.load t x) ty u := .val fun o' h1 _ a w ha hw => by
  obtain ⟨g, cap, rfl, hcp, _, hcell⟩ := own_shape hw hm (by omega)
  rw [elt_own, Addr.add_lit] at hx
  simp [execOp, h1, ha.eval hx, Instr.loadAt, Instr.sureAddr, run_loadVar_scal hu hs (hcell _ _ hc)]
theorem y_load_own0 {sz m i : Nat} {xs : List Value} (hu : X.P.underlying t = some d0) (hs : scal d0 = true) (hx : ev L x = some (.pointer (some (elt (baseA v) i sz)))) (hm : Res.own v e sz m xs ∈ rs) (h0 : i < m) (hc : xs[i * sz]? = some u) : OpS X L rs (.load t x) ty u :=
  y_load_ownj (j := 0) hu hs (by rw [Addr.add_zero']; exact hx) hm h0 hc
/-- its length -/
theorem y_len_own {sz m : Nat} {xs : List Value} (hu : X.P.underlying t = some (.slice e')) (hx : ev L x = some v) (hm : Res.own v e sz m xs ∈ rs) : OpS X L rs (.call { callee := .builtin .len, args := #[x], argTypes := #[t] }) ty (.int .i64 m) := .val fun o h1 _ a w ha hw => by
  have ho : w.ownsRow 0 e sz v m xs := hw.ok _ hm
  rcases ho.2 with ⟨hv, h1'⟩ | ⟨g, cap, cur, hv, _⟩
  · subst hv; subst h1'
    simp [execOp, h1, resolve, invoke, builtin, ha.eval hx, Builtin.len_, run_underlying hu, goInt]
  · subst hv
    simp [execOp, h1, resolve, invoke, builtin, ha.eval hx, Builtin.len_, run_underlying hu, goInt]
end
end Go.Eng

/- The engine, part 11: what a call returns as one's own; stores into it; a literal of one value. -/
namespace Go.Eng
open Go Go.RowKit
theorem ownsRow_low {w : World} {lo lo' : Nat} {e : TypeId} {sz n : Nat} {v : Value} {xs : List Value} (h : w.ownsRow lo e sz v n xs) (hl : lo' ≤ lo) : w.ownsRow lo' e sz v n xs := by
  refine ⟨h.1, ?_⟩
  rcases h.2 with h2 | ⟨g, cap, cur, hv, h3, h4, h5⟩
  · exact .inl h2
  · exact .inr ⟨g, cap, cur, hv, Nat.le_trans hl h3, h4, h5⟩
theorem cells_one {v : Value} (h : v.oneCell' = true) : v.cells = #[v] := by cases v <;> first | rfl | cases h
section
variable {X : Ctx} {Q : Post} {L : List (Nat × Value)} {rs : List Res} {ops : Array Oper} {rest : List Oper} {op : Op} {ty t t' e e' : TypeId} {v u : Value} {d n : Nat} {pos : String} {af : Array Edge} {x y : Operand} {d0 : TypeDesc} {k : IntKind}
/-- a call that returns an own slice, with other things that are known -/
theorem sq_call_own {Z : Type} {sz : Nat} {g : Operand} {f : FuncId} {first caps : List Value} {args : List Operand} {vs : List Value} {ats : Array TypeId} (vz : Z → Value) (ow : Z → Value) (xs : Z → List Value) (C : Z → Prop) (hg : ev L g = some (.func (.func f) first.toArray caps.toArray)) (hcf : ∀ args w, (callFunc f args).run X.P w = .ok (.enter f args) w) (hv : EvL L args vs)
    (hc : ∀ w, Hp X.w0 rs w → Calls X.P f (first ++ vs ++ caps).toArray w fun e' w' => ∃ z, e' = .returned (vz z) ∧ Below w.heap.size w w' ∧ C z ∧ w'.ownsRow w.heap.size e sz (ow z) n (xs z)) (hd : Nat.ble (d + 1) X.N = true) (k : ∀ z, C z → SQ X ops Q rest ((d, vz z) :: L) (.own (ow z) e sz n (xs z) :: rs)) :
    SQ X ops Q (⟨some d, .call { callee := .value g, args := args.toArray, argTypes := ats }, ty, pos, af, none⟩ :: rest) L rs :=
  sq_call (Z := Z) vz (fun z => .own (ow z) e sz n (xs z) :: rs) C hg hcf hv (fun w hw => (hc w hw).mono fun _ w' ⟨z, he, hb, hC, ho⟩ => ⟨z, hC, he, hw.new hb _ (ownsRow_low ho (Nat.zero_le _)) fun k hk => (World.ownsRow.lt (w := w') ho k hk).1⟩) hd k
theorem own_news {w0 w : World} {sz m c : Nat} {xs : List Value} {ad : Addr} (h : Hp w0 rs w) (hm : Res.own (.slice (some ad) n c) e sz m xs ∈ rs) : ∀ j u, xs[j]? = some u → w.cell? (ad.add j) = some u := fun j u hj => by
  have ho : w.ownsRow 0 e sz (.slice (some ad) n c) m xs := h.ok _ hm
  rcases ho.2 with ⟨h1, _⟩ | ⟨g, cap, cur, hv, _⟩
  · cases h1
  · cases hv
    exact World.ownsRow.cells (w := w) ho (g := g) rfl j u hj
theorem own_none {w0 w : World} {sz m c : Nat} {xs : List Value} (h : Hp w0 rs w) (hm : Res.own (.slice none n c) e sz m xs ∈ rs) : m = 0 := by
  have ho : w.ownsRow 0 e sz (.slice none n c) m xs := h.ok _ hm
  rcases ho.2 with ⟨_, h1⟩ | ⟨g, cap, cur, hv, _⟩
  · exact h1
  · cases hv
theorem sq_store_own {sz m i j : Nat} {xs : List Value} {rest' : List Res} (hz : ∀ w, (Go.sizeOf t).run X.P w = .ok 1 w) (hx : ev L x = some (.pointer (some ((elt (baseA v) i sz).add j)))) (hy : ev L y = some u) (h1 : u.oneCell' = true) (hr : Rem (.own v e sz m xs) rs rest') (h0 : i < m) (hj : j < sz)
    (k : SQ X ops Q rest L (.own v e sz m (xs.set (i * sz + j) u) :: rest')) : SQ X ops Q (⟨none, .store t x y, ty, pos, af, none⟩ :: rest) L rs := by
  intro a w ha hw
  refine wpListIn_plain rfl fun K hK => ⟨fun _ _ => trivial, ?_⟩
  have hown : w.ownsRow 0 e sz v m xs := hw.ok _ hr.mem.1
  rcases hown.2 with ⟨_, h2⟩ | ⟨g, cap, cur, hv, hb, hg, hmc, hcm, hcs, htk⟩
  · omega
  · subst hv
    rw [elt_own, Addr.add_lit] at hx
    have hlt : i * sz + j < m * sz := by
      have : (i + 1) * sz ≤ m * sz := Nat.mul_le_mul_right _ h0
      rw [Nat.add_mul] at this; omega
    have hlc : m * sz ≤ cap * sz := Nat.mul_le_mul_right _ hmc
    have hcell : w.cell? ⟨g, i * sz + j, none⟩ = cur[i * sz + j]? := cell_of_row w g _ cur e (0, 0) hg
    have hrun : (execOp a.eval ⟨none, .store t x y, ty, pos, af, none⟩).run X.P w = .ok .skip (w.setCell ⟨g, i * sz + j, none⟩ u) := by
      simp [execOp, ha.eval hx, ha.eval hy, Instr.storeAt, Instr.sureAddr, run_storeVar_one hz h1 (by rw [hcell]; simp; omega) (frozen_of_row w g _ cur e hg)]
    rw [Oper.semAt_eq _ _ _ (by simp)]
    rw [hrun]
    refine hK _ _ (k _ _ ha (hw.swap hr _ rfl rfl rfl (by simp) (fun k' _ hd => heap_setCell_other w _ k' u (fun e' => hd (by subst e'; rfl))) ⟨by rw [List.length_set]; exact hown.1, .inr ⟨g, cap, cur.setIfInBounds (i * sz + j) u, rfl, hb, setCell_heap hg u, hmc, hcm, by simp [hcs], ?_⟩⟩ (fun k' hk => .inl hk)))
    rw [Array.toList_setIfInBounds, List.take_set, htk]
/-- a literal of one value that has one cell -/
theorem sq_bsv {z : Value} {by' : Nat} (hu : X.P.underlying t = some (.slice e)) (he : EI X.P e z 1 by') (hx : ev L x = some v) (h1 : v.oneCell' = true) (hd : Nat.ble (d + 1) X.N = true) (k : ∀ b, SQ X ops Q rest ((d, .slice (some ⟨b, 0, none⟩) 1 1) :: L) (.blk b (.cells [v].toArray e (0, 0)) :: rs)) :
    SQ X ops Q (⟨some d, .buildSlice t 1 [(0, x)].toArray, ty, pos, af, none⟩ :: rest) L rs :=
  sq_bs (us := [v]) (sz := 1) hu he (EvI.cons hx EvI.nil) (by intro u hu'; rw [List.mem_singleton.1 hu', cells_one h1]; rfl) rfl rfl hd (fun b => by
    have := k b
    simpa [cells_one h1] using this)
end
end Go.Eng

