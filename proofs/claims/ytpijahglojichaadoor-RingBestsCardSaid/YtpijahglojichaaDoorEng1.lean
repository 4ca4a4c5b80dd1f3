/- The engine, part 1: symbolic frames, resources of the heap, judgements on code, and the rules for control flow. Nothing here names a program. -/
import Derived.WalkKit
import Derived.OwnWalkIn
import Derived.Deep.Quiet
import Derived.KernelRfl
import Derived.RangeFuncIn
namespace Go.Eng
open Go Go.RowKit

def FW (r : Option Nat) : Fence := { fn := fun _ => True, depth := none, alive := false, round := r }
theorem FW_none : FW none = Fence.wide := rfl
theorem FW_some (l : Nat) : FW (some l) = Fence.wide.inRound l := rfl
theorem FW_room (r : Option Nat) (k : Nat) : (FW r).room k := fun d h => by cases h

theorem callsIn_FW {r : Option Nat} {n : Nat} {P : Program} {f : FuncId} {args : Array Value} {w : World} {R : Ending → World → Prop} (h : Calls P f args w R) : CallsIn (FW r) n P f args w R := by
  refine ⟨trivial, fun cs _ => ?_⟩
  obtain ⟨e, w', fr, hr, hc, h1, h2⟩ := h cs
  refine ⟨e, w', fr, hr, ?_, h1, h2⟩
  have : Machine.fenced P (FW r) = Machine.fenced P Fence.wide := by cases r <;> rfl
  rw [this]
  exact comesIn_wide.2 hc

/-! ### frames -/
def lk : List (Nat × Value) → Nat → Option Value
  | [], _ => none
  | (j, v) :: L, i => bif Nat.beq j i then some v else lk L i
def ev (L : List (Nat × Value)) : Operand → Option Value
  | .tmp t => lk L t
  | .const v => some v
  | .global g => some (.pointer (some ⟨g, 0, none⟩))
  | .func f => some (.func (.func f) #[] #[])
structure St (N : Nat) (D : List Deferred) (L : List (Nat × Value)) (a : Act) : Prop where
  size : a.tmps.size = N
  defs : a.defers = D
  get : ∀ i v, lk L i = some v → a.tmps[i]? = some v
theorem St.eval {N D L a} (h : St N D L a) {x : Operand} {v : Value} (hv : ev L x = some v) : a.eval x = v := by
  cases x with
  | tmp t => have := h.get t v hv; simp [Act.eval, Array.getD_eq_getD_getElem?, this]
  | const u => simp [ev] at hv; simp [Act.eval, hv]
  | global g => simp [ev] at hv; simp [Act.eval, hv]
  | func f => simp [ev] at hv; simp [Act.eval, hv]
theorem lk_cons {L : List (Nat × Value)} {d i : Nat} {u : Value} : lk ((d, u) :: L) i = if d = i then some u else lk L i := by
  by_cases h : d = i
  · subst h; simp [lk]
  · have : Nat.beq d i = false := by
      cases hb : Nat.beq d i
      · rfl
      · exact absurd (Nat.eq_of_beq_eq_true hb) h
    simp [lk, this, h]
theorem St.put {N D L a} (h : St N D L a) {d : Nat} (hd : d < N) (v : Value) : St N D ((d, v) :: L) (a.put (some d) v) := by
  refine ⟨by simp [Act.put, h.size], h.defs, fun i u hu => ?_⟩
  rw [lk_cons] at hu
  by_cases e : d = i
  · subst e; simp at hu; subst hu; simp [Act.put, h.size, hd]
  · simp [e] at hu; simp [Act.put, Array.getElem?_setIfInBounds_ne e, h.get i u hu]
theorem St.put_none {N D L a} (h : St N D L a) (v : Value) : St N D L (a.put none v) := h
def SubL (L' L : List (Nat × Value)) : Prop := ∀ i v, lk L' i = some v → lk L i = some v
theorem SubL.nil {L} : SubL [] L := fun _ _ h => by cases h
theorem SubL.cons {L' L i v} (h : lk L i = some v) (t : SubL L' L) : SubL ((i, v) :: L') L := fun j u hu => by
  rw [lk_cons] at hu
  by_cases e : i = j
  · subst e; simp at hu; subst hu; exact h
  · simp [e] at hu; exact t j u hu
theorem SubL.refl (L) : SubL L L := fun _ _ h => h
theorem St.sub {N D L L' a} (h : St N D L a) (hs : SubL L' L) : St N D L' a := ⟨h.size, h.defs, fun i v hv => h.get i v (hs i v hv)⟩
theorem lk_int {L i k x y} (h : lk L i = some (.int k x)) (e : x = y) : lk L i = some (.int k y) := e ▸ h
theorem lk_bool {L i} {x y : Bool} (h : lk L i = some (.bool x)) (e : x = y) : lk L i = some (.bool y) := e ▸ h
theorem lk_eq {L i v u} (h : lk L i = some v) (e : v = u) : lk L i = some u := e ▸ h
theorem ev_int {L x k n m} (h : ev L x = some (.int k n)) (e : n = m) : ev L x = some (.int k m) := e ▸ h

/-! ### resources -/
inductive Res where
  | blk (b : Nat) (o : Obj)
  | reg (lo : Nat) (wr : World)
  | own (v : Value) (e : TypeId) (sz n : Nat) (xs : List Value)
  | set (D : Nat → Prop) (wr : World)
def Res.dom : Res → Nat → Prop
  | .blk b _, k => k = b
  | .reg lo wr, k => lo ≤ k ∧ k < wr.heap.size
  | .own v _ _ _ _, k => v.ownBlock = some k
  | .set D _, k => D k
def Res.ok (w : World) : Res → Prop
  | .blk b o => w.heap[b]? = some o
  | .reg lo wr => wr.heap.size ≤ w.heap.size ∧ ∀ k, lo ≤ k → k < wr.heap.size → w.heap[k]? = wr.heap[k]?
  | .own v e sz n xs => w.ownsRow 0 e sz v n xs
  | .set D wr => wr.heap.size ≤ w.heap.size ∧ ∀ k, D k → k < wr.heap.size ∧ w.heap[k]? = wr.heap[k]?
theorem Res.ok_lt {w : World} {r : Res} (h : r.ok w) {k : Nat} (hk : r.dom k) : k < w.heap.size := by
  cases r with
  | blk b o => cases hk; exact (Array.getElem?_eq_some_iff.1 h).1
  | reg lo wr => exact Nat.lt_of_lt_of_le hk.2 h.1
  | own v e sz n xs => exact (World.ownsRow.lt (w := w) h k hk).2
  | set D wr => exact Nat.lt_of_lt_of_le (h.2 k hk).1 h.1
theorem Res.ok_same {w w' : World} {r : Res} (h : r.ok w) (hs : w.heap.size ≤ w'.heap.size) (hk : ∀ k, r.dom k → w'.heap[k]? = w.heap[k]?) : r.ok w' := by
  cases r with
  | blk b o => exact (hk b rfl).trans h
  | reg lo wr => exact ⟨Nat.le_trans h.1 hs, fun k h1 h2 => (hk k ⟨h1, h2⟩).trans (h.2 k h1 h2)⟩
  | own v e sz n xs =>
    refine ⟨h.1, ?_⟩
    rcases h.2 with h2 | ⟨g, cap, cur, hv, h3, h4, h5⟩
    · exact .inl h2
    · exact .inr ⟨g, cap, cur, hv, h3, (hk g (by subst hv; rfl)).trans h4, h5⟩
  | set D wr => exact ⟨Nat.le_trans h.1 hs, fun k h1 => ⟨(h.2 k h1).1, (hk k h1).trans (h.2 k h1).2⟩⟩
structure Hp (w0 : World) (rs : List Res) (w : World) : Prop where
  os : w.os = w0.os
  tape : w.tape = w0.tape
  output : w.output = w0.output
  size : w0.heap.size ≤ w.heap.size
  ok : ∀ r, r ∈ rs → r.ok w
  apart : rs.Pairwise (fun r s => ∀ k, r.dom k → ¬ s.dom k)
theorem Hp.init (w0 : World) : Hp w0 [.reg 0 w0] w0 :=
  ⟨rfl, rfl, rfl, Nat.le_refl _, fun r hr => by simp at hr; subst hr; exact ⟨Nat.le_refl _, fun _ _ _ => rfl⟩, by simp⟩
theorem Hp.ext {w0 rs w w'} (h : Hp w0 rs w) (hb : Below w.heap.size w w') : Hp w0 rs w' :=
  ⟨hb.os.trans h.os, hb.tape.trans h.tape, hb.output.trans h.output, Nat.le_trans h.size hb.size,
   fun r hr => Res.ok_same (h.ok r hr) hb.size fun k hk => hb.block k (Res.ok_lt (h.ok r hr) hk), h.apart⟩
theorem Hp.drew {w0 rs w} (h : Hp w0 rs w) : Hp w0 rs { w with drawn := w.drawn + 1 } := h.ext ⟨rfl, rfl, rfl, Nat.le_refl _, fun _ _ => rfl⟩
theorem Hp.new {w0 rs w w'} (h : Hp w0 rs w) (hb : Below w.heap.size w w') (r : Res) (hok : r.ok w') (hd : ∀ k, r.dom k → w.heap.size ≤ k) : Hp w0 (r :: rs) w' := by
  have h' := h.ext hb
  refine ⟨h'.os, h'.tape, h'.output, h'.size, ?_, ?_⟩
  · intro s hs
    rcases List.mem_cons.1 hs with rfl | hs
    · exact hok
    · exact h'.ok s hs
  · refine List.pairwise_cons.2 ⟨fun s hs k hk hk' => ?_, h.apart⟩
    have := Res.ok_lt (h.ok s hs) hk'
    have := hd k hk
    omega
/-- all that the callee made is kept from now on -/
theorem Hp.region {w0 rs w w'} (h : Hp w0 rs w) (hb : Below w.heap.size w w') : Hp w0 (.reg w.heap.size w' :: rs) w' :=
  h.new hb _ ⟨Nat.le_refl _, fun _ _ _ => rfl⟩ fun _ hk => hk.1
theorem Hp.below {w0 rs w} (h : Hp w0 rs w) (hm : Res.reg 0 w0 ∈ rs) : Below w0.heap.size w0 w :=
  ⟨h.os, h.tape, h.output, h.size, fun k hk => (h.ok _ hm).2 k (Nat.zero_le _) hk⟩
/-- selection of some resources, in some order -/
inductive Rem (r : Res) : List Res → List Res → Prop
  | here {rs} : Rem r (r :: rs) rs
  | there {s rs rs'} (h : Rem r rs rs') : Rem r (s :: rs) (s :: rs')
inductive Sel : List Res → List Res → Prop
  | nil {rs} : Sel [] rs
  | cons {r rs rs' t} (h : Rem r rs rs') (k : Sel t rs') : Sel (r :: t) rs
theorem Rem.mem {r rs rs'} (h : Rem r rs rs') : r ∈ rs ∧ ∀ s, s ∈ rs' → s ∈ rs := by
  induction h with
  | here => exact ⟨List.mem_cons_self .., fun s hs => List.mem_cons_of_mem _ hs⟩
  | there h ih => exact ⟨List.mem_cons_of_mem _ ih.1, fun s hs => by
      rcases List.mem_cons.1 hs with rfl | hs
      · exact List.mem_cons_self ..
      · exact List.mem_cons_of_mem _ (ih.2 s hs)⟩
theorem Rem.pairwise {R : Res → Res → Prop} (hsym : ∀ a b, R a b → R b a) {r rs rs'} (h : Rem r rs rs') (hp : rs.Pairwise R) : (r :: rs').Pairwise R := by
  induction h with
  | here => exact hp
  | there h ih =>
    obtain ⟨h1, h2⟩ := List.pairwise_cons.1 hp
    obtain ⟨h3, h4⟩ := List.pairwise_cons.1 (ih h2)
    refine List.pairwise_cons.2 ⟨fun s hs => ?_, List.pairwise_cons.2 ⟨fun s hs => h1 s (h.mem.2 s hs), h4⟩⟩
    rcases List.mem_cons.1 hs with rfl | hs
    · exact hsym _ _ (h1 _ h.mem.1)
    · exact h3 s hs
theorem apart_sym (a b : Res) (h : ∀ k, a.dom k → ¬ b.dom k) : ∀ k, b.dom k → ¬ a.dom k := fun k hb ha => h k ha hb
theorem Sel.mem {t rs} (h : Sel t rs) : ∀ s, s ∈ t → s ∈ rs := by
  induction h with
  | nil => intro s hs; cases hs
  | cons h k ih =>
    intro s hs
    rcases List.mem_cons.1 hs with rfl | hs
    · exact h.mem.1
    · exact h.mem.2 s (ih s hs)
theorem Sel.pairwise {t rs} (h : Sel t rs) (hp : rs.Pairwise (fun r s => ∀ k, r.dom k → ¬ s.dom k)) : t.Pairwise (fun r s => ∀ k, r.dom k → ¬ s.dom k) := by
  induction h with
  | nil => exact .nil
  | cons h k ih =>
    obtain ⟨h1, h2⟩ := List.pairwise_cons.1 (h.pairwise apart_sym hp)
    exact List.pairwise_cons.2 ⟨fun s hs => h1 s (k.mem s hs), ih h2⟩
theorem Hp.sel {w0 rs rs' w} (h : Hp w0 rs w) (hs : Sel rs' rs) : Hp w0 rs' w :=
  ⟨h.os, h.tape, h.output, h.size, fun r hr => h.ok r (hs.mem r hr), hs.pairwise h.apart⟩
/-- one resource is taken, and another one put into its place -/
theorem Hp.swap {w0 rs rest w w'} {r : Res} (h : Hp w0 rs w) (hr : Rem r rs rest) (r' : Res) (hos : w'.os = w.os) (ht : w'.tape = w.tape) (ho : w'.output = w.output) (hsz : w.heap.size ≤ w'.heap.size)
    (hsame : ∀ k, k < w.heap.size → ¬ r.dom k → w'.heap[k]? = w.heap[k]?) (hok : r'.ok w') (hdom : ∀ k, r'.dom k → r.dom k ∨ w.heap.size ≤ k) : Hp w0 (r' :: rest) w' := by
  obtain ⟨h1, h2⟩ := List.pairwise_cons.1 (hr.pairwise apart_sym h.apart)
  refine ⟨hos.trans h.os, ht.trans h.tape, ho.trans h.output, Nat.le_trans h.size hsz, ?_, ?_⟩
  · intro s hs
    rcases List.mem_cons.1 hs with rfl | hs
    · exact hok
    · have hsok := h.ok s (hr.mem.2 s hs)
      exact Res.ok_same hsok hsz fun k hk => hsame k (Res.ok_lt hsok hk) fun hrk => h1 s hs k hrk hk
  · refine List.pairwise_cons.2 ⟨fun s hs k hk hk' => ?_, h2⟩
    rcases hdom k hk with hr' | hge
    · exact h1 s hs k hr' hk'
    · have := Res.ok_lt (h.ok s (hr.mem.2 s hs)) hk'; omega

/-! ### judgements -/
structure Ctx where
  r : Option Nat
  P : Program
  N : Nat
  D : List Deferred
  w0 : World
abbrev Post := Exit → Act → World → Prop
def SC (X : Ctx) (c : Code) (Q : Post) (L : List (Nat × Value)) (rs : List Res) : Prop := ∀ a w, St X.N X.D L a → Hp X.w0 rs w → c.wpIn (FW X.r) 0 X.P Q a w
def SQ (X : Ctx) (ops : Array Oper) (Q : Post) (l : List Oper) (L : List (Nat × Value)) (rs : List Res) : Prop := ∀ a w, St X.N X.D L a → Hp X.w0 rs w → wpListIn (FW X.r) 0 X.P ops Q l a w
def SX (X : Ctx) (Q : Post) (e : Exit) (L : List (Nat × Value)) (rs : List Res) : Prop := ∀ a w, St X.N X.D L a → Hp X.w0 rs w → Q e a w
/-- the continuation of a sequence -/
def Then (X : Ctx) (c : Code) (Q : Post) : Post := Exit.then (fun a w => c.wpIn (FW X.r) 0 X.P Q a w) Q
section
variable {X : Ctx} {Q : Post} {L : List (Nat × Value)} {rs : List Res} {c d : Code}
theorem sc_seq (h : SC X c (Then X d Q) L rs) : SC X (.seq c d) Q L rs := fun a w ha hw => wpIn_seq (h a w ha hw)
theorem sx_then (h : SC X d Q L rs) : SX X (Then X d Q) .normal L rs := h
theorem sx_then_exit {i} (h : SX X Q (.exit i) L rs) : SX X (Then X d Q) (.exit i) L rs := h
theorem sx_then_ret (h : SX X Q .ret L rs) : SX X (Then X d Q) .ret L rs := h
theorem sc_skip (h : SX X Q .normal L rs) : SC X .skip Q L rs := fun a w ha hw => wpIn_skip (h a w ha hw)
theorem sc_exit {i} (h : SX X Q (.exit i) L rs) : SC X (.exit i) Q L rs := fun a w ha hw => wpIn_exit (h a w ha hw)
theorem sc_ret (h : SX X Q .ret L rs) : SC X .ret Q L rs := fun a w ha hw => wpIn_ret (h a w ha hw)
theorem sc_block {i} (h : SC X c (Exit.inBlock i Q) L rs) : SC X (.block i c) Q L rs := fun a w ha hw => wpIn_block (h a w ha hw)
theorem sx_blk {i} (h : SX X Q .normal L rs) : SX X (Exit.inBlock i Q) .normal L rs := h
theorem sx_blk_hit {i} (h : SX X Q .normal L rs) : SX X (Exit.inBlock i Q) (.exit i) L rs := fun a w ha hw => by
  simp only [Exit.inBlock, if_true]; exact h a w ha hw
theorem sx_blk_miss {i j} (hij : Nat.beq j i = false) (h : SX X Q (.exit j) L rs) : SX X (Exit.inBlock i Q) (.exit j) L rs := fun a w ha hw => by
  have : j ≠ i := fun e => by subst e; simp at hij
  simp only [Exit.inBlock, if_neg this]; exact h a w ha hw
theorem sx_blk_ret {i} (h : SX X Q .ret L rs) : SX X (Exit.inBlock i Q) .ret L rs := h
theorem sc_cond {x : Operand} {b : Bool} (hx : ev L x = some (.bool b)) (ht : b = true → SC X c Q L rs) (hf : b = false → SC X d Q L rs) : SC X (.cond x c d) Q L rs :=
  fun a w ha hw => wpIn_cond_split (ha.eval hx) (fun e => ht e a w ha hw) (fun e => hf e a w ha hw)
theorem sc_if {x : Operand} {p : Prop} [Decidable p] (hx : ev L x = some (.bool (decide p))) (ht : p → SC X c Q L rs) (hf : ¬ p → SC X d Q L rs) : SC X (.cond x c d) Q L rs :=
  sc_cond hx (fun e => ht (of_decide_eq_true e)) (fun e => hf (of_decide_eq_false e))
theorem sc_ifn {x : Operand} {p : Prop} [Decidable p] (hx : ev L x = some (.bool (!decide p))) (ht : ¬ p → SC X c Q L rs) (hf : p → SC X d Q L rs) : SC X (.cond x c d) Q L rs :=
  sc_cond hx (fun e => ht (by simpa using e)) (fun e => hf (by simpa using e))
theorem sc_t {x : Operand} (hx : ev L x = some (.bool true)) (h : SC X c Q L rs) : SC X (.cond x c d) Q L rs := sc_cond hx (fun _ => h) (fun e => by cases e)
theorem sc_f {x : Operand} (hx : ev L x = some (.bool false)) (h : SC X d Q L rs) : SC X (.cond x c d) Q L rs := sc_cond hx (fun e => by cases e) (fun _ => h)
theorem sc_region {i : Nat} {l : List Oper} (h : SQ X l.toArray Q l L rs) : SC X (.region i l.toArray false) Q L rs := fun a w ha hw => wpIn_region_lit (h a w ha hw)
theorem sq_nil {ops} (h : SX X Q .normal L rs) : SQ X ops Q [] L rs := h
theorem sc_sub {L' rs'} (hL : SubL L' L) (hr : Sel rs' rs) (h : SC X c Q L' rs') : SC X c Q L rs := fun a w ha hw => h a w (ha.sub hL) (hw.sel hr)
theorem sx_sub {L' rs' e} (hL : SubL L' L) (hr : Sel rs' rs) (h : SX X Q e L' rs') : SX X Q e L rs := fun a w ha hw => h a w (ha.sub hL) (hw.sel hr)
theorem sq_sub {L' rs' ops l} (hL : SubL L' L) (hr : Sel rs' rs) (h : SQ X ops Q l L' rs') : SQ X ops Q l L rs := fun a w ha hw => h a w (ha.sub hL) (hw.sel hr)
/-- the post of a loop's round -/
def Round (X : Ctx) {σ : Type} (I : σ → List (Nat × Value)) (B : σ → List Res) (C : σ → Prop) (m : σ → Nat) (Q : Post) (s : σ) : Post :=
  Exit.then (fun a w => ∃ s', C s' ∧ m s' < m s ∧ St X.N X.D (I s') a ∧ Hp X.w0 (B s') w) Q
theorem sc_loop {σ : Type} (I : σ → List (Nat × Value)) (B : σ → List Res) (C : σ → Prop) (m : σ → Nat) (s0 : σ) (hC : C s0) (hL : SubL (I s0) L) (hB : Sel (B s0) rs)
    (hb : ∀ s, C s → SC X c (Round X I B C m Q s) (I s) (B s)) : SC X (.loop c) Q L rs := by
  intro a w ha hw
  have key : ∀ n s, m s = n → C s → ∀ a w, St X.N X.D (I s) a → Hp X.w0 (B s) w → (Code.loop c).wpIn (FW X.r) 0 X.P Q a w := by
    intro n s hn hs a w ha hw
    refine wpIn_loop (fun a w => ∃ s, C s ∧ m s ≤ n ∧ St X.N X.D (I s) a ∧ Hp X.w0 (B s) w) (fun a w => Classical.epsilon fun k => ∃ s, C s ∧ m s = k ∧ St X.N X.D (I s) a ∧ Hp X.w0 (B s) w ∧ ∀ s', C s' → St X.N X.D (I s') a → Hp X.w0 (B s') w → k ≤ m s') ⟨s, hs, by omega, ha, hw⟩ ?_
    intro a w ⟨s1, h1, h2, h3, h4⟩
    have hex : ∃ k, ∃ s, C s ∧ m s = k ∧ St X.N X.D (I s) a ∧ Hp X.w0 (B s) w ∧ ∀ s', C s' → St X.N X.D (I s') a → Hp X.w0 (B s') w → k ≤ m s' := by
      have : ∀ k, ∀ s, C s → m s ≤ k → St X.N X.D (I s) a → Hp X.w0 (B s) w → ∃ k, ∃ s, C s ∧ m s = k ∧ St X.N X.D (I s) a ∧ Hp X.w0 (B s) w ∧ ∀ s', C s' → St X.N X.D (I s') a → Hp X.w0 (B s') w → k ≤ m s' := by
        intro k
        induction k with
        | zero => exact fun s h1 h2 h3 h4 => ⟨0, s, h1, by omega, h3, h4, fun _ _ _ _ => Nat.zero_le _⟩
        | succ k ih =>
          intro s h1 h2 h3 h4
          by_cases hmin : ∀ s', C s' → St X.N X.D (I s') a → Hp X.w0 (B s') w → m s ≤ m s'
          · exact ⟨m s, s, h1, rfl, h3, h4, hmin⟩
          · simp only [Classical.not_forall] at hmin
            obtain ⟨s', a1, a2, a3, a4⟩ := hmin
            exact ih s' a1 (by omega) a2 a3
      exact this (m s1) s1 h1 (Nat.le_refl _) h3 h4
    obtain ⟨s2, g1, g2, g3, g4, g5⟩ := Classical.epsilon_spec hex
    have hle : m s2 ≤ n := by
      have := g5 s1 h1 h3 h4
      omega
    refine wpIn_mono (hb s2 g1 a w g3 g4) ?_
    intro e a' w' hq
    cases e with
    | normal =>
      obtain ⟨s', q1, q2, q3, q4⟩ := hq
      refine ⟨⟨s', q1, by omega, q3, q4⟩, ?_⟩
      have hex' : ∃ k, ∃ s, C s ∧ m s = k ∧ St X.N X.D (I s) a' ∧ Hp X.w0 (B s) w' ∧ ∀ s', C s' → St X.N X.D (I s') a' → Hp X.w0 (B s') w' → k ≤ m s' := by
        have : ∀ k, ∀ s, C s → m s ≤ k → St X.N X.D (I s) a' → Hp X.w0 (B s) w' → ∃ k, ∃ s, C s ∧ m s = k ∧ St X.N X.D (I s) a' ∧ Hp X.w0 (B s) w' ∧ ∀ s', C s' → St X.N X.D (I s') a' → Hp X.w0 (B s') w' → k ≤ m s' := by
          intro k
          induction k with
          | zero => exact fun s h1 h2 h3 h4 => ⟨0, s, h1, by omega, h3, h4, fun _ _ _ _ => Nat.zero_le _⟩
          | succ k ih =>
            intro s h1 h2 h3 h4
            by_cases hmin : ∀ s', C s' → St X.N X.D (I s') a' → Hp X.w0 (B s') w' → m s ≤ m s'
            · exact ⟨m s, s, h1, rfl, h3, h4, hmin⟩
            · simp only [Classical.not_forall] at hmin
              obtain ⟨s', a1, a2, a3, a4⟩ := hmin
              exact ih s' a1 (by omega) a2 a3
        exact this (m s') s' q1 (Nat.le_refl _) q3 q4
      obtain ⟨s3, e1, e2, e3, e4, e5⟩ := Classical.epsilon_spec hex'
      have := e5 s' q1 q3 q4
      omega
    | _ => exact hq
  exact key _ s0 rfl hC a w (ha.sub hL) (hw.sel hB)
theorem sx_round {σ : Type} {I : σ → List (Nat × Value)} {B : σ → List Res} {C : σ → Prop} {m : σ → Nat} {s : σ} (s' : σ) (hC : C s') (hm : m s' < m s) (hL : SubL (I s') L) (hB : Sel (B s') rs) :
    SX X (Round X I B C m Q s) .normal L rs := fun _ _ ha hw => ⟨s', hC, hm, ha.sub hL, hw.sel hB⟩
theorem sx_round_exit {σ : Type} {I : σ → List (Nat × Value)} {B : σ → List Res} {C : σ → Prop} {m : σ → Nat} {s : σ} {i} (h : SX X Q (.exit i) L rs) : SX X (Round X I B C m Q s) (.exit i) L rs := h
theorem sx_round_ret {σ : Type} {I : σ → List (Nat × Value)} {B : σ → List Res} {C : σ → Prop} {m : σ → Nat} {s : σ} (h : SX X Q .ret L rs) : SX X (Round X I B C m Q s) .ret L rs := h
/-- what stands in between: ways meet again -/
def Mid (X : Ctx) (L' : List (Nat × Value)) (rs' : List Res) (Q : Post) : Post := Exit.then (fun a w => St X.N X.D L' a ∧ Hp X.w0 rs' w) Q
theorem sc_mid (L' : List (Nat × Value)) (rs' : List Res) (h : SC X c (Mid X L' rs' Q) L rs) (k : SX X Q .normal L' rs') : SC X c Q L rs := fun a w ha hw =>
  wpIn_mono (h a w ha hw) fun e a' w' hq => by cases e <;> first | exact hq | exact k a' w' hq.1 hq.2
theorem sx_mid {L' rs'} (hL : SubL L' L) (hB : Sel rs' rs) : SX X (Mid X L' rs' Q) .normal L rs := fun _ _ ha hw => ⟨ha.sub hL, hw.sel hB⟩
theorem sx_mid_exit {L' rs' i} (h : SX X Q (.exit i) L rs) : SX X (Mid X L' rs' Q) (.exit i) L rs := h
theorem sx_mid_ret {L' rs'} (h : SX X Q .ret L rs) : SX X (Mid X L' rs' Q) .ret L rs := h
end
/-- the arguments, in the first slots -/
def argL : Nat → List Value → List (Nat × Value)
  | _, [] => []
  | k, v :: vs => (k, v) :: argL (k + 1) vs
theorem lk_argL : ∀ (vs : List Value) (k i : Nat) (v : Value), lk (argL k vs) i = some v → k ≤ i ∧ vs[i - k]? = some v
  | [], _, _, _, h => by cases h
  | u :: vs, k, i, v, h => by
    simp only [argL] at h
    rw [lk_cons] at h
    by_cases e : k = i
    · subst e; simp at h; subst h; simp
    · simp [e] at h
      obtain ⟨h1, h2⟩ := lk_argL vs (k + 1) i v h
      refine ⟨by omega, ?_⟩
      have : i - k = (i - (k + 1)) + 1 := by omega
      rw [this]; simpa using h2
theorem calls_of_SC {P : Program} {f : FuncId} {fn : Func} {c : Code} {args : List Value} {w : World} {R : Ending → World → Prop} {N : Nat} (hf : P.funcs[f]? = some fn) (hb : fn.body = some c) (hN : fn.ntmps = N) (hn0 : Nat.ble args.length N = true)
    (h : SC ⟨none, P, N, [], w⟩ c (bodyPost P fn R) (argL 0 args) [.reg 0 w]) : Calls P f args.toArray w R := by
  have hn := Nat.le_of_ble_eq_true hn0
  refine calls_of_wp hf hb (wpIn_wide.1 (h _ w ⟨?_, rfl, fun i v hv => ?_⟩ (Hp.init w)))
  · simp [hN]; omega
  · obtain ⟨h1, h2⟩ := lk_argL args 0 i v hv
    simp at h2
    have hi : i < args.length := (List.getElem?_eq_some_iff.1 h2).1
    rw [Array.getElem?_append_left (by simpa using hi)]; simpa using h2

/-! ### short words: what is shown by looking -/
theorem RF {p : Prop} (h : p := by exact rfl) : p := h
theorem MM {p : Prop} (h : p := by repeat (first | exact .head _ | refine .tail _ ?_)) : p := h
theorem RM {p : Prop} (h : p := by repeat (first | exact Rem.here | apply Rem.there)) : p := h
theorem SE {p : Prop} (h : p := by repeat (first | exact Sel.nil | refine Sel.cons (by repeat (first | exact Rem.here | apply Rem.there)) ?_)) : p := h
theorem SU {p : Prop} (h : p := by repeat (first | exact SubL.nil | refine SubL.cons (by first | exact rfl | exact lk_int rfl (by omega) | exact lk_eq rfl (by simp)) ?_)) : p := h
end Go.Eng
