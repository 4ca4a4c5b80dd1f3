/- The engine, part 25: a loop whose rounds leave marks of ranges over functions. -/
import Derived.Test.YtfceajkofpafpaaEng24
namespace Go.Eng
open Go Go.RowKit
/-- the marks that ranges over functions have left -/
def cols (bs : List Nat) : List Deferred := bs.map fun b => { target := .collected b, args := #[] }
def colR (bs : List Nat) : List Res := bs.map fun b => .blk b (.deferred (some []))
def RoundD (N : Nat) (w0 : World) {σ : Type} (Dz : σ → List Deferred) (I : σ → List (Nat × Value)) (B : σ → List Res) (C : σ → Prop) (m : σ → Nat) (Q : Post) (s : σ) : Post :=
  Exit.then (fun a w => ∃ s', C s' ∧ m s' < m s ∧ St N (Dz s') (I s') a ∧ Hp w0 (B s') w) Q
section
variable {X : Ctx} {Q : Post} {L : List (Nat × Value)} {rs : List Res} {c d : Code}
theorem sc_loopD {σ : Type} (Dz : σ → List Deferred) (I : σ → List (Nat × Value)) (B : σ → List Res) (C : σ → Prop) (m : σ → Nat) (s0 : σ) (hC : C s0) (hD : Dz s0 = X.D) (hL : SubL (I s0) L) (hB : Sel (B s0) rs)
    (hb : ∀ s, C s → SC { X with D := Dz s } c (RoundD X.N X.w0 Dz I B C m Q s) (I s) (B s)) : SC X (.loop c) Q L rs := by
  intro a w ha hw
  have key : ∀ n s, m s = n → C s → ∀ a w, St X.N (Dz s) (I s) a → Hp X.w0 (B s) w → (Code.loop c).wpIn (FW X.r) 0 X.P Q a w := by
    intro n s hn hs a w ha hw
    refine wpIn_loop (fun a w => ∃ s, C s ∧ m s ≤ n ∧ St X.N (Dz s) (I s) a ∧ Hp X.w0 (B s) w) (fun a w => Classical.epsilon fun k => ∃ s, C s ∧ m s = k ∧ St X.N (Dz s) (I s) a ∧ Hp X.w0 (B s) w ∧ ∀ s', C s' → St X.N (Dz s') (I s') a → Hp X.w0 (B s') w → k ≤ m s') ⟨s, hs, by omega, ha, hw⟩ ?_
    intro a w ⟨s1, h1, h2, h3, h4⟩
    have hex : ∃ k, ∃ s, C s ∧ m s = k ∧ St X.N (Dz s) (I s) a ∧ Hp X.w0 (B s) w ∧ ∀ s', C s' → St X.N (Dz s') (I s') a → Hp X.w0 (B s') w → k ≤ m s' := by
      have : ∀ k, ∀ s, C s → m s ≤ k → St X.N (Dz s) (I s) a → Hp X.w0 (B s) w → ∃ k, ∃ s, C s ∧ m s = k ∧ St X.N (Dz s) (I s) a ∧ Hp X.w0 (B s) w ∧ ∀ s', C s' → St X.N (Dz s') (I s') a → Hp X.w0 (B s') w → k ≤ m s' := by
        intro k
        induction k with
        | zero => exact fun s h1 h2 h3 h4 => ⟨0, s, h1, by omega, h3, h4, fun _ _ _ _ => Nat.zero_le _⟩
        | succ k ih =>
          intro s h1 h2 h3 h4
          by_cases hmin : ∀ s', C s' → St X.N (Dz s') (I s') a → Hp X.w0 (B s') w → m s ≤ m s'
          · exact ⟨m s, s, h1, rfl, h3, h4, hmin⟩
          · simp only [Classical.not_forall] at hmin
            obtain ⟨s', a1, a2, a3, a4⟩ := hmin
            exact ih s' a1 (by omega) a2 a3
      exact this (m s1) s1 h1 (Nat.le_refl _) h3 h4
    obtain ⟨s2, g1, g2, g3, g4, g5⟩ := Classical.epsilon_spec hex
    have hle : m s2 ≤ n := by
      have := g5 s1 h1 h3 h4
      omega
    refine wpIn_mono (hb s2 g1 a w g3 g4) ?_
    intro e a' w' hq
    cases e with
    | normal =>
      obtain ⟨s', q1, q2, q3, q4⟩ := hq
      refine ⟨⟨s', q1, by omega, q3, q4⟩, ?_⟩
      have hex' : ∃ k, ∃ s, C s ∧ m s = k ∧ St X.N (Dz s) (I s) a' ∧ Hp X.w0 (B s) w' ∧ ∀ s', C s' → St X.N (Dz s') (I s') a' → Hp X.w0 (B s') w' → k ≤ m s' := by
        have : ∀ k, ∀ s, C s → m s ≤ k → St X.N (Dz s) (I s) a' → Hp X.w0 (B s) w' → ∃ k, ∃ s, C s ∧ m s = k ∧ St X.N (Dz s) (I s) a' ∧ Hp X.w0 (B s) w' ∧ ∀ s', C s' → St X.N (Dz s') (I s') a' → Hp X.w0 (B s') w' → k ≤ m s' := by
          intro k
          induction k with
          | zero => exact fun s h1 h2 h3 h4 => ⟨0, s, h1, by omega, h3, h4, fun _ _ _ _ => Nat.zero_le _⟩
          | succ k ih =>
            intro s h1 h2 h3 h4
            by_cases hmin : ∀ s', C s' → St X.N (Dz s') (I s') a' → Hp X.w0 (B s') w' → m s ≤ m s'
            · exact ⟨m s, s, h1, rfl, h3, h4, hmin⟩
            · simp only [Classical.not_forall] at hmin
              obtain ⟨s', a1, a2, a3, a4⟩ := hmin
              exact ih s' a1 (by omega) a2 a3
        exact this (m s') s' q1 (Nat.le_refl _) q3 q4
      obtain ⟨s3, e1, e2, e3, e4, e5⟩ := Classical.epsilon_spec hex'
      have := e5 s' q1 q3 q4
      omega
    | _ => exact hq
  exact key _ s0 rfl hC a w (by rw [hD]; exact ha.sub hL) (hw.sel hB)
theorem sx_roundD {σ : Type} {Dz : σ → List Deferred} {I : σ → List (Nat × Value)} {B : σ → List Res} {C : σ → Prop} {m : σ → Nat} {s : σ} (s' : σ) (hC : C s') (hm : m s' < m s) (hD : X.D = Dz s') (hL : SubL (I s') L) (hB : Sel (B s') rs) :
    SX X (RoundD X.N X.w0 Dz I B C m Q s) .normal L rs := fun _ _ ha hw => ⟨s', hC, hm, by rw [← hD]; exact ha.sub hL, hw.sel hB⟩
theorem sx_roundD_exit {σ : Type} {N : Nat} {w0 : World} {Dz : σ → List Deferred} {I : σ → List (Nat × Value)} {B : σ → List Res} {C : σ → Prop} {m : σ → Nat} {s : σ} {i} (h : SX X Q (.exit i) L rs) : SX X (RoundD N w0 Dz I B C m Q s) (.exit i) L rs := h
theorem sx_roundD_ret {σ : Type} {N : Nat} {w0 : World} {Dz : σ → List Deferred} {I : σ → List (Nat × Value)} {B : σ → List Res} {C : σ → Prop} {m : σ → Nat} {s : σ} (h : SX X Q .ret L rs) : SX X (RoundD N w0 Dz I B C m Q s) .ret L rs := h
theorem leaves_cols {w0 : World} {rest : List Res} {P : Program} {fn : Func} {tmps : Array Value} {R : Ending → World → Prop} (h : ∀ w, Hp w0 rest w → LeavesInM (FW none) 0 P fn tmps R [] .returning w) : ∀ (bs : List Nat) (w : World), Hp w0 (colR bs ++ rest) w → LeavesInM (FW none) 0 P fn tmps R (cols bs) .returning w
  | [], w, hw => h w hw
  | b :: bs, w, hw => by
    have hb : w.heap[b]? = some (.deferred (some [])) := hw.ok _ (.head _)
    have hw2 := (hp_put hw .here (.deferred none)).sel (Sel.skip (Sel.refl (colR bs ++ rest)))
    exact ⟨by simp, .inl ⟨b, _, rfl, run_takeDeferred hb, leaves_cols h bs _ hw2⟩⟩
/-- results that are variables, after many such ranges -/
theorem sx_retMs {fn : Func} {R : Ending → World → Prop} {en : Exit} {bs : List Nat} {rest' : List Res} (hen : en = .ret ∨ en = .normal) (hD : X.D = cols bs) (hs : Sel (rest' ++ colR bs) rs) (val : Value)
    (hres : ∀ a w, St X.N X.D L a → Hp X.w0 rest' w → (results fn a.tmps).run X.P w = .ok val w)
    (h : ∀ w, Hp X.w0 rest' w → R (.returned val) w) : SX X (bodyPostM (FW none) 0 X.P fn R) en L rs := by
  intro a w ha hw
  have key : LeavesInM (FW none) 0 X.P fn a.tmps R a.defers .returning w := by
    rw [ha.defs, hD]
    exact leaves_cols (fun w1 hw1 => ⟨val, hres a _ ha hw1, h _ hw1⟩) bs w ((hw.sel hs).sel (Sel.comm rest' (colR bs)))
  rcases hen with rfl | rfl <;> exact key
variable {t ty e : TypeId} {x y : Operand} {d0 : TypeDesc} in
/-- an element of an array's value, that is a struct -/
theorem y_indexA {len i sz : Nat} {k : IntKind} {xs vs : Array Value} (hu : X.P.underlying t = some (.array len e)) (hz : ∀ w, (Go.sizeOf e).run X.P w = .ok sz w) (hs : X.P.underlying e = some d0) (hsc : scal d0 = false) (hx : ev L x = some (.agg xs)) (hy : ev L y = some (.int k (i : Int))) (hi : i < len) (hv : xs.extract (i * sz) (i * sz + sz) = vs) :
    OpS X L rs (.index t x y) ty (.agg vs) := .val fun o h1 _ a w ha _ => by
  simp [execOp, h1, ha.eval hx, ha.eval hy, Instr.index, asIntOf, run_underlying hu, hz, part, run_isAgg_agg hs hsc, hv, hi]
end
end Go.Eng
