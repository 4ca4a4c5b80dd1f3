/- The engine, part 17: a range over a function whose body may break out of it. -/
import Derived.Test.YtpijahglojichaaDoorEng16
namespace Go.Eng
open Go Go.RowKit
section
variable {X : Ctx} {Q : Post} {L : List (Nat × Value)} {rs : List Res}
/-- the loop's record after a break out of its body -/
def LB (id : Nat) (fn : FuncId) (tm : Array Value) (ps : List Tmp) (c d : Code) (D : Nat) : Loop := { LP fn tm ps c d D with state := .done, pending := some (.exit id) }
theorem sc_rangeFuncB {Z Z' : Type} {id : Nat} {g : Operand} {gf : FuncId} {lb : List Value} {ps : List Tmp} {c cd : Code} (rz : Z → List Res) (C : Z → Prop) (rs' : Z' → List Res) (C' : Z' → Prop) (hro : X.r = none) (hg : ev L g = some (.func (.func gf) #[] lb.toArray)) (hcf : ∀ args w, (callFunc gf args).run X.P w = .ok (.enter gf args) w)
    (hc : ∀ fn tm l D, tm.size = X.N → (∀ i v, lk L i = some v → tm[i]? = some v) → ∀ w, Hp X.w0 (.blk l (.loop (LP fn tm ps c cd D)) :: .blk D (.deferred (some [])) :: rs) w →
      Calls X.P gf (.func (.yield l) #[] #[] :: lb).toArray w fun e w' => (∃ v, e = .returned v) ∧ ((∃ z, C z ∧ Hp X.w0 (.blk l (.loop (LP fn tm ps c cd D)) :: .blk D (.deferred (some [])) :: rz z) w') ∨ (∃ z, C' z ∧ Hp X.w0 (.blk l (.loop (LB id fn tm ps c cd D)) :: .blk D (.deferred (some [])) :: rs' z) w')))
    (k : ∀ D z, C z → SX { X with D := { target := .collected D, args := #[] } :: X.D } Q .normal L (.blk D (.deferred (some [])) :: rz z))
    (k' : ∀ D z, C' z → SX { X with D := { target := .collected D, args := #[] } :: X.D } Q (.exit id) L (.blk D (.deferred (some [])) :: rs' z)) : SC X (.rangeFunc g ps.toArray c cd) Q L rs := by
  intro a w ha hw
  refine wpIn_rangeFunc ?_
  intro fn _
  have hr0 : (FW X.r).round = none := hro
  rw [hr0]
  have hw1 := hp_alloc (hp_alloc hw (.deferred (some []))) (.loop (LP fn a.tmps ps c cd w.heap.size))
  obtain ⟨W1, hW1⟩ : ∃ W1, (w.alloc (.deferred (some []))).alloc (.loop (LP fn a.tmps ps c cd w.heap.size)) = W1 := ⟨_, rfl⟩
  rw [hW1, World.size_alloc] at hw1
  have skip1 : ∀ (r : Res) (l : List Res), Sel l (r :: l) := fun r l => Sel.skip (Sel.refl l)
  refine ⟨w.heap.size + 1, [{ target := .collected w.heap.size, args := #[] }], W1, { target := .fn (.func gf) lb.toArray, args := #[.func (.yield (w.heap.size + 1)) #[] #[]] }, W1, gf,
    (.func (.yield (w.heap.size + 1)) #[] #[] :: lb).toArray, W1, ?_, ?_, ?_, ?_, fun h => (by cases h), ?_⟩
  · rw [← hW1]; exact run_enterLoop_outer _ _ _ _ _
  · simp only [resolve, ha.eval hg]
    simp [go_sem]
  · intro f' _; trivial
  · simp [invoke, go_sem, hcf]
  · refine callsIn_FW ((hc fn a.tmps (w.heap.size + 1) w.heap.size ha.size ha.get W1 hw1).mono ?_)
    rintro e w' ⟨⟨v, rfl⟩, ⟨z, hz, hw'⟩ | ⟨z, hz, hw'⟩⟩
    · have hl : w'.heap[w.heap.size + 1]? = some (.loop (LP fn a.tmps ps c cd w.heap.size)) := hw'.ok _ (.head _)
      refine ⟨none, _, run_endLoop (P := X.P) hl (by simp [LP]), ?_⟩
      exact k w.heap.size z hz _ _ ⟨ha.size, by simp [ha.defs], ha.get⟩ ((hp_put hw' .here _).sel (.cons (.there .here) (skip1 _ _)))
    · have hl : w'.heap[w.heap.size + 1]? = some (.loop (LB id fn a.tmps ps c cd w.heap.size)) := hw'.ok _ (.head _)
      refine ⟨some (.exit id), _, run_endLoop (P := X.P) hl (by simp [LB]), ?_⟩
      refine wpIn_exit ?_
      exact k' w.heap.size z hz _ _ ⟨ha.size, by simp [ha.defs], ha.get⟩ ((hp_put hw' .here _).sel (.cons (.there .here) (skip1 _ _)))
theorem sx_endround_exit {l id : Nat} {R : Ending → World → Prop} {r : Loop} {rest' : List Res} (hm : Rem (.blk l (.loop r)) rs rest') (h : ∀ w, Hp X.w0 (.blk l (.loop { r with state := .done, pending := some (.exit id) }) :: rest') w → R (.returned (.bool false)) w) : SX X (roundPost X.P l R) (.exit id) L rs := by
  intro a w ha hw
  have hb : w.heap[l]? = some (.loop r) := hw.ok _ hm.mem.1
  exact ⟨_, _, run_endRound (some (.exit id)) hb, h _ (hp_put hw hm _)⟩
end
end Go.Eng
