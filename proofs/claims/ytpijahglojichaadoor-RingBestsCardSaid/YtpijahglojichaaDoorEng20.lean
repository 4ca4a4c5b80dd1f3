/- The engine, part 20: a whole row is stored into an own slice. -/
import Derived.Test.YtpijahglojichaaDoorEng19
namespace Go.Eng
open Go Go.RowKit
theorem take_mid {A vs : List Value} {a n M : Nat} (h1 : a + n ≤ M) (h2 : M ≤ A.length) (hv : vs.length = n) : (A.take a ++ vs ++ A.drop (a + vs.length)).take M = (A.take M).take a ++ vs ++ (A.take M).drop (a + n) := by
  subst hv
  apply List.ext_getElem?
  intro i
  simp only [List.getElem?_take, List.getElem?_append, List.getElem?_drop, List.length_take, List.length_append]
  repeat' split
  all_goals first | rfl | omega | (congr 1; omega)
section
variable {X : Ctx} {Q : Post} {L : List (Nat × Value)} {rs : List Res} {ops : Array Oper} {rest : List Oper} {ty t e : TypeId} {v : Value} {pos : String} {af : Array Edge} {x y : Operand}
/-- a whole row is stored into an own slice -/
theorem sq_store_ownrow {sz m i : Nat} {xs vs : List Value} {rest' : List Res} (hz : ∀ w, (Go.sizeOf t).run X.P w = .ok sz w) (hx : ev L x = some (.pointer (some (elt (baseA v) i sz)))) (hy : ev L y = some (.agg vs.toArray)) (h1 : vs.all (·.oneCell') = true) (hl : vs.length = sz) (hr : Rem (.own v e sz m xs) rs rest') (h0 : i < m)
    (k : SQ X ops Q rest L (.own v e sz m (xs.take (i * sz) ++ vs ++ xs.drop (i * sz + sz)) :: rest')) : SQ X ops Q (⟨none, .store t x y, ty, pos, af, none⟩ :: rest) L rs := by
  intro a w ha hw
  refine wpListIn_plain rfl fun K hK => ⟨fun _ _ => trivial, ?_⟩
  have hown : w.ownsRow 0 e sz v m xs := hw.ok _ hr.mem.1
  rcases hown.2 with ⟨_, h2⟩ | ⟨g, cap, cur, hv, hb, hg, hmc, hcm, hcs, htk⟩
  · omega
  · subst hv
    rw [elt_own] at hx
    have hlt : i * sz + sz ≤ m * sz := by
      have : (i + 1) * sz ≤ m * sz := Nat.mul_le_mul_right _ h0
      rw [Nat.add_mul] at this; omega
    have hlc : m * sz ≤ cap * sz := Nat.mul_le_mul_right _ hmc
    have h2 := run_storeCells_at X.P g (i * sz) e vs 0 cur w hg (by omega) (fun v hv => (List.all_eq_true.1 h1) v hv)
    have hrun : (execOp a.eval ⟨none, .store t x y, ty, pos, af, none⟩).run X.P w = .ok .skip (w.setRow g (cur.toList.take (i * sz) ++ vs ++ cur.toList.drop (i * sz + vs.length)).toArray) := by
      simp [execOp, ha.eval hx, ha.eval hy, Instr.storeAt, Instr.sureAddr, storeVar, Value.cells, hz, hl] at h2 ⊢
      simp [h2]
    rw [Oper.semAt_eq _ _ _ (by simp)]
    rw [hrun]
    refine hK _ _ (k _ _ ha (hw.swap hr _ rfl rfl rfl (by simp) (fun k' _ hd => setRow_other w g k' _ (fun e' => hd (by subst e'; rfl))) ⟨?_, .inr ⟨g, cap, (cur.toList.take (i * sz) ++ vs ++ cur.toList.drop (i * sz + vs.length)).toArray, rfl, hb, setRow_heap w g cur _ e _ hg, hmc, hcm, ?_, ?_⟩⟩ (fun k' hk => .inl hk)))
    · have hx := hown.1
      simp only [List.length_append, List.length_take, List.length_drop]; omega
    · simp only [List.size_toArray, List.length_append, List.length_take, List.length_drop, Array.length_toList]; omega
    · have hcl : cur.toList.length = cap * sz := by simpa using hcs
      rw [List.toList_toArray, take_mid hlt (by omega) hl, htk]
end
/-- rows, of which one is another -/
theorem flat_setrow {α : Type} {row : α → List Value} {sz : Nat} (hr : ∀ x, (row x).length = sz) (y : α) : ∀ {l : List α} {i : Nat}, i < l.length → (l.flatMap row).take (i * sz) ++ row y ++ (l.flatMap row).drop (i * sz + sz) = (l.set i y).flatMap row
  | a :: l, 0, _ => by
    rw [List.flatMap_cons, List.set_cons_zero, List.flatMap_cons, Nat.zero_mul, List.take_zero, List.nil_append, Nat.zero_add, ← hr a, List.drop_left]
  | a :: l, i + 1, h => by
    have ih := flat_setrow hr y (l := l) (i := i) (by simpa using h)
    rw [List.flatMap_cons, List.set_cons_succ, List.flatMap_cons, ← ih, show (i + 1) * sz = (row a).length + i * sz by rw [hr, Nat.add_mul]; omega, Nat.add_assoc (row a).length, List.take_length_add_append, List.drop_length_add_append]
    simp only [List.append_assoc]
end Go.Eng
