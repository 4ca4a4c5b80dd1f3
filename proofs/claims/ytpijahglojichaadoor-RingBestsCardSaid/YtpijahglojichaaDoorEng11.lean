/- The engine, part 11: what a call returns as one's own; stores into it; a literal of one value. -/
import Derived.Test.YtpijahglojichaaDoorEng10
namespace Go.Eng
open Go Go.RowKit
theorem ownsRow_low {w : World} {lo lo' : Nat} {e : TypeId} {sz n : Nat} {v : Value} {xs : List Value} (h : w.ownsRow lo e sz v n xs) (hl : lo' ≤ lo) : w.ownsRow lo' e sz v n xs := by
  refine ⟨h.1, ?_⟩
  rcases h.2 with h2 | ⟨g, cap, cur, hv, h3, h4, h5⟩
  · exact .inl h2
  · exact .inr ⟨g, cap, cur, hv, Nat.le_trans hl h3, h4, h5⟩
theorem cells_one {v : Value} (h : v.oneCell' = true) : v.cells = #[v] := by cases v <;> first | rfl | cases h
section
variable {X : Ctx} {Q : Post} {L : List (Nat × Value)} {rs : List Res} {ops : Array Oper} {rest : List Oper} {op : Op} {ty t t' e e' : TypeId} {v u : Value} {d n : Nat} {pos : String} {af : Array Edge} {x y : Operand} {d0 : TypeDesc} {k : IntKind}
/-- a call that returns an own slice, with other things that are known -/
theorem sq_call_own {Z : Type} {sz : Nat} {g : Operand} {f : FuncId} {first caps : List Value} {args : List Operand} {vs : List Value} {ats : Array TypeId} (vz : Z → Value) (ow : Z → Value) (xs : Z → List Value) (C : Z → Prop) (hg : ev L g = some (.func (.func f) first.toArray caps.toArray)) (hcf : ∀ args w, (callFunc f args).run X.P w = .ok (.enter f args) w) (hv : EvL L args vs)
    (hc : ∀ w, Hp X.w0 rs w → Calls X.P f (first ++ vs ++ caps).toArray w fun e' w' => ∃ z, e' = .returned (vz z) ∧ Below w.heap.size w w' ∧ C z ∧ w'.ownsRow w.heap.size e sz (ow z) n (xs z)) (hd : Nat.ble (d + 1) X.N = true) (k : ∀ z, C z → SQ X ops Q rest ((d, vz z) :: L) (.own (ow z) e sz n (xs z) :: rs)) :
    SQ X ops Q (⟨some d, .call { callee := .value g, args := args.toArray, argTypes := ats }, ty, pos, af, none⟩ :: rest) L rs :=
  sq_call (Z := Z) vz (fun z => .own (ow z) e sz n (xs z) :: rs) C hg hcf hv (fun w hw => (hc w hw).mono fun _ w' ⟨z, he, hb, hC, ho⟩ => ⟨z, hC, he, hw.new hb _ (ownsRow_low ho (Nat.zero_le _)) fun k hk => (World.ownsRow.lt (w := w') ho k hk).1⟩) hd k
theorem own_news {w0 w : World} {sz m c : Nat} {xs : List Value} {ad : Addr} (h : Hp w0 rs w) (hm : Res.own (.slice (some ad) n c) e sz m xs ∈ rs) : ∀ j u, xs[j]? = some u → w.cell? (ad.add j) = some u := fun j u hj => by
  have ho : w.ownsRow 0 e sz (.slice (some ad) n c) m xs := h.ok _ hm
  rcases ho.2 with ⟨h1, _⟩ | ⟨g, cap, cur, hv, _⟩
  · cases h1
  · cases hv
    exact World.ownsRow.cells (w := w) ho (g := g) rfl j u hj
theorem own_none {w0 w : World} {sz m c : Nat} {xs : List Value} (h : Hp w0 rs w) (hm : Res.own (.slice none n c) e sz m xs ∈ rs) : m = 0 := by
  have ho : w.ownsRow 0 e sz (.slice none n c) m xs := h.ok _ hm
  rcases ho.2 with ⟨_, h1⟩ | ⟨g, cap, cur, hv, _⟩
  · exact h1
  · cases hv
theorem sq_store_own {sz m i j : Nat} {xs : List Value} {rest' : List Res} (hz : ∀ w, (Go.sizeOf t).run X.P w = .ok 1 w) (hx : ev L x = some (.pointer (some ((elt (baseA v) i sz).add j)))) (hy : ev L y = some u) (h1 : u.oneCell' = true) (hr : Rem (.own v e sz m xs) rs rest') (h0 : i < m) (hj : j < sz)
    (k : SQ X ops Q rest L (.own v e sz m (xs.set (i * sz + j) u) :: rest')) : SQ X ops Q (⟨none, .store t x y, ty, pos, af, none⟩ :: rest) L rs := by
  intro a w ha hw
  refine wpListIn_plain rfl fun K hK => ⟨fun _ _ => trivial, ?_⟩
  have hown : w.ownsRow 0 e sz v m xs := hw.ok _ hr.mem.1
  rcases hown.2 with ⟨_, h2⟩ | ⟨g, cap, cur, hv, hb, hg, hmc, hcm, hcs, htk⟩
  · omega
  · subst hv
    rw [elt_own, Addr.add_lit] at hx
    have hlt : i * sz + j < m * sz := by
      have : (i + 1) * sz ≤ m * sz := Nat.mul_le_mul_right _ h0
      rw [Nat.add_mul] at this; omega
    have hlc : m * sz ≤ cap * sz := Nat.mul_le_mul_right _ hmc
    have hcell : w.cell? ⟨g, i * sz + j, none⟩ = cur[i * sz + j]? := cell_of_row w g _ cur e (0, 0) hg
    have hrun : (execOp a.eval ⟨none, .store t x y, ty, pos, af, none⟩).run X.P w = .ok .skip (w.setCell ⟨g, i * sz + j, none⟩ u) := by
      simp [execOp, ha.eval hx, ha.eval hy, Instr.storeAt, Instr.sureAddr, run_storeVar_one hz h1 (by rw [hcell]; simp; omega) (frozen_of_row w g _ cur e hg)]
    rw [Oper.semAt_eq _ _ _ (by simp)]
    rw [hrun]
    refine hK _ _ (k _ _ ha (hw.swap hr _ rfl rfl rfl (by simp) (fun k' _ hd => heap_setCell_other w _ k' u (fun e' => hd (by subst e'; rfl))) ⟨by rw [List.length_set]; exact hown.1, .inr ⟨g, cap, cur.setIfInBounds (i * sz + j) u, rfl, hb, setCell_heap hg u, hmc, hcm, by simp [hcs], ?_⟩⟩ (fun k' hk => .inl hk)))
    rw [Array.toList_setIfInBounds, List.take_set, htk]
/-- a literal of one value that has one cell -/
theorem sq_bsv {z : Value} {by' : Nat} (hu : X.P.underlying t = some (.slice e)) (he : EI X.P e z 1 by') (hx : ev L x = some v) (h1 : v.oneCell' = true) (hd : Nat.ble (d + 1) X.N = true) (k : ∀ b, SQ X ops Q rest ((d, .slice (some ⟨b, 0, none⟩) 1 1) :: L) (.blk b (.cells [v].toArray e (0, 0)) :: rs)) :
    SQ X ops Q (⟨some d, .buildSlice t 1 [(0, x)].toArray, ty, pos, af, none⟩ :: rest) L rs :=
  sq_bs (us := [v]) (sz := 1) hu he (EvI.cons hx EvI.nil) (by intro u hu'; rw [List.mem_singleton.1 hu', cells_one h1]; rfl) rfl rfl hd (fun b => by
    have := k b
    simpa [cells_one h1] using this)
end
end Go.Eng
