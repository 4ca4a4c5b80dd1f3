/- The walks of the document's example. -/
import Derived.Test.YtegdfpilhlcplaaWalk16
import Derived.Test.YtegdfpilhlcplaaLaw7
import Derived.Test.YtegdfpilhlcplaaEng8
namespace Go.Proofs.Ytegdfpilhlcplaa
open Go Go.Eng Go.RowKit Go.Proofs
set_option maxRecDepth 100000
theorem ca_rows {α : Type} {row : α → List Value} {sz : Nat} (hr : ∀ x, (row x).length = sz) {lo b : Nat} {w : World} {l : List α} (h : CA lo w ⟨b, 0, none⟩ (l.flatMap row)) : ∀ i x, l[i]? = some x → (some (⟨b, 0, none⟩ : Addr)).isSome = true ∧ CA lo w (elt (some ⟨b, 0, none⟩) i sz) (row x) := fun i x hi => by
  refine ⟨rfl, ?_⟩
  have e1 : elt (some ⟨b, 0, none⟩) i sz = (⟨b, i * sz, none⟩ : Addr) := by simp [elt, Addr.add_lit]
  rw [e1]
  refine ⟨h.1, fun j v hj => ?_⟩
  have := h.2 _ v (flat_get hr l i x hi j v hj)
  rw [Addr.add_lit, Nat.zero_add] at this
  rw [Addr.add_lit]; exact this
theorem spRow_len (s : Sp) : (spRow s).length = 2 := rfl
theorem wdRow_len (d : Wd) : (wdRow d).length = 4 := rfl
def tmR (p : Int × Value) : List Value := [.int .i64 p.1, p.2]
theorem tmR_len (p : Int × Value) : (tmR p).length = 2 := rfl

theorem sample28 (w : World) : Calls Try.prog 28 #[] w fun e w' => ∃ z : Option Addr × (Nat → Option Addr) × (Nat → Nat), e = .returned (.agg (rcVal smpR z.1 3).toArray) ∧ Below w.heap.size w w' ∧ TmsA w.heap.size w' z.1 smpR.teams z.2.1 z.2.2 := by
  refine calls_of_SC (args := []) Try.func28 rfl Try.ntmps28 rfl ?_
  simp only [argL]
  refine sc_seq ?_
  refine sc_region ?_
  refine sq_alloc Try.zeroValue24 rfl (fun b0 => ?_)
  refine sq_nil ?_
  refine sx_then ?_
  refine sc_seq ?_
  refine sc_region ?_
  refine sq_y (OpY.s (y_build bt66 EvP.nil (by exact rfl))) rfl ?_
  refine sq_y (y_call (first := []) (caps := []) (by exact rfl) Try.call30 (EvL.cons (by exact rfl) (EvL.cons (by exact rfl) EvL.nil)) (fun w1 _ => span30 w1 _ _)) rfl ?_
  refine sq_bs Try.underlying36 ei32 (EvI.cons (by exact rfl) EvI.nil) (by first | (simp [Value.cells]; done) | (simp [Value.cells]; rfl)) rfl rfl rfl (fun b3 => ?_)
  refine sq_y (OpY.s (y_build bt66 (EvP.cons (by exact rfl) (EvP.cons (by exact rfl) EvP.nil)) (by exact rfl))) rfl ?_
  refine sq_y (OpY.s (y_build bt66 EvP.nil (by exact rfl))) rfl ?_
  refine sq_bs Try.underlying22 ei66 (EvI.cons (by exact rfl) (EvI.cons (by exact rfl) (EvI.cons (by exact rfl) EvI.nil))) (by first | (simp [Value.cells]; done) | (simp [Value.cells]; rfl)) rfl rfl rfl (fun b6 => ?_)
  refine sq_y (OpY.s (y_build bt24 (EvP.cons (by exact rfl) (EvP.cons (by exact rfl) (EvP.cons (by exact rfl) (EvP.cons (by exact rfl) EvP.nil)))) (by exact rfl))) rfl ?_
  refine sq_store_all Try.sizeOf24 (by exact rfl) (by exact rfl) rfl (by repeat (first | exact Rem.here | apply Rem.there)) rfl rfl ?_
  refine sq_nil ?_
  refine sx_then ?_
  refine sc_ret ?_
  refine sx_retc (.inl rfl) rfl Try.results28 Try.underlying24 rfl Try.sizeOf24 (by exact rfl) (by repeat (first | exact .head _ | refine .tail _ ?_)) rfl ?_
  intro w' hw'
  have h6 : CA w.heap.size w' ⟨b6, 0, none⟩ ([((0 : Int), Value.slice none 0 0), (3, Value.slice (some ⟨b3, 0, none⟩) 1 1), (0, Value.slice none 0 0)].flatMap tmR) := ⟨blk_new hw' (by repeat (first | exact Rem.here | apply Rem.there)) (by repeat (first | exact .head _ | refine .tail _ ?_)), (CA.blk hw' (by repeat (first | exact .head _ | refine .tail _ ?_))).2⟩
  have h3 : CA w.heap.size w' ⟨b3, 0, none⟩ ([(⟨10, 14⟩ : Sp)].flatMap spRow) := ⟨blk_new hw' (by repeat (first | exact Rem.here | apply Rem.there)) (by repeat (first | exact .head _ | refine .tail _ ?_)), (CA.blk hw' (by repeat (first | exact .head _ | refine .tail _ ?_))).2⟩
  refine ⟨(some ⟨b6, 0, none⟩, (fun i => if i = 1 then some ⟨b3, 0, none⟩ else none), fun i => if i = 1 then 1 else 0), rfl, hw'.below (by repeat (first | exact .head _ | refine .tail _ ?_)), ⟨fun i t hi => ?_, fun i t hi => ?_, by decide⟩⟩
  · rcases i with _ | _ | _ | i
    · cases hi; exact ca_rows tmR_len h6 0 _ rfl
    · cases hi; exact ca_rows tmR_len h6 1 _ rfl
    · cases hi; exact ca_rows tmR_len h6 2 _ rfl
    · cases hi
  · rcases i with _ | _ | _ | i
    · cases hi; exact ⟨fun j s hj => by simp at hj, by decide⟩
    · cases hi; exact ⟨ca_rows spRow_len h3, by decide⟩
    · cases hi; exact ⟨fun j s hj => by simp at hj, by decide⟩
    · cases hi
theorem words29a (w : World) : Calls Try.prog 29 #[.slice none 0 0] w fun e w' => ∃ z : Option Addr, e = .returned (.slice z 4 4) ∧ Below w.heap.size w w' ∧ WdsA w.heap.size w' z wrdL := by
  refine calls_of_SC (args := [.slice none 0 0]) Try.func29 rfl Try.ntmps29 rfl ?_
  simp only [argL]
  refine sc_seq ?_
  refine sc_region ?_
  refine sq_y (OpY.s (y_assign (by exact rfl))) rfl ?_
  refine sq_nil ?_
  refine sx_then ?_
  refine sc_seq ?_
  refine sc_region ?_
  refine sq_y (y_call (first := []) (caps := []) (by exact rfl) Try.call30 (EvL.cons (by exact rfl) (EvL.cons (by exact rfl) EvL.nil)) (fun w1 _ => span30 w1 _ _)) rfl ?_
  refine sq_y (OpY.s (y_build bt57 (EvP.cons (by exact rfl) (EvP.cons (by exact rfl) (EvP.cons (by exact rfl) EvP.nil))) (by exact rfl))) rfl ?_
  refine sq_y (y_call (first := []) (caps := []) (by exact rfl) Try.call30 (EvL.cons (by exact rfl) (EvL.cons (by exact rfl) EvL.nil)) (fun w1 _ => span30 w1 _ _)) rfl ?_
  refine sq_y (OpY.s (y_build bt57 (EvP.cons (by exact rfl) (EvP.cons (by exact rfl) (EvP.cons (by exact rfl) EvP.nil))) (by exact rfl))) rfl ?_
  refine sq_y (y_call (first := []) (caps := []) (by exact rfl) Try.call30 (EvL.cons (by exact rfl) (EvL.cons (by exact rfl) EvL.nil)) (fun w1 _ => span30 w1 _ _)) rfl ?_
  refine sq_y (OpY.s (y_build bt57 (EvP.cons (by exact rfl) (EvP.cons (by exact rfl) (EvP.cons (by exact rfl) EvP.nil))) (by exact rfl))) rfl ?_
  refine sq_y (y_call (first := []) (caps := []) (by exact rfl) Try.call30 (EvL.cons (by exact rfl) (EvL.cons (by exact rfl) EvL.nil)) (fun w1 _ => span30 w1 _ _)) rfl ?_
  refine sq_y (OpY.s (y_build bt57 (EvP.cons (by exact rfl) (EvP.cons (by exact rfl) (EvP.cons (by exact rfl) EvP.nil))) (by exact rfl))) rfl ?_
  refine sq_bs Try.underlying25 ei57 (EvI.cons (by exact rfl) (EvI.cons (by exact rfl) (EvI.cons (by exact rfl) (EvI.cons (by exact rfl) EvI.nil)))) (by first | (simp [Value.cells]; done) | (simp [Value.cells]; rfl)) rfl rfl rfl (fun b11 => ?_)
  refine sq_y (OpY.s (y_move (by exact rfl))) rfl ?_
  refine sq_y (OpY.s (y_append_nil Try.underlying25 Try.sizeOf57 (by exact rfl) (by exact rfl) rfl (Nat.le_refl _))) rfl ?_
  refine sq_y (OpY.s (y_assign (by exact rfl))) rfl ?_
  refine sq_nil ?_
  refine sx_then ?_
  refine sc_ret ?_
  refine sx_ret1 (.inl rfl) rfl Try.results29 (by exact rfl) ?_
  intro w' hw'
  have h11 : CA w.heap.size w' ⟨b11, 0, none⟩ (wrdL.flatMap wdRow) := ⟨blk_new hw' (by repeat (first | exact Rem.here | apply Rem.there)) (by repeat (first | exact .head _ | refine .tail _ ?_)), (CA.blk hw' (by repeat (first | exact .head _ | refine .tail _ ?_))).2⟩
  exact ⟨some ⟨b11, 0, none⟩, rfl, hw'.below (by repeat (first | exact .head _ | refine .tail _ ?_)), ⟨ca_rows wdRow_len h11, by decide⟩⟩
theorem words29b (w : World) (ad : Addr) (c1 : Nat) (d : Wd) (hd : CA 0 w ad (wdRow d)) : Calls Try.prog 29 #[.slice (some ad) 1 c1] w fun e w' => ∃ z : Option Addr × Nat, e = .returned (.slice z.1 5 z.2) ∧ 5 ≤ z.2 ∧ Below w.heap.size w w' ∧ WdsA w.heap.size w' z.1 (wrdL ++ [d]) := by
  refine calls_of_SC (args := [.slice (some ad) 1 c1]) Try.func29 rfl Try.ntmps29 rfl ?_
  simp only [argL]
  refine sc_seq ?_
  refine sc_region ?_
  refine sq_y (OpY.s (y_assign (by exact rfl))) rfl ?_
  refine sq_nil ?_
  refine sx_then ?_
  refine sc_seq ?_
  refine sc_region ?_
  refine sq_y (y_call (first := []) (caps := []) (by exact rfl) Try.call30 (EvL.cons (by exact rfl) (EvL.cons (by exact rfl) EvL.nil)) (fun w1 _ => span30 w1 _ _)) rfl ?_
  refine sq_y (OpY.s (y_build bt57 (EvP.cons (by exact rfl) (EvP.cons (by exact rfl) (EvP.cons (by exact rfl) EvP.nil))) (by exact rfl))) rfl ?_
  refine sq_y (y_call (first := []) (caps := []) (by exact rfl) Try.call30 (EvL.cons (by exact rfl) (EvL.cons (by exact rfl) EvL.nil)) (fun w1 _ => span30 w1 _ _)) rfl ?_
  refine sq_y (OpY.s (y_build bt57 (EvP.cons (by exact rfl) (EvP.cons (by exact rfl) (EvP.cons (by exact rfl) EvP.nil))) (by exact rfl))) rfl ?_
  refine sq_y (y_call (first := []) (caps := []) (by exact rfl) Try.call30 (EvL.cons (by exact rfl) (EvL.cons (by exact rfl) EvL.nil)) (fun w1 _ => span30 w1 _ _)) rfl ?_
  refine sq_y (OpY.s (y_build bt57 (EvP.cons (by exact rfl) (EvP.cons (by exact rfl) (EvP.cons (by exact rfl) EvP.nil))) (by exact rfl))) rfl ?_
  refine sq_y (y_call (first := []) (caps := []) (by exact rfl) Try.call30 (EvL.cons (by exact rfl) (EvL.cons (by exact rfl) EvL.nil)) (fun w1 _ => span30 w1 _ _)) rfl ?_
  refine sq_y (OpY.s (y_build bt57 (EvP.cons (by exact rfl) (EvP.cons (by exact rfl) (EvP.cons (by exact rfl) EvP.nil))) (by exact rfl))) rfl ?_
  refine sq_bs Try.underlying25 ei57 (EvI.cons (by exact rfl) (EvI.cons (by exact rfl) (EvI.cons (by exact rfl) (EvI.cons (by exact rfl) EvI.nil)))) (by first | (simp [Value.cells]; done) | (simp [Value.cells]; rfl)) rfl rfl rfl (fun b11 => ?_)
  refine sq_y (OpY.s (y_move (by exact rfl))) rfl ?_
  refine sq_blk_own (e := 57) (n := 4) (sz := 4) (xs := wrdL.flatMap wdRow) (by repeat (first | exact Rem.here | apply Rem.there)) rfl (by decide) ?_
  refine sq_append (news := wdRow d) Try.underlying25 ei57 rfl (by decide) (by exact rfl) (by repeat (first | exact Rem.here | apply Rem.there)) (by exact rfl) rfl (fun _ hw1 => (CA.at hd hw1 (by repeat (first | exact .head _ | refine .tail _ ?_))).2) (by simp [wdRow, Value.oneCell']) (by omega) rfl (fun v13 ho13 => ?_)
  refine sq_y (OpY.s (y_assign (by exact rfl))) rfl ?_
  refine sq_nil ?_
  refine sx_then ?_
  refine sc_ret ?_
  refine sx_ret1 (.inl rfl) rfl Try.results29 (by exact rfl) ?_
  intro w' hw'
  have ho := own_new hw' (.here) (by repeat (first | exact .head _ | refine .tail _ ?_))
  obtain ⟨a', c', h1, h2, h3⟩ := own_rows wdRow_len (l := wrdL ++ [d]) (by rw [show (wrdL ++ [d]).flatMap wdRow = wrdL.flatMap wdRow ++ wdRow d by simp]; exact ho)
  exact ⟨(a', c'), by rw [h1]; rfl, h2, hw'.below (by repeat (first | exact .head _ | refine .tail _ ?_)), ⟨h3, by simp [wrdL]⟩⟩
end Go.Proofs.Ytegdfpilhlcplaa
