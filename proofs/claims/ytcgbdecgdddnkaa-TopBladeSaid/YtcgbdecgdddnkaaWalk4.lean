/- The walk of Fit, joined; and of what the document's examples say. -/
import Derived.Test.YtcgbdecgdddnkaaWalk3
namespace Go.Proofs.Ytcgbdecgdddnkaa
open Go Go.Eng Go.RowKit Go.Proofs
set_option maxRecDepth 100000
theorem ei71 : EI Try.prog 69 (.nilFunc) 1 8 := ei69

def dfs (p : Pl) (a b : Ed) : List Value := [.iface 82 (.agg (coRow p a b).toArray), .iface 83 (.agg (coRow p a b).toArray), .iface 84 (.agg (coRow p a b).toArray)]
theorem diff37 (w : World) (p : Pl) (a b : Ed) : Calls Try.prog 37 #[.agg (coRow p a b).toArray] w fun e w' => e = .returned (.agg (dfs p a b).toArray) ∧ Below w.heap.size w w' := by
  refine calls_of_SC (args := [.agg (coRow p a b).toArray]) Try.func37 rfl Try.ntmps37 rfl ?_
  simp only [argL]
  refine sc_seq ?_
  refine sc_region ?_
  refine sq_box (by exact rfl) rfl (fun b1 => ?_)
  refine sq_alloc Try.zeroValue74 rfl (fun b2 => ?_)
  refine sq_nil ?_
  refine sx_then ?_
  refine sc_seq ?_
  refine sc_region ?_
  refine sq_y (OpY.s (by first | exact y_load_all Try.underlying61 rfl Try.sizeOf61 (by exact rfl) (by repeat (first | exact .head _ | refine .tail _ ?_)) (by exact rfl) | exact y_load_ca Try.underlying61 rfl Try.sizeOf61 (by exact rfl) (by repeat (first | exact .head _ | refine .tail _ ?_)) (by assumption) (by exact rfl) | exact y_load_part Try.underlying61 rfl Try.sizeOf61 (by exact rfl) (by repeat (first | exact .head _ | refine .tail _ ?_)) rfl | exact y_load_capart Try.underlying61 rfl Try.sizeOf61 (by exact rfl) (by repeat (first | exact .head _ | refine .tail _ ?_)) (by assumption) rfl)) rfl ?_
  refine sq_y (OpY.s (y_makeIface Try.underlying82 (fun _ h => by cases h) (by exact rfl))) rfl ?_
  refine sq_y (OpY.s (by first | exact y_load_all Try.underlying61 rfl Try.sizeOf61 (by exact rfl) (by repeat (first | exact .head _ | refine .tail _ ?_)) (by exact rfl) | exact y_load_ca Try.underlying61 rfl Try.sizeOf61 (by exact rfl) (by repeat (first | exact .head _ | refine .tail _ ?_)) (by assumption) (by exact rfl) | exact y_load_part Try.underlying61 rfl Try.sizeOf61 (by exact rfl) (by repeat (first | exact .head _ | refine .tail _ ?_)) rfl | exact y_load_capart Try.underlying61 rfl Try.sizeOf61 (by exact rfl) (by repeat (first | exact .head _ | refine .tail _ ?_)) (by assumption) rfl)) rfl ?_
  refine sq_y (OpY.s (y_makeIface Try.underlying83 (fun _ h => by cases h) (by exact rfl))) rfl ?_
  refine sq_y (OpY.s (by first | exact y_load_all Try.underlying61 rfl Try.sizeOf61 (by exact rfl) (by repeat (first | exact .head _ | refine .tail _ ?_)) (by exact rfl) | exact y_load_ca Try.underlying61 rfl Try.sizeOf61 (by exact rfl) (by repeat (first | exact .head _ | refine .tail _ ?_)) (by assumption) (by exact rfl) | exact y_load_part Try.underlying61 rfl Try.sizeOf61 (by exact rfl) (by repeat (first | exact .head _ | refine .tail _ ?_)) rfl | exact y_load_capart Try.underlying61 rfl Try.sizeOf61 (by exact rfl) (by repeat (first | exact .head _ | refine .tail _ ?_)) (by assumption) rfl)) rfl ?_
  refine sq_y (OpY.s (y_makeIface Try.underlying84 (fun _ h => by cases h) (by exact rfl))) rfl ?_
  refine sq_y (OpY.s (y_build_arr Try.underlying74 Try.zeroValue74 Try.sizeOf73 (EvP.cons (by exact rfl) (EvP.cons (by exact rfl) (EvP.cons (by exact rfl) EvP.nil))) (by exact rfl))) rfl ?_
  refine sq_store_all Try.sizeOf74 (by exact rfl) (by exact rfl) rfl (by repeat (first | exact Rem.here | apply Rem.there)) rfl rfl ?_
  refine sq_nil ?_
  refine sx_then ?_
  refine sc_ret ?_
  refine sx_retc (.inl rfl) rfl Try.results37 Try.underlying74 rfl Try.sizeOf74 (by exact rfl) (by repeat (first | exact .head _ | refine .tail _ ?_)) rfl ?_
  intro w' hw'
  exact ⟨rfl, hw'.below (by repeat (first | exact .head _ | refine .tail _ ?_))⟩
theorem verdict36 (i : Nat) (w : World) (p : Pl) (a b : Ed) (F : FuncId) (q : Nat → Bool) (b1 b2 : Addr) (h1 : CA 0 w b1 [.func (.func F) #[] #[]]) (h2 : CA 0 w b2 (coRow p a b)) (hcg : ∀ args w, (callFunc F args).run Try.prog w = .ok (.enter F args) w) (hg : ∀ w1, Calls Try.prog F #[.agg (coRow p a b).toArray, .iface (dT i) (.agg (coRow p a b).toArray)] w1 fun e w' => e = .returned (.bool (q i)) ∧ Below w1.heap.size w1 w') : Calls Try.prog 36 #[.iface (dT i) (.agg (coRow p a b).toArray), .pointer (some b1), .pointer (some b2)] w fun e w' => e = .returned (.bool (!q i)) ∧ Below w.heap.size w w' := by
  refine calls_of_SC (args := [.iface (dT i) (.agg (coRow p a b).toArray), .pointer (some b1), .pointer (some b2)]) Try.func36 rfl Try.ntmps36 rfl ?_
  simp only [argL, Nat.reduceAdd, Nat.zero_add]
  refine sc_seq ?_
  refine sc_region ?_
  refine sq_y (OpY.s (y_assign (by exact rfl))) rfl ?_
  refine sq_nil ?_
  refine sx_then ?_
  refine sc_seq ?_
  refine sc_region ?_
  refine sq_y (OpY.s (by first | exact y_load_ca0 Try.underlying69 rfl (by exact rfl) (by repeat (first | exact .head _ | refine .tail _ ?_)) h1 rfl | exact y_load_cajj Try.underlying69 rfl (by exact rfl) (by repeat (first | exact .head _ | refine .tail _ ?_)) (by assumption) (by exact rfl) | exact y_load_blk Try.underlying69 rfl (by exact rfl) (by repeat (first | exact .head _ | refine .tail _ ?_)) (by exact rfl) | exact y_load_caj Try.underlying69 rfl (by exact rfl) (by repeat (first | exact .head _ | refine .tail _ ?_)) (by assumption) (by exact rfl) | exact y_load_ca0 Try.underlying69 rfl (by exact rfl) (by repeat (first | exact .head _ | refine .tail _ ?_)) (by assumption) (by exact rfl))) rfl ?_
  refine sq_y (OpY.s (by first | exact y_load_ca Try.underlying61 rfl Try.sizeOf61 (by exact rfl) (by repeat (first | exact .head _ | refine .tail _ ?_)) h2 rfl | exact y_load_all Try.underlying61 rfl Try.sizeOf61 (by exact rfl) (by repeat (first | exact .head _ | refine .tail _ ?_)) (by exact rfl) | exact y_load_ca Try.underlying61 rfl Try.sizeOf61 (by exact rfl) (by repeat (first | exact .head _ | refine .tail _ ?_)) (by assumption) (by exact rfl) | exact y_load_part Try.underlying61 rfl Try.sizeOf61 (by exact rfl) (by repeat (first | exact .head _ | refine .tail _ ?_)) rfl | exact y_load_capart Try.underlying61 rfl Try.sizeOf61 (by exact rfl) (by repeat (first | exact .head _ | refine .tail _ ?_)) (by assumption) rfl)) rfl ?_
  refine sq_y (OpY.s (y_move (by exact rfl))) rfl ?_
  refine sq_y (y_call (first := []) (caps := []) (by exact rfl) hcg (EvL.cons (by exact rfl) (EvL.cons (by exact rfl) EvL.nil)) (fun w1 _ => hg w1)) rfl ?_
  refine sq_y (OpY.s (y_not (by exact rfl))) rfl ?_
  refine sq_y (OpY.s (y_assign (by exact rfl))) rfl ?_
  refine sq_nil ?_
  refine sx_then ?_
  refine sc_ret ?_
  refine sx_ret1 (.inl rfl) rfl Try.results36 (by exact rfl) ?_
  intro w' hw'
  exact ⟨rfl, hw'.below (by repeat (first | exact .head _ | refine .tail _ ?_))⟩
def isQ (p : Pl) (a b : Ed) : Nat → Nat → Bool | 0 => alwaysV p a b | _ => perhapsV p a b
def isF : Nat → FuncId | 0 => 34 | _ => 35
theorem isC : ∀ (k : Nat) args w, (callFunc (isF k) args).run Try.prog w = .ok (.enter (isF k) args) w
  | 0 => Try.call34
  | _ + 1 => Try.call35
theorem isG (k i : Nat) (w : World) (p : Pl) (a b : Ed) (h : Ok p a b) : Calls Try.prog (isF k) #[.agg (coRow p a b).toArray, .iface (dT i) (.agg (coRow p a b).toArray)] w fun e w' => e = .returned (.bool (isQ p a b k i)) ∧ Below w.heap.size w w' := match k with
  | 0 => always34 i w p a b h
  | _ + 1 => perhaps35 i w p a b h
theorem dfs_get {p : Pl} {a b : Ed} {i : Nat} (hi : i < 3) : (dfs p a b)[i]? = some (.iface (dT i) (.agg (coRow p a b).toArray)) := by
  rcases i with _ | _ | _ | i
  · rfl
  · rfl
  · rfl
  · omega
theorem any_not3 (q : Nat → Bool) : ((List.range 3).any fun i => !q i) = !(List.range 3).all q := by
  generalize List.range 3 = l
  induction l with
  | nil => rfl
  | cons a l ih => simp [ih]
theorem fitsV_0 {p : Pl} {a b : Ed} (h : (List.range 3).all (isQ p a b 0) = true) : fitsV p a b = 2 := if_pos h
theorem fitsV_1 {p : Pl} {a b : Ed} (h0 : (List.range 3).all (isQ p a b 0) = false) (h : (List.range 3).all (isQ p a b 1) = true) : fitsV p a b = 1 :=
  (if_neg (show ¬ (List.range 3).all (isQ p a b 0) = true by rw [h0]; decide)).trans (if_pos h)
theorem fitsV_2 {p : Pl} {a b : Ed} (h0 : (List.range 3).all (isQ p a b 0) = false) (h1 : (List.range 3).all (isQ p a b 1) = false) : fitsV p a b = 0 :=
  (if_neg (show ¬ (List.range 3).all (isQ p a b 0) = true by rw [h0]; decide)).trans (if_neg (show ¬ (List.range 3).all (isQ p a b 1) = true by rw [h1]; decide))
theorem verdict30 (w : World) (p : Pl) (a b : Ed) (h : Ok p a b) : Calls Try.prog 30 #[.agg (coRow p a b).toArray] w fun e w' => e = .returned (.int .i64 (fitsV p a b)) ∧ Below w.heap.size w w' := by
  refine calls_of_SC (args := [.agg (coRow p a b).toArray]) Try.func30 rfl Try.ntmps30 rfl ?_
  simp only [argL]
  refine sc_seq ?_
  refine sc_region ?_
  refine sq_box (by exact rfl) rfl (fun b1 => ?_)
  refine sq_y (OpY.s (y_assign (by exact rfl))) rfl ?_
  refine sq_nil ?_
  refine sx_then ?_
  refine sc_seq ?_
  refine sc_seq ?_
  refine sc_region ?_
  refine sq_bs Try.underlying71 ei69 (EvI.cons (by exact rfl) (EvI.cons (by exact rfl) EvI.nil)) (by first | (simp [Value.cells]; done) | (simp [Value.cells]; rfl) | (simp [Value.cells]; and_intros <;> rfl)) rfl rfl rfl (fun b7 => ?_)
  refine sq_y (OpY.s (y_len Try.underlying71 (by exact rfl))) rfl ?_
  refine sq_y (OpY.s (y_move (by exact rfl))) rfl ?_
  refine sq_nil ?_
  refine sx_then ?_
  refine sc_block ?_
  refine sc_loop (σ := Nat)
    (fun s => [(1, .pointer (some ⟨b1, 0, none⟩)), (7, .slice (some ⟨b7, 0, none⟩) 2 2), (8, .int .i64 2), (9, .int .i64 s)])
    (fun s => [.blk b7 (.cells [Value.func (.func 34) #[] #[], .func (.func 35) #[] #[]].toArray 69 (0, 0)), .blk b1 (.cells (coRow p a b).toArray 61 (0, 0)), .reg 0 w])
    (fun s => s ≤ 2 ∧ ∀ j, j < s → (List.range 3).all (isQ p a b j) = false)
    (fun s => 2 - s)
    (0) ?_ (by repeat (first | exact SubL.nil | refine SubL.cons (by first | exact rfl | exact lk_int rfl (by omega) | exact lk_eq rfl (by simp)) ?_)) (by repeat (first | exact Sel.nil | refine Sel.cons (by repeat (first | exact Rem.here | apply Rem.there)) ?_)) ?_
  · exact ⟨Nat.zero_le _, fun j hj => absurd hj (Nat.not_lt_zero j)⟩
  rintro k ⟨hk, hno⟩
  refine sc_seq ?_
  refine sc_region ?_
  refine sq_y (OpY.s (y_lss (by exact rfl) (by exact rfl))) rfl ?_
  refine sq_nil ?_
  refine sx_then ?_
  refine sc_seq ?_
  first | refine sc_if (by exact rfl) (fun hc0 => ?_) (fun hc0 => ?_) | refine sc_ifn (by exact rfl) (fun hc0 => ?_) (fun hc0 => ?_) | refine sc_cond (by exact rfl) (fun hc0 => ?_) (fun hc0 => ?_)
  ·
    have hk' : k < 2 := by omega
    have hfk : ([Value.func (.func 34) #[] #[], .func (.func 35) #[] #[]].toArray)[0 + k * 1]? = some (Value.func (.func (isF k)) #[] #[]) := by
      rcases k with _ | _ | k
      · rfl
      · rfl
      · omega
    refine sc_skip ?_
    refine sx_then ?_
    refine sc_seq ?_
    refine sc_block ?_
    refine sc_seq ?_
    refine sc_region ?_
    refine sq_y (OpY.s (y_move (by exact rfl))) rfl ?_
    refine sq_y (OpY.s (by first | exact y_ia_blk Try.underlying71 Try.sizeOf69 (by exact rfl) (by exact rfl) (by omega) | exact y_ia_el Try.underlying71 Try.sizeOf69 (by exact rfl) (by exact rfl) (by omega) (by first | assumption | simp))) rfl ?_
    refine sq_y (OpY.s (by first | exact y_load_blk Try.underlying69 rfl (by exact rfl) (by repeat (first | exact .head _ | refine .tail _ ?_)) hfk | exact y_load_cajj Try.underlying69 rfl (by exact rfl) (by repeat (first | exact .head _ | refine .tail _ ?_)) (by assumption) (by exact rfl) | exact y_load_blk Try.underlying69 rfl (by exact rfl) (by repeat (first | exact .head _ | refine .tail _ ?_)) (by exact rfl) | exact y_load_caj Try.underlying69 rfl (by exact rfl) (by repeat (first | exact .head _ | refine .tail _ ?_)) (by assumption) (by exact rfl) | exact y_load_ca0 Try.underlying69 rfl (by exact rfl) (by repeat (first | exact .head _ | refine .tail _ ?_)) (by assumption) (by exact rfl))) rfl ?_
    refine sq_alloc Try.zeroValue69 rfl (fun b4 => ?_)
    refine sq_y (OpY.s (y_assign (by exact rfl))) rfl ?_
    refine sq_store Try.sizeOf69 (by exact rfl) (by exact rfl) (by first | rfl | assumption) (by repeat (first | exact Rem.here | apply Rem.there)) (by first | exact Nat.le_of_ble_eq_true rfl | simp | omega) ?_
    refine sq_nil ?_
    refine sx_then ?_
    refine sc_seq ?_
    refine sc_region ?_
    refine sq_y (OpY.s (y_makeFunc EvL.nil (EvL.cons (by exact rfl) (EvL.cons (by exact rfl) EvL.nil)))) rfl ?_
    refine sq_y (OpY.s (y_assign (by exact rfl))) rfl ?_
    refine sq_nil ?_
    refine sx_then ?_
    refine sc_seq ?_
    refine sc_region ?_
    refine sq_y (OpY.s (by first | exact y_load_all Try.underlying61 rfl Try.sizeOf61 (by exact rfl) (by repeat (first | exact .head _ | refine .tail _ ?_)) (by exact rfl) | exact y_load_ca Try.underlying61 rfl Try.sizeOf61 (by exact rfl) (by repeat (first | exact .head _ | refine .tail _ ?_)) (by assumption) (by exact rfl) | exact y_load_part Try.underlying61 rfl Try.sizeOf61 (by exact rfl) (by repeat (first | exact .head _ | refine .tail _ ?_)) rfl | exact y_load_capart Try.underlying61 rfl Try.sizeOf61 (by exact rfl) (by repeat (first | exact .head _ | refine .tail _ ?_)) (by assumption) rfl)) rfl ?_
    refine sq_y (y_call (first := []) (caps := []) (by exact rfl) Try.call37 (EvL.cons (by exact rfl) EvL.nil) (fun w1 _ => diff37 w1 p a b)) rfl ?_
    refine sq_alloc Try.zeroValue74 rfl (fun b6 => ?_)
    refine sq_store_all Try.sizeOf74 (by exact rfl) (by exact rfl) rfl (by repeat (first | exact Rem.here | apply Rem.there)) rfl rfl ?_
    refine sq_nil ?_
    refine sx_then ?_
    refine sc_seq ?_
    refine sc_region ?_
    refine sq_y (OpY.s (y_slice_full Try.underlying74 Try.sizeOf73 (by exact rfl))) rfl ?_
    refine sq_y (OpY.s (y_move (by exact rfl))) rfl ?_
    refine sq_y (y_call (first := []) (caps := []) (by exact rfl) Try.call38 (EvL.cons (by exact rfl) (EvL.cons (by exact rfl) EvL.nil)) (fun w1 hw1 => (containsDf 36 [.pointer (some ⟨b4, 0, none⟩), .pointer (some ⟨b1, 0, none⟩)] (fun i => !isQ p a b k i) w1 (some ⟨b6, 0, none⟩) 3 3 (fun i => .iface (dT i) (.agg (coRow p a b).toArray)) (by decide) (fun i hi => ⟨rfl, by
        have hc := CA.blk (vs := dfs p a b) hw1 (by repeat (first | exact .head _ | refine .tail _ ?_))
        have e1 : elt (some ⟨b6, 0, none⟩) i 1 = (⟨b6, i, none⟩ : Addr) := by simp [elt, Addr.add_lit]
        rw [e1]
        refine ⟨Nat.zero_le _, fun j v hj => ?_⟩
        rcases j with _ | j
        · simp at hj; subst hj
          have := hc.2 i _ (dfs_get hi)
          rw [Addr.add_lit, Nat.zero_add] at this; exact this
        · simp at hj⟩) Try.call36 (fun i hi w2 hb2 => verdict36 i w2 p a b (isF k) (isQ p a b k) ⟨b4, 0, none⟩ ⟨b1, 0, none⟩ (CA.below (CA.blk (vs := [.func (.func (isF k)) #[] #[]]) hw1 (by repeat (first | exact .head _ | refine .tail _ ?_))) hb2) (CA.below (CA.blk (vs := coRow p a b) hw1 (by repeat (first | exact .head _ | refine .tail _ ?_))) hb2) (isC k) (fun w3 => isG k i w3 p a b h))).mono (fun e w' h' => ⟨h'.1.trans (by rw [any_not3]), h'.2⟩))) rfl ?_
    refine sq_y (OpY.s (y_not (by exact rfl))) rfl ?_
    refine sq_nil ?_
    refine sx_then ?_
    first | refine sc_if (by exact rfl) (fun hc1 => ?_) (fun hc1 => ?_) | refine sc_ifn (by exact rfl) (fun hc1 => ?_) (fun hc1 => ?_) | refine sc_cond (by exact rfl) (fun hc1 => ?_) (fun hc1 => ?_)
    ·
      have hall : (List.range 3).all (isQ p a b k) = true := by simpa using hc1
      refine sc_seq ?_
      refine sc_region ?_
      refine sq_y (OpY.s (y_move (by exact rfl))) rfl ?_
      refine sq_y (OpY.s (y_sub (by exact rfl) (by exact rfl) (by omega))) rfl ?_
      refine sq_y (OpY.s (y_assign (by exact rfl))) rfl ?_
      refine sq_nil ?_
      refine sx_then ?_
      refine sc_ret ?_
      refine sx_blk_ret ?_
      refine sx_then_ret ?_
      refine sx_round_ret ?_
      refine sx_blk_ret ?_
      refine sx_then_ret ?_
      refine sx_ret1 (.inl rfl) rfl Try.results30 (by exact rfl) ?_
      intro w' hw'
      refine ⟨?_, hw'.below (by repeat (first | exact .head _ | refine .tail _ ?_))⟩
      rcases k with _ | _ | k
      · rw [fitsV_0 hall]; rfl
      · rw [fitsV_1 (hno 0 (by omega)) hall]; rfl
      · omega
    ·
      refine sc_skip ?_
      refine sx_blk ?_
      refine sx_then ?_
      refine sc_region ?_
      refine sq_y (OpY.s (y_add (by exact rfl) (by exact rfl) (by omega))) rfl ?_
      refine sq_y (OpY.s (y_move (by exact rfl))) rfl ?_
      refine sq_nil ?_
      refine sx_round (k + 1) ?_ ?_ (by repeat (first | exact SubL.nil | refine SubL.cons (by first | exact rfl | exact lk_int rfl (by omega) | exact lk_eq rfl (by simp)) ?_)) (by repeat (first | exact Sel.nil | refine Sel.cons (by repeat (first | exact Rem.here | apply Rem.there)) ?_))
      · refine ⟨by omega, fun j hj => ?_⟩
        rcases Nat.lt_succ_iff_lt_or_eq.1 hj with h' | rfl
        · exact hno j h'
        · simpa using hc1
      · omega
  ·
    have hk2 : k = 2 := by omega
    subst hk2
    have n0 := hno 0 (by omega)
    have n1 := hno 1 (by omega)
    refine sc_exit ?_
    refine sx_then_exit ?_
    refine sx_round_exit ?_
    refine sx_blk_hit ?_
    refine sx_then ?_
    refine sc_seq ?_
    refine sc_region ?_
    refine sq_y (OpY.s (y_assign (by exact rfl))) rfl ?_
    refine sq_nil ?_
    refine sx_then ?_
    refine sc_ret ?_
    refine sx_ret1 (.inl rfl) rfl Try.results30 (by exact rfl) ?_
    intro w' hw'
    refine ⟨?_, hw'.below (by repeat (first | exact .head _ | refine .tail _ ?_))⟩
    rw [fitsV_2 n0 n1]
theorem couple29 (w : World) (p : Pl) (a b : Ed) (ha : a.kind = 1) (hb : b.kind = 2) : Calls Try.prog 29 #[.agg (plRow p).toArray, .agg (edRow a).toArray, .agg (edRow b).toArray] w fun e w' => e = .returned (.tuple #[.agg (coRow p a b).toArray, .bool true]) ∧ Below w.heap.size w w' := by
  refine calls_of_SC (args := [.agg (plRow p).toArray, .agg (edRow a).toArray, .agg (edRow b).toArray]) Try.func29 rfl Try.ntmps29 rfl ?_
  simp only [argL, Nat.reduceAdd, Nat.zero_add]
  refine sc_seq ?_
  refine sc_region ?_
  refine sq_box (by exact rfl) rfl (fun b3 => ?_)
  refine sq_box (by exact rfl) rfl (fun b4 => ?_)
  refine sq_box (by exact rfl) rfl (fun b5 => ?_)
  refine sq_alloc Try.zeroValue61 rfl (fun b6 => ?_)
  refine sq_y (OpY.s (y_assign (by exact rfl))) rfl ?_
  refine sq_nil ?_
  refine sx_then ?_
  refine sc_seq ?_
  refine sc_region ?_
  refine sq_y (OpY.s (by first | exact y_load_all Try.underlying36 rfl Try.sizeOf36 (by exact rfl) (by repeat (first | exact .head _ | refine .tail _ ?_)) (by exact rfl) | exact y_load_ca Try.underlying36 rfl Try.sizeOf36 (by exact rfl) (by repeat (first | exact .head _ | refine .tail _ ?_)) (by assumption) (by exact rfl) | exact y_load_part Try.underlying36 rfl Try.sizeOf36 (by exact rfl) (by repeat (first | exact .head _ | refine .tail _ ?_)) rfl | exact y_load_capart Try.underlying36 rfl Try.sizeOf36 (by exact rfl) (by repeat (first | exact .head _ | refine .tail _ ?_)) (by assumption) rfl)) rfl ?_
  refine sq_y (OpY.s (by first | exact y_load_all Try.underlying36 rfl Try.sizeOf36 (by exact rfl) (by repeat (first | exact .head _ | refine .tail _ ?_)) (by exact rfl) | exact y_load_ca Try.underlying36 rfl Try.sizeOf36 (by exact rfl) (by repeat (first | exact .head _ | refine .tail _ ?_)) (by assumption) (by exact rfl) | exact y_load_part Try.underlying36 rfl Try.sizeOf36 (by exact rfl) (by repeat (first | exact .head _ | refine .tail _ ?_)) rfl | exact y_load_capart Try.underlying36 rfl Try.sizeOf36 (by exact rfl) (by repeat (first | exact .head _ | refine .tail _ ?_)) (by assumption) rfl)) rfl ?_
  refine sq_y (OpY.s (y_build_arr (cells := (edRow a ++ edRow b).toArray) Try.underlying68 Try.zeroValue68 Try.sizeOf36 (EvP.cons (by exact rfl) (EvP.cons (by exact rfl) EvP.nil)) (by kernel_rfl))) rfl ?_
  refine sq_alloc Try.zeroValue68 rfl (fun b8 => ?_)
  refine sq_store_all Try.sizeOf68 (by exact rfl) (by exact rfl) rfl (by repeat (first | exact Rem.here | apply Rem.there)) rfl rfl ?_
  refine sq_nil ?_
  refine sx_then ?_
  refine sc_seq ?_
  refine sc_seq ?_
  refine sc_region ?_
  refine sq_y (OpY.s (by first | exact y_fab Try.underlying36 (by exact rfl) (by exact Try.sizeOf3) (by exact rfl) rfl | exact y_fa Try.underlying36 (by exact rfl) (by exact Try.sizeOf3) (by exact rfl) rfl)) rfl ?_
  refine sq_y (OpY.s (by first | exact y_load_cajj Try.underlying3 rfl (by exact rfl) (by repeat (first | exact .head _ | refine .tail _ ?_)) (by assumption) (by exact rfl) | exact y_load_blk Try.underlying3 rfl (by exact rfl) (by repeat (first | exact .head _ | refine .tail _ ?_)) (by exact rfl) | exact y_load_caj Try.underlying3 rfl (by exact rfl) (by repeat (first | exact .head _ | refine .tail _ ?_)) (by assumption) (by exact rfl) | exact y_load_ca0 Try.underlying3 rfl (by exact rfl) (by repeat (first | exact .head _ | refine .tail _ ?_)) (by assumption) (by exact rfl))) rfl ?_
  refine sq_y (OpY.s (y_eql (by exact rfl) (by exact rfl))) rfl ?_
  refine sq_nil ?_
  refine sx_then ?_
  refine sc_f (lk_bool rfl (by simp [ha])) ?_
  refine sc_skip ?_
  refine sx_then ?_
  refine sc_seq ?_
  refine sc_drawX ([.blk b8 (.cells (edRow a ++ edRow b).toArray 68 (0, 0)), .blk b3 (.cells (plRow p).toArray 34 (0, 0)), .reg 0 w]) (by kernel_rfl) ?_
  refine xj_s 0 (by exact rfl) (by kernel_rfl) (by repeat (first | exact Sel.nil | refine Sel.cons (by repeat (first | exact Rem.here | apply Rem.there)) ?_)) (by first | exact y_load_all Try.underlying34 rfl Try.sizeOf34 (by exact rfl) (by repeat (first | exact .head _ | refine .tail _ ?_)) (by exact rfl) | exact y_load_ca Try.underlying34 rfl Try.sizeOf34 (by exact rfl) (by repeat (first | exact .head _ | refine .tail _ ?_)) (by assumption) (by exact rfl) | exact y_load_part Try.underlying34 rfl Try.sizeOf34 (by exact rfl) (by repeat (first | exact .head _ | refine .tail _ ?_)) rfl | exact y_load_capart Try.underlying34 rfl Try.sizeOf34 (by exact rfl) (by repeat (first | exact .head _ | refine .tail _ ?_)) (by assumption) rfl) rfl ?_
  refine xj_s 1 (by exact rfl) (by kernel_rfl) (by repeat (first | exact Sel.nil | refine Sel.cons (by repeat (first | exact Rem.here | apply Rem.there)) ?_)) (y_ia_arr Try.underlying68 Try.sizeOf36 (by exact rfl) (by exact rfl) (by decide)) rfl ?_
  refine xj_s 2 (by exact rfl) (by kernel_rfl) (by repeat (first | exact Sel.nil | refine Sel.cons (by repeat (first | exact Rem.here | apply Rem.there)) ?_)) (by first | exact y_load_all Try.underlying36 rfl Try.sizeOf36 (by exact rfl) (by repeat (first | exact .head _ | refine .tail _ ?_)) (by exact rfl) | exact y_load_ca Try.underlying36 rfl Try.sizeOf36 (by exact rfl) (by repeat (first | exact .head _ | refine .tail _ ?_)) (by assumption) (by exact rfl) | exact y_load_part Try.underlying36 rfl Try.sizeOf36 (by exact rfl) (by repeat (first | exact .head _ | refine .tail _ ?_)) rfl | exact y_load_capart Try.underlying36 rfl Try.sizeOf36 (by exact rfl) (by repeat (first | exact .head _ | refine .tail _ ?_)) (by assumption) rfl) rfl ?_
  refine xj_s 3 (by exact rfl) (by kernel_rfl) (by repeat (first | exact Sel.nil | refine Sel.cons (by repeat (first | exact Rem.here | apply Rem.there)) ?_)) (y_ia_arr Try.underlying68 Try.sizeOf36 (by exact rfl) (by exact rfl) (by decide)) rfl ?_
  refine xj_s 4 (by exact rfl) (by kernel_rfl) (by repeat (first | exact Sel.nil | refine Sel.cons (by repeat (first | exact Rem.here | apply Rem.there)) ?_)) (by first | exact y_load_all Try.underlying36 rfl Try.sizeOf36 (by exact rfl) (by repeat (first | exact .head _ | refine .tail _ ?_)) (by exact rfl) | exact y_load_ca Try.underlying36 rfl Try.sizeOf36 (by exact rfl) (by repeat (first | exact .head _ | refine .tail _ ?_)) (by assumption) (by exact rfl) | exact y_load_part Try.underlying36 rfl Try.sizeOf36 (by exact rfl) (by repeat (first | exact .head _ | refine .tail _ ?_)) rfl | exact y_load_capart Try.underlying36 rfl Try.sizeOf36 (by exact rfl) (by repeat (first | exact .head _ | refine .tail _ ?_)) (by assumption) rfl) rfl ?_
  refine xj_s 5 (by exact rfl) (by kernel_rfl) (by repeat (first | exact Sel.nil | refine Sel.cons (by repeat (first | exact Rem.here | apply Rem.there)) ?_)) (y_build (cells := (coRow p a b).toArray) bt61 (EvP.cons (by exact rfl) (EvP.cons (by exact rfl) (EvP.cons (by exact rfl) EvP.nil))) (by kernel_rfl)) rfl ?_
  refine xj_s 6 (by exact rfl) (by kernel_rfl) (by repeat (first | exact Sel.nil | refine Sel.cons (by repeat (first | exact Rem.here | apply Rem.there)) ?_)) (y_ia_arr Try.underlying68 Try.sizeOf36 (by exact rfl) (by exact rfl) (by decide)) rfl ?_
  refine xj_s 7 (by exact rfl) (by kernel_rfl) (by repeat (first | exact Sel.nil | refine Sel.cons (by repeat (first | exact Rem.here | apply Rem.there)) ?_)) (by first | exact y_fab Try.underlying36 (by exact rfl) (by exact Try.sizeOf3) (by exact rfl) rfl | exact y_fa Try.underlying36 (by exact rfl) (by exact Try.sizeOf3) (by exact rfl) rfl) rfl ?_
  refine xj_s 8 (by exact rfl) (by kernel_rfl) (by repeat (first | exact Sel.nil | refine Sel.cons (by repeat (first | exact Rem.here | apply Rem.there)) ?_)) (by first | exact y_load_cajj Try.underlying3 rfl (by exact rfl) (by repeat (first | exact .head _ | refine .tail _ ?_)) (by assumption) (by exact rfl) | exact y_load_blk Try.underlying3 rfl (by exact rfl) (by repeat (first | exact .head _ | refine .tail _ ?_)) (by exact rfl) | exact y_load_caj Try.underlying3 rfl (by exact rfl) (by repeat (first | exact .head _ | refine .tail _ ?_)) (by assumption) (by exact rfl) | exact y_load_ca0 Try.underlying3 rfl (by exact rfl) (by repeat (first | exact .head _ | refine .tail _ ?_)) (by assumption) (by exact rfl)) rfl ?_
  refine xj_s 9 (by exact rfl) (by kernel_rfl) (by repeat (first | exact Sel.nil | refine Sel.cons (by repeat (first | exact Rem.here | apply Rem.there)) ?_)) (y_eql (by exact rfl) (by exact rfl)) rfl ?_
  refine xj_s 10 (by exact rfl) (by kernel_rfl) (by repeat (first | exact Sel.nil | refine Sel.cons (by repeat (first | exact Rem.here | apply Rem.there)) ?_)) (y_move (by exact rfl)) rfl ?_
  refine xj_known (tt := 31) (b' := true) (by exact rfl) (by simp [ha]) ?_
  refine xj_gt 11 (by exact rfl) (by exact rfl) (by exact rfl) (by kernel_rfl) (by repeat (first | exact Sel.nil | refine Sel.cons (by repeat (first | exact Rem.here | apply Rem.there)) ?_)) (y_ia_arr Try.underlying68 Try.sizeOf36 (by exact rfl) (by exact rfl) (by decide)) rfl ?_
  refine xj_gt 12 (by exact rfl) (by exact rfl) (by exact rfl) (by kernel_rfl) (by repeat (first | exact Sel.nil | refine Sel.cons (by repeat (first | exact Rem.here | apply Rem.there)) ?_)) (by first | exact y_fab Try.underlying36 (by exact rfl) (by exact Try.sizeOf3) (by exact rfl) rfl | exact y_fa Try.underlying36 (by exact rfl) (by exact Try.sizeOf3) (by exact rfl) rfl) rfl ?_
  refine xj_gt 13 (by exact rfl) (by exact rfl) (by exact rfl) (by kernel_rfl) (by repeat (first | exact Sel.nil | refine Sel.cons (by repeat (first | exact Rem.here | apply Rem.there)) ?_)) (by first | exact y_load_cajj Try.underlying3 rfl (by exact rfl) (by repeat (first | exact .head _ | refine .tail _ ?_)) (by assumption) (by exact rfl) | exact y_load_blk Try.underlying3 rfl (by exact rfl) (by repeat (first | exact .head _ | refine .tail _ ?_)) (by exact rfl) | exact y_load_caj Try.underlying3 rfl (by exact rfl) (by repeat (first | exact .head _ | refine .tail _ ?_)) (by assumption) (by exact rfl) | exact y_load_ca0 Try.underlying3 rfl (by exact rfl) (by repeat (first | exact .head _ | refine .tail _ ?_)) (by assumption) (by exact rfl)) rfl ?_
  refine xj_gt 14 (by exact rfl) (by exact rfl) (by exact rfl) (by kernel_rfl) (by repeat (first | exact Sel.nil | refine Sel.cons (by repeat (first | exact Rem.here | apply Rem.there)) ?_)) (y_eql (by exact rfl) (by exact rfl)) rfl ?_
  refine xj_s 15 (by exact rfl) (by kernel_rfl) (by repeat (first | exact Sel.nil | refine Sel.cons (by repeat (first | exact Rem.here | apply Rem.there)) ?_)) (y_pick_t (by exact rfl) (by exact rfl)) rfl ?_
  refine xj_one 16 (by exact rfl) (by kernel_rfl) ?_
  refine sq_store_all Try.sizeOf61 (by exact rfl) (by exact rfl) rfl (by repeat (first | exact Rem.here | apply Rem.there)) rfl rfl ?_
  refine sq_nil ?_
  refine sx_xp (by repeat (first | exact Sel.nil | refine Sel.cons (by repeat (first | exact Rem.here | apply Rem.there)) ?_)) ?_
  refine xj_s 17 (by exact rfl) (by kernel_rfl) (by repeat (first | exact Sel.nil | refine Sel.cons (by repeat (first | exact Rem.here | apply Rem.there)) ?_)) (y_assign (by exact rfl)) rfl ?_
  refine xj_done (by kernel_rfl) ?_
  refine sx_then ?_
  refine sc_ret ?_
  refine sx_retct (.inl rfl) rfl Try.results29 Try.underlying61 rfl Try.sizeOf61 (by exact rfl) (by repeat (first | exact .head _ | refine .tail _ ?_)) rfl (by exact rfl) ?_
  intro w' hw'
  refine ⟨?_, hw'.below (by repeat (first | exact .head _ | refine .tail _ ?_))⟩
  simp [hb]
theorem fits17 (w : World) (p : Pl) (a b : Ed) (h : Ok p a b) (ha : a.kind = 1) (hb : b.kind = 2) : Calls Try.prog 17 #[.agg (plRow p).toArray, .agg (edRow a).toArray, .agg (edRow b).toArray] w fun e w' => e = .returned (.int .i64 (fitsV p a b)) ∧ Below w.heap.size w w' := by
  refine calls_of_SC (args := [.agg (plRow p).toArray, .agg (edRow a).toArray, .agg (edRow b).toArray]) Try.func17 rfl Try.ntmps17 rfl ?_
  simp only [argL, Nat.reduceAdd, Nat.zero_add]
  refine sc_seq ?_
  refine sc_region ?_
  refine sq_box (by exact rfl) rfl (fun b3 => ?_)
  refine sq_box (by exact rfl) rfl (fun b4 => ?_)
  refine sq_box (by exact rfl) rfl (fun b5 => ?_)
  refine sq_y (OpY.s (y_assign (by exact rfl))) rfl ?_
  refine sq_nil ?_
  refine sx_then ?_
  refine sc_seq ?_
  refine sc_seq ?_
  refine sc_region ?_
  refine sq_y (OpY.s (by first | exact y_load_all Try.underlying34 rfl Try.sizeOf34 (by exact rfl) (by repeat (first | exact .head _ | refine .tail _ ?_)) (by exact rfl) | exact y_load_ca Try.underlying34 rfl Try.sizeOf34 (by exact rfl) (by repeat (first | exact .head _ | refine .tail _ ?_)) (by assumption) (by exact rfl) | exact y_load_part Try.underlying34 rfl Try.sizeOf34 (by exact rfl) (by repeat (first | exact .head _ | refine .tail _ ?_)) rfl | exact y_load_capart Try.underlying34 rfl Try.sizeOf34 (by exact rfl) (by repeat (first | exact .head _ | refine .tail _ ?_)) (by assumption) rfl)) rfl ?_
  refine sq_y (OpY.s (by first | exact y_load_all Try.underlying36 rfl Try.sizeOf36 (by exact rfl) (by repeat (first | exact .head _ | refine .tail _ ?_)) (by exact rfl) | exact y_load_ca Try.underlying36 rfl Try.sizeOf36 (by exact rfl) (by repeat (first | exact .head _ | refine .tail _ ?_)) (by assumption) (by exact rfl) | exact y_load_part Try.underlying36 rfl Try.sizeOf36 (by exact rfl) (by repeat (first | exact .head _ | refine .tail _ ?_)) rfl | exact y_load_capart Try.underlying36 rfl Try.sizeOf36 (by exact rfl) (by repeat (first | exact .head _ | refine .tail _ ?_)) (by assumption) rfl)) rfl ?_
  refine sq_y (OpY.s (by first | exact y_load_all Try.underlying36 rfl Try.sizeOf36 (by exact rfl) (by repeat (first | exact .head _ | refine .tail _ ?_)) (by exact rfl) | exact y_load_ca Try.underlying36 rfl Try.sizeOf36 (by exact rfl) (by repeat (first | exact .head _ | refine .tail _ ?_)) (by assumption) (by exact rfl) | exact y_load_part Try.underlying36 rfl Try.sizeOf36 (by exact rfl) (by repeat (first | exact .head _ | refine .tail _ ?_)) rfl | exact y_load_capart Try.underlying36 rfl Try.sizeOf36 (by exact rfl) (by repeat (first | exact .head _ | refine .tail _ ?_)) (by assumption) rfl)) rfl ?_
  refine sq_y (y_call (first := []) (caps := []) (by exact rfl) Try.call29 (EvL.cons (by exact rfl) (EvL.cons (by exact rfl) (EvL.cons (by exact rfl) EvL.nil))) (fun w1 _ => couple29 w1 p a b ha hb)) rfl ?_
  refine sq_y (OpY.s (y_move (by exact rfl))) rfl ?_
  refine sq_y (OpY.s (y_extract (by exact rfl) (by exact rfl))) rfl ?_
  refine sq_y (OpY.s (y_extract (by exact rfl) (by exact rfl))) rfl ?_
  refine sq_alloc Try.zeroValue61 rfl (fun b7 => ?_)
  refine sq_store_all Try.sizeOf61 (by exact rfl) (by exact rfl) rfl (by repeat (first | exact Rem.here | apply Rem.there)) rfl rfl ?_
  refine sq_y (OpY.s (y_assign (by exact rfl))) rfl ?_
  refine sq_nil ?_
  refine sx_then ?_
  refine sc_seq ?_
  refine sc_region ?_
  refine sq_y (OpY.s (y_move (by exact rfl))) rfl ?_
  refine sq_nil ?_
  refine sx_then ?_
  refine sc_t (lk_bool rfl (rfl)) ?_
  refine sc_seq ?_
  refine sc_region ?_
  refine sq_y (OpY.s (by first | exact y_load_all Try.underlying61 rfl Try.sizeOf61 (by exact rfl) (by repeat (first | exact .head _ | refine .tail _ ?_)) (by exact rfl) | exact y_load_ca Try.underlying61 rfl Try.sizeOf61 (by exact rfl) (by repeat (first | exact .head _ | refine .tail _ ?_)) (by assumption) (by exact rfl) | exact y_load_part Try.underlying61 rfl Try.sizeOf61 (by exact rfl) (by repeat (first | exact .head _ | refine .tail _ ?_)) rfl | exact y_load_capart Try.underlying61 rfl Try.sizeOf61 (by exact rfl) (by repeat (first | exact .head _ | refine .tail _ ?_)) (by assumption) rfl)) rfl ?_
  refine sq_y (y_call (first := []) (caps := []) (by exact rfl) Try.call30 (EvL.cons (by exact rfl) EvL.nil) (fun w1 _ => verdict30 w1 p a b h)) rfl ?_
  refine sq_y (OpY.s (y_assign (by exact rfl))) rfl ?_
  refine sq_nil ?_
  refine sx_then ?_
  refine sc_ret ?_
  refine sx_then_ret ?_
  refine sx_ret1 (.inl rfl) rfl Try.results17 (by exact rfl) ?_
  intro w' hw'
  exact ⟨rfl, hw'.below (by repeat (first | exact .head _ | refine .tail _ ?_))⟩
theorem Fit7 (w : World) (p : Pl) (a b : Ed) (h : Ok p a b) (ha : a.kind = 1) (hb : b.kind = 2) : Calls Try.prog 7 #[.agg (plRow p).toArray, .agg (edRow a).toArray, .agg (edRow b).toArray] w fun e w' => e = .returned (.tuple #[.int .i64 (fitsV p a b), .int .i64 0]) ∧ Below w.heap.size w w' := by
  refine calls_of_SC (args := [.agg (plRow p).toArray, .agg (edRow a).toArray, .agg (edRow b).toArray]) Try.func7 rfl Try.ntmps7 rfl ?_
  simp only [argL, Nat.reduceAdd, Nat.zero_add]
  refine sc_seq ?_
  refine sc_region ?_
  refine sq_box (by exact rfl) rfl (fun b3 => ?_)
  refine sq_box (by exact rfl) rfl (fun b4 => ?_)
  refine sq_box (by exact rfl) rfl (fun b5 => ?_)
  refine sq_y (OpY.s (y_assign (by exact rfl))) rfl ?_
  refine sq_y (OpY.s (y_assign (by exact rfl))) rfl ?_
  refine sq_nil ?_
  refine sx_then ?_
  refine sc_seq ?_
  refine sc_seq ?_
  refine sc_region ?_
  refine sq_y (OpY.s (by first | exact y_load_all Try.underlying34 rfl Try.sizeOf34 (by exact rfl) (by repeat (first | exact .head _ | refine .tail _ ?_)) (by exact rfl) | exact y_load_ca Try.underlying34 rfl Try.sizeOf34 (by exact rfl) (by repeat (first | exact .head _ | refine .tail _ ?_)) (by assumption) (by exact rfl) | exact y_load_part Try.underlying34 rfl Try.sizeOf34 (by exact rfl) (by repeat (first | exact .head _ | refine .tail _ ?_)) rfl | exact y_load_capart Try.underlying34 rfl Try.sizeOf34 (by exact rfl) (by repeat (first | exact .head _ | refine .tail _ ?_)) (by assumption) rfl)) rfl ?_
  refine sq_y (y_call (first := []) (caps := []) (by exact rfl) Try.call15 (EvL.cons (by exact rfl) EvL.nil) (fun w1 _ => isPlay15 w1 p)) rfl ?_
  refine sq_y (OpY.s (y_not (by exact rfl))) rfl ?_
  refine sq_y (OpY.s (y_move (by exact rfl))) rfl ?_
  refine sq_known (tt := 11) (b' := false) (by exact rfl) (by simp [h.p]) ?_
  refine sq_gt (by exact rfl) (by exact rfl) (OpY.s (by first | exact y_load_all Try.underlying36 rfl Try.sizeOf36 (by exact rfl) (by repeat (first | exact .head _ | refine .tail _ ?_)) (by exact rfl) | exact y_load_ca Try.underlying36 rfl Try.sizeOf36 (by exact rfl) (by repeat (first | exact .head _ | refine .tail _ ?_)) (by assumption) (by exact rfl) | exact y_load_part Try.underlying36 rfl Try.sizeOf36 (by exact rfl) (by repeat (first | exact .head _ | refine .tail _ ?_)) rfl | exact y_load_capart Try.underlying36 rfl Try.sizeOf36 (by exact rfl) (by repeat (first | exact .head _ | refine .tail _ ?_)) (by assumption) rfl)) rfl ?_
  refine sq_gt (by exact rfl) (by exact rfl) (OpY.s (by first | exact y_load_all Try.underlying36 rfl Try.sizeOf36 (by exact rfl) (by repeat (first | exact .head _ | refine .tail _ ?_)) (by exact rfl) | exact y_load_ca Try.underlying36 rfl Try.sizeOf36 (by exact rfl) (by repeat (first | exact .head _ | refine .tail _ ?_)) (by assumption) (by exact rfl) | exact y_load_part Try.underlying36 rfl Try.sizeOf36 (by exact rfl) (by repeat (first | exact .head _ | refine .tail _ ?_)) rfl | exact y_load_capart Try.underlying36 rfl Try.sizeOf36 (by exact rfl) (by repeat (first | exact .head _ | refine .tail _ ?_)) (by assumption) rfl)) rfl ?_
  refine sq_guard (by exact rfl) (by exact rfl) ?_
  refine sq_bs Try.underlying57 ei36 (EvI.cons (by exact rfl) (EvI.cons (by exact rfl) EvI.nil)) (by first | (simp [Value.cells]; done) | (simp [Value.cells]; rfl) | (simp [Value.cells]; and_intros <;> rfl)) rfl rfl rfl (fun b14 => ?_)
  refine sq_gt (by exact rfl) (by exact rfl) (y_call (first := []) (caps := []) (by exact rfl) Try.call16 (EvL.cons (by exact rfl) EvL.nil) (fun w1 hw1 => areSides16 w1 [a, b] (some ⟨b14, 0, none⟩) 2 (lit_rowsA (g := b14) (row := edRow) (sz := 7) (l := [a, b]) (fun _ => rfl) hw1 (by repeat (first | exact .head _ | refine .tail _ ?_)) (by exact rfl) (by simp)) (fun e he => by
        simp only [List.mem_cons, List.not_mem_nil, or_false] at he
        rcases he with rfl | rfl
        · exact ⟨.inl ha, h.a⟩
        · exact ⟨.inr hb, h.b⟩))) rfl ?_
  refine sq_gt (by exact rfl) (by exact rfl) (OpY.s (y_not (by exact rfl))) rfl ?_
  refine sq_y (OpY.s (y_pick_f (by exact rfl) (by exact rfl))) rfl ?_
  refine sq_nil ?_
  refine sx_then ?_
  refine sc_f (lk_bool rfl (rfl)) ?_
  refine sc_skip ?_
  refine sx_then ?_
  refine sc_seq ?_
  refine sc_region ?_
  refine sq_y (OpY.s (by first | exact y_load_all Try.underlying34 rfl Try.sizeOf34 (by exact rfl) (by repeat (first | exact .head _ | refine .tail _ ?_)) (by exact rfl) | exact y_load_ca Try.underlying34 rfl Try.sizeOf34 (by exact rfl) (by repeat (first | exact .head _ | refine .tail _ ?_)) (by assumption) (by exact rfl) | exact y_load_part Try.underlying34 rfl Try.sizeOf34 (by exact rfl) (by repeat (first | exact .head _ | refine .tail _ ?_)) rfl | exact y_load_capart Try.underlying34 rfl Try.sizeOf34 (by exact rfl) (by repeat (first | exact .head _ | refine .tail _ ?_)) (by assumption) rfl)) rfl ?_
  refine sq_y (OpY.s (by first | exact y_load_all Try.underlying36 rfl Try.sizeOf36 (by exact rfl) (by repeat (first | exact .head _ | refine .tail _ ?_)) (by exact rfl) | exact y_load_ca Try.underlying36 rfl Try.sizeOf36 (by exact rfl) (by repeat (first | exact .head _ | refine .tail _ ?_)) (by assumption) (by exact rfl) | exact y_load_part Try.underlying36 rfl Try.sizeOf36 (by exact rfl) (by repeat (first | exact .head _ | refine .tail _ ?_)) rfl | exact y_load_capart Try.underlying36 rfl Try.sizeOf36 (by exact rfl) (by repeat (first | exact .head _ | refine .tail _ ?_)) (by assumption) rfl)) rfl ?_
  refine sq_y (OpY.s (by first | exact y_load_all Try.underlying36 rfl Try.sizeOf36 (by exact rfl) (by repeat (first | exact .head _ | refine .tail _ ?_)) (by exact rfl) | exact y_load_ca Try.underlying36 rfl Try.sizeOf36 (by exact rfl) (by repeat (first | exact .head _ | refine .tail _ ?_)) (by assumption) (by exact rfl) | exact y_load_part Try.underlying36 rfl Try.sizeOf36 (by exact rfl) (by repeat (first | exact .head _ | refine .tail _ ?_)) rfl | exact y_load_capart Try.underlying36 rfl Try.sizeOf36 (by exact rfl) (by repeat (first | exact .head _ | refine .tail _ ?_)) (by assumption) rfl)) rfl ?_
  refine sq_y (y_call (first := []) (caps := []) (by exact rfl) Try.call17 (EvL.cons (by exact rfl) (EvL.cons (by exact rfl) (EvL.cons (by exact rfl) EvL.nil))) (fun w1 _ => fits17 w1 p a b h ha hb)) rfl ?_
  refine sq_y (OpY.s (y_assign (by exact rfl))) rfl ?_
  refine sq_y (OpY.s (y_assign (by exact rfl))) rfl ?_
  refine sq_nil ?_
  refine sx_then ?_
  refine sc_ret ?_
  refine sx_ret2 (.inl rfl) rfl Try.results7 (by exact rfl) (by exact rfl) ?_
  intro w' hw'
  exact ⟨rfl, hw'.below (by repeat (first | exact .head _ | refine .tail _ ?_))⟩
def smpD : Di := ⟨[⟨⟨0, 5⟩, ⟨2, 3⟩⟩], 40, 10, 3⟩
def smpA : Ed := ⟨1, ⟨995, 1005⟩, ⟨500, 510⟩, ⟨400, 405⟩⟩
def smpB : Ed := ⟨2, ⟨990, 1000⟩, ⟨515, 520⟩, ⟨410, 420⟩⟩
def smpP : Pl := ⟨2000, 20, 30, ⟨0, 10⟩⟩
theorem smpOk : Ok smpP smpA smpB := ⟨by decide, by decide, by decide⟩
theorem smpF : fitsV smpP smpA smpB = 2 := by decide
theorem awake5 (w : World) : Calls Try.prog 5 #[] w fun e w' => e = .returned (.bool true) ∧ Below w.heap.size w w' := by
  refine calls_of_SC (args := []) Try.func5 rfl Try.ntmps5 rfl ?_
  simp only [argL]
  refine sc_seq ?_
  refine sc_region ?_
  refine sq_y (OpY.s (y_assign (by exact rfl))) rfl ?_
  refine sq_nil ?_
  refine sx_then ?_
  refine sc_seq ?_
  refine sc_region ?_
  refine sq_y (OpY.s (y_build (cells := #[.int .i64 0, .int .i64 5]) bt29 (EvP.cons (by exact rfl) (EvP.cons (by exact rfl) EvP.nil)) (by kernel_rfl))) rfl ?_
  refine sq_y (OpY.s (y_build (cells := #[.int .i64 2, .int .i64 3]) bt29 (EvP.cons (by exact rfl) (EvP.cons (by exact rfl) EvP.nil)) (by kernel_rfl))) rfl ?_
  refine sq_y (OpY.s (y_build (cells := (blRow ⟨⟨0, 5⟩, ⟨2, 3⟩⟩).toArray) bt42 (EvP.cons (by exact rfl) (EvP.cons (by exact rfl) EvP.nil)) (by kernel_rfl))) rfl ?_
  refine sq_bs Try.underlying22 ei42 (EvI.cons (by exact rfl) EvI.nil) (by first | (simp [Value.cells]; done) | (simp [Value.cells]; rfl) | (simp [Value.cells]; and_intros <;> rfl)) rfl rfl rfl (fun b13 => ?_)
  refine sq_y (OpY.s (y_build (cells := (diRow smpD (some ⟨b13, 0, none⟩) 1).toArray) bt24 (EvP.cons (by exact rfl) (EvP.cons (by exact rfl) (EvP.cons (by exact rfl) (EvP.cons (by exact rfl) EvP.nil)))) (by kernel_rfl))) rfl ?_
  refine sq_alloc Try.zeroValue24 rfl (fun b1 => ?_)
  refine sq_store_all Try.sizeOf24 (by exact rfl) (by exact rfl) rfl (by repeat (first | exact Rem.here | apply Rem.there)) rfl rfl ?_
  refine sq_nil ?_
  refine sx_then ?_
  refine sc_seq ?_
  refine sc_region ?_
  refine sq_y (OpY.s (by first | exact y_load_all Try.underlying24 rfl Try.sizeOf24 (by exact rfl) (by repeat (first | exact .head _ | refine .tail _ ?_)) (by exact rfl) | exact y_load_ca Try.underlying24 rfl Try.sizeOf24 (by exact rfl) (by repeat (first | exact .head _ | refine .tail _ ?_)) (by assumption) (by exact rfl) | exact y_load_part Try.underlying24 rfl Try.sizeOf24 (by exact rfl) (by repeat (first | exact .head _ | refine .tail _ ?_)) rfl | exact y_load_capart Try.underlying24 rfl Try.sizeOf24 (by exact rfl) (by repeat (first | exact .head _ | refine .tail _ ?_)) (by assumption) rfl)) rfl ?_
  refine sq_y (y_call (first := []) (caps := []) (by exact rfl) Try.call6 (EvL.cons (by exact rfl) (EvL.cons (by exact rfl) (EvL.cons (by exact rfl) EvL.nil))) (fun w1 hw1 => Off6 w1 smpD (some ⟨b13, 0, none⟩) 1 (lit_rowsA (g := b13) (row := blRow) (sz := 4) (l := smpD.blades) (fun _ => rfl) hw1 (by repeat (first | exact .head _ | refine .tail _ ?_)) (by exact rfl) (by decide)) (by decide) 0 _ rfl 10 (by decide))) rfl ?_
  refine sq_y (OpY.s (y_move (by exact rfl))) rfl ?_
  refine sq_y (OpY.s (y_extract (by exact rfl) (by exact rfl))) rfl ?_
  refine sq_y (OpY.s (y_extract (by exact rfl) (by exact rfl))) rfl ?_
  refine sq_alloc Try.zeroValue29 rfl (fun b2 => ?_)
  refine sq_store_all Try.sizeOf29 (by exact rfl) (by exact rfl) rfl (by repeat (first | exact Rem.here | apply Rem.there)) rfl rfl ?_
  refine sq_y (OpY.s (y_assign (by exact rfl))) rfl ?_
  refine sq_nil ?_
  refine sx_then ?_
  refine sc_seq ?_
  refine sc_region ?_
  refine sq_y (OpY.s (by first | exact y_load_all Try.underlying24 rfl Try.sizeOf24 (by exact rfl) (by repeat (first | exact .head _ | refine .tail _ ?_)) (by exact rfl) | exact y_load_ca Try.underlying24 rfl Try.sizeOf24 (by exact rfl) (by repeat (first | exact .head _ | refine .tail _ ?_)) (by assumption) (by exact rfl) | exact y_load_part Try.underlying24 rfl Try.sizeOf24 (by exact rfl) (by repeat (first | exact .head _ | refine .tail _ ?_)) rfl | exact y_load_capart Try.underlying24 rfl Try.sizeOf24 (by exact rfl) (by repeat (first | exact .head _ | refine .tail _ ?_)) (by assumption) rfl)) rfl ?_
  refine sq_y (y_call (first := []) (caps := []) (by exact rfl) Try.call8 (EvL.cons (by exact rfl) (EvL.cons (by exact rfl) (EvL.cons (by exact rfl) EvL.nil))) (fun w1 hw1 => Lasts8 w1 smpD (some ⟨b13, 0, none⟩) 1 (lit_rowsA (g := b13) (row := blRow) (sz := 4) (l := smpD.blades) (fun _ => rfl) hw1 (by repeat (first | exact .head _ | refine .tail _ ?_)) (by exact rfl) (by decide)) (by decide) 0 _ rfl 40 (by decide))) rfl ?_
  refine sq_y (OpY.s (y_move (by exact rfl))) rfl ?_
  refine sq_y (OpY.s (y_extract (by exact rfl) (by exact rfl))) rfl ?_
  refine sq_y (OpY.s (y_extract (by exact rfl) (by exact rfl))) rfl ?_
  refine sq_alloc Try.zeroValue29 rfl (fun b4 => ?_)
  refine sq_store_all Try.sizeOf29 (by exact rfl) (by exact rfl) rfl (by repeat (first | exact Rem.here | apply Rem.there)) rfl rfl ?_
  refine sq_y (OpY.s (y_assign (by exact rfl))) rfl ?_
  refine sq_nil ?_
  refine sx_then ?_
  refine sc_seq ?_
  refine sc_region ?_
  refine sq_y (OpY.s (y_build (cells := #[.int .i64 995, .int .i64 1005]) bt29 (EvP.cons (by exact rfl) (EvP.cons (by exact rfl) EvP.nil)) (by kernel_rfl))) rfl ?_
  refine sq_y (OpY.s (y_build (cells := #[.int .i64 500, .int .i64 510]) bt29 (EvP.cons (by exact rfl) (EvP.cons (by exact rfl) EvP.nil)) (by kernel_rfl))) rfl ?_
  refine sq_y (OpY.s (y_build (cells := #[.int .i64 400, .int .i64 405]) bt29 (EvP.cons (by exact rfl) (EvP.cons (by exact rfl) EvP.nil)) (by kernel_rfl))) rfl ?_
  refine sq_y (OpY.s (y_build (cells := (edRow smpA).toArray) bt36 (EvP.cons (by exact rfl) (EvP.cons (by exact rfl) (EvP.cons (by exact rfl) (EvP.cons (by exact rfl) EvP.nil)))) (by kernel_rfl))) rfl ?_
  refine sq_alloc Try.zeroValue36 rfl (fun b6 => ?_)
  refine sq_store_all Try.sizeOf36 (by exact rfl) (by exact rfl) rfl (by repeat (first | exact Rem.here | apply Rem.there)) rfl rfl ?_
  refine sq_nil ?_
  refine sx_then ?_
  refine sc_seq ?_
  refine sc_region ?_
  refine sq_y (OpY.s (y_build (cells := #[.int .i64 990, .int .i64 1000]) bt29 (EvP.cons (by exact rfl) (EvP.cons (by exact rfl) EvP.nil)) (by kernel_rfl))) rfl ?_
  refine sq_y (OpY.s (y_build (cells := #[.int .i64 515, .int .i64 520]) bt29 (EvP.cons (by exact rfl) (EvP.cons (by exact rfl) EvP.nil)) (by kernel_rfl))) rfl ?_
  refine sq_y (OpY.s (y_build (cells := #[.int .i64 410, .int .i64 420]) bt29 (EvP.cons (by exact rfl) (EvP.cons (by exact rfl) EvP.nil)) (by kernel_rfl))) rfl ?_
  refine sq_y (OpY.s (y_build (cells := (edRow smpB).toArray) bt36 (EvP.cons (by exact rfl) (EvP.cons (by exact rfl) (EvP.cons (by exact rfl) (EvP.cons (by exact rfl) EvP.nil)))) (by kernel_rfl))) rfl ?_
  refine sq_alloc Try.zeroValue36 rfl (fun b7 => ?_)
  refine sq_store_all Try.sizeOf36 (by exact rfl) (by exact rfl) rfl (by repeat (first | exact Rem.here | apply Rem.there)) rfl rfl ?_
  refine sq_nil ?_
  refine sx_then ?_
  refine sc_seq ?_
  refine sc_region ?_
  refine sq_y (OpY.s (y_build (cells := #[.int .i64 0, .int .i64 10]) bt29 (EvP.cons (by exact rfl) (EvP.cons (by exact rfl) EvP.nil)) (by kernel_rfl))) rfl ?_
  refine sq_y (OpY.s (y_build (cells := (plRow smpP).toArray) bt34 (EvP.cons (by exact rfl) (EvP.cons (by exact rfl) (EvP.cons (by exact rfl) (EvP.cons (by exact rfl) EvP.nil)))) (by kernel_rfl))) rfl ?_
  refine sq_y (OpY.s (by first | exact y_load_all Try.underlying36 rfl Try.sizeOf36 (by exact rfl) (by repeat (first | exact .head _ | refine .tail _ ?_)) (by exact rfl) | exact y_load_ca Try.underlying36 rfl Try.sizeOf36 (by exact rfl) (by repeat (first | exact .head _ | refine .tail _ ?_)) (by assumption) (by exact rfl) | exact y_load_part Try.underlying36 rfl Try.sizeOf36 (by exact rfl) (by repeat (first | exact .head _ | refine .tail _ ?_)) rfl | exact y_load_capart Try.underlying36 rfl Try.sizeOf36 (by exact rfl) (by repeat (first | exact .head _ | refine .tail _ ?_)) (by assumption) rfl)) rfl ?_
  refine sq_y (OpY.s (by first | exact y_load_all Try.underlying36 rfl Try.sizeOf36 (by exact rfl) (by repeat (first | exact .head _ | refine .tail _ ?_)) (by exact rfl) | exact y_load_ca Try.underlying36 rfl Try.sizeOf36 (by exact rfl) (by repeat (first | exact .head _ | refine .tail _ ?_)) (by assumption) (by exact rfl) | exact y_load_part Try.underlying36 rfl Try.sizeOf36 (by exact rfl) (by repeat (first | exact .head _ | refine .tail _ ?_)) rfl | exact y_load_capart Try.underlying36 rfl Try.sizeOf36 (by exact rfl) (by repeat (first | exact .head _ | refine .tail _ ?_)) (by assumption) rfl)) rfl ?_
  refine sq_y (y_call (first := []) (caps := []) (by exact rfl) Try.call7 (EvL.cons (by exact rfl) (EvL.cons (by exact rfl) (EvL.cons (by exact rfl) EvL.nil))) (fun w1 _ => (Fit7 w1 smpP smpA smpB smpOk rfl rfl).mono (fun e w' h' => ⟨h'.1.trans (by rw [smpF]), h'.2⟩))) rfl ?_
  refine sq_y (OpY.s (y_move (by exact rfl))) rfl ?_
  refine sq_y (OpY.s (y_extract (by exact rfl) (by exact rfl))) rfl ?_
  refine sq_y (OpY.s (y_extract (by exact rfl) (by exact rfl))) rfl ?_
  refine sq_y (OpY.s (y_assign (by exact rfl))) rfl ?_
  refine sq_y (OpY.s (y_assign (by exact rfl))) rfl ?_
  refine sq_nil ?_
  refine sx_then ?_
  refine sc_seq ?_
  refine sc_region ?_
  refine sq_y (OpY.s (by first | exact y_load_all Try.underlying29 rfl Try.sizeOf29 (by exact rfl) (by repeat (first | exact .head _ | refine .tail _ ?_)) (by exact rfl) | exact y_load_2 Try.underlying29 rfl Try.sizeOf29 (by exact rfl) (by repeat (first | exact .head _ | refine .tail _ ?_)) (by exact rfl) (by exact rfl) | exact y_load_ca Try.underlying29 rfl Try.sizeOf29 (by exact rfl) (by repeat (first | exact .head _ | refine .tail _ ?_)) (by assumption) (by exact rfl) | exact y_load_part Try.underlying29 rfl Try.sizeOf29 (by exact rfl) (by repeat (first | exact .head _ | refine .tail _ ?_)) rfl | exact y_load_capart Try.underlying29 rfl Try.sizeOf29 (by exact rfl) (by repeat (first | exact .head _ | refine .tail _ ?_)) (by assumption) rfl)) rfl ?_
  refine sq_y (OpY.s (y_build bt29 (EvP.cons (by exact rfl) (EvP.cons (by exact rfl) EvP.nil)) (by exact rfl))) rfl ?_
  refine sq_y (OpY.s (y_eqls (by kernel_rfl) (by exact rfl) (by exact rfl) (eql29 _ _ _ _))) rfl ?_
  refine sq_y (OpY.s (y_move (by exact rfl))) rfl ?_
  refine sq_known (tt := 44) (b' := true) (by exact rfl) (by decide) ?_
  refine sq_gt (by exact rfl) (by exact rfl) (OpY.s (y_move (by exact rfl))) rfl ?_
  refine sq_gt (by exact rfl) (by exact rfl) (OpY.s (y_eql (by exact rfl) (by exact rfl))) rfl ?_
  refine sq_y (OpY.s (y_pick_t (by exact rfl) (by exact rfl))) rfl ?_
  refine sq_y (OpY.s (y_move (by exact rfl))) rfl ?_
  refine sq_known (tt := 48) (b' := true) (by exact rfl) (by decide) ?_
  refine sq_gt (by exact rfl) (by exact rfl) (OpY.s (by first | exact y_load_all Try.underlying29 rfl Try.sizeOf29 (by exact rfl) (by repeat (first | exact .head _ | refine .tail _ ?_)) (by exact rfl) | exact y_load_2 Try.underlying29 rfl Try.sizeOf29 (by exact rfl) (by repeat (first | exact .head _ | refine .tail _ ?_)) (by exact rfl) (by exact rfl) | exact y_load_ca Try.underlying29 rfl Try.sizeOf29 (by exact rfl) (by repeat (first | exact .head _ | refine .tail _ ?_)) (by assumption) (by exact rfl) | exact y_load_part Try.underlying29 rfl Try.sizeOf29 (by exact rfl) (by repeat (first | exact .head _ | refine .tail _ ?_)) rfl | exact y_load_capart Try.underlying29 rfl Try.sizeOf29 (by exact rfl) (by repeat (first | exact .head _ | refine .tail _ ?_)) (by assumption) rfl)) rfl ?_
  refine sq_gt (by exact rfl) (by exact rfl) (OpY.s (y_build bt29 (EvP.cons (by exact rfl) (EvP.cons (by exact rfl) EvP.nil)) (by exact rfl))) rfl ?_
  refine sq_gt (by exact rfl) (by exact rfl) (OpY.s (y_eqls (by kernel_rfl) (by exact rfl) (by exact rfl) (eql29 _ _ _ _))) rfl ?_
  refine sq_y (OpY.s (y_pick_t (by exact rfl) (by exact rfl))) rfl ?_
  refine sq_y (OpY.s (y_move (by exact rfl))) rfl ?_
  refine sq_known (tt := 53) (b' := true) (by exact rfl) (by decide) ?_
  refine sq_gt (by exact rfl) (by exact rfl) (OpY.s (y_move (by exact rfl))) rfl ?_
  refine sq_gt (by exact rfl) (by exact rfl) (OpY.s (y_eql (by exact rfl) (by exact rfl))) rfl ?_
  refine sq_y (OpY.s (y_pick_t (by exact rfl) (by exact rfl))) rfl ?_
  refine sq_y (OpY.s (y_move (by exact rfl))) rfl ?_
  refine sq_known (tt := 57) (b' := true) (by exact rfl) (by decide) ?_
  refine sq_gt (by exact rfl) (by exact rfl) (OpY.s (y_move (by exact rfl))) rfl ?_
  refine sq_gt (by exact rfl) (by exact rfl) (OpY.s (y_eql (by exact rfl) (by exact rfl))) rfl ?_
  refine sq_y (OpY.s (y_pick_t (by exact rfl) (by exact rfl))) rfl ?_
  refine sq_y (OpY.s (y_move (by exact rfl))) rfl ?_
  refine sq_known (tt := 61) (b' := true) (by exact rfl) (by decide) ?_
  refine sq_gt (by exact rfl) (by exact rfl) (OpY.s (y_move (by exact rfl))) rfl ?_
  refine sq_gt (by exact rfl) (by exact rfl) (OpY.s (y_eql (by exact rfl) (by exact rfl))) rfl ?_
  refine sq_y (OpY.s (y_pick_t (by exact rfl) (by exact rfl))) rfl ?_
  refine sq_y (OpY.s (y_assign (by exact rfl))) rfl ?_
  refine sq_nil ?_
  refine sx_then ?_
  refine sc_ret ?_
  refine sx_ret1 (.inl rfl) rfl Try.results5 (by exact rfl) ?_
  intro w' hw'
  exact ⟨rfl, hw'.below (by repeat (first | exact .head _ | refine .tail _ ?_))⟩
end Go.Proofs.Ytcgbdecgdddnkaa
