/- The walks of Gives, of Envies, and of what compares lists. -/
import Derived.Test.YtpijahglojichaaDoorWalk5
namespace Go.Proofs.YtpijahglojichaaDoor
open Go Go.Eng Go.RowKit Go.Proofs
set_option maxRecDepth 100000
def givesR (m : Mt) (o : List Int) : Int × Int × Int := if mkB m = false then (0, 0, 1) else if ordB o m.length = false then (0, 0, 2) else if 0 ≤ fairI m o then (0, fairI m o, 11) else (worthL m o, 0, 0)
def envyB (m : Mt) (o p : List Int) (i k : Nat) : Bool := wantsB m i k && decide (wv m i (getN o i) - p.getD (getN o i) 0 < wv m i k - p.getD k 0)
def envF (m : Mt) (o p : List Int) : Option (Nat × Nat) := (List.range m.length).findSome? fun i => ((List.range m.length).find? (envyB m o p i)).map fun k => (i, k)
def chargeB (p : List Int) : Bool := p.all fun x => inB x 0 100000
def priceB (m : Mt) (o p : List Int) : Bool := ordB o m.length && decide (p.length = o.length) && chargeB p
def envA (q : Option (Nat × Nat)) : Int × Int × Int := match q with
  | none => (0, 0, 4)
  | some (i, k) => ((i : Int), (k : Int), 0)
def envR (m : Mt) (o p : List Int) : Int × Int × Int := if mkB m = false then (0, 0, 1) else if priceB m o p = false then (0, 0, 2) else if 0 ≤ fairI m o then (fairI m o, 0, 11) else envA (envF m o p)
theorem env_none {m : Mt} {o p : List Int} (h : ∀ i, i < m.length → ∀ k, k < m.length → envyB m o p i k = false) : envF m o p = none := by
  unfold envF
  rw [List.findSome?_eq_none_iff]
  intro i hi
  rw [Option.map_eq_none_iff, List.find?_eq_none]
  intro k hk
  rw [h i (List.mem_range.1 hi) k (List.mem_range.1 hk)]; decide
theorem findSome_range {β : Type} {f : Nat → Option β} {n k : Nat} {b : β} (hk : k < n) (hp : f k = some b) (hno : ∀ i, i < k → f i = none) : (List.range n).findSome? f = some b := by
  induction n with
  | zero => omega
  | succ n ih =>
    rw [List.range_succ, List.findSome?_append]
    rcases Nat.lt_or_eq_of_le (Nat.le_of_lt_succ hk) with h | h
    · rw [ih h]; rfl
    · subst h
      rw [List.findSome?_eq_none_iff.2 fun i hi => hno i (List.mem_range.1 hi)]
      simp [hp]
theorem env_some {m : Mt} {o p : List Int} {i k : Nat} (hi : i < m.length) (hk : k < m.length) (h : envyB m o p i k = true) (h1 : ∀ i', i' < i → ∀ k, k < m.length → envyB m o p i' k = false) (h2 : ∀ k', k' < k → envyB m o p i k' = false) : envF m o p = some (i, k) := by
  unfold envF
  refine findSome_range hi ?_ fun i' hi' => ?_
  · rw [find_range hk h h2]; rfl
  · rw [Option.map_eq_none_iff, List.find?_eq_none]
    intro k hk
    rw [h1 i' hi' k (List.mem_range.1 hk)]; decide
theorem charge_get {p : List Int} (h : chargeB p = true) (i : Nat) : 0 ≤ p.getD i 0 ∧ p.getD i 0 ≤ 100000 := by
  rcases Nat.lt_or_ge i p.length with hi | hi
  · exact of_decide_eq_true (List.all_eq_true.1 h _ (getD_mem hi))
  · rw [getD_big hi]; omega
theorem price_parts {m : Mt} {o p : List Int} (h : priceB m o p = true) : ordB o m.length = true ∧ p.length = o.length ∧ chargeB p = true := by
  unfold priceB at h
  rw [Bool.and_eq_true, Bool.and_eq_true] at h
  exact ⟨h.1.1, of_decide_eq_true h.1.2, h.2⟩
theorem all_take {p : List Int} {f : Int → Bool} {k : Nat} (hk : k < p.length) : (p.take (k + 1)).all f = ((p.take k).all f && f (p.getD k 0)) := by
  rw [List.take_add_one, get_of_lt 0 hk, List.all_append]; simp

theorem row_all {l : List Int} (h : ∀ k, k < l.length → inB (l.getD k 0) 0 1000 = true) : (l.all fun x => inB x 0 1000) = true := by
  rw [List.all_eq_true]; intro x hx
  obtain ⟨k, hk, rfl⟩ := List.getElem_of_mem hx
  have := h k hk
  rw [List.getD_eq_getElem?_getD, List.getElem?_eq_getElem hk] at this; exact this
theorem market30 (w : World) (z : MA) (m : Mt) (hz : MtA 0 w z m) : Calls Tryd.prog 30 #[.agg (mV z m).toArray] w fun e w' => e = .returned (.bool (mkB m)) ∧ Below w.heap.size w w' := by
  have hlen := hz.len
  refine calls_of_SC (args := [.agg (mV z m).toArray]) Tryd.func30 rfl Tryd.ntmps30 rfl ?_
  simp only [argL]
  refine sc_seq ?_
  refine sc_region ?_
  refine sq_box RF rfl (fun b1 => ?_)
  refine qs (y_assign RF) ?_
  refine sq_nil ?_
  refine sx_then ?_
  refine sc_seq ?_
  refine sc_region ?_
  refine qs FA24_22 ?_
  refine qs LD22 ?_
  refine qs (y_len Tryd.underlying22 RF) ?_
  refine qs (y_assign RF) ?_
  refine sq_nil ?_
  refine sx_then ?_
  refine sc_seq ?_
  refine sc_seq ?_
  refine sc_region ?_
  refine qs (y_move RF) ?_
  refine qs (y_gtr RF RF) ?_
  refine sq_nil ?_
  refine sx_then ?_
  refine scp (fun hc0 => ?_) (fun hc0 => ?_)
  ·
    refine sc_seq ?_
    refine sc_region ?_
    refine qs (y_assign RF) ?_
    refine sq_nil ?_
    refine sx_then ?_
    refine sc_ret ?_
    refine sx_then_ret ?_
    refine sx_ret1 (.inl rfl) rfl Tryd.results30 RF ?_
    intro w' hw'
    refine ⟨?_, hw'.below MM⟩
    unfold mkB; rw [decide_eq_false (show ¬ m.length ≤ 7 by omega), Bool.and_false]
  ·
    refine sc_skip ?_
    refine sx_then ?_
    refine sc_seq ?_
    refine sc_seq ?_
    refine sc_region ?_
    refine qs (y_assign RF) ?_
    refine sq_nil ?_
    refine sx_then ?_
    refine sc_block ?_
    refine sc_loop (σ := Nat)
      (fun s => [(1, .pointer (some ⟨b1, 0, none⟩)), (3, .int .i64 m.length), (4, .int .i64 s)])
      (fun s => [.blk b1 (.cells (mV z m).toArray 24 (0, 0)), .reg 0 w])
      (fun s => s ≤ m.length ∧ ∀ i, i < s → rowB m i (m.getD i []) = true)
      (fun s => m.length - s)
      (0) ?_ SU SR ?_
    · exact ⟨Nat.zero_le _, fun i hi => absurd hi (Nat.not_lt_zero i)⟩
    rintro i ⟨hi, hno⟩
    refine sc_seq ?_
    refine sc_seq ?_
    refine sc_region ?_
    refine qs (y_move RF) ?_
    refine qs (y_move RF) ?_
    refine qs (y_lss RF RF) ?_
    refine sq_nil ?_
    refine sx_then ?_
    refine scp (fun hc1 => ?_) (fun hc1 => ?_)
    ·
      have hi' : i < m.length := by omega
      obtain ⟨hs1, hr1, hrow⟩ := hz.row hi'
      refine sc_skip ?_
      refine sx_then ?_
      refine sc_seq ?_
      refine sc_block ?_
      refine sc_seq ?_
      refine sc_seq ?_
      refine sc_midE (Z := {v : Bool // (v = false → (m.getD i []).length = m.length ∧ wv m i i = 0) ∧ ((m.getD i []).length = m.length → (m.getD i []).getD i 0 = 0 → v = false)}) (fun v => [(1, .pointer (some ⟨b1, 0, none⟩)), (3, .int .i64 m.length), (4, .int .i64 i), (34, .bool v.1)]) (fun _ => [.blk b1 (.cells (mV z m).toArray 24 (0, 0)), .reg 0 w]) ?_ ?_
      ·
        refine sc_region ?_
        refine qs FA24_22 ?_
        refine qs LD22 ?_
        refine qs (y_move RF) ?_
        refine qs IA22 ?_
        refine qs LD25 ?_
        refine qs (y_len Tryd.underlying25 RF) ?_
        refine qs (y_move RF) ?_
        refine qs (y_neq RF RF) ?_
        refine qs (y_move RF) ?_
        refine sp 24 (fun hg7_8 => ?_) (fun hg7_8 => ?_)
        ·
          refine qf ?_
          refine qf ?_
          refine qf ?_
          refine qf ?_
          refine qf ?_
          refine qf ?_
          refine qf ?_
          refine qf ?_
          refine qf ?_
          refine qs (y_pick_t RF RF) ?_
          refine sq_nil ?_
          exact sx_midE (⟨true, (fun h => by cases h), (fun h => absurd h (by omega))⟩) SU SR
        ·
          refine qg FA24_22 ?_
          refine qg LD22 ?_
          refine qg (y_move RF) ?_
          refine qg IA22 ?_
          refine qg LD25 ?_
          have hs2 := (hrow.get 0 (show i < (m.getD i []).length by omega)).1
          refine qg (y_move RF) ?_
          refine qg IA25 ?_
          refine qg (by first | exact y_load_ca0 Tryd.underlying3 rfl RF MM (hrow.get 0 (show i < (m.getD i []).length by omega)).2 rfl | exact LD3) ?_
          refine qg (y_neq RF RF) ?_
          refine qs (y_pick_f RF RF) ?_
          refine sq_nil ?_
          exact sx_midE (⟨!decide (wv m i i = 0), (fun h => ⟨by omega, by simpa using h⟩), (fun _ h => by rw [show decide (wv m i i = 0) = true from decide_eq_true h]; rfl)⟩) SU SR
      rintro ⟨vb, hvb, hvb2⟩
      try dsimp only
      refine sx_then ?_
      refine scp (fun hc2 => ?_) (fun hc2 => ?_)
      ·
        refine sc_seq ?_
        refine sc_region ?_
        refine qs (y_assign RF) ?_
        refine sq_nil ?_
        refine sx_then ?_
        refine sc_ret ?_
        refine sx_then_ret ?_
        refine sx_blk_ret ?_
        refine sx_then_ret ?_
        refine sx_round_ret ?_
        refine sx_blk_ret ?_
        refine sx_then_ret ?_
        refine sx_ret1 (.inl rfl) rfl Tryd.results30 RF ?_
        intro w' hw'
        refine ⟨?_, hw'.below MM⟩
        unfold mkB; rw [rowsB_no hi' (by cases hB : rowB m i (m.getD i []) with
          | false => rfl
          | true =>
            exfalso
            unfold rowB at hB
            rw [Bool.and_eq_true, Bool.and_eq_true] at hB
            have e1 := of_decide_eq_true hB.1.1
            have e2 := of_decide_eq_true hB.2
            have : vb = false := hvb2 e1 e2
            rw [this] at hc2; cases hc2)]; rfl
      ·
        obtain ⟨hrl, hdg⟩ := hvb hc2
        refine sc_skip ?_
        refine sx_then ?_
        refine sc_seq ?_
        refine sc_region ?_
        refine qs (y_assign RF) ?_
        refine sq_nil ?_
        refine sx_then ?_
        refine sc_block ?_
        refine sc_loop (σ := Nat)
          (fun s => [(1, .pointer (some ⟨b1, 0, none⟩)), (3, .int .i64 m.length), (4, .int .i64 i), (5, .int .i64 s)])
          (fun s => [.blk b1 (.cells (mV z m).toArray 24 (0, 0)), .reg 0 w])
          (fun s => s ≤ m.length ∧ ∀ k, k < s → inB ((m.getD i []).getD k 0) 0 1000 = true)
          (fun s => m.length - s)
          (0) ?_ SU SR ?_
        · exact ⟨Nat.zero_le _, fun k hk => absurd hk (Nat.not_lt_zero k)⟩
        rintro k ⟨hk, hnk⟩
        refine sc_seq ?_
        refine sc_seq ?_
        refine sc_region ?_
        refine qs (y_move RF) ?_
        refine qs (y_move RF) ?_
        refine qs (y_lss RF RF) ?_
        refine sq_nil ?_
        refine sx_then ?_
        refine scp (fun hc3 => ?_) (fun hc3 => ?_)
        ·
          have hk' : k < m.length := by omega
          obtain ⟨_, _, hs3, hcw⟩ := hz.cell hi' (show k < (m.getD i []).length by omega)
          refine sc_skip ?_
          refine sx_then ?_
          refine sc_seq ?_
          refine sc_block ?_
          refine sc_seq ?_
          refine sc_region ?_
          refine qs FA24_22 ?_
          refine qs LD22 ?_
          refine qs (y_move RF) ?_
          refine qs IA22 ?_
          refine qs LD25 ?_
          refine qs (y_move RF) ?_
          refine qs IA25 ?_
          refine qs (by first | exact y_load_ca0 Tryd.underlying3 rfl RF MM hcw rfl | exact LD3) ?_
          refine qy (yc Tryd.call50 E3 (fun w1 _ => in50 _ _ _ w1)) ?_
          refine qs (y_not RF) ?_
          refine sq_nil ?_
          refine sx_then ?_
          refine scp (fun hc4 => ?_) (fun hc4 => ?_)
          ·
            refine sc_seq ?_
            refine sc_region ?_
            refine qs (y_assign RF) ?_
            refine sq_nil ?_
            refine sx_then ?_
            refine sc_ret ?_
            refine sx_blk_ret ?_
            refine sx_then_ret ?_
            refine sx_round_ret ?_
            refine sx_blk_ret ?_
            refine sx_blk_ret ?_
            refine sx_then_ret ?_
            refine sx_round_ret ?_
            refine sx_blk_ret ?_
            refine sx_then_ret ?_
            refine sx_ret1 (.inl rfl) rfl Tryd.results30 RF ?_
            intro w' hw'
            refine ⟨?_, hw'.below MM⟩
            unfold mkB; rw [rowsB_no hi' (by unfold rowB; rw [show ((m.getD i []).all fun x => inB x 0 1000) = false from by
              apply Bool.eq_false_iff.2; intro ha
              have := List.all_eq_true.1 ha _ (getD_mem (d := 0) (show k < (m.getD i []).length by omega))
              exact hc4 (of_decide_eq_true this)]; simp)]; rfl
          ·
            refine sc_skip ?_
            refine sx_blk ?_
            refine sx_then ?_
            refine sc_region ?_
            refine qs (y_move RF) ?_
            refine qs (y_add RF RF (by omega)) ?_
            refine qs (y_assign RF) ?_
            refine sq_nil ?_
            refine sx_round (k + 1) ?_ ?_ SU SR
            · refine ⟨by omega, fun j hj => ?_⟩
              rcases Nat.lt_succ_iff_lt_or_eq.1 hj with h | rfl
              · exact hnk j h
              · exact decide_eq_true hc4
            · omega
        ·
          have hkn : k = m.length := by omega
          subst hkn
          refine sc_exit ?_
          refine sx_then_exit ?_
          refine sx_round_exit ?_
          refine sx_blk_hit ?_
          refine sx_blk ?_
          refine sx_then ?_
          refine sc_region ?_
          refine qs (y_move RF) ?_
          refine qs (y_add RF RF (by omega)) ?_
          refine qs (y_assign RF) ?_
          refine sq_nil ?_
          refine sx_round (i + 1) ?_ ?_ SU SR
          · refine ⟨by omega, fun j hj => ?_⟩
            rcases Nat.lt_succ_iff_lt_or_eq.1 hj with h | rfl
            · exact hno j h
            · unfold rowB; rw [decide_eq_true hrl, row_all (fun k hk => hnk k (by omega)), decide_eq_true (show (m.getD j []).getD j 0 = 0 from hdg)]; rfl
          · omega
    ·
      refine sc_exit ?_
      refine sx_then_exit ?_
      refine sx_round_exit ?_
      refine sx_blk_hit ?_
      refine sx_then ?_
      refine sc_seq ?_
      refine sc_region ?_
      refine qs (y_assign RF) ?_
      refine sq_nil ?_
      refine sx_then ?_
      refine sc_ret ?_
      refine sx_ret1 (.inl rfl) rfl Tryd.results30 RF ?_
      intro w' hw'
      refine ⟨?_, hw'.below MM⟩
      have hin : i = m.length := by omega
      subst hin
      unfold mkB; rw [rowsB_yes hno, decide_eq_true (show m.length ≤ 7 by omega)]; rfl
theorem Gives16 (w : World) (z : MA) (m : Mt) (hz : MtA 0 w z m) (a : Option Addr) (c : Nat) (o : List Int) (ho : RowsA iRow 1 0 w a o) (h1000 : o.length ≤ 1000) : Calls Tryd.prog 16 #[.agg (mV z m).toArray, .slice a o.length c] w fun e w' => e = .returned (.tuple #[.int .i64 (givesR m o).1, .int .i64 (givesR m o).2.1, .int .i64 (givesR m o).2.2]) ∧ Below w.heap.size w w' := by
  have hlen := hz.len
  refine calls_of_SC (args := [.agg (mV z m).toArray, .slice a o.length c]) Tryd.func16 rfl Tryd.ntmps16 rfl ?_
  simp only [argL, Nat.zero_add]
  refine sc_seq ?_
  refine sc_region ?_
  refine sq_box RF rfl (fun b2 => ?_)
  refine qs (y_assign RF) ?_
  refine qs (y_assign RF) ?_
  refine qs (y_assign RF) ?_
  refine sq_nil ?_
  refine sx_then ?_
  refine sc_seq ?_
  refine sc_block ?_
  refine sc_seq ?_
  refine sc_region ?_
  refine qs LD24 ?_
  refine qy (yc Tryd.call41 E1 (fun w1 hw1 => market41 w1 z m (hz.at hw1 MM))) ?_
  refine qs (y_not RF) ?_
  refine qs (y_assign RF) ?_
  refine sq_nil ?_
  refine sx_then ?_
  refine scp (fun hc0 => ?_) (fun hc0 => ?_)
  ·
    refine sc_seq ?_
    refine sc_region ?_
    refine qs (y_assign RF) ?_
    refine qs (y_assign RF) ?_
    refine qs (y_assign RF) ?_
    refine sq_nil ?_
    refine sx_then ?_
    refine sc_ret ?_
    refine sx_blk_ret ?_
    refine sx_then_ret ?_
    refine sx_ret3 (.inl rfl) rfl Tryd.results16 RF RF RF ?_
    intro w' hw'
    refine ⟨?_, hw'.below MM⟩
    have hb : mkB m = false := by simpa using hc0
    unfold givesR; rw [if_pos hb]
  ·
    refine sc_seq ?_
    have hb : mkB m = true := by simpa using hc0
    have hm := mkF hb
    refine sc_region ?_
    refine qs (y_move RF) ?_
    refine qs FA24_22 ?_
    refine qs LD22 ?_
    refine qs (y_len Tryd.underlying22 RF) ?_
    refine qy (yc Tryd.call42 E2 (fun w1 hw1 => isExchange42 w1 a c o (ho.at hw1 MM) h1000 m.length)) ?_
    refine qs (y_not RF) ?_
    refine qs (y_assign RF) ?_
    refine sq_nil ?_
    refine sx_then ?_
    refine scp (fun hc1 => ?_) (fun hc1 => ?_)
    ·
      refine sc_seq ?_
      refine sc_region ?_
      refine qs (y_assign RF) ?_
      refine qs (y_assign RF) ?_
      refine qs (y_assign RF) ?_
      refine sq_nil ?_
      refine sx_then ?_
      refine sc_ret ?_
      refine sx_blk_ret ?_
      refine sx_then_ret ?_
      refine sx_ret3 (.inl rfl) rfl Tryd.results16 RF RF RF ?_
      intro w' hw'
      refine ⟨?_, hw'.below MM⟩
      have hv : ordB o m.length = false := by simpa using hc1
      unfold givesR; rw [if_neg (show ¬ mkB m = false by simp [hb]), if_pos hv]
    ·
      refine sc_skip ?_
      refine sx_blk ?_
      refine sx_then ?_
      refine sc_seq ?_
      have hv : ordB o m.length = true := by simpa using hc1
      refine sc_region ?_
      refine qs LD24 ?_
      refine qs (y_build bt75 (EvP.cons RF EvP.nil) RF) ?_
      refine qs (y_move RF) ?_
      refine qy (yc Tryd.call43 E2 (fun w1 hw1 => value43 w1 z m (hz.at hw1 MM) hm a c o (ho.at hw1 MM) hv)) ?_
      refine qs (y_move RF) ?_
      refine qs (y_extract RF RF) ?_
      refine qs (y_extract RF RF) ?_
      refine qs (y_assign RF) ?_
      refine qs (y_assign RF) ?_
      refine sq_nil ?_
      refine sx_then ?_
      refine sc_seq ?_
      refine sc_seq ?_
      refine sc_region ?_
      refine qs (y_move RF) ?_
      refine qs (y_geq RF RF) ?_
      refine sq_nil ?_
      refine sx_then ?_
      refine scp (fun hc2 => ?_) (fun hc2 => ?_)
      ·
        refine sc_seq ?_
        refine sc_region ?_
        refine qs (y_move RF) ?_
        refine qs (y_assign RF) ?_
        refine qs (y_assign RF) ?_
        refine qs (y_assign RF) ?_
        refine sq_nil ?_
        refine sx_then ?_
        refine sc_ret ?_
        refine sx_then_ret ?_
        refine sx_ret3 (.inl rfl) rfl Tryd.results16 RF RF RF ?_
        intro w' hw'
        refine ⟨?_, hw'.below MM⟩
        unfold givesR; rw [if_neg (show ¬ mkB m = false by simp [hb]), if_neg (show ¬ ordB o m.length = false by simp [hv]), if_pos (show 0 ≤ fairI m o by omega)]
        try rfl
      ·
        refine sc_skip ?_
        refine sx_then ?_
        refine sc_seq ?_
        refine sc_region ?_
        refine qs (y_move RF) ?_
        refine qs (y_assign RF) ?_
        refine qs (y_assign RF) ?_
        refine qs (y_assign RF) ?_
        refine sq_nil ?_
        refine sx_then ?_
        refine sc_ret ?_
        refine sx_ret3 (.inl rfl) rfl Tryd.results16 RF RF RF ?_
        intro w' hw'
        refine ⟨?_, hw'.below MM⟩
        unfold givesR; rw [if_neg (show ¬ mkB m = false by simp [hb]), if_neg (show ¬ ordB o m.length = false by simp [hv]), if_neg (show ¬ 0 ≤ fairI m o by omega), if_pos (show fairI m o < 0 by omega)]
        try rfl
theorem Gives17 (w : World) (z : MA) (m : Mt) (hz : MtA 0 w z m) (a : Option Addr) (c : Nat) (o : List Int) (ho : RowsA iRow 1 0 w a o) (_h1000 : o.length ≤ 1000) : Calls Tryd.prog 17 #[.agg (mV z m).toArray, .slice a o.length c] w fun e w' => e = .returned (.tuple #[.int .i64 (givesR m o).1, .int .i64 (givesR m o).2.1, .int .i64 (givesR m o).2.2]) ∧ Below w.heap.size w w' := by
  have hlen := hz.len
  refine calls_of_SC (args := [.agg (mV z m).toArray, .slice a o.length c]) Tryd.func17 rfl Tryd.ntmps17 rfl ?_
  simp only [argL, Nat.zero_add]
  refine sc_seq ?_
  refine sc_region ?_
  refine sq_box RF rfl (fun b2 => ?_)
  refine qs (y_assign RF) ?_
  refine qs (y_assign RF) ?_
  refine qs (y_assign RF) ?_
  refine sq_nil ?_
  refine sx_then ?_
  refine sc_seq ?_
  refine sc_seq ?_
  refine sc_region ?_
  refine qs LD24 ?_
  refine qy (yc Tryd.call30 E1 (fun w1 hw1 => market30 w1 z m (hz.at hw1 MM))) ?_
  refine qs (y_not RF) ?_
  refine sq_nil ?_
  refine sx_then ?_
  refine scp (fun hc0 => ?_) (fun hc0 => ?_)
  ·
    refine sc_seq ?_
    refine sc_region ?_
    refine qs (y_assign RF) ?_
    refine qs (y_assign RF) ?_
    refine qs (y_assign RF) ?_
    refine sq_nil ?_
    refine sx_then ?_
    refine sc_ret ?_
    refine sx_then_ret ?_
    refine sx_ret3 (.inl rfl) rfl Tryd.results17 RF RF RF ?_
    intro w' hw'
    refine ⟨?_, hw'.below MM⟩
    have hb : mkB m = false := by simpa using hc0
    unfold givesR; rw [if_pos hb]
  ·
    refine sc_skip ?_
    refine sx_then ?_
    refine sc_seq ?_
    refine sc_seq ?_
    have hb : mkB m = true := by simpa using hc0
    have hm := mkF hb
    refine sc_region ?_
    refine qs (y_move RF) ?_
    refine qs FA24_22 ?_
    refine qs LD22 ?_
    refine qs (y_len Tryd.underlying22 RF) ?_
    refine qy (yc Tryd.call31 E2 (fun w1 hw1 => exchange31 w1 a c o (ho.at hw1 MM) m.length (by have := hm.n7; omega))) ?_
    refine qs (y_not RF) ?_
    refine sq_nil ?_
    refine sx_then ?_
    refine scp (fun hc1 => ?_) (fun hc1 => ?_)
    ·
      refine sc_seq ?_
      refine sc_region ?_
      refine qs (y_assign RF) ?_
      refine qs (y_assign RF) ?_
      refine qs (y_assign RF) ?_
      refine sq_nil ?_
      refine sx_then ?_
      refine sc_ret ?_
      refine sx_then_ret ?_
      refine sx_ret3 (.inl rfl) rfl Tryd.results17 RF RF RF ?_
      intro w' hw'
      refine ⟨?_, hw'.below MM⟩
      have hv : ordB o m.length = false := by simpa using hc1
      unfold givesR; rw [if_neg (show ¬ mkB m = false by simp [hb]), if_pos hv]
    ·
      refine sc_skip ?_
      refine sx_then ?_
      refine sc_seq ?_
      have hv : ordB o m.length = true := by simpa using hc1
      refine sc_region ?_
      refine qs LD24 ?_
      refine qs (y_move RF) ?_
      refine qy (yc Tryd.call32 E2 (fun w1 hw1 => fair32 w1 z m (hz.at hw1 MM) hm a c o (ho.at hw1 MM) hv)) ?_
      refine qs (y_assign RF) ?_
      refine sq_nil ?_
      refine sx_then ?_
      refine sc_seq ?_
      refine sc_seq ?_
      refine sc_region ?_
      refine qs (y_move RF) ?_
      refine qs (y_geq RF RF) ?_
      refine sq_nil ?_
      refine sx_then ?_
      refine scp (fun hc2 => ?_) (fun hc2 => ?_)
      ·
        refine sc_seq ?_
        refine sc_region ?_
        refine qs (y_move RF) ?_
        refine qs (y_assign RF) ?_
        refine qs (y_assign RF) ?_
        refine qs (y_assign RF) ?_
        refine sq_nil ?_
        refine sx_then ?_
        refine sc_ret ?_
        refine sx_then_ret ?_
        refine sx_ret3 (.inl rfl) rfl Tryd.results17 RF RF RF ?_
        intro w' hw'
        refine ⟨?_, hw'.below MM⟩
        unfold givesR; rw [if_neg (show ¬ mkB m = false by simp [hb]), if_neg (show ¬ ordB o m.length = false by simp [hv]), if_pos (show 0 ≤ fairI m o by omega)]
        try rfl
      ·
        refine sc_skip ?_
        refine sx_then ?_
        refine sc_seq ?_
        refine sc_region ?_
        refine qs LD24 ?_
        refine qs (y_move RF) ?_
        refine qy (yc Tryd.call34 E2 (fun w1 hw1 => worth34 w1 z m (hz.at hw1 MM) hm a c o (ho.at hw1 MM) hv)) ?_
        refine qs (y_assign RF) ?_
        refine qs (y_assign RF) ?_
        refine qs (y_assign RF) ?_
        refine sq_nil ?_
        refine sx_then ?_
        refine sc_ret ?_
        refine sx_ret3 (.inl rfl) rfl Tryd.results17 RF RF RF ?_
        intro w' hw'
        refine ⟨?_, hw'.below MM⟩
        unfold givesR; rw [if_neg (show ¬ mkB m = false by simp [hb]), if_neg (show ¬ ordB o m.length = false by simp [hv]), if_neg (show ¬ 0 ≤ fairI m o by omega)]
theorem Envies20 (w : World) (z : MA) (m : Mt) (hz : MtA 0 w z m) (a : Option Addr) (c : Nat) (o : List Int) (ho : RowsA iRow 1 0 w a o) (h1000 : o.length ≤ 1000) (ap : Option Addr) (cp : Nat) (p : List Int) (hp : RowsA iRow 1 0 w ap p) : Calls Tryd.prog 20 #[.agg (mV z m).toArray, .slice a o.length c, .slice ap p.length cp] w fun e w' => e = .returned (.tuple #[.int .i64 (envR m o p).1, .int .i64 (envR m o p).2.1, .int .i64 (envR m o p).2.2]) ∧ Below w.heap.size w w' := by
  have hlen := hz.len
  have hplen := hp.len
  refine calls_of_SC (args := [.agg (mV z m).toArray, .slice a o.length c, .slice ap p.length cp]) Tryd.func20 rfl Tryd.ntmps20 rfl ?_
  simp only [argL, Nat.reduceAdd, Nat.zero_add]
  refine sc_seq ?_
  refine sc_region ?_
  refine sq_box RF rfl (fun b3 => ?_)
  refine qs (y_assign RF) ?_
  refine qs (y_assign RF) ?_
  refine qs (y_assign RF) ?_
  refine sq_nil ?_
  refine sx_then ?_
  refine sc_seq ?_
  refine sc_region ?_
  refine qs (y_assign RF) ?_
  refine sq_nil ?_
  refine sx_then ?_
  refine sc_seq ?_
  refine sc_block ?_
  refine sc_seq ?_
  refine sc_region ?_
  refine qs LD24 ?_
  refine qy (yc Tryd.call41 E1 (fun w1 hw1 => market41 w1 z m (hz.at hw1 MM))) ?_
  refine qs (y_not RF) ?_
  refine qs (y_assign RF) ?_
  refine sq_nil ?_
  refine sx_then ?_
  refine scp (fun hc0 => ?_) (fun hc0 => ?_)
  ·
    refine sc_seq ?_
    refine sc_region ?_
    refine qs (y_assign RF) ?_
    refine qs (y_assign RF) ?_
    refine qs (y_assign RF) ?_
    refine sq_nil ?_
    refine sx_then ?_
    refine sc_ret ?_
    refine sx_blk_ret ?_
    refine sx_then_ret ?_
    refine sx_ret3 (.inl rfl) rfl Tryd.results20 RF RF RF ?_
    intro w' hw'
    refine ⟨?_, hw'.below MM⟩
    have hb : mkB m = false := by simpa using hc0
    unfold envR; rw [if_pos hb]
  ·
    refine sc_seq ?_
    have hb : mkB m = true := by simpa using hc0
    have hm := mkF hb
    refine sc_midE (Z := {v : Bool // v = !priceB m o p}) (fun v => [(1, .slice a o.length c), (2, .slice ap p.length cp), (3, .pointer (some ⟨b3, 0, none⟩)), (6, .int .i64 0), (7, .int .i64 0), (8, .int .i64 0), (9, .func (.func 46) #[] #[]), (20, .bool v.1)]) (fun _ => [.blk b3 (.cells (mV z m).toArray 24 (0, 0)), .reg 0 w]) ?_ ?_
    ·
      refine sc_region ?_
      refine qs (y_move RF) ?_
      refine qs FA24_22 ?_
      refine qs LD22 ?_
      refine qs (y_len Tryd.underlying22 RF) ?_
      refine qy (yc Tryd.call42 E2 (fun w1 hw1 => isExchange42 w1 a c o (ho.at hw1 MM) h1000 m.length)) ?_
      refine qs (y_not RF) ?_
      refine qs (y_move RF) ?_
      refine sp 27 (fun hg4_6 => ?_) (fun hg4_6 => ?_)
      ·
        refine qf ?_
        refine qf ?_
        refine qf ?_
        refine qf ?_
        refine qf ?_
        refine qs (y_pick_t RF RF) ?_
        refine qs (y_move RF) ?_
        refine qf ?_
        refine qf ?_
        refine qf ?_
        refine qs (y_pick_t RF RF) ?_
        refine qs (y_assign RF) ?_
        refine sq_nil ?_
        exact sx_midE (⟨true, by unfold priceB; rw [show ordB o m.length = false from by simpa using hg4_6]; rfl⟩) SU SR
      ·
        refine qg (y_move RF) ?_
        refine qg (y_len Tryd.underlying25 RF) ?_
        refine qg (y_move RF) ?_
        refine qg (y_len Tryd.underlying25 RF) ?_
        refine qg (y_neq RF RF) ?_
        refine qs (y_pick_f RF RF) ?_
        refine qs (y_move RF) ?_
        refine sp 34 (fun hg4_13 => ?_) (fun hg4_13 => ?_)
        ·
          refine qf ?_
          refine qf ?_
          refine qf ?_
          refine qs (y_pick_t RF RF) ?_
          refine qs (y_assign RF) ?_
          refine sq_nil ?_
          exact sx_midE (⟨true, by unfold priceB; rw [decide_eq_false (show ¬ p.length = o.length by omega)]; simp⟩) SU SR
        ·
          refine qg (y_move RF) ?_
          refine qg (y_move RF) ?_
          refine sq_gt RF RF (y_call (first := []) (caps := []) RF Tryd.call48 (EvL.cons RF (EvL.cons RF EvL.nil)) (fun w1 hw1 => has48 46 100000 Tryd.call46 bad46 w1 ap cp p (hp.at hw1 MM))) rfl ?_
          refine qs (y_pick_f RF RF) ?_
          refine qs (y_assign RF) ?_
          refine sq_nil ?_
          exact sx_midE (⟨_, by unfold priceB chargeB; rw [show ordB o m.length = true from by simpa using hg4_6, decide_eq_true (show p.length = o.length by omega), Bool.true_and, Bool.true_and]⟩) SU SR
    rintro ⟨vb, hvb⟩
    try dsimp only
    refine sx_then ?_
    refine scp (fun hc1 => ?_) (fun hc1 => ?_)
    ·
      refine sc_seq ?_
      refine sc_region ?_
      refine qs (y_assign RF) ?_
      refine qs (y_assign RF) ?_
      refine qs (y_assign RF) ?_
      refine sq_nil ?_
      refine sx_then ?_
      refine sc_ret ?_
      refine sx_blk_ret ?_
      refine sx_then_ret ?_
      refine sx_ret3 (.inl rfl) rfl Tryd.results20 RF RF RF ?_
      intro w' hw'
      refine ⟨?_, hw'.below MM⟩
      have hpB : priceB m o p = false := by
        have hv2 : vb = true := hc1
        rw [hvb] at hv2; simpa using hv2
      unfold envR; rw [if_neg (show ¬ mkB m = false by simp [hb]), if_pos hpB]
    ·
      refine sc_skip ?_
      refine sx_blk ?_
      refine sx_then ?_
      refine sc_seq ?_
      have hpB : priceB m o p = true := by
        have hv2 : vb = false := hc1
        rw [hvb] at hv2; simpa using hv2
      obtain ⟨hv, hpl, hch⟩ := price_parts hpB
      have hol := ord_len hv
      refine sc_region ?_
      refine qs LD24 ?_
      refine qs (y_build bt75 (EvP.cons RF EvP.nil) RF) ?_
      refine sq_alloc Tryd.zeroValue75 rfl (fun b10 => ?_)
      refine sq_store_all Tryd.sizeOf75 RF RF rfl RM rfl rfl ?_
      refine sq_nil ?_
      refine sx_then ?_
      refine sc_seq ?_
      refine sc_seq ?_
      refine sc_region ?_
      refine qs LD75 ?_
      refine qs (y_move RF) ?_
      refine qy (yc Tryd.call43 E2 (fun w1 hw1 => value43 w1 z m (hz.at hw1 MM) hm a c o (ho.at hw1 MM) hv)) ?_
      refine qs (y_move RF) ?_
      refine qs (y_extract RF RF) ?_
      refine qs (y_extract RF RF) ?_
      refine qs (y_assign RF) ?_
      refine qs (y_assign RF) ?_
      refine sq_nil ?_
      refine sx_then ?_
      refine sc_seq ?_
      refine sc_region ?_
      refine qs (y_move RF) ?_
      refine qs (y_geq RF RF) ?_
      refine sq_nil ?_
      refine sx_then ?_
      refine scp (fun hc2 => ?_) (fun hc2 => ?_)
      ·
        refine sc_seq ?_
        refine sc_region ?_
        refine qs (y_move RF) ?_
        refine qs (y_assign RF) ?_
        refine qs (y_assign RF) ?_
        refine qs (y_assign RF) ?_
        refine sq_nil ?_
        refine sx_then ?_
        refine sc_ret ?_
        refine sx_then_ret ?_
        refine sx_ret3 (.inl rfl) rfl Tryd.results20 RF RF RF ?_
        intro w' hw'
        refine ⟨?_, hw'.below MM⟩
        unfold envR; rw [if_neg (show ¬ mkB m = false by simp [hb]), if_neg (show ¬ priceB m o p = false by simp [hpB]), if_pos (show 0 ≤ fairI m o by omega)]
        try rfl
      ·
        refine sc_skip ?_
        refine sx_then ?_
        refine sc_seq ?_
        refine sc_seq ?_
        refine sc_region ?_
        refine qs (y_move RF) ?_
        refine qs (y_len Tryd.underlying25 RF) ?_
        refine qs (y_move RF) ?_
        refine sq_nil ?_
        refine sx_then ?_
        refine sc_block ?_
        refine sc_loop (σ := Nat)
          (fun s => [(1, .slice a o.length c), (2, .slice ap p.length cp), (3, .pointer (some ⟨b3, 0, none⟩)), (10, .pointer (some ⟨b10, 0, none⟩)), (50, .slice a o.length c), (51, .int .i64 o.length), (52, .int .i64 s)])
          (fun s => [.blk b10 (.cells (mV z m).toArray 75 (0, 0)), .blk b3 (.cells (mV z m).toArray 24 (0, 0)), .reg 0 w])
          (fun s => s ≤ o.length ∧ ∀ i, i < s → ∀ k, k < o.length → envyB m o p i k = false)
          (fun s => o.length - s)
          (0) ?_ SU SR ?_
        · exact ⟨Nat.zero_le _, fun i hi => absurd hi (Nat.not_lt_zero i)⟩
        rintro i ⟨hi, hno⟩
        refine sc_seq ?_
        refine sc_region ?_
        refine qs (y_lss RF RF) ?_
        refine sq_nil ?_
        refine sx_then ?_
        refine sc_seq ?_
        refine scp (fun hc3 => ?_) (fun hc3 => ?_)
        ·
          have hi' : i < m.length := by omega
          obtain ⟨hge, hgl⟩ := ord_get hv hi'
          have hrow := hm.row i hi'
          obtain ⟨hs1, hr1, hs2, hown⟩ := hz.cell hi' (show getN o i < (m.getD i []).length by omega)
          have hso := (ho.get 0 (show i < o.length by omega)).1
          have hco := (ho.get 0 (show i < o.length by omega)).2
          rw [hge] at hco
          have hsp := (hp.get 0 (show getN o i < p.length by omega)).1
          have hcp := (hp.get 0 (show getN o i < p.length by omega)).2
          have hb1 := charge_get hch (getN o i)
          have hb2 := hm.bd i (getN o i)
          refine sc_skip ?_
          refine sx_then ?_
          refine sc_seq ?_
          refine sc_block ?_
          refine sc_seq ?_
          refine sc_region ?_
          refine qs (y_move RF) ?_
          refine qs IA25 ?_
          refine qs (by first | exact y_load_ca0 Tryd.underlying3 rfl RF MM hco rfl | exact LD3) ?_
          refine qs (y_assign RF) ?_
          refine qs (y_assign RF) ?_
          refine sq_nil ?_
          refine sx_then ?_
          refine sc_seq ?_
          refine sc_region ?_
          refine qs (y_move RF) ?_
          refine qs (y_len Tryd.underlying25 RF) ?_
          refine qs (y_move RF) ?_
          refine sq_nil ?_
          refine sx_then ?_
          refine sc_block ?_
          refine sc_loop (σ := Nat)
            (fun s => [(1, .slice a o.length c), (2, .slice ap p.length cp), (3, .pointer (some ⟨b3, 0, none⟩)), (10, .pointer (some ⟨b10, 0, none⟩)), (50, .slice a o.length c), (51, .int .i64 o.length), (13, .int .i64 i), (14, .int .i64 (getN o i)), (52, .int .i64 i), (57, .slice a o.length c), (58, .int .i64 o.length), (59, .int .i64 s)])
            (fun s => [.blk b10 (.cells (mV z m).toArray 75 (0, 0)), .blk b3 (.cells (mV z m).toArray 24 (0, 0)), .reg 0 w])
            (fun s => s ≤ o.length ∧ ∀ k, k < s → envyB m o p i k = false)
            (fun s => o.length - s)
            (0) ?_ SU SR ?_
          · exact ⟨Nat.zero_le _, fun k hk => absurd hk (Nat.not_lt_zero k)⟩
          rintro k ⟨hk, hnk⟩
          refine sc_seq ?_
          refine sc_region ?_
          refine qs (y_lss RF RF) ?_
          refine sq_nil ?_
          refine sx_then ?_
          refine sc_seq ?_
          refine scp (fun hc4 => ?_) (fun hc4 => ?_)
          ·
            have hk' : k < m.length := by omega
            obtain ⟨_, _, hs3, hcw⟩ := hz.cell hi' (show k < (m.getD i []).length by omega)
            have hsk := (hp.get 0 (show k < p.length by omega)).1
            have hck := (hp.get 0 (show k < p.length by omega)).2
            have hb3 := charge_get hch k
            have hb4 := hm.bd i k
            refine sc_skip ?_
            refine sx_then ?_
            refine sc_seq ?_
            refine sc_block ?_
            refine sc_seq ?_
            refine sc_region ?_
            refine qs (y_move RF) ?_
            refine qs (y_assign RF) ?_
            refine sq_nil ?_
            refine sx_then ?_
            refine sc_seq ?_
            refine sc_midE (Z := {v : Bool // v = envyB m o p i k}) (fun v => [(1, .slice a o.length c), (2, .slice ap p.length cp), (3, .pointer (some ⟨b3, 0, none⟩)), (10, .pointer (some ⟨b10, 0, none⟩)), (50, .slice a o.length c), (51, .int .i64 o.length), (13, .int .i64 i), (14, .int .i64 (getN o i)), (15, .int .i64 k), (52, .int .i64 i), (57, .slice a o.length c), (58, .int .i64 o.length), (59, .int .i64 k), (94, .bool v.1)]) (fun _ => [.blk b10 (.cells (mV z m).toArray 75 (0, 0)), .blk b3 (.cells (mV z m).toArray 24 (0, 0)), .reg 0 w]) ?_ ?_
            ·
              refine sc_drawR (by kernel_rfl) ?_
              refine xj_s 0 RF (by kernel_rfl) SR LD75 rfl ?_
              refine xj_s 1 RF (by kernel_rfl) SR (y_move RF) rfl ?_
              refine xj_s 2 RF (by kernel_rfl) SR (y_move RF) rfl ?_
              refine xj_one 3 RF (by kernel_rfl) ?_
              refine qy (yc Tryd.call49 E3 (fun w1 hw1 => wants49 w1 z m (hz.at hw1 MM) i k hi' (by omega))) ?_
              refine sq_nil ?_
              refine sx_xp SR ?_
              refine xj_s 4 RF (by kernel_rfl) SR (y_move RF) rfl ?_
              first | refine xj_splitd (tt := 66) RF (fun hg16_4 => ?_) (fun hg16_4 => ?_) | refine xj_splitn (tt := 66) RF (fun hg16_4 => ?_) (fun hg16_4 => ?_) | refine xj_split (tt := 66) RF (fun hg16_4 => ?_) (fun hg16_4 => ?_)
              ·
                refine xj_gt 5 RF RF RF (by kernel_rfl) SR FA24_22 rfl ?_
                refine xj_gt 6 RF RF RF (by kernel_rfl) SR LD22 rfl ?_
                refine xj_gt 7 RF RF RF (by kernel_rfl) SR (y_move RF) rfl ?_
                refine xj_gt 8 RF RF RF (by kernel_rfl) SR IA22 rfl ?_
                refine xj_gt 9 RF RF RF (by kernel_rfl) SR (by first | exact y_load_ca0 Tryd.underlying25 rfl RF MM hr1 rfl | exact LD25) rfl ?_
                refine xj_gt 10 RF RF RF (by kernel_rfl) SR (y_move RF) rfl ?_
                refine xj_gt 11 RF RF RF (by kernel_rfl) SR IA25 rfl ?_
                refine xj_gt 12 RF RF RF (by kernel_rfl) SR (by first | exact y_load_ca0 Tryd.underlying3 rfl RF MM hcw rfl | exact LD3) rfl ?_
                refine xj_gt 13 RF RF RF (by kernel_rfl) SR (y_move RF) rfl ?_
                refine xj_gt 14 RF RF RF (by kernel_rfl) SR (y_move RF) rfl ?_
                refine xj_gt 15 RF RF RF (by kernel_rfl) SR IA25 rfl ?_
                refine xj_gt 16 RF RF RF (by kernel_rfl) SR (by first | exact y_load_ca0 Tryd.underlying3 rfl RF MM hck rfl | exact LD3) rfl ?_
                refine xj_gt 17 RF RF RF (by kernel_rfl) SR (y_sub RF RF (by omega)) rfl ?_
                refine xj_gt 18 RF RF RF (by kernel_rfl) SR FA24_22 rfl ?_
                refine xj_gt 19 RF RF RF (by kernel_rfl) SR LD22 rfl ?_
                refine xj_gt 20 RF RF RF (by kernel_rfl) SR (y_move RF) rfl ?_
                refine xj_gt 21 RF RF RF (by kernel_rfl) SR IA22 rfl ?_
                refine xj_gt 22 RF RF RF (by kernel_rfl) SR (by first | exact y_load_ca0 Tryd.underlying25 rfl RF MM hr1 rfl | exact LD25) rfl ?_
                refine xj_gt 23 RF RF RF (by kernel_rfl) SR (y_move RF) rfl ?_
                refine xj_gt 24 RF RF RF (by kernel_rfl) SR IA25 rfl ?_
                refine xj_gt 25 RF RF RF (by kernel_rfl) SR (by first | exact y_load_ca0 Tryd.underlying3 rfl RF MM hown rfl | exact LD3) rfl ?_
                refine xj_gt 26 RF RF RF (by kernel_rfl) SR (y_move RF) rfl ?_
                refine xj_gt 27 RF RF RF (by kernel_rfl) SR (y_move RF) rfl ?_
                refine xj_gt 28 RF RF RF (by kernel_rfl) SR IA25 rfl ?_
                refine xj_gt 29 RF RF RF (by kernel_rfl) SR (by first | exact y_load_ca0 Tryd.underlying3 rfl RF MM hcp rfl | exact LD3) rfl ?_
                refine xj_gt 30 RF RF RF (by kernel_rfl) SR (y_sub RF RF (by omega)) rfl ?_
                refine xj_gt 31 RF RF RF (by kernel_rfl) SR (y_gtr RF RF) rfl ?_
                refine xj_s 32 RF (by kernel_rfl) SR (y_pick_t RF RF) rfl ?_
                refine xj_done (by kernel_rfl) ?_
                exact sx_midE (⟨_, by unfold envyB; rw [show wantsB m i k = true from hg16_4, Bool.true_and]⟩) SU SR
              ·
                refine xj_gf 5 RF RF RF rfl (by kernel_rfl) SR rfl ?_
                refine xj_gf 6 RF RF RF rfl (by kernel_rfl) SR rfl ?_
                refine xj_gf 7 RF RF RF rfl (by kernel_rfl) SR rfl ?_
                refine xj_gf 8 RF RF RF rfl (by kernel_rfl) SR rfl ?_
                refine xj_gf 9 RF RF RF rfl (by kernel_rfl) SR rfl ?_
                refine xj_gf 10 RF RF RF rfl (by kernel_rfl) SR rfl ?_
                refine xj_gf 11 RF RF RF rfl (by kernel_rfl) SR rfl ?_
                refine xj_gf 12 RF RF RF rfl (by kernel_rfl) SR rfl ?_
                refine xj_gf 13 RF RF RF rfl (by kernel_rfl) SR rfl ?_
                refine xj_gf 14 RF RF RF rfl (by kernel_rfl) SR rfl ?_
                refine xj_gf 15 RF RF RF rfl (by kernel_rfl) SR rfl ?_
                refine xj_gf 16 RF RF RF rfl (by kernel_rfl) SR rfl ?_
                refine xj_gf 17 RF RF RF rfl (by kernel_rfl) SR rfl ?_
                refine xj_gf 18 RF RF RF rfl (by kernel_rfl) SR rfl ?_
                refine xj_gf 19 RF RF RF rfl (by kernel_rfl) SR rfl ?_
                refine xj_gf 20 RF RF RF rfl (by kernel_rfl) SR rfl ?_
                refine xj_gf 21 RF RF RF rfl (by kernel_rfl) SR rfl ?_
                refine xj_gf 22 RF RF RF rfl (by kernel_rfl) SR rfl ?_
                refine xj_gf 23 RF RF RF rfl (by kernel_rfl) SR rfl ?_
                refine xj_gf 24 RF RF RF rfl (by kernel_rfl) SR rfl ?_
                refine xj_gf 25 RF RF RF rfl (by kernel_rfl) SR rfl ?_
                refine xj_gf 26 RF RF RF rfl (by kernel_rfl) SR rfl ?_
                refine xj_gf 27 RF RF RF rfl (by kernel_rfl) SR rfl ?_
                refine xj_gf 28 RF RF RF rfl (by kernel_rfl) SR rfl ?_
                refine xj_gf 29 RF RF RF rfl (by kernel_rfl) SR rfl ?_
                refine xj_gf 30 RF RF RF rfl (by kernel_rfl) SR rfl ?_
                refine xj_gf 31 RF RF RF rfl (by kernel_rfl) SR rfl ?_
                refine xj_s 32 RF (by kernel_rfl) SR (y_pick_f RF RF) rfl ?_
                refine xj_done (by kernel_rfl) ?_
                exact sx_midE (⟨false, by unfold envyB; rw [show wantsB m i k = false from hg16_4]; rfl⟩) SU SR
            rintro ⟨vb, hvb⟩
            try dsimp only
            refine sx_then ?_
            refine scp (fun hc5 => ?_) (fun hc5 => ?_)
            ·
              refine sc_seq ?_
              refine sc_region ?_
              refine qs (y_move RF) ?_
              refine qs (y_move RF) ?_
              refine qs (y_assign RF) ?_
              refine qs (y_assign RF) ?_
              refine qs (y_assign RF) ?_
              refine sq_nil ?_
              refine sx_then ?_
              refine sc_ret ?_
              refine sx_blk_ret ?_
              refine sx_then_ret ?_
              refine sx_round_ret ?_
              refine sx_blk_ret ?_
              refine sx_blk_ret ?_
              refine sx_then_ret ?_
              refine sx_round_ret ?_
              refine sx_blk_ret ?_
              refine sx_then_ret ?_
              refine sx_ret3 (.inl rfl) rfl Tryd.results20 RF RF RF ?_
              intro w' hw'
              refine ⟨?_, hw'.below MM⟩
              have hv2 : vb = true := hc5
              rw [hvb] at hv2
              have hes := env_some hi' hk' hv2 (fun j hj k hk => hno j hj k (by omega)) hnk
              unfold envR; rw [if_neg (show ¬ mkB m = false by simp [hb]), if_neg (show ¬ priceB m o p = false by simp [hpB]), if_neg (show ¬ 0 ≤ fairI m o by omega), hes]; rfl
            ·
              refine sc_skip ?_
              refine sx_blk ?_
              refine sx_then ?_
              refine sc_region ?_
              refine qs (y_add RF RF (by omega)) ?_
              refine qs (y_move RF) ?_
              refine sq_nil ?_
              refine sx_round (k + 1) ?_ ?_ SU SR
              · refine ⟨by omega, fun j hj => ?_⟩
                rcases Nat.lt_succ_iff_lt_or_eq.1 hj with h | rfl
                · exact hnk j h
                · have hv2 : vb = false := hc5
                  rw [hvb] at hv2; exact hv2
              · omega
          ·
            have hkn : k = o.length := by omega
            subst hkn
            refine sc_exit ?_
            refine sx_then_exit ?_
            refine sx_round_exit ?_
            refine sx_blk_hit ?_
            refine sx_blk ?_
            refine sx_then ?_
            refine sc_region ?_
            refine qs (y_add RF RF (by omega)) ?_
            refine qs (y_move RF) ?_
            refine sq_nil ?_
            refine sx_round (i + 1) ?_ ?_ SU SR
            · refine ⟨by omega, fun j hj => ?_⟩
              rcases Nat.lt_succ_iff_lt_or_eq.1 hj with h | rfl
              · exact hno j h
              · exact hnk
            · omega
        ·
          have hin : i = o.length := by omega
          subst hin
          refine sc_exit ?_
          refine sx_then_exit ?_
          refine sx_round_exit ?_
          refine sx_blk_hit ?_
          refine sx_then ?_
          refine sc_seq ?_
          refine sc_region ?_
          refine qs (y_assign RF) ?_
          refine qs (y_assign RF) ?_
          refine qs (y_assign RF) ?_
          refine sq_nil ?_
          refine sx_then ?_
          refine sc_ret ?_
          refine sx_ret3 (.inl rfl) rfl Tryd.results20 RF RF RF ?_
          intro w' hw'
          refine ⟨?_, hw'.below MM⟩
          have hes := env_none (m := m) (o := o) (p := p) (fun j hj k hk => hno j (by omega) k (by omega))
          unfold envR; rw [if_neg (show ¬ mkB m = false by simp [hb]), if_neg (show ¬ priceB m o p = false by simp [hpB]), if_neg (show ¬ 0 ≤ fairI m o by omega), hes]; rfl
theorem Envies21 (w : World) (z : MA) (m : Mt) (hz : MtA 0 w z m) (a : Option Addr) (c : Nat) (o : List Int) (ho : RowsA iRow 1 0 w a o) (_h1000 : o.length ≤ 1000) (ap : Option Addr) (cp : Nat) (p : List Int) (hp : RowsA iRow 1 0 w ap p) : Calls Tryd.prog 21 #[.agg (mV z m).toArray, .slice a o.length c, .slice ap p.length cp] w fun e w' => e = .returned (.tuple #[.int .i64 (envR m o p).1, .int .i64 (envR m o p).2.1, .int .i64 (envR m o p).2.2]) ∧ Below w.heap.size w w' := by
  have hlen := hz.len
  have hplen := hp.len
  refine calls_of_SC (args := [.agg (mV z m).toArray, .slice a o.length c, .slice ap p.length cp]) Tryd.func21 rfl Tryd.ntmps21 rfl ?_
  simp only [argL, Nat.reduceAdd, Nat.zero_add]
  refine sc_seq ?_
  refine sc_region ?_
  refine sq_box RF rfl (fun b3 => ?_)
  refine qs (y_assign RF) ?_
  refine qs (y_assign RF) ?_
  refine qs (y_assign RF) ?_
  refine sq_nil ?_
  refine sx_then ?_
  refine sc_seq ?_
  refine sc_seq ?_
  refine sc_region ?_
  refine qs LD24 ?_
  refine qy (yc Tryd.call30 E1 (fun w1 hw1 => market30 w1 z m (hz.at hw1 MM))) ?_
  refine qs (y_not RF) ?_
  refine sq_nil ?_
  refine sx_then ?_
  refine scp (fun hc0 => ?_) (fun hc0 => ?_)
  ·
    refine sc_seq ?_
    refine sc_region ?_
    refine qs (y_assign RF) ?_
    refine qs (y_assign RF) ?_
    refine qs (y_assign RF) ?_
    refine sq_nil ?_
    refine sx_then ?_
    refine sc_ret ?_
    refine sx_then_ret ?_
    refine sx_ret3 (.inl rfl) rfl Tryd.results21 RF RF RF ?_
    intro w' hw'
    refine ⟨?_, hw'.below MM⟩
    have hb : mkB m = false := by simpa using hc0
    unfold envR; rw [if_pos hb]
  ·
    refine sc_skip ?_
    refine sx_then ?_
    refine sc_seq ?_
    have hb : mkB m = true := by simpa using hc0
    have hm := mkF hb
    refine sc_region ?_
    refine qs FA24_22 ?_
    refine qs LD22 ?_
    refine qs (y_len Tryd.underlying22 RF) ?_
    refine qs (y_assign RF) ?_
    refine sq_nil ?_
    refine sx_then ?_
    refine sc_seq ?_
    refine sc_midE (Z := {v : Bool // v = (ordB o m.length && decide (p.length = o.length))}) (fun v => [(1, .slice a o.length c), (2, .slice ap p.length cp), (3, .pointer (some ⟨b3, 0, none⟩)), (9, .int .i64 m.length), (10, .bool v.1)]) (fun _ => [.blk b3 (.cells (mV z m).toArray 24 (0, 0)), .reg 0 w]) ?_ ?_
    ·
      refine sc_region ?_
      refine qs (y_move RF) ?_
      refine qs (y_move RF) ?_
      refine qy (yc Tryd.call31 E2 (fun w1 hw1 => exchange31 w1 a c o (ho.at hw1 MM) m.length (by have := hm.n7; omega))) ?_
      refine qs (y_move RF) ?_
      refine sp 25 (fun hg4_3 => ?_) (fun hg4_3 => ?_)
      ·
        refine qg (y_move RF) ?_
        refine qg (y_len Tryd.underlying25 RF) ?_
        refine qg (y_move RF) ?_
        refine qg (y_eql RF RF) ?_
        refine qs (y_pick_t RF RF) ?_
        refine qs (y_assign RF) ?_
        refine sq_nil ?_
        exact sx_midE (⟨decide ((p.length : Int) = (m.length : Int)), by rw [show ordB o m.length = true from by simpa using hg4_3, Bool.true_and]; exact decide_eq_decide.2 ⟨fun h => by have := ord_len (show ordB o m.length = true from by simpa using hg4_3); omega, fun h => by have := ord_len (show ordB o m.length = true from by simpa using hg4_3); omega⟩⟩) SU SR
      ·
        refine qf ?_
        refine qf ?_
        refine qf ?_
        refine qf ?_
        refine qs (y_pick_f RF RF) ?_
        refine qs (y_assign RF) ?_
        refine sq_nil ?_
        exact sx_midE (⟨false, by rw [show ordB o m.length = false from by simpa using hg4_3]; rfl⟩) SU SR
    rintro ⟨vb, hvb⟩
    try dsimp only
    refine sx_then ?_
    refine sc_seq ?_
    refine sc_seq ?_
    have hme : vb = (ordB o m.length && decide (p.length = o.length)) := hvb
    refine sc_region ?_
    refine qs (y_assign RF) ?_
    refine sq_nil ?_
    refine sx_then ?_
    refine sc_block ?_
    refine sc_loop (σ := Nat)
      (fun s => [(1, .slice a o.length c), (2, .slice ap p.length cp), (3, .pointer (some ⟨b3, 0, none⟩)), (9, .int .i64 m.length), (10, .bool ((ordB o m.length && decide (p.length = o.length)) && (p.take s).all fun x => inB x 0 100000)), (11, .int .i64 s)])
      (fun s => [.blk b3 (.cells (mV z m).toArray 24 (0, 0)), .reg 0 w])
      (fun s => s ≤ p.length)
      (fun s => p.length - s)
      (0) ?_ (by refine SubL.cons rfl (SubL.cons rfl (SubL.cons rfl (SubL.cons rfl (SubL.cons (lk_bool rfl (by rw [hvb]; simp)) (SubL.cons rfl SubL.nil)))))) SR ?_
    · exact Nat.zero_le _
    rintro k hk
    refine sc_seq ?_
    refine sc_seq ?_
    refine sc_region ?_
    refine qs (y_move RF) ?_
    refine qs (y_move RF) ?_
    refine qs (y_len Tryd.underlying25 RF) ?_
    refine qs (y_lss RF RF) ?_
    refine sq_nil ?_
    refine sx_then ?_
    refine scp (fun hc1 => ?_) (fun hc1 => ?_)
    ·
      have hk' : k < p.length := by omega
      have hsj := (hp.get 0 hk').1
      have hcj := (hp.get 0 hk').2
      refine sc_skip ?_
      refine sx_then ?_
      refine sc_seq ?_
      refine sc_block ?_
      refine sc_midE (Z := {v : Bool // v = ((ordB o m.length && decide (p.length = o.length)) && (p.take (k + 1)).all fun x => inB x 0 100000)}) (fun v => [(1, .slice a o.length c), (2, .slice ap p.length cp), (3, .pointer (some ⟨b3, 0, none⟩)), (9, .int .i64 m.length), (10, .bool v.1), (11, .int .i64 k)]) (fun _ => [.blk b3 (.cells (mV z m).toArray 24 (0, 0)), .reg 0 w]) ?_ ?_
      ·
        refine sc_region ?_
        refine qs (y_move RF) ?_
        refine qs (y_move RF) ?_
        refine sp 38 (fun hg8_1 => ?_) (fun hg8_1 => ?_)
        ·
          refine qg (y_move RF) ?_
          refine qg (y_move RF) ?_
          refine qg IA25 ?_
          refine qg (by first | exact y_load_ca0 Tryd.underlying3 rfl RF MM hcj rfl | exact LD3) ?_
          refine sq_gt RF RF (y_call (first := []) (caps := []) RF Tryd.call50 (EvL.cons RF (EvL.cons RF (EvL.cons RF EvL.nil))) (fun w1 _ => in50 _ _ _ w1)) rfl ?_
          refine qs (y_pick_t RF RF) ?_
          refine qs (y_assign RF) ?_
          refine sq_nil ?_
          exact sx_midE (⟨_, by rw [all_take hk', ← Bool.and_assoc, show ((ordB o m.length && decide (p.length = o.length)) && (p.take k).all fun x => inB x 0 100000) = true from hg8_1, Bool.true_and]⟩) SU SR
        ·
          refine qf ?_
          refine qf ?_
          refine qf ?_
          refine qf ?_
          refine qf ?_
          refine qs (y_pick_f RF RF) ?_
          refine qs (y_assign RF) ?_
          refine sq_nil ?_
          exact sx_midE (⟨false, by rw [all_take hk', ← Bool.and_assoc, show ((ordB o m.length && decide (p.length = o.length)) && (p.take k).all fun x => inB x 0 100000) = false from hg8_1]; rfl⟩) SU SR
      rintro ⟨vk, hvk⟩
      try dsimp only
      refine sx_blk ?_
      refine sx_then ?_
      refine sc_region ?_
      refine qs (y_move RF) ?_
      refine qs (y_add RF RF (by omega)) ?_
      refine qs (y_assign RF) ?_
      refine sq_nil ?_
      refine sx_round (k + 1) ?_ ?_ (by refine SubL.cons rfl (SubL.cons rfl (SubL.cons rfl (SubL.cons rfl (SubL.cons (lk_bool rfl hvk) (SubL.cons (lk_int rfl (by omega)) SubL.nil)))))) SR
      · omega
      · omega
    ·
      have hkp : k = p.length := by omega
      subst hkp
      rw [List.take_length]
      refine sc_exit ?_
      refine sx_then_exit ?_
      refine sx_round_exit ?_
      refine sx_blk_hit ?_
      refine sx_then ?_
      refine sc_seq ?_
      refine sc_seq ?_
      refine sc_region ?_
      refine qs (y_move RF) ?_
      refine qs (y_not RF) ?_
      refine sq_nil ?_
      refine sx_then ?_
      refine scp (fun hc2 => ?_) (fun hc2 => ?_)
      ·
        refine sc_seq ?_
        refine sc_region ?_
        refine qs (y_assign RF) ?_
        refine qs (y_assign RF) ?_
        refine qs (y_assign RF) ?_
        refine sq_nil ?_
        refine sx_then ?_
        refine sc_ret ?_
        refine sx_then_ret ?_
        refine sx_ret3 (.inl rfl) rfl Tryd.results21 RF RF RF ?_
        intro w' hw'
        refine ⟨?_, hw'.below MM⟩
        have hpB : priceB m o p = false := by
          unfold priceB chargeB; exact (Bool.not_eq_true' _).mp hc2
        unfold envR; rw [if_neg (show ¬ mkB m = false by simp [hb]), if_pos hpB]
      ·
        refine sc_skip ?_
        refine sx_then ?_
        refine sc_seq ?_
        have hpB : priceB m o p = true := by
          unfold priceB chargeB; simpa using hc2
        obtain ⟨hv, hpl, hch⟩ := price_parts hpB
        have hol := ord_len hv
        refine sc_region ?_
        refine qs LD24 ?_
        refine qs (y_move RF) ?_
        refine qy (yc Tryd.call32 E2 (fun w1 hw1 => fair32 w1 z m (hz.at hw1 MM) hm a c o (ho.at hw1 MM) hv)) ?_
        refine qs (y_assign RF) ?_
        refine sq_nil ?_
        refine sx_then ?_
        refine sc_seq ?_
        refine sc_seq ?_
        refine sc_region ?_
        refine qs (y_move RF) ?_
        refine qs (y_geq RF RF) ?_
        refine sq_nil ?_
        refine sx_then ?_
        refine scp (fun hc3 => ?_) (fun hc3 => ?_)
        ·
          refine sc_seq ?_
          refine sc_region ?_
          refine qs (y_move RF) ?_
          refine qs (y_assign RF) ?_
          refine qs (y_assign RF) ?_
          refine qs (y_assign RF) ?_
          refine sq_nil ?_
          refine sx_then ?_
          refine sc_ret ?_
          refine sx_then_ret ?_
          refine sx_ret3 (.inl rfl) rfl Tryd.results21 RF RF RF ?_
          intro w' hw'
          refine ⟨?_, hw'.below MM⟩
          unfold envR; rw [if_neg (show ¬ mkB m = false by simp [hb]), if_neg (show ¬ priceB m o p = false by simp [hpB]), if_pos (show 0 ≤ fairI m o by omega)]
          try rfl
        ·
          refine sc_skip ?_
          refine sx_then ?_
          refine sc_seq ?_
          refine sc_seq ?_
          refine sc_region ?_
          refine qs (y_assign RF) ?_
          refine sq_nil ?_
          refine sx_then ?_
          refine sc_block ?_
          refine sc_loop (σ := Nat)
            (fun s => [(1, .slice a o.length c), (2, .slice ap p.length cp), (3, .pointer (some ⟨b3, 0, none⟩)), (9, .int .i64 m.length), (13, .int .i64 s)])
            (fun s => [.blk b3 (.cells (mV z m).toArray 24 (0, 0)), .reg 0 w])
            (fun s => s ≤ m.length ∧ ∀ i, i < s → ∀ k, k < m.length → envyB m o p i k = false)
            (fun s => m.length - s)
            (0) ?_ SU SR ?_
          · exact ⟨Nat.zero_le _, fun i hi => absurd hi (Nat.not_lt_zero i)⟩
          rintro i ⟨hi, hno⟩
          refine sc_seq ?_
          refine sc_seq ?_
          refine sc_region ?_
          refine qs (y_move RF) ?_
          refine qs (y_move RF) ?_
          refine qs (y_lss RF RF) ?_
          refine sq_nil ?_
          refine sx_then ?_
          refine scp (fun hc4 => ?_) (fun hc4 => ?_)
          ·
            have hi' : i < m.length := by omega
            obtain ⟨hge, hgl⟩ := ord_get hv hi'
            have hrow := hm.row i hi'
            obtain ⟨hs1, hr1, hs2, hown⟩ := hz.cell hi' (show getN o i < (m.getD i []).length by omega)
            have hso := (ho.get 0 (show i < o.length by omega)).1
            have hco := (ho.get 0 (show i < o.length by omega)).2
            rw [hge] at hco
            have hsp := (hp.get 0 (show getN o i < p.length by omega)).1
            have hcp := (hp.get 0 (show getN o i < p.length by omega)).2
            have hb1 := charge_get hch (getN o i)
            have hb2 := hm.bd i (getN o i)
            refine sc_skip ?_
            refine sx_then ?_
            refine sc_seq ?_
            refine sc_block ?_
            refine sc_seq ?_
            refine sc_drawR (by kernel_rfl) ?_
            refine xj_s 0 RF (by kernel_rfl) SR FA24_22 rfl ?_
            refine xj_s 1 RF (by kernel_rfl) SR LD22 rfl ?_
            refine xj_s 2 RF (by kernel_rfl) SR (y_move RF) rfl ?_
            refine xj_s 3 RF (by kernel_rfl) SR IA22 rfl ?_
            refine xj_s 4 RF (by kernel_rfl) SR (by first | exact y_load_ca0 Tryd.underlying25 rfl RF MM hr1 rfl | exact LD25) rfl ?_
            refine xj_s 5 RF (by kernel_rfl) SR (y_move RF) rfl ?_
            refine xj_s 6 RF (by kernel_rfl) SR (y_move RF) rfl ?_
            refine xj_s 7 RF (by kernel_rfl) SR IA25 rfl ?_
            refine xj_s 8 RF (by kernel_rfl) SR (by first | exact y_load_ca0 Tryd.underlying3 rfl RF MM hco rfl | exact LD3) rfl ?_
            refine xj_s 9 RF (by kernel_rfl) SR IA25 rfl ?_
            refine xj_s 10 RF (by kernel_rfl) SR (by first | exact y_load_ca0 Tryd.underlying3 rfl RF MM hown rfl | exact LD3) rfl ?_
            refine xj_s 11 RF (by kernel_rfl) SR (y_move RF) rfl ?_
            refine xj_s 12 RF (by kernel_rfl) SR (y_move RF) rfl ?_
            refine xj_s 13 RF (by kernel_rfl) SR (y_move RF) rfl ?_
            refine xj_s 14 RF (by kernel_rfl) SR IA25 rfl ?_
            refine xj_s 15 RF (by kernel_rfl) SR (by first | exact y_load_ca0 Tryd.underlying3 rfl RF MM hco rfl | exact LD3) rfl ?_
            refine xj_s 16 RF (by kernel_rfl) SR IA25 rfl ?_
            refine xj_s 17 RF (by kernel_rfl) SR (by first | exact y_load_ca0 Tryd.underlying3 rfl RF MM hcp rfl | exact LD3) rfl ?_
            refine xj_s 18 RF (by kernel_rfl) SR (y_sub RF RF (by omega)) rfl ?_
            refine xj_s 19 RF (by kernel_rfl) SR (y_assign RF) rfl ?_
            refine xj_done (by kernel_rfl) ?_
            refine sx_then ?_
            refine sc_seq ?_
            refine sc_region ?_
            refine qs (y_assign RF) ?_
            refine sq_nil ?_
            refine sx_then ?_
            refine sc_block ?_
            refine sc_loop (σ := Nat)
              (fun s => [(1, .slice a o.length c), (2, .slice ap p.length cp), (3, .pointer (some ⟨b3, 0, none⟩)), (9, .int .i64 m.length), (13, .int .i64 i), (14, .int .i64 (wv m i (getN o i) - p.getD (getN o i) 0)), (15, .int .i64 s)])
              (fun s => [.blk b3 (.cells (mV z m).toArray 24 (0, 0)), .reg 0 w])
              (fun s => s ≤ m.length ∧ ∀ k, k < s → envyB m o p i k = false)
              (fun s => m.length - s)
              (0) ?_ SU SR ?_
            · exact ⟨Nat.zero_le _, fun k hk => absurd hk (Nat.not_lt_zero k)⟩
            rintro k ⟨hk, hnk⟩
            refine sc_seq ?_
            refine sc_seq ?_
            refine sc_region ?_
            refine qs (y_move RF) ?_
            refine qs (y_move RF) ?_
            refine qs (y_lss RF RF) ?_
            refine sq_nil ?_
            refine sx_then ?_
            refine scp (fun hc5 => ?_) (fun hc5 => ?_)
            ·
              have hk' : k < m.length := by omega
              obtain ⟨_, _, hs3, hcw⟩ := hz.cell hi' (show k < (m.getD i []).length by omega)
              have hsk := (hp.get 0 (show k < p.length by omega)).1
              have hck := (hp.get 0 (show k < p.length by omega)).2
              have hb3 := charge_get hch k
              have hb4 := hm.bd i k
              refine sc_skip ?_
              refine sx_then ?_
              refine sc_seq ?_
              refine sc_block ?_
              refine sc_seq ?_
              refine sc_midE (Z := {v : Bool // v = envyB m o p i k}) (fun v => [(1, .slice a o.length c), (2, .slice ap p.length cp), (3, .pointer (some ⟨b3, 0, none⟩)), (9, .int .i64 m.length), (13, .int .i64 i), (14, .int .i64 (wv m i (getN o i) - p.getD (getN o i) 0)), (15, .int .i64 k), (102, .bool v.1)]) (fun _ => [.blk b3 (.cells (mV z m).toArray 24 (0, 0)), .reg 0 w]) ?_ ?_
              ·
                refine sc_drawR (by kernel_rfl) ?_
                refine xj_s 0 RF (by kernel_rfl) SR LD24 rfl ?_
                refine xj_s 1 RF (by kernel_rfl) SR (y_move RF) rfl ?_
                refine xj_s 2 RF (by kernel_rfl) SR (y_move RF) rfl ?_
                refine xj_one 3 RF (by kernel_rfl) ?_
                refine qy (yc Tryd.call51 E3 (fun w1 hw1 => wants51 w1 z m (hz.at hw1 MM) i k hi' (by omega))) ?_
                refine sq_nil ?_
                refine sx_xp SR ?_
                refine xj_s 4 RF (by kernel_rfl) SR (y_move RF) rfl ?_
                first | refine xj_splitd (tt := 86) RF (fun hg21_4 => ?_) (fun hg21_4 => ?_) | refine xj_splitn (tt := 86) RF (fun hg21_4 => ?_) (fun hg21_4 => ?_) | refine xj_split (tt := 86) RF (fun hg21_4 => ?_) (fun hg21_4 => ?_)
                ·
                  refine xj_gt 5 RF RF RF (by kernel_rfl) SR FA24_22 rfl ?_
                  refine xj_gt 6 RF RF RF (by kernel_rfl) SR LD22 rfl ?_
                  refine xj_gt 7 RF RF RF (by kernel_rfl) SR (y_move RF) rfl ?_
                  refine xj_gt 8 RF RF RF (by kernel_rfl) SR IA22 rfl ?_
                  refine xj_gt 9 RF RF RF (by kernel_rfl) SR (by first | exact y_load_ca0 Tryd.underlying25 rfl RF MM hr1 rfl | exact LD25) rfl ?_
                  refine xj_gt 10 RF RF RF (by kernel_rfl) SR (y_move RF) rfl ?_
                  refine xj_gt 11 RF RF RF (by kernel_rfl) SR IA25 rfl ?_
                  refine xj_gt 12 RF RF RF (by kernel_rfl) SR (by first | exact y_load_ca0 Tryd.underlying3 rfl RF MM hcw rfl | exact LD3) rfl ?_
                  refine xj_gt 13 RF RF RF (by kernel_rfl) SR (y_move RF) rfl ?_
                  refine xj_gt 14 RF RF RF (by kernel_rfl) SR (y_move RF) rfl ?_
                  refine xj_gt 15 RF RF RF (by kernel_rfl) SR IA25 rfl ?_
                  refine xj_gt 16 RF RF RF (by kernel_rfl) SR (by first | exact y_load_ca0 Tryd.underlying3 rfl RF MM hck rfl | exact LD3) rfl ?_
                  refine xj_gt 17 RF RF RF (by kernel_rfl) SR (y_sub RF RF (by omega)) rfl ?_
                  refine xj_gt 18 RF RF RF (by kernel_rfl) SR (y_move RF) rfl ?_
                  refine xj_gt 19 RF RF RF (by kernel_rfl) SR (y_gtr RF RF) rfl ?_
                  refine xj_s 20 RF (by kernel_rfl) SR (y_pick_t RF RF) rfl ?_
                  refine xj_done (by kernel_rfl) ?_
                  exact sx_midE (⟨_, by unfold envyB; rw [show wantsB m i k = true from hg21_4, Bool.true_and]⟩) SU SR
                ·
                  refine xj_gf 5 RF RF RF rfl (by kernel_rfl) SR rfl ?_
                  refine xj_gf 6 RF RF RF rfl (by kernel_rfl) SR rfl ?_
                  refine xj_gf 7 RF RF RF rfl (by kernel_rfl) SR rfl ?_
                  refine xj_gf 8 RF RF RF rfl (by kernel_rfl) SR rfl ?_
                  refine xj_gf 9 RF RF RF rfl (by kernel_rfl) SR rfl ?_
                  refine xj_gf 10 RF RF RF rfl (by kernel_rfl) SR rfl ?_
                  refine xj_gf 11 RF RF RF rfl (by kernel_rfl) SR rfl ?_
                  refine xj_gf 12 RF RF RF rfl (by kernel_rfl) SR rfl ?_
                  refine xj_gf 13 RF RF RF rfl (by kernel_rfl) SR rfl ?_
                  refine xj_gf 14 RF RF RF rfl (by kernel_rfl) SR rfl ?_
                  refine xj_gf 15 RF RF RF rfl (by kernel_rfl) SR rfl ?_
                  refine xj_gf 16 RF RF RF rfl (by kernel_rfl) SR rfl ?_
                  refine xj_gf 17 RF RF RF rfl (by kernel_rfl) SR rfl ?_
                  refine xj_gf 18 RF RF RF rfl (by kernel_rfl) SR rfl ?_
                  refine xj_gf 19 RF RF RF rfl (by kernel_rfl) SR rfl ?_
                  refine xj_s 20 RF (by kernel_rfl) SR (y_pick_f RF RF) rfl ?_
                  refine xj_done (by kernel_rfl) ?_
                  exact sx_midE (⟨false, by unfold envyB; rw [show wantsB m i k = false from hg21_4]; rfl⟩) SU SR
              rintro ⟨vb3, hvb3⟩
              try dsimp only
              refine sx_then ?_
              refine scp (fun hc6 => ?_) (fun hc6 => ?_)
              ·
                refine sc_seq ?_
                refine sc_region ?_
                refine qs (y_move RF) ?_
                refine qs (y_move RF) ?_
                refine qs (y_assign RF) ?_
                refine qs (y_assign RF) ?_
                refine qs (y_assign RF) ?_
                refine sq_nil ?_
                refine sx_then ?_
                refine sc_ret ?_
                refine sx_blk_ret ?_
                refine sx_then_ret ?_
                refine sx_round_ret ?_
                refine sx_blk_ret ?_
                refine sx_blk_ret ?_
                refine sx_then_ret ?_
                refine sx_round_ret ?_
                refine sx_blk_ret ?_
                refine sx_then_ret ?_
                refine sx_ret3 (.inl rfl) rfl Tryd.results21 RF RF RF ?_
                intro w' hw'
                refine ⟨?_, hw'.below MM⟩
                have hv2 : vb3 = true := hc6
                rw [hvb3] at hv2
                have hes := env_some hi' hk' hv2 hno hnk
                unfold envR; rw [if_neg (show ¬ mkB m = false by simp [hb]), if_neg (show ¬ priceB m o p = false by simp [hpB]), if_neg (show ¬ 0 ≤ fairI m o by omega), hes]; rfl
              ·
                refine sc_skip ?_
                refine sx_blk ?_
                refine sx_then ?_
                refine sc_region ?_
                refine qs (y_move RF) ?_
                refine qs (y_add RF RF (by omega)) ?_
                refine qs (y_assign RF) ?_
                refine sq_nil ?_
                refine sx_round (k + 1) ?_ ?_ SU SR
                · refine ⟨by omega, fun j hj => ?_⟩
                  rcases Nat.lt_succ_iff_lt_or_eq.1 hj with h | rfl
                  · exact hnk j h
                  · have hv2 : vb3 = false := hc6
                    rw [hvb3] at hv2; exact hv2
                · omega
            ·
              have hkn : k = m.length := by omega
              subst hkn
              refine sc_exit ?_
              refine sx_then_exit ?_
              refine sx_round_exit ?_
              refine sx_blk_hit ?_
              refine sx_blk ?_
              refine sx_then ?_
              refine sc_region ?_
              refine qs (y_move RF) ?_
              refine qs (y_add RF RF (by omega)) ?_
              refine qs (y_assign RF) ?_
              refine sq_nil ?_
              refine sx_round (i + 1) ?_ ?_ SU SR
              · refine ⟨by omega, fun j hj => ?_⟩
                rcases Nat.lt_succ_iff_lt_or_eq.1 hj with h | rfl
                · exact hno j h
                · exact hnk
              · omega
          ·
            have hin : i = m.length := by omega
            subst hin
            refine sc_exit ?_
            refine sx_then_exit ?_
            refine sx_round_exit ?_
            refine sx_blk_hit ?_
            refine sx_then ?_
            refine sc_seq ?_
            refine sc_region ?_
            refine qs (y_assign RF) ?_
            refine qs (y_assign RF) ?_
            refine qs (y_assign RF) ?_
            refine sq_nil ?_
            refine sx_then ?_
            refine sc_ret ?_
            refine sx_ret3 (.inl rfl) rfl Tryd.results21 RF RF RF ?_
            intro w' hw'
            refine ⟨?_, hw'.below MM⟩
            have hes := env_none (m := m) (o := o) (p := p) hno
            unfold envR; rw [if_neg (show ¬ mkB m = false by simp [hb]), if_neg (show ¬ priceB m o p = false by simp [hpB]), if_neg (show ¬ 0 ≤ fairI m o by omega), hes]; rfl
theorem ints27 (w : World) (a b : Option Addr) (ca cb : Nat) (l1 l2 : List Int) (h1 : RowsA iRow 1 0 w a l1) (h2 : RowsA iRow 1 0 w b l2) : Calls Tryd.prog 27 #[.slice a l1.length ca, .slice b l2.length cb] w fun e w' => e = .returned (.bool (decide (l1 = l2))) ∧ Below w.heap.size w w' := by
  have hn1 := h1.len
  have hn2 := h2.len
  refine calls_of_SC (args := [.slice a l1.length ca, .slice b l2.length cb]) Tryd.func27 rfl Tryd.ntmps27 rfl ?_
  simp only [argL, Nat.zero_add]
  refine sc_seq ?_
  refine sc_region ?_
  refine qs (y_assign RF) ?_
  refine sq_nil ?_
  refine sx_then ?_
  refine sc_seq ?_
  refine sc_seq ?_
  refine sc_region ?_
  refine qs (y_move RF) ?_
  refine qs (y_len Tryd.underlying25 RF) ?_
  refine qs (y_move RF) ?_
  refine qs (y_len Tryd.underlying25 RF) ?_
  refine qs (y_neq RF RF) ?_
  refine sq_nil ?_
  refine sx_then ?_
  refine scp (fun hc0 => ?_) (fun hc0 => ?_)
  ·
    refine sc_seq ?_
    refine sc_region ?_
    refine qs (y_assign RF) ?_
    refine sq_nil ?_
    refine sx_then ?_
    refine sc_ret ?_
    refine sx_then_ret ?_
    refine sx_ret1 (.inl rfl) rfl Tryd.results27 RF ?_
    intro w' hw'
    refine ⟨?_, hw'.below MM⟩
    congr 2; symm; rw [decide_eq_false_iff_not]; intro h; rw [h] at hc0; exact hc0 rfl
  ·
    refine sc_skip ?_
    refine sx_then ?_
    refine sc_seq ?_
    refine sc_seq ?_
    have hll : l1.length = l2.length := by omega
    refine sc_region ?_
    refine qs (y_assign RF) ?_
    refine sq_nil ?_
    refine sx_then ?_
    refine sc_block ?_
    refine sc_loop (σ := Nat)
      (fun s => [(0, .slice a l1.length ca), (1, .slice b l2.length cb), (5, .int .i64 s)])
      (fun s => [.reg 0 w])
      (fun s => s ≤ l1.length ∧ ∀ j, j < s → l1[j]? = l2[j]?)
      (fun s => l1.length - s)
      (0) ?_ SU SE ?_
    · exact ⟨Nat.zero_le _, fun j hj => absurd hj (Nat.not_lt_zero j)⟩
    rintro k ⟨hk, hsame⟩
    refine sc_seq ?_
    refine sc_seq ?_
    refine sc_region ?_
    refine qs (y_move RF) ?_
    refine qs (y_move RF) ?_
    refine qs (y_len Tryd.underlying25 RF) ?_
    refine qs (y_lss RF RF) ?_
    refine sq_nil ?_
    refine sx_then ?_
    refine scp (fun hc1 => ?_) (fun hc1 => ?_)
    ·
      have hk' : k < l1.length := by omega
      obtain ⟨x, hx⟩ : ∃ x, l1[k]? = some x := ⟨_, List.getElem?_eq_getElem hk'⟩
      obtain ⟨y, hy⟩ : ∃ y, l2[k]? = some y := ⟨_, List.getElem?_eq_getElem (by omega)⟩
      have hs1 := (h1.el k x hx).1
      have hc1 := (h1.el k x hx).2
      have hs2 := (h2.el k y hy).1
      have hc22 := (h2.el k y hy).2
      refine sc_skip ?_
      refine sx_then ?_
      refine sc_seq ?_
      refine sc_block ?_
      refine sc_seq ?_
      refine sc_draw rfl (by kernel_rfl) (by kernel_rfl) ?_
      refine qq_y (OpY.s (y_move RF)) rfl ?_
      refine qq_y (OpY.s (y_move RF)) rfl ?_
      refine qq_y (OpY.s IA25) rfl ?_
      refine qq_y (OpY.s (by first | exact y_load_ca0 Tryd.underlying3 rfl RF MM hc1 rfl | exact LD3)) rfl ?_
      refine qq_y (OpY.s (y_move RF)) rfl ?_
      refine qq_y (OpY.s (y_move RF)) rfl ?_
      refine qq_y (OpY.s IA25) rfl ?_
      refine qq_y (OpY.s (by first | exact y_load_ca0 Tryd.underlying3 rfl RF MM hc22 rfl | exact LD3)) rfl ?_
      refine qq_y (OpY.s (y_neq RF RF)) rfl ?_
      refine qq_nil ?_
      refine sx_then ?_
      refine scp (fun hc2 => ?_) (fun hc2 => ?_)
      ·
        refine sc_seq ?_
        refine sc_region ?_
        refine qs (y_assign RF) ?_
        refine sq_nil ?_
        refine sx_then ?_
        refine sc_ret ?_
        refine sx_blk_ret ?_
        refine sx_then_ret ?_
        refine sx_round_ret ?_
        refine sx_blk_ret ?_
        refine sx_then_ret ?_
        refine sx_ret1 (.inl rfl) rfl Tryd.results27 RF ?_
        intro w' hw'
        refine ⟨?_, hw'.below MM⟩
        congr 2; symm; rw [decide_eq_false_iff_not]; intro h; rw [h, hy] at hx; cases hx; simp at hc2
      ·
        refine sc_skip ?_
        refine sx_blk ?_
        refine sx_then ?_
        refine sc_region ?_
        refine qs (y_move RF) ?_
        refine qs (y_add RF RF (by omega)) ?_
        refine qs (y_assign RF) ?_
        refine sq_nil ?_
        refine sx_round (k + 1) ?_ ?_ SU SE
        · refine ⟨by omega, fun j hj => ?_⟩
          rcases Nat.lt_succ_iff_lt_or_eq.1 hj with h | rfl
          · exact hsame j h
          · rw [hx, hy]; exact congrArg some (by simpa using hc2)
        · omega
    ·
      refine sc_exit ?_
      refine sx_then_exit ?_
      refine sx_round_exit ?_
      refine sx_blk_hit ?_
      refine sx_then ?_
      refine sc_seq ?_
      refine sc_region ?_
      refine qs (y_assign RF) ?_
      refine sq_nil ?_
      refine sx_then ?_
      refine sc_ret ?_
      refine sx_ret1 (.inl rfl) rfl Tryd.results27 RF ?_
      intro w' hw'
      refine ⟨?_, hw'.below MM⟩
      congr 2; symm; rw [decide_eq_true_eq]
      exact List.ext_getElem? fun j => by
        rcases Nat.lt_or_ge j k with h | h
        · exact hsame j h
        · rw [List.getElem?_eq_none (by omega), List.getElem?_eq_none (by omega)]
theorem lists22 (w : World) (a b : Option Addr) (ca cb : Nat) (f1 f2 : Nat → Option Addr) (cf1 cf2 : Nat → Nat) (l1 l2 : List (List Int)) (h1 : LsA 0 w a f1 cf1 l1) (h2 : LsA 0 w b f2 cf2 l2) : Calls Tryd.prog 22 #[.slice a l1.length ca, .slice b l2.length cb] w fun e w' => e = .returned (.bool (decide (l1 = l2))) ∧ Below w.heap.size w w' := by
  have hn1 := h1.len
  have hn2 := h2.len
  refine calls_of_SC (args := [.slice a l1.length ca, .slice b l2.length cb]) Tryd.func22 rfl Tryd.ntmps22 rfl ?_
  simp only [argL, Nat.zero_add]
  refine sc_seq ?_
  refine sc_region ?_
  refine qs (y_assign RF) ?_
  refine sq_nil ?_
  refine sx_then ?_
  refine sc_seq ?_
  refine sc_seq ?_
  refine sc_region ?_
  refine qs (y_move RF) ?_
  refine qs (y_len Tryd.underlying22 RF) ?_
  refine qs (y_move RF) ?_
  refine qs (y_len Tryd.underlying22 RF) ?_
  refine qs (y_neq RF RF) ?_
  refine sq_nil ?_
  refine sx_then ?_
  refine scp (fun hc0 => ?_) (fun hc0 => ?_)
  ·
    refine sc_seq ?_
    refine sc_region ?_
    refine qs (y_assign RF) ?_
    refine sq_nil ?_
    refine sx_then ?_
    refine sc_ret ?_
    refine sx_then_ret ?_
    refine sx_ret1 (.inl rfl) rfl Tryd.results22 RF ?_
    intro w' hw'
    refine ⟨?_, hw'.below MM⟩
    congr 2; symm; rw [decide_eq_false_iff_not]; intro h; rw [h] at hc0; exact hc0 rfl
  ·
    refine sc_skip ?_
    refine sx_then ?_
    refine sc_seq ?_
    refine sc_seq ?_
    have hll : l1.length = l2.length := by omega
    refine sc_region ?_
    refine qs (y_assign RF) ?_
    refine sq_nil ?_
    refine sx_then ?_
    refine sc_block ?_
    refine sc_loop (σ := Nat)
      (fun s => [(0, .slice a l1.length ca), (1, .slice b l2.length cb), (5, .int .i64 s)])
      (fun s => [.reg 0 w])
      (fun s => s ≤ l1.length ∧ ∀ j, j < s → l1[j]? = l2[j]?)
      (fun s => l1.length - s)
      (0) ?_ SU SR ?_
    · exact ⟨Nat.zero_le _, fun j hj => absurd hj (Nat.not_lt_zero j)⟩
    rintro k ⟨hk, hsame⟩
    refine sc_seq ?_
    refine sc_seq ?_
    refine sc_region ?_
    refine qs (y_move RF) ?_
    refine qs (y_move RF) ?_
    refine qs (y_len Tryd.underlying22 RF) ?_
    refine qs (y_lss RF RF) ?_
    refine sq_nil ?_
    refine sx_then ?_
    refine scp (fun hc1 => ?_) (fun hc1 => ?_)
    ·
      have hk' : k < l1.length := by omega
      obtain ⟨x, hx⟩ : ∃ x, l1[k]? = some x := ⟨_, List.getElem?_eq_getElem hk'⟩
      obtain ⟨y, hy⟩ : ∃ y, l2[k]? = some y := ⟨_, List.getElem?_eq_getElem (by omega)⟩
      obtain ⟨hs1, hc1, hr1⟩ := h1.el k x hx
      obtain ⟨hs2, hc22, hr2⟩ := h2.el k y hy
      refine sc_skip ?_
      refine sx_then ?_
      refine sc_seq ?_
      refine sc_block ?_
      refine sc_seq ?_
      refine sc_drawR (by kernel_rfl) ?_
      refine xj_s 0 RF (by kernel_rfl) SR (y_move RF) rfl ?_
      refine xj_s 1 RF (by kernel_rfl) SR (y_move RF) rfl ?_
      refine xj_s 2 RF (by kernel_rfl) SR IA22 rfl ?_
      refine xj_s 3 RF (by kernel_rfl) SR (by first | exact y_load_ca0 Tryd.underlying25 rfl RF MM hc1 rfl | exact LD25) rfl ?_
      refine xj_s 4 RF (by kernel_rfl) SR (y_move RF) rfl ?_
      refine xj_s 5 RF (by kernel_rfl) SR (y_move RF) rfl ?_
      refine xj_s 6 RF (by kernel_rfl) SR IA22 rfl ?_
      refine xj_s 7 RF (by kernel_rfl) SR (by first | exact y_load_ca0 Tryd.underlying25 rfl RF MM hc22 rfl | exact LD25) rfl ?_
      refine xj_one 8 RF (by kernel_rfl) ?_
      refine qy (yc Tryd.call27 E2 (fun w1 hw1 => ints27 w1 _ _ _ _ x y (hr1.at hw1 MM) (hr2.at hw1 MM))) ?_
      refine sq_nil ?_
      refine sx_xp SR ?_
      refine xj_s 9 RF (by kernel_rfl) SR (y_not RF) rfl ?_
      refine xj_done (by kernel_rfl) ?_
      refine sx_then ?_
      refine scp (fun hc2 => ?_) (fun hc2 => ?_)
      ·
        refine sc_seq ?_
        refine sc_region ?_
        refine qs (y_assign RF) ?_
        refine sq_nil ?_
        refine sx_then ?_
        refine sc_ret ?_
        refine sx_blk_ret ?_
        refine sx_then_ret ?_
        refine sx_round_ret ?_
        refine sx_blk_ret ?_
        refine sx_then_ret ?_
        refine sx_ret1 (.inl rfl) rfl Tryd.results22 RF ?_
        intro w' hw'
        refine ⟨?_, hw'.below MM⟩
        congr 2; symm; rw [decide_eq_false_iff_not]; intro h; rw [h, hy] at hx; cases hx; simp at hc2
      ·
        refine sc_skip ?_
        refine sx_blk ?_
        refine sx_then ?_
        refine sc_region ?_
        refine qs (y_move RF) ?_
        refine qs (y_add RF RF (by omega)) ?_
        refine qs (y_assign RF) ?_
        refine sq_nil ?_
        refine sx_round (k + 1) ?_ ?_ SU SR
        · refine ⟨by omega, fun j hj => ?_⟩
          rcases Nat.lt_succ_iff_lt_or_eq.1 hj with h | rfl
          · exact hsame j h
          · rw [hx, hy]; exact congrArg some (by simpa using hc2)
        · omega
    ·
      refine sc_exit ?_
      refine sx_then_exit ?_
      refine sx_round_exit ?_
      refine sx_blk_hit ?_
      refine sx_then ?_
      refine sc_seq ?_
      refine sc_region ?_
      refine qs (y_assign RF) ?_
      refine sq_nil ?_
      refine sx_then ?_
      refine sc_ret ?_
      refine sx_ret1 (.inl rfl) rfl Tryd.results22 RF ?_
      intro w' hw'
      refine ⟨?_, hw'.below MM⟩
      congr 2; symm; rw [decide_eq_true_eq]
      exact List.ext_getElem? fun j => by
        rcases Nat.lt_or_ge j k with h | h
        · exact hsame j h
        · rw [List.getElem?_eq_none (by omega), List.getElem?_eq_none (by omega)]
end Go.Proofs.YtpijahglojichaaDoor
