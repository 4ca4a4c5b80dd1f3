/- The walks of fringes. -/
import Derived.Test.YtjlbpmcacopbpaaWalk1
import Derived.Test.YtjlbpmcacopbpaaLawF
namespace Go.Proofs.Ytjlbpmcacopbpaa
open Go Go.Eng Go.RowKit Go.Proofs
set_option maxRecDepth 100000
theorem gtV_one (a x : Int) : gtV a [x] = max a x := rfl
theorem map_getD {α β : Type} (f : α → β) (l : List α) (d : α) {i : Nat} (h : i < l.length) (e : β) : (l.map f).getD i e = f (l.getD i d) := by
  rw [List.getD_eq_getElem?_getD, List.getElem?_map, get_of_lt d h]; rfl
theorem gtV_bd {l : List Int} {a A B : Int} (ha : A ≤ a ∧ a ≤ B) (h : ∀ x, x ∈ l → A ≤ x ∧ x ≤ B) : A ≤ gtV a l ∧ gtV a l ≤ B := by
  rcases gtV_at l a with e | e
  · rw [e]; exact ha
  · exact h _ e
theorem ltV_bd {l : List Int} {a A B : Int} (ha : A ≤ a ∧ a ≤ B) (h : ∀ x, x ∈ l → A ≤ x ∧ x ≤ B) : A ≤ ltV a l ∧ ltV a l ≤ B := by
  rcases ltV_at l a with e | e
  · rw [e]; exact ha
  · exact h _ e
theorem mem_getD {α : Type} {l : List α} (d : α) {x : α} (h : x ∈ l) : ∃ i, i < l.length ∧ l.getD i d = x := by
  obtain ⟨i, hi, rfl⟩ := List.getElem_of_mem h
  exact ⟨i, hi, getD_of (List.getElem?_eq_getElem hi)⟩
theorem iRow_len (x : Int) : (iRow x).length = 1 := rfl
theorem flat_iget {l : List Int} {i : Nat} {x : Int} (h : l[i]? = some x) : (l.flatMap iRow)[i * 1]? = some (.int .i64 x) := flat_get iRow_len l i x h 0 _ rfl
theorem lit_i {w0 w : World} {rs : List Res} (hw : Hp w0 rs w) {g : Nat} {x : Int} {e : TypeId} {fz : Nat × Nat} (hm : Res.blk g (.cells [Value.int .i64 x].toArray e fz) ∈ rs) : RowsA iRow 1 0 w (some ⟨g, 0, none⟩) [x] := lit_rowsA (row := iRow) (l := [x]) (fun _ => rfl) hw hm rfl (by simp)

theorem greatest62 (w : World) (x : Int) (a : Option Addr) (c : Nat) (l : List Int) (hl : RowsA iRow 1 0 w a l) : Calls Try.prog 62 #[.int .i64 x, .slice a l.length c] w fun e w' => e = .returned (.int .i64 (gtV x l)) ∧ Below w.heap.size w w' := by
  have hlen := hl.len
  refine calls_of_SC (args := [.int .i64 x, .slice a l.length c]) Try.func62 rfl Try.ntmps62 rfl ?_
  simp only [argL, Nat.zero_add]
  refine sc_seq ?_
  refine sc_region ?_
  refine qs (y_assign RF) ?_
  refine sq_nil ?_
  refine sx_then ?_
  refine sc_seq ?_
  refine sc_seq ?_
  refine sc_region ?_
  refine qs (y_move RF) ?_
  refine qs (y_len Try.underlying35 RF) ?_
  refine qs (y_move RF) ?_
  refine sq_nil ?_
  refine sx_then ?_
  refine sc_block ?_
  refine sc_loop (σ := Nat)
    (fun s => [(0, .int .i64 (gtV x (l.take s))), (1, .slice a l.length c), (7, .slice a l.length c), (8, .int .i64 l.length), (9, .int .i64 s)])
    (fun s => [.reg 0 w])
    (fun s => s ≤ l.length)
    (fun s => l.length - s)
    (0) ?_ SU SE ?_
  · exact Nat.zero_le _
  rintro k hk
  refine sc_seq ?_
  refine sc_region ?_
  refine qs (y_lss RF RF) ?_
  refine sq_nil ?_
  refine sx_then ?_
  refine sc_seq ?_
  refine scp (fun hc0 => ?_) (fun hc0 => ?_)
  ·
    have hk' : k < l.length := by omega
    have hsm := (hl.get 0 hk').1
    have hca := (hl.get 0 hk').2
    refine sc_skip ?_
    refine sx_then ?_
    refine sc_seq ?_
    refine sc_block ?_
    refine sc_seq ?_
    refine sc_region ?_
    refine qs IA35 ?_
    refine qs (by first | exact y_load_ca0 Try.underlying3 rfl RF MM hca rfl | exact LD3) ?_
    refine qs (y_assign RF) ?_
    refine sq_nil ?_
    refine sx_then ?_
    refine sc_region ?_
    refine qs (y_move RF) ?_
    refine qs (y_move RF) ?_
    refine qs (y_max RF RF) ?_
    refine qs (y_assign RF) ?_
    refine sq_nil ?_
    refine sx_blk ?_
    refine sx_then ?_
    refine sc_region ?_
    refine qs (y_add RF RF (by omega)) ?_
    refine qs (y_move RF) ?_
    refine sq_nil ?_
    refine sx_round (k + 1) ?_ ?_ (by repeat (first | exact SubL.nil | refine SubL.cons (by first | exact rfl | exact lk_int rfl (gtV_take hk').symm | exact lk_int rfl (by omega)) ?_)) SE
    · omega
    · omega
  ·
    refine sc_exit ?_
    refine sx_then_exit ?_
    refine sx_round_exit ?_
    refine sx_blk_hit ?_
    refine sx_then ?_
    refine sc_seq ?_
    refine sc_region ?_
    refine qs (y_move RF) ?_
    refine qs (y_assign RF) ?_
    refine sq_nil ?_
    refine sx_then ?_
    refine sc_ret ?_
    refine sx_ret1 (.inl rfl) rfl Try.results62 RF ?_
    intro w' hw'
    refine ⟨?_, hw'.below MM⟩
    have hkn : k = l.length := by omega
    rw [hkn, List.take_length]
theorem greatest62v (w : World) (x : Int) (v : Value) (l : List Int) (hv : w.ownsRow 0 3 1 v l.length (l.flatMap iRow)) (hb : l.length ≤ 100000) : Calls Try.prog 62 #[.int .i64 x, v] w fun e w' => e = .returned (.int .i64 (gtV x l)) ∧ Below w.heap.size w w' := by
  obtain ⟨a, c, rfl, _, hr⟩ := own_rowsA (row := iRow) (fun _ => rfl) hv rfl (by omega)
  exact greatest62 w x a c l hr
theorem least70 (w : World) (x : Int) (a : Option Addr) (c : Nat) (l : List Int) (hl : RowsA iRow 1 0 w a l) : Calls Try.prog 70 #[.int .i64 x, .slice a l.length c] w fun e w' => e = .returned (.int .i64 (ltV x l)) ∧ Below w.heap.size w w' := by
  have hlen := hl.len
  refine calls_of_SC (args := [.int .i64 x, .slice a l.length c]) Try.func70 rfl Try.ntmps70 rfl ?_
  simp only [argL, Nat.zero_add]
  refine sc_seq ?_
  refine sc_region ?_
  refine qs (y_assign RF) ?_
  refine sq_nil ?_
  refine sx_then ?_
  refine sc_seq ?_
  refine sc_seq ?_
  refine sc_region ?_
  refine qs (y_move RF) ?_
  refine qs (y_len Try.underlying35 RF) ?_
  refine qs (y_move RF) ?_
  refine sq_nil ?_
  refine sx_then ?_
  refine sc_block ?_
  refine sc_loop (σ := Nat)
    (fun s => [(0, .int .i64 (ltV x (l.take s))), (1, .slice a l.length c), (7, .slice a l.length c), (8, .int .i64 l.length), (9, .int .i64 s)])
    (fun s => [.reg 0 w])
    (fun s => s ≤ l.length)
    (fun s => l.length - s)
    (0) ?_ SU SE ?_
  · exact Nat.zero_le _
  rintro k hk
  refine sc_seq ?_
  refine sc_region ?_
  refine qs (y_lss RF RF) ?_
  refine sq_nil ?_
  refine sx_then ?_
  refine sc_seq ?_
  refine scp (fun hc0 => ?_) (fun hc0 => ?_)
  ·
    have hk' : k < l.length := by omega
    have hsm := (hl.get 0 hk').1
    have hca := (hl.get 0 hk').2
    refine sc_skip ?_
    refine sx_then ?_
    refine sc_seq ?_
    refine sc_block ?_
    refine sc_seq ?_
    refine sc_region ?_
    refine qs IA35 ?_
    refine qs (by first | exact y_load_ca0 Try.underlying3 rfl RF MM hca rfl | exact LD3) ?_
    refine qs (y_assign RF) ?_
    refine sq_nil ?_
    refine sx_then ?_
    refine sc_region ?_
    refine qs (y_move RF) ?_
    refine qs (y_move RF) ?_
    refine qs (y_min RF RF) ?_
    refine qs (y_assign RF) ?_
    refine sq_nil ?_
    refine sx_blk ?_
    refine sx_then ?_
    refine sc_region ?_
    refine qs (y_add RF RF (by omega)) ?_
    refine qs (y_move RF) ?_
    refine sq_nil ?_
    refine sx_round (k + 1) ?_ ?_ (by repeat (first | exact SubL.nil | refine SubL.cons (by first | exact rfl | exact lk_int rfl (ltV_take hk').symm | exact lk_int rfl (by omega)) ?_)) SE
    · omega
    · omega
  ·
    refine sc_exit ?_
    refine sx_then_exit ?_
    refine sx_round_exit ?_
    refine sx_blk_hit ?_
    refine sx_then ?_
    refine sc_seq ?_
    refine sc_region ?_
    refine qs (y_move RF) ?_
    refine qs (y_assign RF) ?_
    refine sq_nil ?_
    refine sx_then ?_
    refine sc_ret ?_
    refine sx_ret1 (.inl rfl) rfl Try.results70 RF ?_
    intro w' hw'
    refine ⟨?_, hw'.below MM⟩
    have hkn : k = l.length := by omega
    rw [hkn, List.take_length]
theorem least70v (w : World) (x : Int) (v : Value) (l : List Int) (hv : w.ownsRow 0 3 1 v l.length (l.flatMap iRow)) (hb : l.length ≤ 100000) : Calls Try.prog 70 #[.int .i64 x, v] w fun e w' => e = .returned (.int .i64 (ltV x l)) ∧ Below w.heap.size w w' := by
  obtain ⟨a, c, rfl, _, hr⟩ := own_rowsA (row := iRow) (fun _ => rfl) hv rfl (by omega)
  exact least70 w x a c l hr
theorem of47 (w : World) (s : Sf) : Calls Try.prog 47 #[.agg (sfRow s).toArray] w fun e w' => e = .returned (.agg (spRow s.x).toArray) ∧ Below w.heap.size w w' := by
  refine calls_of_SC (args := [.agg (sfRow s).toArray]) Try.func47 rfl Try.ntmps47 rfl ?_
  simp only [argL]
  refine sc_seq ?_
  refine sc_region ?_
  refine sq_box RF rfl (fun b1 => ?_)
  refine sq_alloc Try.zeroValue24 rfl (fun b2 => ?_)
  refine sq_nil ?_
  refine sx_then ?_
  refine sc_seq ?_
  refine sc_region ?_
  refine qs FA51_24 ?_
  refine qs LD24 ?_
  refine sq_store_all Try.sizeOf24 RF RF rfl RM rfl rfl ?_
  refine sq_nil ?_
  refine sx_then ?_
  refine sc_ret ?_
  refine sx_retc (.inl rfl) rfl Try.results47 Try.underlying24 rfl Try.sizeOf24 RF MM rfl ?_
  intro w' hw'
  exact ⟨rfl, hw'.below MM⟩
theorem of48 (w : World) (s : Sf) : Calls Try.prog 48 #[.agg (sfRow s).toArray] w fun e w' => e = .returned (.agg (spRow s.y).toArray) ∧ Below w.heap.size w w' := by
  refine calls_of_SC (args := [.agg (sfRow s).toArray]) Try.func48 rfl Try.ntmps48 rfl ?_
  simp only [argL]
  refine sc_seq ?_
  refine sc_region ?_
  refine sq_box RF rfl (fun b1 => ?_)
  refine sq_alloc Try.zeroValue24 rfl (fun b2 => ?_)
  refine sq_nil ?_
  refine sx_then ?_
  refine sc_seq ?_
  refine sc_region ?_
  refine qs FA51_24 ?_
  refine qs LD24 ?_
  refine sq_store_all Try.sizeOf24 RF RF rfl RM rfl rfl ?_
  refine sq_nil ?_
  refine sx_then ?_
  refine sc_ret ?_
  refine sx_retc (.inl rfl) rfl Try.results48 Try.underlying24 rfl Try.sizeOf24 RF MM rfl ?_
  intro w' hw'
  exact ⟨rfl, hw'.below MM⟩
theorem apart46 (w : World) (a : Option Addr) (c : Nat) (l : List Sf) (hl : RowsA sfRow 4 0 w a l) (h1 : 0 < l.length) (h8 : l.length ≤ 8) (g : FuncId) (pr : Sf → Sp) (hcg : ∀ args w, (callFunc g args).run Try.prog w = .ok (.enter g args) w) (hg : ∀ (s : Sf) (w : World), Calls Try.prog g #[.agg (sfRow s).toArray] w fun e w' => e = .returned (.agg (spRow (pr s)).toArray) ∧ Below w.heap.size w w') (hb : ∀ i, i < l.length → -1000 ≤ ((l.map pr).getD i sp0).lo ∧ ((l.map pr).getD i sp0).lo ≤ ((l.map pr).getD i sp0).hi ∧ ((l.map pr).getD i sp0).hi ≤ 1000) : Calls Try.prog 46 #[.slice a l.length c, .func (.func g) #[] #[]] w fun e w' => e = .returned (.agg (spRow (apartV (l.map pr))).toArray) ∧ Below w.heap.size w w' := by
  have hml : (l.map pr).length = l.length := List.length_map _
  have hbm : ∀ i, i < (l.map pr).length → -1000 ≤ ((l.map pr).getD i sp0).lo ∧ ((l.map pr).getD i sp0).lo ≤ ((l.map pr).getD i sp0).hi ∧ ((l.map pr).getD i sp0).hi ≤ 1000 := fun i hi => hb i (by rw [← hml]; exact hi)
  refine calls_of_SC (args := [.slice a l.length c, .func (.func g) #[] #[]]) Try.func46 rfl Try.ntmps46 rfl ?_
  simp only [argL, Nat.zero_add]
  refine sc_seq ?_
  refine sc_region ?_
  refine sq_alloc Try.zeroValue24 rfl (fun b4 => ?_)
  refine sq_nil ?_
  refine sx_then ?_
  refine sc_seq ?_
  refine sc_region ?_
  refine qs (y_assign RF) ?_
  refine qs (y_assign RF) ?_
  refine sq_nil ?_
  refine sx_then ?_
  refine sc_seq ?_
  refine sc_region ?_
  refine qs (y_assign RF) ?_
  refine sq_nil ?_
  refine sx_then ?_
  refine sc_seq ?_
  refine sc_seq ?_
  refine sc_nil_own 3 1 ?_
  refine sc_nil_own 3 1 ?_
  refine sc_region ?_
  refine qs (y_move RF) ?_
  refine qs (y_len Try.underlying22 RF) ?_
  refine qs (y_move RF) ?_
  refine sq_nil ?_
  refine sx_then ?_
  refine sc_block ?_
  refine sc_loop (σ := Nat × Value × Value)
    (fun s => [(0, .slice a l.length c), (1, .func (.func g) #[] #[]), (4, .pointer (some ⟨b4, 0, none⟩)), (5, s.2.1), (6, s.2.2), (7, .int .i64 (farOut (l.map pr) s.1)), (13, .slice a l.length c), (14, .int .i64 l.length), (15, .int .i64 s.1)])
    (fun s => [.own s.2.1 3 1 s.1 ((((l.map pr).map (fun (s : Sp) => s.lo)).take s.1).flatMap iRow), .own s.2.2 3 1 s.1 ((((l.map pr).map (fun (s : Sp) => s.hi)).take s.1).flatMap iRow), .blk b4 (.cells [Value.int .i64 0, .int .i64 0].toArray 24 (0, 0)), .reg 0 w])
    (fun s => s.1 ≤ l.length ∧ s.2.1.oneCell' = true ∧ s.2.2.oneCell' = true)
    (fun s => l.length - s.1)
    ((0, .slice none 0 0, .slice none 0 0)) ?_ SU SR ?_
  · exact ⟨Nat.zero_le _, rfl, rfl⟩
  rintro ⟨i, v5, v6⟩ ⟨hi, hv5, hv6⟩
  dsimp only at hi hv5 hv6 ⊢
  refine sc_seq ?_
  refine sc_region ?_
  refine qs (y_lss RF RF) ?_
  refine sq_nil ?_
  refine sx_then ?_
  refine sc_seq ?_
  refine scp (fun hc0 => ?_) (fun hc0 => ?_)
  ·
    have hi' : i < l.length := by omega
    have hsm := (hl.get sf0 hi').1
    have hca := (hl.get sf0 hi').2
    refine sc_skip ?_
    refine sx_then ?_
    refine sc_seq ?_
    refine sc_block ?_
    refine sc_seq ?_
    refine sc_region ?_
    refine qs (y_move RF) ?_
    refine qs IA22 ?_
    refine qs (by first | exact y_load_ca Try.underlying51 rfl Try.sizeOf51 RF MM hca rfl | exact LD51) ?_
    refine sq_alloc Try.zeroValue51 rfl (fun b9 => ?_)
    refine qs (y_assign RF) ?_
    refine sq_store_all Try.sizeOf51 RF RF rfl RM rfl rfl ?_
    refine sq_nil ?_
    refine sx_then ?_
    refine sc_seq ?_
    refine sc_region ?_
    refine qs (y_move RF) ?_
    refine qs LD51 ?_
    refine qy (y_call (first := []) (caps := []) RF hcg E1 (fun w1 _ => hg _ w1)) ?_
    refine sq_alloc Try.zeroValue24 rfl (fun b10 => ?_)
    refine sq_store_all Try.sizeOf24 RF RF rfl RM rfl rfl ?_
    refine sq_nil ?_
    refine sx_then ?_
    refine sc_seq ?_
    refine sc_seq ?_
    refine sc_region ?_
    refine qs (y_move RF) ?_
    refine qs (y_len Try.underlying22 RF) ?_
    refine qs (y_move RF) ?_
    refine sq_nil ?_
    refine sx_then ?_
    refine sc_block ?_
    refine sc_loop (σ := Nat)
      (fun s => [(0, .slice a l.length c), (1, .func (.func g) #[] #[]), (4, .pointer (some ⟨b4, 0, none⟩)), (5, v5), (6, v6), (7, .int .i64 (farIn (l.map pr) i s (farOut (l.map pr) i))), (13, .slice a l.length c), (14, .int .i64 l.length), (15, .int .i64 i), (8, .int .i64 i), (10, .pointer (some ⟨b10, 0, none⟩)), (23, .slice a l.length c), (24, .int .i64 l.length), (25, .int .i64 s)])
      (fun s => [.own v5 3 1 i ((((l.map pr).map (fun (s : Sp) => s.lo)).take i).flatMap iRow), .own v6 3 1 i ((((l.map pr).map (fun (s : Sp) => s.hi)).take i).flatMap iRow), .blk b10 (.cells (spRow (pr (l.getD i sf0))).toArray 24 (0, 0)), .blk b4 (.cells [Value.int .i64 0, .int .i64 0].toArray 24 (0, 0)), .reg 0 w])
      (fun s => s ≤ l.length)
      (fun s => l.length - s)
      (0) ?_ SU SR ?_
    · exact Nat.zero_le _
    rintro k hk
    refine sc_seq ?_
    refine sc_region ?_
    refine qs (y_lss RF RF) ?_
    refine sq_nil ?_
    refine sx_then ?_
    refine sc_seq ?_
    refine scp (fun hc1 => ?_) (fun hc1 => ?_)
    ·
      have hk' : k < l.length := by omega
      have hsmk := (hl.get sf0 hk').1
      have hcak := (hl.get sf0 hk').2
      refine sc_skip ?_
      refine sx_then ?_
      refine sc_seq ?_
      refine sc_block ?_
      refine sc_seq ?_
      refine sc_region ?_
      refine qs (y_move RF) ?_
      refine qs IA22 ?_
      refine qs (by first | exact y_load_ca Try.underlying51 rfl Try.sizeOf51 RF MM hcak rfl | exact LD51) ?_
      refine sq_alloc Try.zeroValue51 rfl (fun b12 => ?_)
      refine qs (y_assign RF) ?_
      refine sq_store_all Try.sizeOf51 RF RF rfl RM rfl rfl ?_
      refine sq_nil ?_
      refine sx_then ?_
      refine sc_seq ?_
      refine sc_region ?_
      refine qs (y_move RF) ?_
      refine qs (y_move RF) ?_
      refine qs (y_neq RF RF) ?_
      refine sq_nil ?_
      refine sx_then ?_
      refine scp (fun hc2 => ?_) (fun hc2 => ?_)
      ·
        refine sc_drawX ([.blk b12 (.cells (sfRow (l.getD k sf0)).toArray 51 (0, 0)), .blk b10 (.cells (spRow (pr (l.getD i sf0))).toArray 24 (0, 0))]) (by kernel_rfl) ?_
        refine xj_s 0 RF (by kernel_rfl) SR (y_move RF) rfl ?_
        refine xj_s 1 RF (by kernel_rfl) SR FA24_3 rfl ?_
        refine xj_s 2 RF (by kernel_rfl) SR LD3 rfl ?_
        refine xj_s 3 RF (by kernel_rfl) SR (y_move RF) rfl ?_
        refine xj_s 4 RF (by kernel_rfl) SR LD51 rfl ?_
        refine xj_one 5 RF (by kernel_rfl) ?_
        refine qy (y_call (first := []) (caps := []) RF hcg E1 (fun w1 _ => hg _ w1)) ?_
        refine sq_nil ?_
        refine sx_xp SR ?_
        refine xj_s 6 RF (by kernel_rfl) SR (y_field Try.underlying24 RF Try.underlying3 rfl RF RF) rfl ?_
        refine xj_s 7 RF (by kernel_rfl) SR (y_sub RF RF (by have e1 := hb i hi'; have e2 := hb k hk'; rw [map_getD pr l sf0 hi'] at e1; rw [map_getD pr l sf0 hk'] at e2; omega)) rfl ?_
        refine xj_one 8 RF (by kernel_rfl) ?_
        refine sq_bs Try.underlying35 ei3 (EvI.cons RF EvI.nil) (by first | (simp [Value.cells]; done) | (simp [Value.cells]; rfl) | (simp [Value.cells]; and_intros <;> rfl)) rfl rfl rfl (fun b41 => ?_)
        refine sq_nil ?_
        refine sx_xp SR ?_
        refine xj_one 9 RF (by kernel_rfl) ?_
        refine qy (yc Try.call62 E2 (fun w1 hw1 => greatest62 w1 _ _ _ [(pr (l.getD i sf0)).hi - (pr (l.getD k sf0)).lo] (lit_i hw1 MM))) ?_
        refine sq_nil ?_
        refine sx_xp SR ?_
        rw [gtV_one, show max (farIn (l.map pr) i k (farOut (l.map pr) i)) ((pr (l.getD i sf0)).hi - (pr (l.getD k sf0)).lo) = farIn (l.map pr) i (k + 1) (farOut (l.map pr) i) from by conv => { rhs; unfold farIn }; rw [if_neg (by omega), map_getD pr l sf0 hi', map_getD pr l sf0 hk']]
        refine xj_s 10 RF (by kernel_rfl) SR (y_assign RF) rfl ?_
        refine xj_done (by kernel_rfl) ?_
        refine sx_blk ?_
        refine sx_then ?_
        refine sc_region ?_
        refine qs (y_add RF RF (by omega)) ?_
        refine qs (y_move RF) ?_
        refine sq_nil ?_
        refine sx_round (k + 1) ?_ ?_ SU SR
        · omega
        · omega
      ·
        rw [show farIn (l.map pr) i k (farOut (l.map pr) i) = farIn (l.map pr) i (k + 1) (farOut (l.map pr) i) from by conv => { rhs; unfold farIn }; rw [if_pos (by omega)]]
        refine sc_skip ?_
        refine sx_blk ?_
        refine sx_then ?_
        refine sc_region ?_
        refine qs (y_add RF RF (by omega)) ?_
        refine qs (y_move RF) ?_
        refine sq_nil ?_
        refine sx_round (k + 1) ?_ ?_ SU SR
        · omega
        · omega
    ·
      have hkn : k = l.length := by omega
      rw [show farIn (l.map pr) i k (farOut (l.map pr) i) = farOut (l.map pr) (i + 1) from by rw [hkn, ← hml]; rfl]
      refine sc_exit ?_
      refine sx_then_exit ?_
      refine sx_round_exit ?_
      refine sx_blk_hit ?_
      refine sx_then ?_
      refine sc_midE (Z := {z : Value × Value // z.1.oneCell' = true ∧ z.2.oneCell' = true}) (fun z => [(0, .slice a l.length c), (1, .func (.func g) #[] #[]), (4, .pointer (some ⟨b4, 0, none⟩)), (5, z.1.1), (6, z.1.2), (7, .int .i64 (farOut (l.map pr) (i + 1))), (13, .slice a l.length c), (14, .int .i64 l.length), (15, .int .i64 i)]) (fun z => [.own z.1.1 3 1 (i + 1) ((((l.map pr).map (fun (s : Sp) => s.lo)).take (i + 1)).flatMap iRow), .own z.1.2 3 1 (i + 1) ((((l.map pr).map (fun (s : Sp) => s.hi)).take (i + 1)).flatMap iRow), .blk b4 (.cells [Value.int .i64 0, .int .i64 0].toArray 24 (0, 0)), .reg 0 w]) ?_ ?_
      ·
        refine sc_drawX ([.blk b10 (.cells (spRow (pr (l.getD i sf0))).toArray 24 (0, 0))]) (by kernel_rfl) ?_
        refine xj_s 0 RF (by kernel_rfl) SR (y_move RF) rfl ?_
        refine xj_s 1 RF (by kernel_rfl) SR FA24_3 rfl ?_
        refine xj_s 2 RF (by kernel_rfl) SR LD3 rfl ?_
        refine xj_s 5 RF (by kernel_rfl) SR (y_move RF) rfl ?_
        refine xj_s 6 RF (by kernel_rfl) SR FA24_3 rfl ?_
        refine xj_s 7 RF (by kernel_rfl) SR LD3 rfl ?_
        refine xj_all (l := [3, 8]) (by kernel_rfl) (by simp) (Each.cons ⟨_, rfl, ?_⟩ (Each.cons ⟨_, rfl, ?_⟩ Each.nil))
        ·
          refine sq_bs Try.underlying35 ei3 (EvI.cons RF EvI.nil) (by first | (simp [Value.cells]; done) | (simp [Value.cells]; rfl) | (simp [Value.cells]; and_intros <;> rfl)) rfl rfl rfl (fun b47 => ?_)
          refine sq_nil ?_
          refine sx_xp SR ?_
          refine xj_all (l := [4, 8]) (by kernel_rfl) (by simp) (Each.cons ⟨_, rfl, ?_⟩ (Each.cons ⟨_, rfl, ?_⟩ Each.nil))
          ·
            refine sq_append (news := [.int .i64 (pr (l.getD i sf0)).lo]) Try.underlying35 ei3 rfl (by decide) RF RM RF rfl (fun _ hw => news_blk hw MM) (by simp [Value.oneCell']) (by omega) rfl (fun v48 ho48 => ?_)
            rw [show (((l.map pr).map (fun (s : Sp) => s.lo)).take i).flatMap iRow ++ [.int .i64 (pr (l.getD i sf0)).lo] = (((l.map pr).map (fun (s : Sp) => s.lo)).take (i + 1)).flatMap iRow from by rw [List.take_add_one, List.getElem?_map, List.getElem?_map, get_of_lt sf0 hi']; simp [iRow]]
            refine sq_nil ?_
            refine sx_xp SR ?_
            refine xj_one 8 RF (by kernel_rfl) ?_
            refine sq_bs Try.underlying35 ei3 (EvI.cons RF EvI.nil) (by first | (simp [Value.cells]; done) | (simp [Value.cells]; rfl) | (simp [Value.cells]; and_intros <;> rfl)) rfl rfl rfl (fun b52 => ?_)
            refine sq_nil ?_
            refine sx_xp SR ?_
            refine xj_one 9 RF (by kernel_rfl) ?_
            refine sq_append (news := [.int .i64 (pr (l.getD i sf0)).hi]) Try.underlying35 ei3 rfl (by decide) RF RM RF rfl (fun _ hw => news_blk hw MM) (by simp [Value.oneCell']) (by omega) rfl (fun v53 ho53 => ?_)
            rw [show (((l.map pr).map (fun (s : Sp) => s.hi)).take i).flatMap iRow ++ [.int .i64 (pr (l.getD i sf0)).hi] = (((l.map pr).map (fun (s : Sp) => s.hi)).take (i + 1)).flatMap iRow from by rw [List.take_add_one, List.getElem?_map, List.getElem?_map, get_of_lt sf0 hi']; simp [iRow]]
            refine sq_nil ?_
            refine sx_xp SR ?_
            refine xj_s 10 RF (by kernel_rfl) SR (y_assign RF) rfl ?_
            refine xj_s 11 RF (by kernel_rfl) SR (y_assign RF) rfl ?_
            refine xj_done (by kernel_rfl) ?_
            exact sx_midE (⟨(v48, v53), ho48, ho53⟩) SU SR
          ·
            refine sq_bs Try.underlying35 ei3 (EvI.cons RF EvI.nil) (by first | (simp [Value.cells]; done) | (simp [Value.cells]; rfl) | (simp [Value.cells]; and_intros <;> rfl)) rfl rfl rfl (fun b52 => ?_)
            refine sq_nil ?_
            refine sx_xp SR ?_
            refine xj_one 4 RF (by kernel_rfl) ?_
            refine sq_append (news := [.int .i64 (pr (l.getD i sf0)).lo]) Try.underlying35 ei3 rfl (by decide) RF RM RF rfl (fun _ hw => news_blk hw MM) (by simp [Value.oneCell']) (by omega) rfl (fun v48 ho48 => ?_)
            rw [show (((l.map pr).map (fun (s : Sp) => s.lo)).take i).flatMap iRow ++ [.int .i64 (pr (l.getD i sf0)).lo] = (((l.map pr).map (fun (s : Sp) => s.lo)).take (i + 1)).flatMap iRow from by rw [List.take_add_one, List.getElem?_map, List.getElem?_map, get_of_lt sf0 hi']; simp [iRow]]
            refine sq_nil ?_
            refine sx_xp SR ?_
            refine xj_one 9 RF (by kernel_rfl) ?_
            refine sq_append (news := [.int .i64 (pr (l.getD i sf0)).hi]) Try.underlying35 ei3 rfl (by decide) RF RM RF rfl (fun _ hw => news_blk hw MM) (by simp [Value.oneCell']) (by omega) rfl (fun v53 ho53 => ?_)
            rw [show (((l.map pr).map (fun (s : Sp) => s.hi)).take i).flatMap iRow ++ [.int .i64 (pr (l.getD i sf0)).hi] = (((l.map pr).map (fun (s : Sp) => s.hi)).take (i + 1)).flatMap iRow from by rw [List.take_add_one, List.getElem?_map, List.getElem?_map, get_of_lt sf0 hi']; simp [iRow]]
            refine sq_nil ?_
            refine sx_xp SR ?_
            refine xj_s 10 RF (by kernel_rfl) SR (y_assign RF) rfl ?_
            refine xj_s 11 RF (by kernel_rfl) SR (y_assign RF) rfl ?_
            refine xj_done (by kernel_rfl) ?_
            exact sx_midE (⟨(v48, v53), ho48, ho53⟩) SU SR
        ·
          refine sq_bs Try.underlying35 ei3 (EvI.cons RF EvI.nil) (by first | (simp [Value.cells]; done) | (simp [Value.cells]; rfl) | (simp [Value.cells]; and_intros <;> rfl)) rfl rfl rfl (fun b52 => ?_)
          refine sq_nil ?_
          refine sx_xp SR ?_
          refine xj_one 3 RF (by kernel_rfl) ?_
          refine sq_bs Try.underlying35 ei3 (EvI.cons RF EvI.nil) (by first | (simp [Value.cells]; done) | (simp [Value.cells]; rfl) | (simp [Value.cells]; and_intros <;> rfl)) rfl rfl rfl (fun b47 => ?_)
          refine sq_nil ?_
          refine sx_xp SR ?_
          refine xj_one 4 RF (by kernel_rfl) ?_
          refine sq_append (news := [.int .i64 (pr (l.getD i sf0)).lo]) Try.underlying35 ei3 rfl (by decide) RF RM RF rfl (fun _ hw => news_blk hw MM) (by simp [Value.oneCell']) (by omega) rfl (fun v48 ho48 => ?_)
          rw [show (((l.map pr).map (fun (s : Sp) => s.lo)).take i).flatMap iRow ++ [.int .i64 (pr (l.getD i sf0)).lo] = (((l.map pr).map (fun (s : Sp) => s.lo)).take (i + 1)).flatMap iRow from by rw [List.take_add_one, List.getElem?_map, List.getElem?_map, get_of_lt sf0 hi']; simp [iRow]]
          refine sq_nil ?_
          refine sx_xp SR ?_
          refine xj_one 9 RF (by kernel_rfl) ?_
          refine sq_append (news := [.int .i64 (pr (l.getD i sf0)).hi]) Try.underlying35 ei3 rfl (by decide) RF RM RF rfl (fun _ hw => news_blk hw MM) (by simp [Value.oneCell']) (by omega) rfl (fun v53 ho53 => ?_)
          rw [show (((l.map pr).map (fun (s : Sp) => s.hi)).take i).flatMap iRow ++ [.int .i64 (pr (l.getD i sf0)).hi] = (((l.map pr).map (fun (s : Sp) => s.hi)).take (i + 1)).flatMap iRow from by rw [List.take_add_one, List.getElem?_map, List.getElem?_map, get_of_lt sf0 hi']; simp [iRow]]
          refine sq_nil ?_
          refine sx_xp SR ?_
          refine xj_s 10 RF (by kernel_rfl) SR (y_assign RF) rfl ?_
          refine xj_s 11 RF (by kernel_rfl) SR (y_assign RF) rfl ?_
          refine xj_done (by kernel_rfl) ?_
          exact sx_midE (⟨(v48, v53), ho48, ho53⟩) SU SR
      rintro ⟨⟨v48, v53⟩, ho48, ho53⟩
      try dsimp only
      refine sx_blk ?_
      refine sx_then ?_
      refine sc_region ?_
      refine qs (y_add RF RF (by omega)) ?_
      refine qs (y_move RF) ?_
      refine sq_nil ?_
      refine sx_round ((i + 1, v48, v53)) ?_ ?_ SU SR
      · exact ⟨by dsimp only; omega, ho48, ho53⟩
      · dsimp only; omega
  ·
    have hin : i = l.length := by omega
    subst hin
    have hlm : ((l.map pr).map (fun (s : Sp) => s.lo)).length = l.length := by simp
    have hhm : ((l.map pr).map (fun (s : Sp) => s.hi)).length = l.length := by simp
    rw [show ((l.map pr).map (fun (s : Sp) => s.lo)).take l.length = ((l.map pr).map (fun (s : Sp) => s.lo)) from by rw [← hlm, List.take_length], show ((l.map pr).map (fun (s : Sp) => s.hi)).take l.length = ((l.map pr).map (fun (s : Sp) => s.hi)) from by rw [← hhm, List.take_length]]
    have hl0 : (((l.map pr).map (fun (s : Sp) => s.lo)).flatMap iRow)[0 * 1]? = some (.int .i64 ((l.map pr).getD 0 sp0).lo) := flat_iget (by rw [List.getElem?_map, get_of_lt sp0 (by omega)]; rfl)
    have hh0 : (((l.map pr).map (fun (s : Sp) => s.hi)).flatMap iRow)[0 * 1]? = some (.int .i64 ((l.map pr).getD 0 sp0).hi) := flat_iget (by rw [List.getElem?_map, get_of_lt sp0 (by omega)]; rfl)
    have hfo := farOut_bd hbm l.length (by omega)
    have hb0 := hbm 0 (by omega)
    have hgb := gtV_bd (l := ((l.map pr).map (fun (s : Sp) => s.lo))) (a := ((l.map pr).getD 0 sp0).lo) (A := -1000) (B := 1000) (by omega) (fun x hx => by
      obtain ⟨s, hs, rfl⟩ := List.mem_map.1 hx
      obtain ⟨i, hi, rfl⟩ := mem_getD sp0 hs
      have := hbm i hi; omega)
    have hlb := ltV_bd (l := ((l.map pr).map (fun (s : Sp) => s.hi))) (a := ((l.map pr).getD 0 sp0).hi) (A := -1000) (B := 1000) (by omega) (fun x hx => by
      obtain ⟨s, hs, rfl⟩ := List.mem_map.1 hx
      obtain ⟨i, hi, rfl⟩ := mem_getD sp0 hs
      have := hbm i hi; omega)
    refine sc_exit ?_
    refine sx_then_exit ?_
    refine sx_round_exit ?_
    refine sx_blk_hit ?_
    refine sx_then ?_
    refine sc_seq ?_
    refine sc_drawR (by kernel_rfl) ?_
    refine xj_s 0 RF (by kernel_rfl) SR (y_move RF) rfl ?_
    refine xj_s 1 RF (by kernel_rfl) SR (y_ia_own Try.underlying35 Try.sizeOf3 RF MM (show _ = some (Value.int .i64 ((0 : Nat) : Int)) from rfl) h1) rfl ?_
    refine xj_s 2 RF (by kernel_rfl) SR (by first | exact y_load_own0 (u := .int .i64 ((l.map pr).getD 0 sp0).lo) Try.underlying3 rfl RF MM h1 hl0 | exact LD3) rfl ?_
    refine xj_s 3 RF (by kernel_rfl) SR (y_move RF) rfl ?_
    refine xj_s 5 RF (by kernel_rfl) SR (y_move RF) rfl ?_
    refine xj_s 6 RF (by kernel_rfl) SR (y_ia_own Try.underlying35 Try.sizeOf3 RF MM (show _ = some (Value.int .i64 ((0 : Nat) : Int)) from rfl) h1) rfl ?_
    refine xj_s 7 RF (by kernel_rfl) SR (by first | exact y_load_own0 (u := .int .i64 ((l.map pr).getD 0 sp0).hi) Try.underlying3 rfl RF MM h1 hh0 | exact LD3) rfl ?_
    refine xj_s 8 RF (by kernel_rfl) SR (y_move RF) rfl ?_
    refine xj_s 13 RF (by kernel_rfl) SR (y_move RF) rfl ?_
    refine xj_one 4 RF (by kernel_rfl) ?_
    refine qy (yc Try.call62 E2 (fun w1 hw1 => greatest62v w1 _ v5 ((l.map pr).map (fun (s : Sp) => s.lo)) (by rw [hlm]; exact hw1.ok (Res.own v5 3 1 l.length (((l.map pr).map (fun (s : Sp) => s.lo)).flatMap iRow)) MM) (by omega))) ?_
    refine sq_nil ?_
    refine sx_xp SR ?_
    refine xj_one 9 RF (by kernel_rfl) ?_
    refine qy (yc Try.call70 E2 (fun w1 hw1 => least70v w1 _ v6 ((l.map pr).map (fun (s : Sp) => s.hi)) (by rw [hhm]; exact hw1.ok (Res.own v6 3 1 l.length (((l.map pr).map (fun (s : Sp) => s.hi)).flatMap iRow)) MM) (by omega))) ?_
    refine sq_nil ?_
    refine sx_xp SR ?_
    refine xj_s 10 RF (by kernel_rfl) SR (y_sub RF RF (by omega)) rfl ?_
    refine xj_one 11 RF (by kernel_rfl) ?_
    refine sq_bs Try.underlying35 ei3 (EvI.cons RF EvI.nil) (by first | (simp [Value.cells]; done) | (simp [Value.cells]; rfl) | (simp [Value.cells]; and_intros <;> rfl)) rfl rfl rfl (fun b66 => ?_)
    refine sq_nil ?_
    refine sx_xp SR ?_
    refine xj_one 12 RF (by kernel_rfl) ?_
    refine qy (yc Try.call62 E2 (fun w1 hw1 => greatest62 w1 _ _ _ [gtV ((l.map pr).getD 0 sp0).lo ((l.map pr).map (fun (s : Sp) => s.lo)) - ltV ((l.map pr).getD 0 sp0).hi ((l.map pr).map (fun (s : Sp) => s.hi))] (lit_i hw1 MM))) ?_
    refine sq_nil ?_
    refine sx_xp SR ?_
    rw [gtV_one]
    refine xj_s 14 RF (by kernel_rfl) SR (y_build (cells := [Value.int .i64 (max 0 (gtV ((l.map pr).getD 0 sp0).lo ((l.map pr).map (fun (s : Sp) => s.lo)) - ltV ((l.map pr).getD 0 sp0).hi ((l.map pr).map (fun (s : Sp) => s.hi)))), .int .i64 (farOut (l.map pr) l.length)].toArray) bt24 (EvP.cons RF (EvP.cons RF EvP.nil)) (by kernel_rfl)) rfl ?_
    refine xj_one 15 RF (by kernel_rfl) ?_
    refine sq_store_all Try.sizeOf24 RF RF rfl RM rfl rfl ?_
    refine sq_nil ?_
    refine sx_xpl (by kernel_rfl) ?_
    refine xj_done (by kernel_rfl) ?_
    refine sx_then ?_
    refine sc_ret ?_
    refine sx_retc (.inl rfl) rfl Try.results46 Try.underlying24 rfl Try.sizeOf24 RF MM rfl ?_
    intro w' hw'
    refine ⟨?_, hw'.below MM⟩
    unfold apartV spRow
    rw [hml]
end Go.Proofs.Ytjlbpmcacopbpaa
