/- The walks of a picture by its cells, and of what lies around a cell. -/
import Derived.Test.YtfceajkofpafpaaHW1
namespace Go.Proofs.Ytfceajkofpafpaa
open Go Go.Eng Go.RowKit Go.Proofs
open Go.Proofs.Ytfceajkofpafpaa.Sc (iRow spRow sp0 Sp getD_of get_of_lt any_range_get all_not_any all_getD)
set_option maxRecDepth 100000
/-- the first cells, with their pieces -/
def cellsN (c : Ct) (n : Nat) : List ((Int × Int) × Int) := (List.range n).map fun i => (cellAt c i, c.piece.getD i 0)
def cellsL (c : Ct) : List ((Int × Int) × Int) := cellsN c c.piece.length
theorem cellsN_succ (c : Ct) (n : Nat) : cellsN c (n + 1) = cellsN c n ++ [(cellAt c n, c.piece.getD n 0)] := by unfold cellsN; rw [List.range_succ, List.map_append]; rfl
theorem cellsN_len (c : Ct) (n : Nat) : (cellsN c n).length = n := by simp [cellsN]
theorem cellsN_at (c : Ct) {n i : Nat} (h : i < n) : (cellsN c n)[i]? = some (cellAt c i, c.piece.getD i 0) := by
  unfold cellsN; rw [List.getElem?_map, List.getElem?_range h]; rfl
theorem cellsN_mem {c : Ct} {n : Nat} {p : (Int × Int) × Int} : p ∈ cellsN c n ↔ ∃ i, i < n ∧ p = (cellAt c i, c.piece.getD i 0) := by
  unfold cellsN
  rw [List.mem_map]
  constructor
  · rintro ⟨i, h, rfl⟩; exact ⟨i, List.mem_range.1 h, rfl⟩
  · rintro ⟨i, h, rfl⟩; exact ⟨i, List.mem_range.2 h, rfl⟩
theorem okC_in {c : Ct} (h : CtF c) {p : Int × Int} (hp : inC c p) : okC p := by
  obtain ⟨h1, h2, h3, h4⟩ := hp
  have := h.w2
  have := h.h2
  exact ⟨⟨by omega, by omega⟩, ⟨by omega, by omega⟩⟩
theorem okC_nb {p : Int × Int} (h : (-100 ≤ p.1 ∧ p.1 ≤ 100) ∧ (-100 ≤ p.2 ∧ p.2 ≤ 100)) (i : Nat) : okC (nb p i) := by
  unfold nb dir4 okC
  split
  · dsimp only; omega
  · split
    · dsimp only; omega
    · split <;> (dsimp only; omega)
theorem cellsN_ok {c : Ct} (h : CtF c) {n : Nat} (hn : n ≤ c.piece.length) : ∀ p, p ∈ cellsN c n → okC p.1 := fun p hp => by
  obtain ⟨i, hi, rfl⟩ := cellsN_mem.1 hp
  exact okC_in h (idx_cell h (by omega)).1
theorem cellsN_new {c : Ct} (h : CtF c) {n : Nat} (hn : n < c.piece.length) : mvGet (cellsN c n) (cellAt c n) = none := mvGet_no fun p hp e => by
  obtain ⟨i, hi, rfl⟩ := cellsN_mem.1 hp
  have := cellAt_inj h (by omega) hn e
  omega
theorem cellsN_nd {c : Ct} (h : CtF c) : ∀ {n : Nat}, n ≤ c.piece.length → ((cellsN c n).map (·.1)).Nodup
  | 0, _ => List.nodup_nil
  | n + 1, hn => by
    rw [cellsN_succ, List.map_append, List.nodup_append]
    refine ⟨cellsN_nd h (by omega), by simp, fun a ha b hb e => ?_⟩
    obtain ⟨p, hp, rfl⟩ := List.mem_map.1 ha
    simp at hb; subst hb
    exact mvGet_none (cellsN_new h (show n < c.piece.length by omega)) p hp e
theorem cellsL_get {c : Ct} (h : CtF c) (p : Int × Int) : (mvGet (cellsL c) p).isSome = decide (inC c p) ∧ (inC c p → (mvGet (cellsL c) p).getD 0 = atC c p) := by
  by_cases hp : inC c p
  · obtain ⟨h1, h2⟩ := cell_idx h hp
    have h3 : mvGet (cellsL c) p = some (c.piece.getD (idx c p) 0) := mvGet_of (cellsN_nd h (Nat.le_refl _)) (cellsN_mem.2 ⟨idx c p, h1, by rw [h2]⟩)
    refine ⟨by rw [h3, decide_eq_true hp]; rfl, fun _ => ?_⟩
    rw [h3]; unfold atC; rw [if_pos hp]; rfl
  · have h3 : mvGet (cellsL c) p = none := mvGet_no fun q hq e => by
      obtain ⟨i, hi, rfl⟩ := cellsN_mem.1 hq
      exact hp (by rw [← e]; exact (idx_cell h hi).1)
    exact ⟨by rw [h3, decide_eq_false hp]; rfl, fun h => absurd h hp⟩
/-- a picture's map, in memory -/
def MpA (lo : Nat) (w : World) (b : Nat) (c : Ct) : Prop := lo ≤ b ∧ w.heap[b]? = some (mvM cK iV (cellsL c))
theorem MpA.hp {w0 w wr : World} {rs : List Res} {lo b : Nat} {c : Ct} (h : MpA lo wr b c) (hm : Res.reg lo wr ∈ rs) (hw : Hp w0 rs w) : w.heap[b]? = some (mvM cK iV (cellsL c)) := heap_reg hw hm h.1 h.2
theorem MpA.at {w0 w wr : World} {rs : List Res} {lo b : Nat} {c : Ct} (h : MpA lo wr b c) (hw : Hp w0 rs w) (hm : Res.reg lo wr ∈ rs) : MpA 0 w b c := ⟨Nat.zero_le _, h.hp hm hw⟩
theorem newPicture26 (w : World) (c : Ct) (h : CtF c) (a : Option Addr) (cp : Nat) (hp : RowsA iRow 1 0 w a c.piece) : Calls Try.prog 26 #[.agg (ctV c a cp).toArray] w fun e w' => ∃ b, e = .returned (.agg (picV c a cp b).toArray) ∧ Below w.heap.size w w' ∧ MpA w.heap.size w' b c := by
  have hlen := hp.len
  have hn := h.n0
  have hw1 := h.w1
  have hw2 := h.w2
  unfold ctV picV
  refine calls_of_SC (args := [.agg #[.int .i64 c.wide, .int .i64 c.high, .slice a c.piece.length cp]]) Try.func26 rfl Try.ntmps26 rfl ?_
  simp only [argL]
  refine sc_seq ?_
  refine sc_region ?_
  refine sq_box RF rfl (fun b1 => ?_)
  refine sq_alloc Try.zeroValue90 rfl (fun b2 => ?_)
  refine sq_nil ?_
  refine sx_then ?_
  refine sc_seq ?_
  refine sc_region ?_
  refine qs LD24 ?_
  refine sq_makeMapV cK iV rfl (fun b7 => ?_)
  refine qs (y_build (cells := #[.int .i64 c.wide, .int .i64 c.high, .slice a c.piece.length cp, .map (some b7)]) bt90 (EvP.cons RF (EvP.cons RF EvP.nil)) (by kernel_rfl)) ?_
  refine sq_alloc Try.zeroValue90 rfl (fun b3 => ?_)
  refine sq_store_all Try.sizeOf90 RF RF rfl RM rfl rfl ?_
  refine sq_nil ?_
  refine sx_then ?_
  refine sc_seq ?_
  refine sc_seq ?_
  refine sc_region ?_
  refine qs FA24_22 ?_
  refine qs LD22 ?_
  refine qs (y_len Try.underlying22 RF) ?_
  refine qs (y_move RF) ?_
  refine sq_nil ?_
  refine sx_then ?_
  refine sc_block ?_
  refine sc_loop (σ := Nat)
    (fun s => [(1, .pointer (some ⟨b1, 0, none⟩)), (2, .pointer (some ⟨b2, 0, none⟩)), (3, .pointer (some ⟨b3, 0, none⟩)), (10, .slice a c.piece.length cp), (11, .int .i64 c.piece.length), (12, .int .i64 s)])
    (fun s => [.blk b1 (.cells #[.int .i64 c.wide, .int .i64 c.high, .slice a c.piece.length cp] 24 (0, 0)), .blk b2 (.cells #[.int .i64 0, .int .i64 0, .slice none 0 0, .map none] 90 (0, 0)), .blk b3 (.cells #[.int .i64 c.wide, .int .i64 c.high, .slice a c.piece.length cp, .map (some b7)] 90 (0, 0)), .blk b7 (mvM cK iV (cellsN c s)), .reg 0 w])
    (fun s => s ≤ c.piece.length)
    (fun s => c.piece.length - s)
    (0) ?_ SU SR ?_
  · exact Nat.zero_le _
  rintro i hi
  refine sc_seq ?_
  refine sc_region ?_
  refine qs (y_lss RF RF) ?_
  refine sq_nil ?_
  refine sx_then ?_
  refine sc_seq ?_
  refine scp (fun hc0 => ?_) (fun hc0 => ?_)
  ·
    have hi' : i < c.piece.length := by omega
    have hsk := (hp.get 0 hi').1
    have hck := (hp.get 0 hi').2
    refine sc_skip ?_
    refine sx_then ?_
    refine sc_seq ?_
    refine sc_block ?_
    refine sc_seq ?_
    refine sc_region ?_
    refine qs (y_move RF) ?_
    refine qs IA22 ?_
    refine qs (by first | exact y_load_ca0 Try.underlying3 rfl RF MM hck rfl | exact LD3) ?_
    refine qs (y_assign RF) ?_
    refine qs (y_assign RF) ?_
    refine sq_nil ?_
    refine sx_then ?_
    refine sc_drawR (by kernel_rfl) ?_
    refine xj_s 0 RF (by kernel_rfl) SR FA90_88 rfl ?_
    refine xj_s 1 RF (by kernel_rfl) SR LD88 rfl ?_
    refine xj_s 2 RF (by kernel_rfl) SR (y_move RF) rfl ?_
    refine xj_s 3 RF (by kernel_rfl) SR FA24_3 rfl ?_
    refine xj_s 4 RF (by kernel_rfl) SR LD3 rfl ?_
    refine xj_s 5 RF (by kernel_rfl) SR (y_rem RF RF (by omega) (by omega)) rfl ?_
    refine xj_s 6 RF (by kernel_rfl) SR (y_move RF) rfl ?_
    refine xj_s 7 RF (by kernel_rfl) SR FA24_3 rfl ?_
    refine xj_s 8 RF (by kernel_rfl) SR LD3 rfl ?_
    refine xj_s 9 RF (by kernel_rfl) SR (y_quo RF RF (by omega) (by omega)) rfl ?_
    refine xj_s 10 RF (by kernel_rfl) SR (y_build bt137 (EvP.cons RF (EvP.cons RF EvP.nil)) RF) rfl ?_
    refine xj_s 11 RF (by kernel_rfl) SR (y_move RF) rfl ?_
    refine xj_one 12 RF (by kernel_rfl) ?_
    refine sq_mapPutV (kf := cK) (vf := iV) (x0 := cellAt c i) (b1 := c.piece.getD i 0) kv137.toKF (cellsN_ok h (by omega)) (cellsN_nd h (by omega)) (okC_in h (idx_cell h hi').1) Try.underlying88 RF RM RF RF (cellsN_new h hi') ?_
    rw [← cellsN_succ]
    refine sq_nil ?_
    refine sx_xpl (by kernel_rfl) ?_
    refine xj_done (by kernel_rfl) ?_
    refine sx_blk ?_
    refine sx_then ?_
    refine sc_region ?_
    refine qs (y_add RF RF (by omega)) ?_
    refine qs (y_move RF) ?_
    refine sq_nil ?_
    refine sx_round (i + 1) ?_ ?_ SU SR
    · omega
    · omega
  ·
    have hin : i = c.piece.length := by omega
    subst hin
    refine sc_exit ?_
    refine sx_then_exit ?_
    refine sx_round_exit ?_
    refine sx_blk_hit ?_
    refine sx_then ?_
    refine sc_seq ?_
    refine sc_region ?_
    refine qs LD90 ?_
    refine sq_store_all Try.sizeOf90 RF RF rfl RM rfl rfl ?_
    refine sq_nil ?_
    refine sx_then ?_
    refine sc_ret ?_
    refine sx_retc (.inl rfl) rfl Try.results26 Try.underlying90 rfl Try.sizeOf90 RF MM rfl ?_
    intro w' hw'
    exact ⟨b7, rfl, hw'.below MM, blk_new hw' RM MM, hw'.ok (Res.blk b7 (mvM cK iV (cellsN c c.piece.length))) MM⟩
theorem piece53 (w : World) (c : Ct) (h : CtF c) (a : Option Addr) (cp b : Nat) (hb : MpA 0 w b c) (p : Int × Int) (hp : okC p) : Calls Try.prog 53 #[.agg (picV c a cp b).toArray, cK p] w fun e w' => e = .returned (.int .i64 (atC c p)) ∧ Below w.heap.size w w' := by
  obtain ⟨x, y⟩ := p
  have hg := cellsL_get h (x, y)
  unfold picV cK
  refine calls_of_SC (args := [.agg #[.int .i64 c.wide, .int .i64 c.high, .slice a c.piece.length cp, .map (some b)], .agg #[.int .i64 x, .int .i64 y]]) Try.func53 rfl Try.ntmps53 rfl ?_
  simp only [argL, Nat.zero_add]
  refine sc_seq ?_
  refine sc_region ?_
  refine sq_box RF rfl (fun b2 => ?_)
  refine sq_box RF rfl (fun b3 => ?_)
  refine qs (y_assign RF) ?_
  refine sq_nil ?_
  refine sx_then ?_
  refine sc_seq ?_
  refine sc_seq ?_
  refine sc_region ?_
  refine qs FA90_88 ?_
  refine qs LD88 ?_
  refine qs LD137 ?_
  refine qs (y_lookupOkV (kf := cK) (vf := iV) (x0 := (x, y)) (b0 := 0) kv137.toKF (cellsN_ok h (Nat.le_refl _)) (cellsN_nd h (Nat.le_refl _)) hp Try.underlying88 Try.zeroValue3 RF (fun _ hw => hb.hp MM hw) RF) ?_
  refine qs (y_move RF) ?_
  refine qs (y_extract RF RF) ?_
  refine qs (y_extract RF RF) ?_
  refine qs (y_assign RF) ?_
  refine qs (y_assign RF) ?_
  refine sq_nil ?_
  refine sx_then ?_
  refine sc_seq ?_
  refine sc_region ?_
  refine qs (y_move RF) ?_
  refine sq_nil ?_
  refine sx_then ?_
  refine scp (fun hc0 => ?_) (fun hc0 => ?_)
  ·
    refine sc_seq ?_
    refine sc_region ?_
    refine qs (y_move RF) ?_
    refine qs (y_assign RF) ?_
    refine sq_nil ?_
    refine sx_then ?_
    refine sc_ret ?_
    refine sx_then_ret ?_
    refine sx_ret1 (.inl rfl) rfl Try.results53 RF ?_
    intro w' hw'
    refine ⟨?_, hw'.below MM⟩
    have hc1 : (mvGet (cellsL c) (x, y)).isSome = true := hc0
    rw [hg.1] at hc1
    have hin := of_decide_eq_true hc1
    show Ending.returned (iV ((mvGet (cellsL c) (x, y)).getD 0)) = _
    rw [hg.2 hin]; rfl
  ·
    refine sc_skip ?_
    refine sx_then ?_
    refine sc_seq ?_
    refine sc_region ?_
    refine qs (y_assign RF) ?_
    refine sq_nil ?_
    refine sx_then ?_
    refine sc_ret ?_
    refine sx_ret1 (.inl rfl) rfl Try.results53 RF ?_
    intro w' hw'
    refine ⟨?_, hw'.below MM⟩
    have hc1 : (mvGet (cellsL c) (x, y)).isSome = false := hc0
    rw [hg.1] at hc1
    have hin := of_decide_eq_false hc1
    unfold atC; rw [if_neg hin]
theorem around56 (w : World) (x y : Int) : Calls Try.prog 56 #[.agg #[.int .i64 x, .int .i64 y]] w fun e w' => ∃ p, e = .returned (.func (.func 95) #[] #[.pointer (some p)]) ∧ Below w.heap.size w w' ∧ CA w.heap.size w' p [.int .i64 x, .int .i64 y] := by
  refine calls_of_SC (args := [.agg #[.int .i64 x, .int .i64 y]]) Try.func56 rfl Try.ntmps56 rfl ?_
  simp only [argL]
  refine sc_seq ?_
  refine sc_region ?_
  refine sq_box RF rfl (fun b1 => ?_)
  refine qs (y_assign RF) ?_
  refine sq_nil ?_
  refine sx_then ?_
  refine sc_seq ?_
  refine sc_region ?_
  refine qs (y_makeFunc EvL.nil (EvL.cons RF EvL.nil)) ?_
  refine qs (y_assign RF) ?_
  refine sq_nil ?_
  refine sx_then ?_
  refine sc_ret ?_
  refine sx_ret1 (.inl rfl) rfl Try.results56 RF ?_
  intro w' hw'
  exact ⟨⟨b1, 0, none⟩, rfl, hw'.below MM, ⟨blk_new hw' RM MM, (CA.blk (vs := [.int .i64 x, .int .i64 y]) hw' MM).2⟩⟩
/-- who ranges over what lies around a cell: what he holds, and what is so after some of them -/
structure UsrA (w0 : World) (l : Nat) (lp : Loop) (p : Int × Int) where
  Z : Type
  UR : Z → List Res
  Inv : Nat → Z → Prop
  loop : ∀ z, Res.blk l (.loop lp) ∈ UR z
  one : lp.params.size = 1
  round : ∀ i z, i < 4 → Inv i z → ∀ F w, Hp w0 (UR z ++ F) w → RoundIn (FW none) 0 Try.prog l lp.fn ((lp.params.zip #[cK (nb p i)]).foldl (fun tmps (t, a) => tmps.setIfInBounds t a) lp.tmps) lp.assign lp.body w fun e w' => ∃ z', Inv (i + 1) z' ∧ e = .returned (.bool true) ∧ Hp w0 (UR z' ++ F) w'
def arr4 : Array Value := #[.int .i64 (-1), .int .i64 0, .int .i64 1, .int .i64 0, .int .i64 0, .int .i64 (-1), .int .i64 0, .int .i64 1]
theorem arr4_at {i : Nat} (h : i < 4) : arr4.extract (i * 2) (i * 2 + 2) = #[.int .i64 (dir4 i).1, .int .i64 (dir4 i).2] := by
  rcases (by omega : i = 0 ∨ i = 1 ∨ i = 2 ∨ i = 3) with rfl | rfl | rfl | rfl <;> rfl
theorem dir4_bd (i : Nat) : (-1 ≤ (dir4 i).1 ∧ (dir4 i).1 ≤ 1) ∧ (-1 ≤ (dir4 i).2 ∧ (dir4 i).2 ≤ 1) := by
  unfold dir4
  split
  · decide
  · split
    · decide
    · split <;> decide
theorem around95 {w0 wr : World} {lo l : Nat} {lp : Loop} {x y : Int} (hx : -100 ≤ x ∧ x ≤ 100) (hy : -100 ≤ y ∧ y ≤ 100) (pb : Addr) (hpb : CA lo wr pb [.int .i64 x, .int .i64 y]) (U : UsrA w0 l lp (x, y)) (z0 : U.Z) (hinv : U.Inv 0 z0) (w : World) (hw : Hp w0 (.reg lo wr :: U.UR z0) w) :
    Calls Try.prog 95 #[.func (.yield l) #[] #[], .pointer (some pb)] w fun e w' => (∃ v, e = .returned v) ∧ ∃ z, U.Inv 4 z ∧ Hp w0 (.reg lo wr :: U.UR z) w' := by
  refine calls_of_SCr (args := [.func (.yield l) #[] #[], .pointer (some pb)]) Try.func95 rfl Try.ntmps95 rfl hw ?_
  simp only [argL, Nat.zero_add]
  refine sc_seq ?_
  refine sc_region ?_
  refine qs (y_build (cells := #[.int .i64 (-1), .int .i64 0]) bt137 (EvP.cons RF (EvP.cons RF EvP.nil)) (by kernel_rfl)) ?_
  refine qs (y_build (cells := #[.int .i64 1, .int .i64 0]) bt137 (EvP.cons RF (EvP.cons RF EvP.nil)) (by kernel_rfl)) ?_
  refine qs (y_build (cells := #[.int .i64 0, .int .i64 (-1)]) bt137 (EvP.cons RF (EvP.cons RF EvP.nil)) (by kernel_rfl)) ?_
  refine qs (y_build (cells := #[.int .i64 0, .int .i64 1]) bt137 (EvP.cons RF (EvP.cons RF EvP.nil)) (by kernel_rfl)) ?_
  refine qs (y_build_arr (cells := arr4) Try.underlying198 Try.zeroValue198 Try.sizeOf137 (EvP.cons RF (EvP.cons RF (EvP.cons RF (EvP.cons RF EvP.nil)))) (by kernel_rfl)) ?_
  refine qs (y_move RF) ?_
  refine sq_nil ?_
  refine sx_then ?_
  refine sc_block ?_
  refine sc_loop (σ := Nat × U.Z)
    (fun s => [(0, .func (.yield l) #[] #[]), (1, .pointer (some pb)), (9, .agg arr4), (10, .int .i64 s.1)])
    (fun s => .reg lo wr :: U.UR s.2)
    (fun s => s.1 ≤ 4 ∧ U.Inv s.1 s.2)
    (fun s => 4 - s.1)
    ((0, z0)) ?_ SU SR ?_
  · exact ⟨Nat.zero_le _, hinv⟩
  rintro ⟨i, z⟩ ⟨hi, hz⟩
  dsimp only at hi hz ⊢
  refine sc_seq ?_
  refine sc_region ?_
  refine qs (y_lss RF RF) ?_
  refine sq_nil ?_
  refine sx_then ?_
  refine sc_seq ?_
  refine scp (fun hc0 => ?_) (fun hc0 => ?_)
  ·
    have hi' : i < 4 := by omega
    refine sc_skip ?_
    refine sx_then ?_
    refine sc_seq ?_
    refine sc_block ?_
    refine sc_seq ?_
    refine sc_region ?_
    refine qs (y_indexA (sz := 2) (i := i) Try.underlying198 Try.sizeOf137 Try.underlying137 rfl RF RF hi' (arr4_at hi')) ?_
    refine sq_alloc Try.zeroValue137 rfl (fun b4 => ?_)
    refine sq_store_all Try.sizeOf137 RF RF rfl RM rfl rfl ?_
    refine sq_nil ?_
    refine sx_then ?_
    refine sc_seq ?_
    refine sc_region ?_
    refine qs (y_move RF) ?_
    refine qs FA137_3 ?_
    refine qs (by first | exact y_load_caj (j := 0) Try.underlying3 rfl RF MM hpb rfl | exact y_load_ca0 Try.underlying3 rfl RF MM hpb rfl | exact LD3) ?_
    refine qs FA137_3 ?_
    refine qs LD3 ?_
    refine qs (y_add RF RF (by have := dir4_bd i; omega)) ?_
    refine qs FA137_3 ?_
    refine qs (by first | exact y_load_caj (j := 1) Try.underlying3 rfl RF MM hpb rfl | exact LD3) ?_
    refine qs FA137_3 ?_
    refine qs LD3 ?_
    refine qs (y_add RF RF (by have := dir4_bd i; omega)) ?_
    refine qs (y_build bt137 (EvP.cons RF (EvP.cons RF EvP.nil)) RF) ?_
    refine sq_yield (rs' := U.UR z ++ [.blk b4 (.cells #[.int .i64 (dir4 i).1, .int .i64 (dir4 i).2] 137 (0, 0)), .reg lo wr]) (Z := U.Z) (fun _ => .bool true) (fun z' => .blk b4 (.cells #[.int .i64 (dir4 i).1, .int .i64 (dir4 i).2] 137 (0, 0)) :: .reg lo wr :: U.UR z') (fun z' => U.Inv (i + 1) z') RF (EvL.cons RF EvL.nil) (List.mem_append.2 (.inl (U.loop z))) (Sel.comm [.blk b4 (.cells #[.int .i64 (dir4 i).1, .int .i64 (dir4 i).2] 137 (0, 0)), .reg lo wr] (U.UR z)) (by simpa using U.one.symm) (fun w1 hw1 => (U.round i z hi' hz [.blk b4 (.cells #[.int .i64 (dir4 i).1, .int .i64 (dir4 i).2] 137 (0, 0)), .reg lo wr] w1 hw1).mono (fun e w' ⟨z', h1, h2, h3⟩ => ⟨z', h1, h2, h3.sel (Sel.comm (U.UR z') [.blk b4 (.cells #[.int .i64 (dir4 i).1, .int .i64 (dir4 i).2] 137 (0, 0)), .reg lo wr])⟩)) rfl (fun z' hz' => ?_)
    refine qs (y_not RF) ?_
    refine sq_nil ?_
    refine sx_then ?_
    refine sc_f (lk_bool rfl (rfl)) ?_
    refine sc_skip ?_
    refine sx_blk ?_
    refine sx_then ?_
    refine sc_region ?_
    refine qs (y_add RF RF (by omega)) ?_
    refine qs (y_move RF) ?_
    refine sq_nil ?_
    refine sx_round ((i + 1, z')) ?_ ?_ SU SR
    · exact ⟨by dsimp only; omega, hz'⟩
    · dsimp only; omega
  ·
    have hin : i = 4 := by omega
    subst hin
    refine sc_exit ?_
    refine sx_then_exit ?_
    refine sx_round_exit ?_
    refine sx_blk_hit ?_
    refine sx_ret0 (.inr rfl) rfl Try.results95 ?_
    intro w' hw'
    exact ⟨⟨_, rfl⟩, z, hz, hw'⟩
end Go.Proofs.Ytfceajkofpafpaa
