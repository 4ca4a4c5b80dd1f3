/- The walks of what is read of a list; whether it is one. -/
import Derived.Test.YtofjipmheckmjaaWalk2
namespace Go.Proofs.Ytofjipmheckmjaa
open Go Go.Eng Go.RowKit Go.Proofs
set_option maxRecDepth 100000
/-- the interface's methods, of either test -/
theorem y_of {X : Ctx} {L : List (Nat × Value)} {rs : List Res} {ty : TypeId} {g : Operand} {args : List Operand} {ats : Array TypeId} {b : Bx} {a : Option Addr} {c : Nat} {t : Te} {i : Nat} {m : Int} {w : World} (hP : X.P = Try.prog) (hB : RowsA kdRow 3 0 w a b.kinds) (hm : Res.reg 0 w ∈ rs) (hok : bxB b = true) (ht : teB b t = true) (hi : i < b.kinds.length) (hmm : 0 ≤ m ∧ m ≤ 2003)
    (hg : ev L g = some (testerV b a c t)) (hv : EvL L args [.int .i64 i, .int .i64 m]) : OpY X L rs (.call { callee := .invoke g "jigworks/scale.of", args := args.toArray, argTypes := ats }) ty (.agg (spRow (ofV b t i m)).toArray) := by
  cases X; dsimp only at hP; subst hP
  have hbp := bxB_parts hok
  unfold testerV at hg
  by_cases h0 : t.how = 0
  · rw [if_pos h0] at hg
    exact y_invoke (f := 113) (rv' := .agg (bxRow b a c ++ teRow t).toArray) hg (fun w => by kernel_rfl) Try.call113 hv fun w1 hw1 => of113 w1 b a c (hB.at hw1 hm) hok t h0 i hi m hmm
  · rw [if_neg h0] at hg
    have hp := pw2_le (show b.kinds.length ≤ 20 by omega)
    obtain ⟨st, hst⟩ : ∃ st : Nat, t.set = st := ⟨t.set.toNat, by have := (teB_parts ht).1; omega⟩
    exact y_invoke (f := 115) (rv' := .agg (teRow t).toArray) hg (fun w => by kernel_rfl) Try.call115 hv fun w1 hw1 => of115 w1 b t h0 st hst (by have := (teB_parts ht).1; omega) i (by omega) m
theorem y_bes {X : Ctx} {L : List (Nat × Value)} {rs : List Res} {ty : TypeId} {g : Operand} {ats : Array TypeId} {b : Bx} {a : Option Addr} {c : Nat} {t : Te} (hP : X.P = Try.prog) (hok : bxB b = true) (ht : teB b t = true)
    (hg : ev L g = some (testerV b a c t)) : OpY X L rs (.call { callee := .invoke g "jigworks/scale.besides", args := #[], argTypes := ats }) ty (.agg (spRow (besV b t)).toArray) := by
  cases X; dsimp only at hP; subst hP
  unfold testerV at hg
  by_cases h0 : t.how = 0
  · rw [if_pos h0] at hg
    exact y_invoke (f := 112) (args := []) (vs := []) (rv' := .agg (bxRow b a c ++ teRow t).toArray) hg (fun w => by kernel_rfl) Try.call112 EvL.nil fun w1 _ => besides112 w1 b a c hok t ht h0
  · rw [if_neg h0] at hg
    exact y_invoke (f := 114) (args := []) (vs := []) (rv' := .agg (teRow t).toArray) hg (fun w => by kernel_rfl) Try.call114 EvL.nil fun w1 _ => besides114 w1 b t h0
theorem y_nilOf {X : Ctx} {L : List (Nat × Value)} {rs : List Res} {ty : TypeId} {x : Operand} {b : Bx} {a : Option Addr} {c : Nat} {t : Te} (hP : X.P = Try.prog) (hx : ev L x = some (.func (.method "jigworks/scale.of") #[testerV b a c t] #[])) : OpS X L rs (.nilCheck x) ty (.func (.method "jigworks/scale.of") #[testerV b a c t] #[]) := by
  cases X; dsimp only at hP; subst hP
  unfold testerV at hx ⊢
  by_cases h0 : t.how = 0
  · rw [if_pos h0] at hx ⊢; exact y_nilCheckM hx (fun w => by kernel_rfl)
  · rw [if_neg h0] at hx ⊢; exact y_nilCheckM hx (fun w => by kernel_rfl)

theorem reads74 (w : World) (b : Bx) (a : Option Addr) (c : Nat) (hB : RowsA kdRow 3 0 w a b.kinds) (hok : bxB b = true) (t : Te) (ht : teB b t = true) (i : Nat) (hi : i < b.kinds.length) (n : Int) (hn : 0 ≤ (b.kinds.getD i kd0).many + n ∧ (b.kinds.getD i kd0).many + n ≤ 2003) (s : Sp) (hs : (-1000000 ≤ s.lo ∧ s.lo ≤ 2000000000) ∧ -1000000 ≤ s.hi ∧ s.hi ≤ 2000000000) (pt pb : Addr) (h1 : CA 0 w pt [testerV b a c t]) (h2 : CA 0 w pb (bxRow b a c)) : Calls Try.prog 74 #[.agg (spRow s).toArray, .int .i64 i, .int .i64 n, .pointer (some pt), .pointer (some pb)] w fun e w' => e = .returned (.agg (spRow (plusV s (ofV b t i ((b.kinds.getD i kd0).many + n)))).toArray) ∧ Below w.heap.size w w' := by
  have hk := kd_bd hok hi
  have ho := of_bd (t := t) hok hi hn
  have hsm := (hB.get kd0 hi).1
  have hca := (hB.get kd0 hi).2
  refine calls_of_SC (args := [.agg (spRow s).toArray, .int .i64 i, .int .i64 n, .pointer (some pt), .pointer (some pb)]) Try.func74 rfl Try.ntmps74 rfl ?_
  simp only [argL, Nat.reduceAdd, Nat.zero_add]
  refine sc_seq ?_
  refine sc_region ?_
  refine sq_box RF rfl (fun b5 => ?_)
  refine sq_alloc Try.zeroValue81 rfl (fun b8 => ?_)
  refine sq_nil ?_
  refine sx_then ?_
  refine sc_seq ?_
  refine sc_drawR (by kernel_rfl) ?_
  refine xj_s 0 RF (by kernel_rfl) SE LD81 rfl ?_
  refine xj_s 1 RF (by kernel_rfl) SE (by first | exact y_load_ca0 Try.underlying113 rfl RF MM h1 rfl | exact LD113) rfl ?_
  refine xj_s 2 RF (by kernel_rfl) SE (y_move RF) rfl ?_
  refine xj_s 3 RF (by kernel_rfl) SE FA26_22 rfl ?_
  refine xj_s 4 RF (by kernel_rfl) SE (by first | exact y_load_ca0 Try.underlying22 rfl RF MM h2 rfl | exact LD22) rfl ?_
  refine xj_s 5 RF (by kernel_rfl) SE (y_move RF) rfl ?_
  refine xj_s 6 RF (by kernel_rfl) SE IA22 rfl ?_
  refine xj_s 7 RF (by kernel_rfl) SE FA74_3 rfl ?_
  refine xj_s 8 RF (by kernel_rfl) SE (by first | exact y_load_ca0 Try.underlying3 rfl RF MM hca rfl | exact LD3) rfl ?_
  refine xj_s 9 RF (by kernel_rfl) SE (y_move RF) rfl ?_
  refine xj_s 10 RF (by kernel_rfl) SE (y_add RF RF (by omega)) rfl ?_
  refine xj_s 11 RF (by kernel_rfl) SE (y_makeFunc (EvL.cons RF EvL.nil) EvL.nil) rfl ?_
  refine xj_s 12 RF (by kernel_rfl) SE (y_nilOf rfl RF) rfl ?_
  refine xj_s 13 RF (by kernel_rfl) SE (y_move RF) rfl ?_
  refine xj_one 14 RF (by kernel_rfl) ?_
  refine qy (y_of rfl hB MM hok ht hi hn RF (EvL.cons RF (EvL.cons RF EvL.nil))) ?_
  refine sq_nil ?_
  refine sx_xp SE ?_
  refine xj_one 15 RF (by kernel_rfl) ?_
  refine qy (yc Try.call75 E2 (fun w1 _ => plus75 w1 s _ (by omega) (by omega))) ?_
  refine sq_nil ?_
  refine sx_xp SE ?_
  refine xj_one 16 RF (by kernel_rfl) ?_
  refine sq_store_all Try.sizeOf81 RF RF rfl RM rfl rfl ?_
  refine sq_nil ?_
  refine sx_xpl (by kernel_rfl) ?_
  refine xj_done (by kernel_rfl) ?_
  refine sx_then ?_
  refine sc_ret ?_
  refine sx_retc (.inl rfl) rfl Try.results74 Try.underlying81 rfl Try.sizeOf81 RF MM rfl ?_
  intro w' hw'
  exact ⟨rfl, hw'.below MM⟩
theorem fold73 (w : World) (al : Option Addr) (cl : Nat) (l : List Int) (hl : RowsA iRow 1 0 w al l) (g : FuncId) (caps : List Value) (F : Nat → Sp) (hcg : ∀ args w, (callFunc g args).run Try.prog w = .ok (.enter g args) w) (hp : ∀ i, i < l.length → ∀ w1, Below w.heap.size w w1 → Calls Try.prog g (.agg (spRow (F i)).toArray :: .int .i64 i :: .int .i64 (l.getD i 0) :: caps).toArray w1 fun e w' => e = .returned (.agg (spRow (F (i + 1))).toArray) ∧ Below w1.heap.size w1 w') : Calls Try.prog 73 #[.agg (spRow (F 0)).toArray, .slice al l.length cl, .func (.func g) #[] caps.toArray] w fun e w' => e = .returned (.agg (spRow (F l.length)).toArray) ∧ Below w.heap.size w w' := by
  have hlen := hl.len
  refine calls_of_SC (args := [.agg (spRow (F 0)).toArray, .slice al l.length cl, .func (.func g) #[] caps.toArray]) Try.func73 rfl Try.ntmps73 rfl ?_
  simp only [argL, Nat.reduceAdd, Nat.zero_add]
  refine sc_seq ?_
  refine sc_region ?_
  refine sq_box RF rfl (fun b3 => ?_)
  refine sq_alloc Try.zeroValue81 rfl (fun b6 => ?_)
  refine sq_nil ?_
  refine sx_then ?_
  refine sc_seq ?_
  refine sc_seq ?_
  refine sc_region ?_
  refine qs (y_move RF) ?_
  refine qs (y_len Try.underlying27 RF) ?_
  refine qs (y_move RF) ?_
  refine sq_nil ?_
  refine sx_then ?_
  refine sc_block ?_
  refine sc_loop (σ := Nat)
    (fun s => [(2, .func (.func g) #[] caps.toArray), (3, .pointer (some ⟨b3, 0, none⟩)), (6, .pointer (some ⟨b6, 0, none⟩)), (9, .slice al l.length cl), (10, .int .i64 l.length), (11, .int .i64 s)])
    (fun s => [.blk b6 (.cells [.int .i64 0, .int .i64 0].toArray 81 (0, 0)), .blk b3 (.cells (spRow (F s)).toArray 81 (0, 0)), .reg 0 w])
    (fun s => s ≤ l.length)
    (fun s => l.length - s)
    (0) ?_ SU SE ?_
  · exact Nat.zero_le _
  rintro k hk
  refine sc_seq ?_
  refine sc_region ?_
  refine qs (y_lss RF RF) ?_
  refine sq_nil ?_
  refine sx_then ?_
  refine sc_seq ?_
  refine scp (fun hc0 => ?_) (fun hc0 => ?_)
  ·
    have hk' : k < l.length := by omega
    have hsm := (hl.get 0 hk').1
    have hca := (hl.get 0 hk').2
    refine sc_skip ?_
    refine sx_then ?_
    refine sc_seq ?_
    refine sc_block ?_
    refine sc_seq ?_
    refine sc_region ?_
    refine qs (y_move RF) ?_
    refine qs IA27 ?_
    refine qs (by first | exact y_load_ca0 Try.underlying3 rfl RF MM hca rfl | exact LD3) ?_
    refine qs (y_assign RF) ?_
    refine qs (y_assign RF) ?_
    refine sq_nil ?_
    refine sx_then ?_
    refine sc_region ?_
    refine qs (y_move RF) ?_
    refine qs LD81 ?_
    refine qs (y_move RF) ?_
    refine qs (y_move RF) ?_
    refine qy (y_call (first := []) (caps := caps) RF hcg (EvL.cons RF (EvL.cons RF (EvL.cons RF EvL.nil))) (fun w1 hw1 => hp k hk' w1 (hw1.below MM))) ?_
    refine sq_store_all Try.sizeOf81 RF RF rfl RM rfl rfl ?_
    refine sq_nil ?_
    refine sx_blk ?_
    refine sx_then ?_
    refine sc_region ?_
    refine qs (y_add RF RF (by omega)) ?_
    refine qs (y_move RF) ?_
    refine sq_nil ?_
    refine sx_round (k + 1) ?_ ?_ SU SE
    · omega
    · omega
  ·
    refine sc_exit ?_
    refine sx_then_exit ?_
    refine sx_round_exit ?_
    refine sx_blk_hit ?_
    refine sx_then ?_
    refine sc_seq ?_
    refine sc_region ?_
    refine qs LD81 ?_
    refine sq_store_all Try.sizeOf81 RF RF rfl RM rfl rfl ?_
    refine sq_nil ?_
    refine sx_then ?_
    refine sc_ret ?_
    refine sx_retc (.inl rfl) rfl Try.results73 Try.underlying81 rfl Try.sizeOf81 RF MM rfl ?_
    intro w' hw'
    refine ⟨?_, hw'.below MM⟩
    have hkn : k = l.length := by omega
    rw [hkn]
theorem reads47 (w : World) (b : Bx) (a : Option Addr) (c : Nat) (hB : RowsA kdRow 3 0 w a b.kinds) (hok : bxB b = true) (al : Option Addr) (cl : Nat) (l : List Int) (hl : RowsA iRow 1 0 w al l) (hh : HasOk b l) (t : Te) (ht : teB b t = true) : Calls Try.prog 47 #[.agg (bxRow b a c).toArray, .slice al l.length cl, .agg (teRow t).toArray] w fun e w' => e = .returned (.agg (spRow (readV b t l)).toArray) ∧ Below w.heap.size w w' := by
  have hbp := bxB_parts hok
  have hrd := readK_bd hok ht hh
  have htv : (testerV b a c t).oneCell' = true := by unfold testerV; split <;> rfl
  refine calls_of_SC (args := [.agg (bxRow b a c).toArray, .slice al l.length cl, .agg (teRow t).toArray]) Try.func47 rfl Try.ntmps47 rfl ?_
  simp only [argL, Nat.reduceAdd, Nat.zero_add]
  refine sc_seq ?_
  refine sc_region ?_
  refine sq_box RF rfl (fun b3 => ?_)
  refine sq_box RF rfl (fun b5 => ?_)
  refine sq_alloc Try.zeroValue81 rfl (fun b6 => ?_)
  refine sq_nil ?_
  refine sx_then ?_
  refine sc_seq ?_
  refine sc_region ?_
  refine qs LD26 ?_
  refine qs LD29 ?_
  refine qy (yc Try.call72 E2 (fun w1 _ => newTester72 w1 b a c t)) ?_
  refine sq_alloc Try.zeroValue113 rfl (fun b7 => ?_)
  refine sq_store Try.sizeOf113 RF RF (by first | rfl | assumption) RM (by first | exact Nat.le_of_ble_eq_true rfl | simp | omega) ?_
  refine sq_nil ?_
  refine sx_then ?_
  refine sc_seq ?_
  refine sc_region ?_
  refine qs LD113 ?_
  refine qy (y_bes (b := b) (a := a) (c := c) (t := t) rfl hok ht RF) ?_
  refine qs (y_move RF) ?_
  refine qs (y_makeFunc EvL.nil (EvL.cons RF (EvL.cons RF EvL.nil))) ?_
  refine qy (yc Try.call73 E3 (fun w1 hw1 => (fold73 w1 al cl l (hl.at hw1 MM) 74 [.pointer (some ⟨b7, 0, none⟩), .pointer (some ⟨b3, 0, none⟩)] (readK b t l) Try.call74 (fun i hi w2 hb2 => reads74 w2 b a c ((hB.at hw1 MM).below hb2) hok t ht i (by rw [← hh.len]; exact hi) _ (hh.bd i hi) _ (by have h1 := hrd i (by omega); have h2 := hh.len; omega) ⟨b7, 0, none⟩ ⟨b3, 0, none⟩ (CA.below (CA.blk (vs := [testerV b a c t]) hw1 MM) hb2) (CA.below (CA.blk (vs := bxRow b a c) hw1 MM) hb2))))) ?_
  refine sq_store_all Try.sizeOf81 RF RF rfl RM rfl rfl ?_
  refine sq_nil ?_
  refine sx_then ?_
  refine sc_ret ?_
  refine sx_retc (.inl rfl) rfl Try.results47 Try.underlying81 rfl Try.sizeOf81 RF MM rfl ?_
  intro w' hw'
  exact ⟨rfl, hw'.below MM⟩
theorem read48 (w : World) (b : Bx) (a : Option Addr) (c : Nat) (hB : RowsA kdRow 3 0 w a b.kinds) (hok : bxB b = true) (al : Option Addr) (cl : Nat) (l : List Int) (hl : RowsA iRow 1 0 w al l) (hh : HasOk b l) (t : Te) (ht : teB b t = true) : Calls Try.prog 48 #[.agg (bxRow b a c).toArray, .slice al l.length cl, .agg (teRow t).toArray] w fun e w' => e = .returned (.agg (spRow (readV b t l)).toArray) ∧ Below w.heap.size w w' := by
  have hbp := bxB_parts hok
  have htp := teB_parts ht
  have hrd := readK_bd hok ht hh
  have hlen := hl.len
  have hhl := hh.len
  have hp := pw2_le (show b.kinds.length ≤ 20 by omega)
  refine calls_of_SC (args := [.agg (bxRow b a c).toArray, .slice al l.length cl, .agg (teRow t).toArray]) Try.func48 rfl Try.ntmps48 rfl ?_
  simp only [argL, Nat.reduceAdd, Nat.zero_add]
  refine sc_seq ?_
  refine sc_region ?_
  refine sq_box RF rfl (fun b3 => ?_)
  refine sq_box RF rfl (fun b5 => ?_)
  refine sq_alloc Try.zeroValue24 rfl (fun b6 => ?_)
  refine sq_nil ?_
  refine sx_then ?_
  refine sc_seq ?_
  refine sc_region ?_
  refine qs FA29_24 ?_
  refine qs LD24 ?_
  refine sq_alloc Try.zeroValue24 rfl (fun b7 => ?_)
  refine sq_store_all Try.sizeOf24 RF RF rfl RM rfl rfl ?_
  refine sq_nil ?_
  refine sx_then ?_
  refine sc_seq ?_
  refine sc_seq ?_
  refine sc_region ?_
  refine qs FA29_3 ?_
  refine qs LD3 ?_
  refine qs (y_eql RF RF) ?_
  refine sq_nil ?_
  refine sx_then ?_
  refine sc_midE (Z := {x : Sp // x = readK b t l 0}) (fun _ => [(1, .slice al l.length cl), (3, .pointer (some ⟨b3, 0, none⟩)), (5, .pointer (some ⟨b5, 0, none⟩)), (6, .pointer (some ⟨b6, 0, none⟩)), (7, .pointer (some ⟨b7, 0, none⟩))]) (fun x => [.blk b7 (.cells (spRow x.1).toArray 24 (0, 0)), .blk b6 (.cells [.int .i64 0, .int .i64 0].toArray 24 (0, 0)), .blk b5 (.cells (teRow t).toArray 29 (0, 0)), .blk b3 (.cells (bxRow b a c).toArray 26 (0, 0)), .reg 0 w]) ?_ ?_
  ·
    refine scp (fun hc0 => ?_) (fun hc0 => ?_)
    ·
      refine sc_region ?_
      refine qs FA24_3 ?_
      refine qs LD3 ?_
      refine qs FA26_24 ?_
      refine qs FA24_3 ?_
      refine qs LD3 ?_
      refine qs (y_add RF RF (by omega)) ?_
      refine qs FA24_3 ?_
      refine qs LD3 ?_
      refine qs FA26_24 ?_
      refine qs FA24_3 ?_
      refine qs LD3 ?_
      refine qs (y_add RF RF (by omega)) ?_
      refine qs (y_build bt24 (EvP.cons RF (EvP.cons RF EvP.nil)) RF) ?_
      refine sq_store_all Try.sizeOf24 RF RF rfl RM rfl rfl ?_
      refine sq_nil ?_
      exact sx_midE (⟨⟨t.err.lo + b.bag.lo, t.err.hi + b.bag.hi⟩, by unfold readK besV; rw [if_pos hc0]⟩) SU SR
    ·
      refine sc_skip ?_
      exact sx_midE (⟨t.err, by unfold readK besV; rw [if_neg hc0]⟩) SU SR
  rintro ⟨x0, hx0⟩
  try dsimp only
  refine sx_then ?_
  refine sc_seq ?_
  refine sc_seq ?_
  refine sc_region ?_
  refine qs (y_assign RF) ?_
  refine sq_nil ?_
  refine sx_then ?_
  refine sc_block ?_
  refine sc_loop (σ := Nat × Sp)
    (fun s => [(1, .slice al l.length cl), (3, .pointer (some ⟨b3, 0, none⟩)), (5, .pointer (some ⟨b5, 0, none⟩)), (6, .pointer (some ⟨b6, 0, none⟩)), (7, .pointer (some ⟨b7, 0, none⟩)), (8, .int .i64 s.1)])
    (fun s => [.blk b7 (.cells (spRow s.2).toArray 24 (0, 0)), .blk b6 (.cells [.int .i64 0, .int .i64 0].toArray 24 (0, 0)), .blk b5 (.cells (teRow t).toArray 29 (0, 0)), .blk b3 (.cells (bxRow b a c).toArray 26 (0, 0)), .reg 0 w])
    (fun s => s.1 ≤ l.length ∧ s.2 = readK b t l s.1)
    (fun s => l.length - s.1)
    ((0, x0)) ?_ SU SR ?_
  · exact ⟨Nat.zero_le _, hx0⟩
  rintro ⟨k, q⟩ ⟨hk, hq⟩
  dsimp only at hk hq ⊢
  refine sc_seq ?_
  refine sc_seq ?_
  refine sc_region ?_
  refine qs (y_move RF) ?_
  refine qs (y_move RF) ?_
  refine qs (y_len Try.underlying27 RF) ?_
  refine qs (y_lss RF RF) ?_
  refine sq_nil ?_
  refine sx_then ?_
  refine scp (fun hc1 => ?_) (fun hc1 => ?_)
  ·
    have hk' : k < l.length := by omega
    have hkk : k < b.kinds.length := by omega
    have hsm := (hl.get 0 hk').1
    have hca := (hl.get 0 hk').2
    have hsmk := (hB.get kd0 hkk).1
    have hcak := (hB.get kd0 hkk).2
    have hbd := kd_bd hok hkk
    have hmm := hh.bd k hk'
    have hrk := hrd k hk
    rw [← hq] at hrk
    have m1 := mul_bd (b := (b.kinds.getD k kd0).wt.lo) hmm (show 0 ≤ (b.kinds.getD k kd0).wt.lo ∧ (b.kinds.getD k kd0).wt.lo ≤ 100000 by omega)
    have m2 := mul_bd (b := (b.kinds.getD k kd0).wt.hi) hmm (show 0 ≤ (b.kinds.getD k kd0).wt.hi ∧ (b.kinds.getD k kd0).wt.hi ≤ 100000 by omega)
    refine sc_skip ?_
    refine sx_then ?_
    refine sc_seq ?_
    refine sc_block ?_
    refine sc_seq ?_
    refine sc_draw rfl (by kernel_rfl) (by kernel_rfl) ?_
    refine qq_y (OpY.s FA26_22) rfl ?_
    refine qq_y (OpY.s LD22) rfl ?_
    refine qq_y (OpY.s (y_move RF)) rfl ?_
    refine qq_y (OpY.s IA22) rfl ?_
    refine qq_y (OpY.s FA74_3) rfl ?_
    refine qq_y (OpY.s (by first | exact y_load_caj (j := 0) Try.underlying3 rfl RF MM hcak rfl | exact y_load_ca0 Try.underlying3 rfl RF MM hcak rfl | exact LD3)) rfl ?_
    refine qq_y (OpY.s (y_move RF)) rfl ?_
    refine qq_y (OpY.s (y_move RF)) rfl ?_
    refine qq_y (OpY.s IA27) rfl ?_
    refine qq_y (OpY.s (by first | exact y_load_ca0 Try.underlying3 rfl RF MM hca rfl | exact LD3)) rfl ?_
    refine qq_y (OpY.s (y_add RF RF (by omega))) rfl ?_
    refine qq_y (OpY.s (y_assign RF)) rfl ?_
    refine qq_nil ?_
    refine sx_then ?_
    refine sc_seq ?_
    refine sc_region ?_
    refine qs FA29_3 ?_
    refine qs LD3 ?_
    refine qs (y_eql RF RF) ?_
    refine sq_nil ?_
    refine sx_then ?_
    refine scp (fun hc2 => ?_) (fun hc2 => ?_)
    ·
      refine sc_drawR (by kernel_rfl) ?_
      refine xj_s 0 RF (by kernel_rfl) SR FA24_3 rfl ?_
      refine xj_s 1 RF (by kernel_rfl) SR LD3 rfl ?_
      refine xj_s 2 RF (by kernel_rfl) SR (y_move RF) rfl ?_
      refine xj_s 3 RF (by kernel_rfl) SR FA26_22 rfl ?_
      refine xj_s 4 RF (by kernel_rfl) SR LD22 rfl ?_
      refine xj_s 5 RF (by kernel_rfl) SR (y_move RF) rfl ?_
      refine xj_s 6 RF (by kernel_rfl) SR IA22 rfl ?_
      refine xj_s 7 RF (by kernel_rfl) SR FA74_24 rfl ?_
      refine xj_s 8 RF (by kernel_rfl) SR FA24_3 rfl ?_
      refine xj_s 9 RF (by kernel_rfl) SR (by first | exact y_load_cajj (o1 := 1) (o2 := 0) Try.underlying3 rfl RF MM hcak rfl | exact y_load_cajj (o1 := 1) (o2 := 1) Try.underlying3 rfl RF MM hcak rfl | exact LD3) rfl ?_
      refine xj_s 10 RF (by kernel_rfl) SR (y_mul RF RF (by omega)) rfl ?_
      refine xj_s 11 RF (by kernel_rfl) SR (y_add RF RF (by omega)) rfl ?_
      refine xj_s 12 RF (by kernel_rfl) SR FA24_3 rfl ?_
      refine xj_s 13 RF (by kernel_rfl) SR LD3 rfl ?_
      refine xj_s 14 RF (by kernel_rfl) SR (y_move RF) rfl ?_
      refine xj_s 15 RF (by kernel_rfl) SR FA26_22 rfl ?_
      refine xj_s 16 RF (by kernel_rfl) SR LD22 rfl ?_
      refine xj_s 17 RF (by kernel_rfl) SR (y_move RF) rfl ?_
      refine xj_s 18 RF (by kernel_rfl) SR IA22 rfl ?_
      refine xj_s 19 RF (by kernel_rfl) SR FA74_24 rfl ?_
      refine xj_s 20 RF (by kernel_rfl) SR FA24_3 rfl ?_
      refine xj_s 21 RF (by kernel_rfl) SR (by first | exact y_load_cajj (o1 := 1) (o2 := 0) Try.underlying3 rfl RF MM hcak rfl | exact y_load_cajj (o1 := 1) (o2 := 1) Try.underlying3 rfl RF MM hcak rfl | exact LD3) rfl ?_
      refine xj_s 22 RF (by kernel_rfl) SR (y_mul RF RF (by omega)) rfl ?_
      refine xj_s 23 RF (by kernel_rfl) SR (y_add RF RF (by omega)) rfl ?_
      refine xj_s 24 RF (by kernel_rfl) SR (y_build bt24 (EvP.cons RF (EvP.cons RF EvP.nil)) RF) rfl ?_
      refine xj_one 25 RF (by kernel_rfl) ?_
      refine sq_store_all Try.sizeOf24 RF RF rfl RM rfl rfl ?_
      refine sq_nil ?_
      refine sx_xpl (by kernel_rfl) ?_
      refine xj_done (by kernel_rfl) ?_
      refine sx_blk ?_
      refine sx_then ?_
      refine sc_region ?_
      refine qs (y_move RF) ?_
      refine qs (y_add RF RF (by omega)) ?_
      refine qs (y_assign RF) ?_
      refine sq_nil ?_
      refine sx_round ((k + 1, ⟨q.lo + ((b.kinds.getD k kd0).many + l.getD k 0) * (b.kinds.getD k kd0).wt.lo, q.hi + ((b.kinds.getD k kd0).many + l.getD k 0) * (b.kinds.getD k kd0).wt.hi⟩)) ?_ ?_ SU SR
      · refine ⟨by omega, ?_⟩
        dsimp only
        unfold readK plusV ofV; rw [if_pos hc2, hq]
      · omega
    ·
      refine sc_seq ?_
      refine sc_region ?_
      refine qs FA29_3 ?_
      refine qs LD3 ?_
      refine qs (y_move RF) ?_
      refine qy (yc Try.call59 E2 (fun w1 _ => in59 w1 t.set k (by omega) (by omega))) ?_
      refine sq_nil ?_
      refine sx_then ?_
      refine scp (fun hc3 => ?_) (fun hc3 => ?_)
      ·
        refine sc_region ?_
        refine qs FA24_3 ?_
        refine qs LD3 ?_
        refine qs (y_move RF) ?_
        refine qs (y_add RF RF (by omega)) ?_
        refine qs FA24_3 ?_
        refine qs LD3 ?_
        refine qs (y_move RF) ?_
        refine qs (y_add RF RF (by omega)) ?_
        refine qs (y_build bt24 (EvP.cons RF (EvP.cons RF EvP.nil)) RF) ?_
        refine sq_store_all Try.sizeOf24 RF RF rfl RM rfl rfl ?_
        refine sq_nil ?_
        refine sx_blk ?_
        refine sx_then ?_
        refine sc_region ?_
        refine qs (y_move RF) ?_
        refine qs (y_add RF RF (by omega)) ?_
        refine qs (y_assign RF) ?_
        refine sq_nil ?_
        refine sx_round ((k + 1, ⟨q.lo + ((b.kinds.getD k kd0).many + l.getD k 0), q.hi + ((b.kinds.getD k kd0).many + l.getD k 0)⟩)) ?_ ?_ SU SR
        · refine ⟨by omega, ?_⟩
          dsimp only
          unfold readK plusV ofV; rw [if_neg hc2, if_pos (show inS t.set k = true by simpa [inS] using hc3), hq]
        · omega
      ·
        refine sc_skip ?_
        refine sx_blk ?_
        refine sx_then ?_
        refine sc_region ?_
        refine qs (y_move RF) ?_
        refine qs (y_add RF RF (by omega)) ?_
        refine qs (y_assign RF) ?_
        refine sq_nil ?_
        refine sx_round ((k + 1, q)) ?_ ?_ SU SR
        · refine ⟨by omega, ?_⟩
          dsimp only
          unfold readK plusV ofV; rw [if_neg hc2, if_neg (show ¬ inS t.set k = true by simpa [inS] using hc3), ← hq]; simp [sp0]
        · omega
  ·
    refine sc_exit ?_
    refine sx_then_exit ?_
    refine sx_round_exit ?_
    refine sx_blk_hit ?_
    refine sx_then ?_
    refine sc_seq ?_
    refine sc_region ?_
    refine qs LD24 ?_
    refine sq_store_all Try.sizeOf24 RF RF rfl RM rfl rfl ?_
    refine sq_nil ?_
    refine sx_then ?_
    refine sc_ret ?_
    refine sx_retc (.inl rfl) rfl Try.results48 Try.underlying24 rfl Try.sizeOf24 RF MM rfl ?_
    intro w' hw'
    refine ⟨?_, hw'.below MM⟩
    have hkn : k = l.length := by omega
    rw [hq, hkn]; rfl
theorem passes86 (w : World) (b : Bx) (a : Option Addr) (c : Nat) (hB : RowsA kdRow 3 0 w a b.kinds) (hok : bxB b = true) (al : Option Addr) (cl : Nat) (l : List Int) (hl : RowsA iRow 1 0 w al l) (hh : HasOk b l) (t : Te) (ht : teB b t = true) : Calls Try.prog 86 #[.agg (bxRow b a c).toArray, .slice al l.length cl, .agg (teRow t).toArray] w fun e w' => e = .returned (.bool (meetsV (readV b t l) t.pass)) ∧ Below w.heap.size w w' := by
  refine calls_of_SC (args := [.agg (bxRow b a c).toArray, .slice al l.length cl, .agg (teRow t).toArray]) Try.func86 rfl Try.ntmps86 rfl ?_
  simp only [argL, Nat.reduceAdd, Nat.zero_add]
  refine sc_seq ?_
  refine sc_region ?_
  refine sq_box RF rfl (fun b3 => ?_)
  refine sq_box RF rfl (fun b5 => ?_)
  refine qs (y_assign RF) ?_
  refine sq_nil ?_
  refine sx_then ?_
  refine sc_seq ?_
  refine sc_region ?_
  refine qs LD26 ?_
  refine qs (y_move RF) ?_
  refine qs LD29 ?_
  refine qy (yc Try.call48 E3 (fun w1 hw1 => read48 w1 b a c (hB.at hw1 MM) hok al cl l (hl.at hw1 MM) hh t ht)) ?_
  refine sq_alloc Try.zeroValue24 rfl (fun b7 => ?_)
  refine sq_store_all Try.sizeOf24 RF RF rfl RM rfl rfl ?_
  refine sq_nil ?_
  refine sx_then ?_
  refine sc_seq ?_
  refine sc_region ?_
  refine qs FA24_3 ?_
  refine qs LD3 ?_
  refine qs FA29_24 ?_
  refine qs FA24_3 ?_
  refine qs LD3 ?_
  refine qs (y_leq RF RF) ?_
  refine qs (y_move RF) ?_
  refine sp 18 (fun hg2_6 => ?_) (fun hg2_6 => ?_)
  ·
    refine qg FA29_24 ?_
    refine qg FA24_3 ?_
    refine qg LD3 ?_
    refine qg FA24_3 ?_
    refine qg LD3 ?_
    refine qg (y_leq RF RF) ?_
    refine qs (y_pick_t RF RF) ?_
    refine qs (y_assign RF) ?_
    refine sq_nil ?_
    refine sx_then ?_
    refine sc_ret ?_
    refine sx_ret1 (.inl rfl) rfl Try.results86 RF ?_
    intro w' hw'
    refine ⟨?_, hw'.below MM⟩
    unfold meetsV; simp [*]
  ·
    refine qf ?_
    refine qf ?_
    refine qf ?_
    refine qf ?_
    refine qf ?_
    refine qf ?_
    refine qs (y_pick_f RF RF) ?_
    refine qs (y_assign RF) ?_
    refine sq_nil ?_
    refine sx_then ?_
    refine sc_ret ?_
    refine sx_ret1 (.inl rfl) rfl Try.results86 RF ?_
    intro w' hw'
    refine ⟨?_, hw'.below MM⟩
    unfold meetsV; simp [*]
/-- how many are lost, extra, of the first k kinds -/
def lostK (has : List Int) : Nat → Int
  | 0 => 0
  | k + 1 => lostK has k + max 0 (-(has.getD k 0))
def extraK (has : List Int) : Nat → Int
  | 0 => 0
  | k + 1 => extraK has k + max 0 (has.getD k 0)
def okC (b : Bx) (has : List Int) (i : Nat) : Bool := decide (-(b.kinds.getD i kd0).many ≤ has.getD i 0 ∧ -4 ≤ has.getD i 0 ∧ has.getD i 0 ≤ 3)
def canV (b : Bx) (has : List Int) : Bool := decide (has.length = b.kinds.length) && (List.range has.length).all (okC b has) && decide (lostK has has.length ≤ b.lost ∧ extraK has has.length ≤ b.extra)
theorem max_z (x : Int) : (if (0 : Int) < x then x else 0) = max 0 x := by omega

theorem can38 (w : World) (b : Bx) (a : Option Addr) (c : Nat) (hB : RowsA kdRow 3 0 w a b.kinds) (hok : bxB b = true) (al : Option Addr) (cl : Nat) (l : List Int) (hl : RowsA iRow 1 0 w al l) : Calls Try.prog 38 #[.agg (bxRow b a c).toArray, .slice al l.length cl] w fun e w' => e = .returned (.bool (canV b l)) ∧ Below w.heap.size w w' := by
  have hbp := bxB_parts hok
  have hlen := hl.len
  have hblen := hB.len
  refine calls_of_SC (args := [.agg (bxRow b a c).toArray, .slice al l.length cl]) Try.func38 rfl Try.ntmps38 rfl ?_
  simp only [argL, Nat.zero_add]
  refine sc_seq ?_
  refine sc_region ?_
  refine sq_box RF rfl (fun b2 => ?_)
  refine qs (y_assign RF) ?_
  refine sq_nil ?_
  refine sx_then ?_
  refine sc_seq ?_
  refine sc_seq ?_
  refine sc_region ?_
  refine qs (y_move RF) ?_
  refine qs (y_len Try.underlying27 RF) ?_
  refine qs FA26_22 ?_
  refine qs LD22 ?_
  refine qs (y_len Try.underlying22 RF) ?_
  refine qs (y_neq RF RF) ?_
  refine sq_nil ?_
  refine sx_then ?_
  refine scp (fun hc0 => ?_) (fun hc0 => ?_)
  ·
    refine sc_seq ?_
    refine sc_region ?_
    refine qs (y_assign RF) ?_
    refine sq_nil ?_
    refine sx_then ?_
    refine sc_ret ?_
    refine sx_then_ret ?_
    refine sx_ret1 (.inl rfl) rfl Try.results38 RF ?_
    intro w' hw'
    refine ⟨?_, hw'.below MM⟩
    unfold canV; simp [show ¬ l.length = b.kinds.length by omega]
  ·
    refine sc_skip ?_
    refine sx_then ?_
    refine sc_seq ?_
    refine sc_region ?_
    refine qs (y_assign RF) ?_
    refine qs (y_assign RF) ?_
    refine sq_nil ?_
    refine sx_then ?_
    refine sc_seq ?_
    refine sc_seq ?_
    refine sc_region ?_
    refine qs (y_assign RF) ?_
    refine sq_nil ?_
    refine sx_then ?_
    refine sc_block ?_
    refine sc_loop (σ := Nat)
      (fun s => [(1, .slice al l.length cl), (2, .pointer (some ⟨b2, 0, none⟩)), (5, .int .i64 (lostK l s)), (6, .int .i64 (extraK l s)), (7, .int .i64 s)])
      (fun s => [.blk b2 (.cells (bxRow b a c).toArray 26 (0, 0)), .reg 0 w])
      (fun s => s ≤ l.length ∧ (0 ≤ lostK l s ∧ lostK l s ≤ 4 * s) ∧ (0 ≤ extraK l s ∧ extraK l s ≤ 3 * s) ∧ ∀ j, j < s → okC b l j = true)
      (fun s => l.length - s)
      (0) ?_ SU SE ?_
    · exact ⟨Nat.zero_le _, ⟨Int.le_refl _, Int.le_refl _⟩, ⟨Int.le_refl _, Int.le_refl _⟩, fun j hj => absurd hj (Nat.not_lt_zero j)⟩
    rintro k ⟨hk, hls, hes, hall⟩
    refine sc_seq ?_
    refine sc_seq ?_
    refine sc_region ?_
    refine qs (y_move RF) ?_
    refine qs (y_move RF) ?_
    refine qs (y_len Try.underlying27 RF) ?_
    refine qs (y_lss RF RF) ?_
    refine sq_nil ?_
    refine sx_then ?_
    refine scp (fun hc1 => ?_) (fun hc1 => ?_)
    ·
      have hk' : k < l.length := by omega
      have hkk : k < b.kinds.length := by omega
      have hsm := (hl.get 0 hk').1
      have hca := (hl.get 0 hk').2
      have hsmk := (hB.get kd0 hkk).1
      have hcak := (hB.get kd0 hkk).2
      have hbd := kd_bd hok hkk
      refine sc_skip ?_
      refine sx_then ?_
      refine sc_seq ?_
      refine sc_block ?_
      refine sc_seq ?_
      refine sc_seq ?_
      refine sc_draw rfl (by kernel_rfl) (by kernel_rfl) ?_
      refine qq_y (OpY.s (y_move RF)) rfl ?_
      refine qq_y (OpY.s (y_move RF)) rfl ?_
      refine qq_y (OpY.s IA27) rfl ?_
      refine qq_y (OpY.s (by first | exact y_load_ca0 Try.underlying3 rfl RF MM hca rfl | exact LD3)) rfl ?_
      refine qq_y (OpY.s FA26_22) rfl ?_
      refine qq_y (OpY.s LD22) rfl ?_
      refine qq_y (OpY.s (y_move RF)) rfl ?_
      refine qq_y (OpY.s IA22) rfl ?_
      refine qq_y (OpY.s FA74_3) rfl ?_
      refine qq_y (OpY.s (by first | exact y_load_caj (j := 0) Try.underlying3 rfl RF MM hcak rfl | exact y_load_ca0 Try.underlying3 rfl RF MM hcak rfl | exact LD3)) rfl ?_
      refine qq_y (OpY.s (y_neg RF (by omega))) rfl ?_
      refine qq_y (OpY.s (y_lss RF RF)) rfl ?_
      refine qq_y (OpY.s (y_move RF)) rfl ?_
      first | refine qq_splitd (tt := 32) RF (fun hg7_12 => ?_) (fun hg7_12 => ?_) | refine qq_splitn (tt := 32) RF (fun hg7_12 => ?_) (fun hg7_12 => ?_) | refine qq_split (tt := 32) RF (fun hg7_12 => ?_) (fun hg7_12 => ?_)
      ·
        refine qq_gf RF RF RF rfl ?_
        refine qq_gf RF RF RF rfl ?_
        refine qq_gf RF RF RF rfl ?_
        refine qq_gf RF RF RF rfl ?_
        refine qq_gf RF RF RF rfl ?_
        refine qq_y (OpY.s (y_pick_t RF RF)) rfl ?_
        refine qq_y (OpY.s (y_move RF)) rfl ?_
        refine qq_gf RF RF RF rfl ?_
        refine qq_gf RF RF RF rfl ?_
        refine qq_gf RF RF RF rfl ?_
        refine qq_gf RF RF RF rfl ?_
        refine qq_gf RF RF RF rfl ?_
        refine qq_y (OpY.s (y_pick_t RF RF)) rfl ?_
        refine qq_nil ?_
        refine sx_then ?_
        refine sc_t RF ?_
        refine sc_seq ?_
        refine sc_region ?_
        refine qs (y_assign RF) ?_
        refine sq_nil ?_
        refine sx_then ?_
        refine sc_ret ?_
        refine sx_then_ret ?_
        refine sx_blk_ret ?_
        refine sx_then_ret ?_
        refine sx_round_ret ?_
        refine sx_blk_ret ?_
        refine sx_then_ret ?_
        refine sx_ret1 (.inl rfl) rfl Try.results38 RF ?_
        intro w' hw'
        refine ⟨?_, hw'.below MM⟩
        have : okC b l k = false := decide_eq_false (by omega)
        unfold canV; rw [show (List.range l.length).all (okC b l) = false from List.all_eq_false.2 ⟨k, List.mem_range.2 hk', by rw [this]; decide⟩]; simp
      ·
        refine qq_gt RF RF (OpY.s (y_move RF)) rfl ?_
        refine qq_gt RF RF (OpY.s (y_move RF)) rfl ?_
        refine qq_gt RF RF (OpY.s IA27) rfl ?_
        refine qq_gt RF RF (OpY.s (by first | exact y_load_ca0 Try.underlying3 rfl RF MM hca rfl | exact LD3)) rfl ?_
        refine qq_gt RF RF (OpY.s (y_lss RF RF)) rfl ?_
        refine qq_y (OpY.s (y_pick_f RF RF)) rfl ?_
        refine qq_y (OpY.s (y_move RF)) rfl ?_
        first | refine qq_splitd (tt := 39) RF (fun hg7_19 => ?_) (fun hg7_19 => ?_) | refine qq_splitn (tt := 39) RF (fun hg7_19 => ?_) (fun hg7_19 => ?_) | refine qq_split (tt := 39) RF (fun hg7_19 => ?_) (fun hg7_19 => ?_)
        ·
          refine qq_gf RF RF RF rfl ?_
          refine qq_gf RF RF RF rfl ?_
          refine qq_gf RF RF RF rfl ?_
          refine qq_gf RF RF RF rfl ?_
          refine qq_gf RF RF RF rfl ?_
          refine qq_y (OpY.s (y_pick_t RF RF)) rfl ?_
          refine qq_nil ?_
          refine sx_then ?_
          refine sc_t RF ?_
          refine sc_seq ?_
          refine sc_region ?_
          refine qs (y_assign RF) ?_
          refine sq_nil ?_
          refine sx_then ?_
          refine sc_ret ?_
          refine sx_then_ret ?_
          refine sx_blk_ret ?_
          refine sx_then_ret ?_
          refine sx_round_ret ?_
          refine sx_blk_ret ?_
          refine sx_then_ret ?_
          refine sx_ret1 (.inl rfl) rfl Try.results38 RF ?_
          intro w' hw'
          refine ⟨?_, hw'.below MM⟩
          have : okC b l k = false := decide_eq_false (by omega)
          unfold canV; rw [show (List.range l.length).all (okC b l) = false from List.all_eq_false.2 ⟨k, List.mem_range.2 hk', by rw [this]; decide⟩]; simp
        ·
          refine qq_gt RF RF (OpY.s (y_move RF)) rfl ?_
          refine qq_gt RF RF (OpY.s (y_move RF)) rfl ?_
          refine qq_gt RF RF (OpY.s IA27) rfl ?_
          refine qq_gt RF RF (OpY.s (by first | exact y_load_ca0 Try.underlying3 rfl RF MM hca rfl | exact LD3)) rfl ?_
          refine qq_gt RF RF (OpY.s (y_gtr RF RF)) rfl ?_
          refine qq_y (OpY.s (y_pick_f RF RF)) rfl ?_
          refine qq_nil ?_
          refine sx_then ?_
          refine scp (fun hc2 => ?_) (fun hc2 => ?_)
          ·
            refine sc_seq ?_
            refine sc_region ?_
            refine qs (y_assign RF) ?_
            refine sq_nil ?_
            refine sx_then ?_
            refine sc_ret ?_
            refine sx_then_ret ?_
            refine sx_blk_ret ?_
            refine sx_then_ret ?_
            refine sx_round_ret ?_
            refine sx_blk_ret ?_
            refine sx_then_ret ?_
            refine sx_ret1 (.inl rfl) rfl Try.results38 RF ?_
            intro w' hw'
            refine ⟨?_, hw'.below MM⟩
            have : okC b l k = false := decide_eq_false (by omega)
            unfold canV; rw [show (List.range l.length).all (okC b l) = false from List.all_eq_false.2 ⟨k, List.mem_range.2 hk', by rw [this]; decide⟩]; simp
          ·
            refine sc_skip ?_
            refine sx_then ?_
            refine sc_seq ?_
            refine sc_region ?_
            refine qs (y_move RF) ?_
            refine qs (y_move RF) ?_
            refine qs (y_move RF) ?_
            refine qs IA27 ?_
            refine qs (by first | exact y_load_ca0 Try.underlying3 rfl RF MM hca rfl | exact LD3) ?_
            refine qs (y_neg RF (by omega)) ?_
            refine qs (y_max RF RF) ?_
            refine qs (y_add RF RF (by omega)) ?_
            refine qs (y_assign RF) ?_
            refine sq_nil ?_
            refine sx_then ?_
            refine sc_region ?_
            refine qs (y_move RF) ?_
            refine qs (y_move RF) ?_
            refine qs (y_move RF) ?_
            refine qs IA27 ?_
            refine qs (by first | exact y_load_ca0 Try.underlying3 rfl RF MM hca rfl | exact LD3) ?_
            refine qs (y_max RF RF) ?_
            refine qs (y_add RF RF (by omega)) ?_
            refine qs (y_assign RF) ?_
            refine sq_nil ?_
            refine sx_blk ?_
            refine sx_then ?_
            refine sc_region ?_
            refine qs (y_move RF) ?_
            refine qs (y_add RF RF (by omega)) ?_
            refine qs (y_assign RF) ?_
            refine sq_nil ?_
            refine sx_round (k + 1) ?_ ?_ SU SE
            · refine ⟨by omega, ?_, ?_, fun j hj => ?_⟩
              · unfold lostK; omega
              · unfold extraK; omega
              · rcases Nat.lt_succ_iff_lt_or_eq.1 hj with h | rfl
                · exact hall j h
                · exact decide_eq_true (by omega)
            · omega
    ·
      refine sc_exit ?_
      refine sx_then_exit ?_
      refine sx_round_exit ?_
      refine sx_blk_hit ?_
      refine sx_then ?_
      refine sc_seq ?_
      refine sc_region ?_
      refine qs (y_move RF) ?_
      refine qs FA26_3 ?_
      refine qs LD3 ?_
      refine qs (y_leq RF RF) ?_
      refine qs (y_move RF) ?_
      refine sp 65 (fun hg11_4 => ?_) (fun hg11_4 => ?_)
      ·
        refine qg (y_move RF) ?_
        refine qg FA26_3 ?_
        refine qg LD3 ?_
        refine qg (y_leq RF RF) ?_
        refine qs (y_pick_t RF RF) ?_
        refine qs (y_assign RF) ?_
        refine sq_nil ?_
        refine sx_then ?_
        refine sc_ret ?_
        refine sx_ret1 (.inl rfl) rfl Try.results38 RF ?_
        intro w' hw'
        refine ⟨?_, hw'.below MM⟩
        have hkn : k = l.length := by omega
        subst hkn
        unfold canV; rw [show (List.range l.length).all (okC b l) = true from List.all_eq_true.2 fun j hj => hall j (List.mem_range.1 hj)]; simp [*] <;> omega
      ·
        refine qf ?_
        refine qf ?_
        refine qf ?_
        refine qf ?_
        refine qs (y_pick_f RF RF) ?_
        refine qs (y_assign RF) ?_
        refine sq_nil ?_
        refine sx_then ?_
        refine sc_ret ?_
        refine sx_ret1 (.inl rfl) rfl Try.results38 RF ?_
        intro w' hw'
        refine ⟨?_, hw'.below MM⟩
        have hkn : k = l.length := by omega
        subst hkn
        unfold canV; rw [show (List.range l.length).all (okC b l) = true from List.all_eq_true.2 fun j hj => hall j (List.mem_range.1 hj)]; simp [*] <;> omega
end Go.Proofs.Ytofjipmheckmjaa
