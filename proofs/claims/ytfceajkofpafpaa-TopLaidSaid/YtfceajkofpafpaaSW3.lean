/- The walks of what is read of a list; whether it is one. -/
import Derived.Test.YtfceajkofpafpaaSW2
namespace Go.Proofs.Ytfceajkofpafpaa.Sc
open Go Go.Eng Go.RowKit Go.Proofs
set_option maxRecDepth 100000
/-- the interface's methods, of either test -/
theorem y_of {X : Ctx} {L : List (Nat × Value)} {rs : List Res} {ty : TypeId} {g : Operand} {args : List Operand} {ats : Array TypeId} {b : Bx} {a : Option Addr} {c : Nat} {t : Te} {i : Nat} {m : Int} {w : World} (hP : X.P = Try.prog) (hB : RowsA kdRow 3 0 w a b.kinds) (hm : Res.reg 0 w ∈ rs) (hok : bxB b = true) (ht : teB b t = true) (hi : i < b.kinds.length) (hmm : 0 ≤ m ∧ m ≤ 2003)
    (hg : ev L g = some (testerV b a c t)) (hv : EvL L args [.int .i64 i, .int .i64 m]) : OpY X L rs (.call { callee := .invoke g "jigworks/scale.of", args := args.toArray, argTypes := ats }) ty (.agg (spRow (ofV b t i m)).toArray) := by
  cases X; dsimp only at hP; subst hP
  have hbp := bxB_parts hok
  unfold testerV at hg
  by_cases h0 : t.how = 0
  · rw [if_pos h0] at hg
    exact y_invoke (f := 156) (rv' := .agg (bxRow b a c ++ teRow t).toArray) hg (fun w => by kernel_rfl) Try.call156 hv fun w1 hw1 => of113 w1 b a c (hB.at hw1 hm) hok t h0 i hi m hmm
  · rw [if_neg h0] at hg
    have hp := pw2_le (show b.kinds.length ≤ 20 by omega)
    obtain ⟨st, hst⟩ : ∃ st : Nat, t.set = st := ⟨t.set.toNat, by have := (teB_parts ht).1; omega⟩
    exact y_invoke (f := 158) (rv' := .agg (teRow t).toArray) hg (fun w => by kernel_rfl) Try.call158 hv fun w1 hw1 => of115 w1 b t h0 st hst (by have := (teB_parts ht).1; omega) i (by omega) m
theorem y_bes {X : Ctx} {L : List (Nat × Value)} {rs : List Res} {ty : TypeId} {g : Operand} {ats : Array TypeId} {b : Bx} {a : Option Addr} {c : Nat} {t : Te} (hP : X.P = Try.prog) (hok : bxB b = true) (ht : teB b t = true)
    (hg : ev L g = some (testerV b a c t)) : OpY X L rs (.call { callee := .invoke g "jigworks/scale.besides", args := #[], argTypes := ats }) ty (.agg (spRow (besV b t)).toArray) := by
  cases X; dsimp only at hP; subst hP
  unfold testerV at hg
  by_cases h0 : t.how = 0
  · rw [if_pos h0] at hg
    exact y_invoke (f := 155) (args := []) (vs := []) (rv' := .agg (bxRow b a c ++ teRow t).toArray) hg (fun w => by kernel_rfl) Try.call155 EvL.nil fun w1 _ => besides112 w1 b a c hok t ht h0
  · rw [if_neg h0] at hg
    exact y_invoke (f := 157) (args := []) (vs := []) (rv' := .agg (teRow t).toArray) hg (fun w => by kernel_rfl) Try.call157 EvL.nil fun w1 _ => besides114 w1 b t h0
theorem y_nilOf {X : Ctx} {L : List (Nat × Value)} {rs : List Res} {ty : TypeId} {x : Operand} {b : Bx} {a : Option Addr} {c : Nat} {t : Te} (hP : X.P = Try.prog) (hx : ev L x = some (.func (.method "jigworks/scale.of") #[testerV b a c t] #[])) : OpS X L rs (.nilCheck x) ty (.func (.method "jigworks/scale.of") #[testerV b a c t] #[]) := by
  cases X; dsimp only at hP; subst hP
  unfold testerV at hx ⊢
  by_cases h0 : t.how = 0
  · rw [if_pos h0] at hx ⊢; exact y_nilCheckM hx (fun w => by kernel_rfl)
  · rw [if_neg h0] at hx ⊢; exact y_nilCheckM hx (fun w => by kernel_rfl)

theorem reads74 (w : World) (b : Bx) (a : Option Addr) (c : Nat) (hB : RowsA kdRow 3 0 w a b.kinds) (hok : bxB b = true) (t : Te) (ht : teB b t = true) (i : Nat) (hi : i < b.kinds.length) (n : Int) (hn : 0 ≤ (b.kinds.getD i kd0).many + n ∧ (b.kinds.getD i kd0).many + n ≤ 2003) (s : Sp) (hs : (-1000000 ≤ s.lo ∧ s.lo ≤ 2000000000) ∧ -1000000 ≤ s.hi ∧ s.hi ≤ 2000000000) (pt pb : Addr) (h1 : CA 0 w pt [testerV b a c t]) (h2 : CA 0 w pb (bxRow b a c)) : Calls Try.prog 69 #[.agg (spRow s).toArray, .int .i64 i, .int .i64 n, .pointer (some pt), .pointer (some pb)] w fun e w' => e = .returned (.agg (spRow (plusV s (ofV b t i ((b.kinds.getD i kd0).many + n)))).toArray) ∧ Below w.heap.size w w' := by
  have hk := kd_bd hok hi
  have ho := of_bd (t := t) hok hi hn
  have hsm := (hB.get kd0 hi).1
  have hca := (hB.get kd0 hi).2
  refine calls_of_SC (args := [.agg (spRow s).toArray, .int .i64 i, .int .i64 n, .pointer (some pt), .pointer (some pb)]) Try.func69 rfl Try.ntmps69 rfl ?_
  simp only [argL, Nat.reduceAdd, Nat.zero_add]
  refine sc_seq ?_
  refine sc_region ?_
  refine sq_box RF rfl (fun b5 => ?_)
  refine sq_alloc Try.zeroValue113 rfl (fun b8 => ?_)
  refine sq_nil ?_
  refine sx_then ?_
  refine sc_seq ?_
  refine sc_drawR (by kernel_rfl) ?_
  refine xj_s 0 RF (by kernel_rfl) SE LD81 rfl ?_
  refine xj_s 1 RF (by kernel_rfl) SE (by first | exact y_load_ca0 Try.underlying157 rfl RF MM h1 rfl | exact LD113) rfl ?_
  refine xj_s 2 RF (by kernel_rfl) SE (y_move RF) rfl ?_
  refine xj_s 3 RF (by kernel_rfl) SE FA26_22 rfl ?_
  refine xj_s 4 RF (by kernel_rfl) SE (by first | exact y_load_ca0 Try.underlying32 rfl RF MM h2 rfl | exact LD22) rfl ?_
  refine xj_s 5 RF (by kernel_rfl) SE (y_move RF) rfl ?_
  refine xj_s 6 RF (by kernel_rfl) SE IA22 rfl ?_
  refine xj_s 7 RF (by kernel_rfl) SE FA74_3 rfl ?_
  refine xj_s 8 RF (by kernel_rfl) SE (by first | exact y_load_ca0 Try.underlying3 rfl RF MM hca rfl | exact LD3) rfl ?_
  refine xj_s 9 RF (by kernel_rfl) SE (y_move RF) rfl ?_
  refine xj_s 10 RF (by kernel_rfl) SE (y_add RF RF (by omega)) rfl ?_
  refine xj_s 11 RF (by kernel_rfl) SE (y_makeFunc (EvL.cons RF EvL.nil) EvL.nil) rfl ?_
  refine xj_s 12 RF (by kernel_rfl) SE (y_nilOf rfl RF) rfl ?_
  refine xj_s 13 RF (by kernel_rfl) SE (y_move RF) rfl ?_
  refine xj_one 14 RF (by kernel_rfl) ?_
  refine qy (y_of rfl hB MM hok ht hi hn RF (EvL.cons RF (EvL.cons RF EvL.nil))) ?_
  refine sq_nil ?_
  refine sx_xp SE ?_
  refine xj_one 15 RF (by kernel_rfl) ?_
  refine qy (yc Try.call70 E2 (fun w1 _ => plus75 w1 s _ (by omega) (by omega))) ?_
  refine sq_nil ?_
  refine sx_xp SE ?_
  refine xj_one 16 RF (by kernel_rfl) ?_
  refine sq_store_all Try.sizeOf113 RF RF rfl RM rfl rfl ?_
  refine sq_nil ?_
  refine sx_xpl (by kernel_rfl) ?_
  refine xj_done (by kernel_rfl) ?_
  refine sx_then ?_
  refine sc_ret ?_
  refine sx_retc (.inl rfl) rfl Try.results69 Try.underlying113 rfl Try.sizeOf113 RF MM rfl ?_
  intro w' hw'
  exact ⟨rfl, hw'.below MM⟩
theorem fold73 (w : World) (al : Option Addr) (cl : Nat) (l : List Int) (hl : RowsA iRow 1 0 w al l) (g : FuncId) (caps : List Value) (F : Nat → Sp) (hcg : ∀ args w, (callFunc g args).run Try.prog w = .ok (.enter g args) w) (hp : ∀ i, i < l.length → ∀ w1, Below w.heap.size w w1 → Calls Try.prog g (.agg (spRow (F i)).toArray :: .int .i64 i :: .int .i64 (l.getD i 0) :: caps).toArray w1 fun e w' => e = .returned (.agg (spRow (F (i + 1))).toArray) ∧ Below w1.heap.size w1 w') : Calls Try.prog 68 #[.agg (spRow (F 0)).toArray, .slice al l.length cl, .func (.func g) #[] caps.toArray] w fun e w' => e = .returned (.agg (spRow (F l.length)).toArray) ∧ Below w.heap.size w w' := by
  have hlen := hl.len
  refine calls_of_SC (args := [.agg (spRow (F 0)).toArray, .slice al l.length cl, .func (.func g) #[] caps.toArray]) Try.func68 rfl Try.ntmps68 rfl ?_
  simp only [argL, Nat.reduceAdd, Nat.zero_add]
  refine sc_seq ?_
  refine sc_region ?_
  refine sq_box RF rfl (fun b3 => ?_)
  refine sq_alloc Try.zeroValue113 rfl (fun b6 => ?_)
  refine sq_nil ?_
  refine sx_then ?_
  refine sc_seq ?_
  refine sc_seq ?_
  refine sc_region ?_
  refine qs (y_move RF) ?_
  refine qs (y_len Try.underlying22 RF) ?_
  refine qs (y_move RF) ?_
  refine sq_nil ?_
  refine sx_then ?_
  refine sc_block ?_
  refine sc_loop (σ := Nat)
    (fun s => [(2, .func (.func g) #[] caps.toArray), (3, .pointer (some ⟨b3, 0, none⟩)), (6, .pointer (some ⟨b6, 0, none⟩)), (9, .slice al l.length cl), (10, .int .i64 l.length), (11, .int .i64 s)])
    (fun s => [.blk b6 (.cells [.int .i64 0, .int .i64 0].toArray 113 (0, 0)), .blk b3 (.cells (spRow (F s)).toArray 113 (0, 0)), .reg 0 w])
    (fun s => s ≤ l.length)
    (fun s => l.length - s)
    (0) ?_ SU SE ?_
  · exact Nat.zero_le _
  rintro k hk
  refine sc_seq ?_
  refine sc_region ?_
  refine qs (y_lss RF RF) ?_
  refine sq_nil ?_
  refine sx_then ?_
  refine sc_seq ?_
  refine scp (fun hc0 => ?_) (fun hc0 => ?_)
  ·
    have hk' : k < l.length := by omega
    have hsm := (hl.get 0 hk').1
    have hca := (hl.get 0 hk').2
    refine sc_skip ?_
    refine sx_then ?_
    refine sc_seq ?_
    refine sc_block ?_
    refine sc_seq ?_
    refine sc_region ?_
    refine qs (y_move RF) ?_
    refine qs IA27 ?_
    refine qs (by first | exact y_load_ca0 Try.underlying3 rfl RF MM hca rfl | exact LD3) ?_
    refine qs (y_assign RF) ?_
    refine qs (y_assign RF) ?_
    refine sq_nil ?_
    refine sx_then ?_
    refine sc_region ?_
    refine qs (y_move RF) ?_
    refine qs LD81 ?_
    refine qs (y_move RF) ?_
    refine qs (y_move RF) ?_
    refine qy (y_call (first := []) (caps := caps) RF hcg (EvL.cons RF (EvL.cons RF (EvL.cons RF EvL.nil))) (fun w1 hw1 => hp k hk' w1 (hw1.below MM))) ?_
    refine sq_store_all Try.sizeOf113 RF RF rfl RM rfl rfl ?_
    refine sq_nil ?_
    refine sx_blk ?_
    refine sx_then ?_
    refine sc_region ?_
    refine qs (y_add RF RF (by omega)) ?_
    refine qs (y_move RF) ?_
    refine sq_nil ?_
    refine sx_round (k + 1) ?_ ?_ SU SE
    · omega
    · omega
  ·
    refine sc_exit ?_
    refine sx_then_exit ?_
    refine sx_round_exit ?_
    refine sx_blk_hit ?_
    refine sx_then ?_
    refine sc_seq ?_
    refine sc_region ?_
    refine qs LD81 ?_
    refine sq_store_all Try.sizeOf113 RF RF rfl RM rfl rfl ?_
    refine sq_nil ?_
    refine sx_then ?_
    refine sc_ret ?_
    refine sx_retc (.inl rfl) rfl Try.results68 Try.underlying113 rfl Try.sizeOf113 RF MM rfl ?_
    intro w' hw'
    refine ⟨?_, hw'.below MM⟩
    have hkn : k = l.length := by omega
    rw [hkn]
theorem reads47 (w : World) (b : Bx) (a : Option Addr) (c : Nat) (hB : RowsA kdRow 3 0 w a b.kinds) (hok : bxB b = true) (al : Option Addr) (cl : Nat) (l : List Int) (hl : RowsA iRow 1 0 w al l) (hh : HasOk b l) (t : Te) (ht : teB b t = true) : Calls Try.prog 37 #[.agg (bxRow b a c).toArray, .slice al l.length cl, .agg (teRow t).toArray] w fun e w' => e = .returned (.agg (spRow (readV b t l)).toArray) ∧ Below w.heap.size w w' := by
  have hbp := bxB_parts hok
  have hrd := readK_bd hok ht hh
  have htv : (testerV b a c t).oneCell' = true := by unfold testerV; split <;> rfl
  refine calls_of_SC (args := [.agg (bxRow b a c).toArray, .slice al l.length cl, .agg (teRow t).toArray]) Try.func37 rfl Try.ntmps37 rfl ?_
  simp only [argL, Nat.reduceAdd, Nat.zero_add]
  refine sc_seq ?_
  refine sc_region ?_
  refine sq_box RF rfl (fun b3 => ?_)
  refine sq_box RF rfl (fun b5 => ?_)
  refine sq_alloc Try.zeroValue113 rfl (fun b6 => ?_)
  refine sq_nil ?_
  refine sx_then ?_
  refine sc_seq ?_
  refine sc_region ?_
  refine qs LD26 ?_
  refine qs LD29 ?_
  refine qy (yc Try.call67 E2 (fun w1 _ => newTester72 w1 b a c t)) ?_
  refine sq_alloc Try.zeroValue157 rfl (fun b7 => ?_)
  refine sq_store Try.sizeOf157 RF RF (by first | rfl | assumption) RM (by first | exact Nat.le_of_ble_eq_true rfl | simp | omega) ?_
  refine sq_nil ?_
  refine sx_then ?_
  refine sc_seq ?_
  refine sc_region ?_
  refine qs LD113 ?_
  refine qy (y_bes (b := b) (a := a) (c := c) (t := t) rfl hok ht RF) ?_
  refine qs (y_move RF) ?_
  refine qs (y_makeFunc EvL.nil (EvL.cons RF (EvL.cons RF EvL.nil))) ?_
  refine qy (yc Try.call68 E3 (fun w1 hw1 => (fold73 w1 al cl l (hl.at hw1 MM) 69 [.pointer (some ⟨b7, 0, none⟩), .pointer (some ⟨b3, 0, none⟩)] (readK b t l) Try.call69 (fun i hi w2 hb2 => reads74 w2 b a c ((hB.at hw1 MM).below hb2) hok t ht i (by rw [← hh.len]; exact hi) _ (hh.bd i hi) _ (by have h1 := hrd i (by omega); have h2 := hh.len; omega) ⟨b7, 0, none⟩ ⟨b3, 0, none⟩ (CA.below (CA.blk (vs := [testerV b a c t]) hw1 MM) hb2) (CA.below (CA.blk (vs := bxRow b a c) hw1 MM) hb2))))) ?_
  refine sq_store_all Try.sizeOf113 RF RF rfl RM rfl rfl ?_
  refine sq_nil ?_
  refine sx_then ?_
  refine sc_ret ?_
  refine sx_retc (.inl rfl) rfl Try.results37 Try.underlying113 rfl Try.sizeOf113 RF MM rfl ?_
  intro w' hw'
  exact ⟨rfl, hw'.below MM⟩
/-- how many are lost, extra, of the first k kinds -/
def lostK (has : List Int) : Nat → Int
  | 0 => 0
  | k + 1 => lostK has k + max 0 (-(has.getD k 0))
def extraK (has : List Int) : Nat → Int
  | 0 => 0
  | k + 1 => extraK has k + max 0 (has.getD k 0)
def okC (b : Bx) (has : List Int) (i : Nat) : Bool := decide (-(b.kinds.getD i kd0).many ≤ has.getD i 0 ∧ -4 ≤ has.getD i 0 ∧ has.getD i 0 ≤ 3)
def canV (b : Bx) (has : List Int) : Bool := decide (has.length = b.kinds.length) && (List.range has.length).all (okC b has) && decide (lostK has has.length ≤ b.lost ∧ extraK has has.length ≤ b.extra)
theorem max_z (x : Int) : (if (0 : Int) < x then x else 0) = max 0 x := by omega

end Go.Proofs.Ytfceajkofpafpaa.Sc
