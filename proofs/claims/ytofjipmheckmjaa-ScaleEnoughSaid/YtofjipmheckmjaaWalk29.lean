/- The walk of the law ScaleEnough. -/
import Derived.Test.YtofjipmheckmjaaLaw3
import Derived.Test.YtofjipmheckmjaaWalk19
import Derived.Test.YtofjipmheckmjaaWalk22
namespace Go.Proofs.Ytofjipmheckmjaa
open Go Go.Eng Go.RowKit Go.Proofs
set_option maxRecDepth 100000
theorem someL_yes {ts : List Te} {s k : Nat} (h : inS s k = true) : someL ts s k ++ [ts.getD k te0] = someL ts s (k + 1) := by rw [someL_succ, if_pos h]
theorem someL_no {ts : List Te} {s k : Nat} (h : ¬ inS s k = true) : someL ts s k = someL ts s (k + 1) := by rw [someL_succ, if_neg h]

theorem some39 (w : World) (b : Bx) (at_ : Option Addr) (ct : Nat) (ts : List Te) (ht : RowsA teRow 7 0 w at_ ts) (hte : ∀ t, t ∈ ts → teB b t = true) (h8 : ts.length ≤ 8) (s : Nat) (hs : s ≤ 1048576) (pt : Addr) (hpt : CA 0 w pt [.slice at_ ts.length ct]) : Calls Try.prog 39 #[.int .i64 s, .pointer (some pt)] w fun e w' => ∃ z : Option Addr × Nat, e = .returned (.tuple #[.slice z.1 (someL ts s ts.length).length z.2, .int .i64 (costK ts s ts.length)]) ∧ Below w.heap.size w w' ∧ RowsA teRow 7 w.heap.size w' z.1 (someL ts s ts.length) := by
  have htlen := ht.len
  have hsl := someL_len ts s
  refine calls_of_SC (args := [.int .i64 s, .pointer (some pt)]) Try.func39 rfl Try.ntmps39 rfl ?_
  simp only [argL, Nat.zero_add]
  refine sc_seq ?_
  refine sc_region ?_
  refine qs (y_assign RF) ?_
  refine qs (y_assign RF) ?_
  refine sq_nil ?_
  refine sx_then ?_
  refine sc_seq ?_
  refine sc_region ?_
  refine qs (y_assign RF) ?_
  refine sq_nil ?_
  refine sx_then ?_
  refine sc_seq ?_
  refine sc_region ?_
  refine qs (y_assign RF) ?_
  refine sq_nil ?_
  refine sx_then ?_
  refine sc_seq ?_
  refine sc_seq ?_
  refine sc_nil_own 29 7 ?_
  refine sc_region ?_
  refine qs (by first | exact y_load_ca0 Try.underlying43 rfl RF MM hpt rfl | exact LD43) ?_
  refine qs (y_len Try.underlying43 RF) ?_
  refine qs (y_move RF) ?_
  refine sq_nil ?_
  refine sx_then ?_
  refine sc_block ?_
  refine sc_loop (σ := Nat × Value)
    (fun s_ => [(0, .int .i64 s), (1, .pointer (some pt)), (5, s_.2), (6, .int .i64 (costK ts s s_.1)), (9, .slice at_ ts.length ct), (10, .int .i64 ts.length), (11, .int .i64 s_.1)])
    (fun s_ => [.own s_.2 29 7 (someL ts s s_.1).length ((someL ts s s_.1).flatMap teRow), .reg 0 w])
    (fun s_ => s_.1 ≤ ts.length ∧ s_.2.oneCell' = true)
    (fun s_ => ts.length - s_.1)
    ((0, .slice none 0 0)) ?_ SU SR ?_
  · exact ⟨Nat.zero_le _, rfl⟩
  rintro ⟨k, v⟩ ⟨hk, hv⟩
  dsimp only at hk hv ⊢
  refine sc_seq ?_
  refine sc_region ?_
  refine qs (y_lss RF RF) ?_
  refine sq_nil ?_
  refine sx_then ?_
  refine sc_seq ?_
  refine scp (fun hc0 => ?_) (fun hc0 => ?_)
  ·
    have hk' : k < ts.length := by omega
    have hsm := (ht.get te0 hk').1
    have hca := (ht.get te0 hk').2
    refine sc_skip ?_
    refine sx_then ?_
    refine sc_seq ?_
    refine sc_block ?_
    refine sc_seq ?_
    refine sc_region ?_
    refine qs (y_move RF) ?_
    refine qs IA43 ?_
    refine qs (by first | exact y_load_ca Try.underlying29 rfl Try.sizeOf29 RF MM hca rfl | exact LD29) ?_
    refine sq_alloc Try.zeroValue29 rfl (fun b8 => ?_)
    refine qs (y_assign RF) ?_
    refine sq_store_all Try.sizeOf29 RF RF rfl RM rfl rfl ?_
    refine sq_nil ?_
    refine sx_then ?_
    refine sc_seq ?_
    refine sc_region ?_
    refine qs (y_move RF) ?_
    refine qs (y_move RF) ?_
    refine qs (y_shr RF RF (by simp [IntKind.bits]; omega)) ?_
    refine qs (y_and RF RF (shr_bd (by omega) k) (by omega)) ?_
    refine qs (y_eql RF RF) ?_
    rw [bit_one]
    refine sq_nil ?_
    refine sx_then ?_
    refine scp (fun hc1 => ?_) (fun hc1 => ?_)
    ·
      have hin : inS s k = true := by simpa [inS] using hc1
      refine sc_drawX ([.blk b8 (.cells (teRow (ts.getD k te0)).toArray 29 (0, 0))]) (by kernel_rfl) ?_
      refine xj_s 0 RF (by kernel_rfl) SR (y_move RF) rfl ?_
      refine xj_s 1 RF (by kernel_rfl) SR LD29 rfl ?_
      refine xj_s 4 RF (by kernel_rfl) SR (y_move RF) rfl ?_
      refine xj_s 5 RF (by kernel_rfl) SR FA29_3 rfl ?_
      refine xj_s 6 RF (by kernel_rfl) SR LD3 rfl ?_
      refine xj_s 7 RF (by kernel_rfl) SR (y_add RF RF (by have := cost_bd hte s k (by omega); have := (teB_parts (hte _ (List.mem_of_getElem? (get_of_lt te0 hk')))).2.2.2; omega)) rfl ?_
      rw [cost_yes hin]
      refine xj_one 2 RF (by kernel_rfl) ?_
      refine sq_bs Try.underlying43 ei29 (EvI.cons RF EvI.nil) (by first | (simp [Value.cells]; done) | (simp [Value.cells]; rfl) | (simp [Value.cells]; and_intros <;> rfl)) rfl rfl rfl (fun b23 => ?_)
      refine sq_nil ?_
      refine sx_xp SR ?_
      refine xj_one 3 RF (by kernel_rfl) ?_
      refine sq_append (news := teRow (ts.getD k te0)) Try.underlying43 ei29 rfl (by decide) RF RM RF rfl (fun _ hw => news_blk hw MM) (by simp [teRow, Value.oneCell']) (by have := hsl k; omega) rfl (fun v24 ho24 => ?_)
      rw [show (someL ts s k).flatMap teRow ++ teRow (ts.getD k te0) = (someL ts s (k + 1)).flatMap teRow from by rw [← someL_yes hin]; simp, show (someL ts s k).length + 1 = (someL ts s (k + 1)).length from by rw [← someL_yes hin]; simp]
      refine sq_nil ?_
      refine sx_xp SR ?_
      refine xj_s 8 RF (by kernel_rfl) SR (y_assign RF) rfl ?_
      refine xj_s 9 RF (by kernel_rfl) SR (y_assign RF) rfl ?_
      refine xj_done (by kernel_rfl) ?_
      refine sx_blk ?_
      refine sx_then ?_
      refine sc_region ?_
      refine qs (y_add RF RF (by omega)) ?_
      refine qs (y_move RF) ?_
      refine sq_nil ?_
      refine sx_round ((k + 1, v24)) ?_ ?_ SU SR
      · exact ⟨by dsimp only; omega, ho24⟩
      · dsimp only; omega
    ·
      have hin : ¬ inS s k = true := by simpa [inS] using hc1
      rw [someL_no hin, cost_no hin]
      refine sc_skip ?_
      refine sx_blk ?_
      refine sx_then ?_
      refine sc_region ?_
      refine qs (y_add RF RF (by omega)) ?_
      refine qs (y_move RF) ?_
      refine sq_nil ?_
      refine sx_round ((k + 1, v)) ?_ ?_ SU SR
      · exact ⟨by dsimp only; omega, hv⟩
      · dsimp only; omega
  ·
    have hkn : k = ts.length := by omega
    subst hkn
    refine sc_exit ?_
    refine sx_then_exit ?_
    refine sx_round_exit ?_
    refine sx_blk_hit ?_
    refine sx_then ?_
    refine sc_seq ?_
    refine sc_region ?_
    refine qs (y_move RF) ?_
    refine qs (y_move RF) ?_
    refine qs (y_assign RF) ?_
    refine qs (y_assign RF) ?_
    refine sq_nil ?_
    refine sx_then ?_
    refine sc_ret ?_
    refine sx_ret2 (.inl rfl) rfl Try.results39 RF RF ?_
    intro w' hw'
    have h1 := own_new_mem hw' MM MM
    obtain ⟨a2, c2, hv2, _, hr⟩ := own_rowsA (row := teRow) (fun _ => rfl) h1 rfl (by have := hsl ts.length; omega)
    exact ⟨(a2, c2), by rw [hv2], hw'.below MM, hr⟩
theorem enough23x (w : World) (b : Bx) (a : Option Addr) (c : Nat) (hB : RowsA kdRow 3 0 w a b.kinds) (at_ : Option Addr) (ct : Nat) (ts : List Te) (ht : RowsA teRow 7 0 w at_ ts) {z1 z2 z3 : Int} (h : enoughR b ts = (z1, z2, z3)) : Calls Try.prog 23 #[.agg (bxRow b a c).toArray, .slice at_ ts.length ct] w fun e w' => e = .returned (.tuple #[.int .i64 z1, .int .i64 z2, .int .i64 z3]) ∧ Below w.heap.size w w' := by
  have := enough23 w b a c hB at_ ct ts ht
  rw [h] at this; exact this
theorem enough8 (w : World) (b : Bx) (a : Option Addr) (c : Nat) (hB : RowsA kdRow 3 0 w a b.kinds) (at_ : Option Addr) (ct : Nat) (ts : List Te) (ht : RowsA teRow 7 0 w at_ ts) (x : Int) (hx : 0 ≤ x ∧ x ≤ 255) : Calls Try.prog 8 #[.agg (bxRow b a c).toArray, .slice at_ ts.length ct, .int .u8 x] w fun e w' => e = .returned (.bool true) ∧ Below w.heap.size w w' := by
  have htlen := ht.len
  obtain ⟨z1, z2, z3, hE⟩ : ∃ z1 z2 z3, enoughR b ts = (z1, z2, z3) := ⟨_, _, _, rfl⟩
  refine calls_of_SC (args := [.agg (bxRow b a c).toArray, .slice at_ ts.length ct, .int .u8 x]) Try.func8 rfl Try.ntmps8 rfl ?_
  simp only [argL, Nat.reduceAdd, Nat.zero_add]
  refine sc_seq ?_
  refine sc_region ?_
  refine sq_box RF rfl (fun b3 => ?_)
  refine sq_box RF rfl (fun b4 => ?_)
  refine qs (y_assign RF) ?_
  refine sq_nil ?_
  refine sx_then ?_
  refine sc_seq ?_
  refine sc_seq ?_
  refine sc_region ?_
  refine qs LD26 ?_
  refine qs LD43 ?_
  refine qy (yc Try.call12 E4 (fun w1 hw1 => great12 w1 b a c (hB.at hw1 MM) 4 none 0 0 at_ ct ts.length)) ?_
  refine qs (y_move RF) ?_
  refine spb 28 (fun hg1_3 => ?_) (fun hg1_3 => ?_)
  ·
    refine qf ?_
    refine qf ?_
    refine qf ?_
    refine qs (y_pick_t RF RF) ?_
    refine sq_nil ?_
    refine sx_then ?_
    refine sc_t RF ?_
    refine sc_seq ?_
    refine sc_region ?_
    refine qy (yc Try.call13 E0 (fun w1 _ => alive13 w1)) ?_
    refine qs (y_assign RF) ?_
    refine sq_nil ?_
    refine sx_then ?_
    refine sc_ret ?_
    refine sx_then_ret ?_
    refine sx_ret1 (.inl rfl) rfl Try.results8 RF ?_
    intro w' hw'
    exact ⟨rfl, hw'.below MM⟩
  ·
    refine qg LD43 ?_
    refine qg (y_len Try.underlying43 RF) ?_
    refine qg (y_gtr RF RF) ?_
    refine qs (y_pick_f RF RF) ?_
    refine sq_nil ?_
    refine sx_then ?_
    refine scp (fun hc0 => ?_) (fun hc0 => ?_)
    ·
      refine sc_seq ?_
      refine sc_region ?_
      refine qy (yc Try.call13 E0 (fun w1 _ => alive13 w1)) ?_
      refine qs (y_assign RF) ?_
      refine sq_nil ?_
      refine sx_then ?_
      refine sc_ret ?_
      refine sx_then_ret ?_
      refine sx_ret1 (.inl rfl) rfl Try.results8 RF ?_
      intro w' hw'
      exact ⟨rfl, hw'.below MM⟩
    ·
      refine sc_skip ?_
      refine sx_then ?_
      refine sc_seq ?_
      refine sc_region ?_
      refine qs LD26 ?_
      refine qs LD43 ?_
      refine qy (yc Try.call23 E2 (fun w1 hw1 => enough23x w1 b a c (hB.at hw1 MM) at_ ct ts (ht.at hw1 MM) hE)) ?_
      refine qs (y_move RF) ?_
      refine qs (y_extract RF RF) ?_
      refine qs (y_extract RF RF) ?_
      refine qs (y_extract RF RF) ?_
      refine qs (y_assign RF) ?_
      refine qs (y_assign RF) ?_
      refine qs (y_assign RF) ?_
      refine sq_nil ?_
      refine sx_then ?_
      refine sc_seq ?_
      refine sc_region ?_
      refine qs (y_makeFunc EvL.nil (EvL.cons RF EvL.nil)) ?_
      refine qs (y_assign RF) ?_
      refine sq_nil ?_
      refine sx_then ?_
      refine sc_seq ?_
      refine sc_region ?_
      refine qs LD26 ?_
      refine qs LD43 ?_
      refine sq_call_new (first := []) (caps := []) (Z := Option Addr × Nat) (fun z => .tuple #[.slice z.1 (slipR b ts).1.length z.2, .int .i64 (slipR b ts).2]) (fun _ _ _ => True) RF Try.call21 (EvL.cons RF (EvL.cons RF EvL.nil)) (fun w1 hw1 => (slips21 w1 b a c (hB.at hw1 MM) at_ ct ts (ht.at hw1 MM)).mono (fun e w' ⟨z, he, hb, _⟩ => ⟨z, he, hb, trivial⟩)) rfl (fun _ _ _ _ => ?_)
      refine qs (y_move RF) ?_
      refine qs (y_extract RF RF) ?_
      refine qs (y_extract RF RF) ?_
      refine qs (y_assign RF) ?_
      refine qs (y_assign RF) ?_
      refine sq_nil ?_
      refine sx_then ?_
      refine sc_seq ?_
      refine sc_seq ?_
      refine sc_region ?_
      refine qs (y_move RF) ?_
      refine qs (y_neq RF RF) ?_
      refine sq_nil ?_
      refine sx_then ?_
      refine scp (fun hc1 => ?_) (fun hc1 => ?_)
      ·
        obtain ⟨_, h1, h2, h3⟩ := (enough_cases b ts hE).resolve_right (fun h => hc1 h.1)
        refine sc_seq ?_
        refine sc_region ?_
        refine qs (y_move RF) ?_
        refine qs (y_eql RF RF) ?_
        refine qs (y_move RF) ?_
        refine sq_known (tt := 52) (b' := true) RF (decide_eq_true h1) ?_
        refine qg (y_move RF) ?_
        refine qg (y_eql RF RF) ?_
        refine qs (y_pick_t RF RF) ?_
        refine qs (y_move RF) ?_
        refine sq_known (tt := 56) (b' := true) RF (decide_eq_true h2) ?_
        refine qg (y_move RF) ?_
        refine qg (y_eql RF RF) ?_
        refine qg (y_move RF) ?_
        refine qg (y_eql RF RF) ?_
        refine qg (y_eqlb Try.underlying4 RF RF) ?_
        refine qs (y_pick_t RF RF) ?_
        refine qs (y_move RF) ?_
        refine sq_known (tt := 63) (b' := true) RF (by rcases h3 with ⟨h3, h4⟩ | ⟨h3, h4⟩ <;> simp [h3, h4, hc1]) ?_
        refine qg (y_move RF) ?_
        refine qg (y_eql RF RF) ?_
        refine qg (y_move RF) ?_
        refine sp 66 (fun hg7_16 => ?_) (fun hg7_16 => ?_)
        ·
          refine qf ?_
          refine qf ?_
          refine qf ?_
          refine qg (y_pick_t RF RF) ?_
          refine qs (y_pick_t RF RF) ?_
          refine qs (y_move RF) ?_
          refine sq_gt RF RF (y_call (first := []) (caps := []) RF Try.call13 EvL.nil (fun w1 _ => alive13 w1)) rfl ?_
          refine qs (y_pick_t RF RF) ?_
          refine qs (y_assign RF) ?_
          refine sq_nil ?_
          refine sx_then ?_
          refine sc_ret ?_
          refine sx_then_ret ?_
          refine sx_ret1 (.inl rfl) rfl Try.results8 RF ?_
          intro w' hw'
          exact ⟨rfl, hw'.below MM⟩
        ·
          refine qg (y_move RF) ?_
          refine qg (y_move RF) ?_
          refine qg (y_eql RF RF) ?_
          refine qg (y_pick_f RF RF) ?_
          refine qs (y_pick_t RF RF) ?_
          refine qs (y_move RF) ?_
          refine sq_known (tt := 72) (b' := true) RF (decide_eq_true (by omega)) ?_
          refine sq_gt RF RF (y_call (first := []) (caps := []) RF Try.call13 EvL.nil (fun w1 _ => alive13 w1)) rfl ?_
          refine qs (y_pick_t RF RF) ?_
          refine qs (y_assign RF) ?_
          refine sq_nil ?_
          refine sx_then ?_
          refine sc_ret ?_
          refine sx_then_ret ?_
          refine sx_ret1 (.inl rfl) rfl Try.results8 RF ?_
          intro w' hw'
          exact ⟨rfl, hw'.below MM⟩
      ·
        refine sc_skip ?_
        refine sx_then ?_
        refine sc_seq ?_
        refine sc_seq ?_
        obtain ⟨he0, hchk, hsl, k, rfl, rfl, hk, hgood, hmin⟩ := (enough_cases b ts hE).resolve_left (fun h => h.1 hc1)
        have hz := chk_zero hchk
        have hte := hz.2.2.2.2
        have h8 := hz.2.2.1
        have hpw : pw2 ts.length ≤ 256 := Nat.pow_le_pow_right (n := 2) (by omega) h8
        have hpw1 := pw2_pos ts.length
        have hsh := pw2_shl ts.length
        obtain ⟨o, ho, hol⟩ : ∃ o : Nat, x % ((pw2 ts.length : Nat) : Int) = o ∧ o < pw2 ts.length := by
          have h1 := Int.emod_nonneg x (show ((pw2 ts.length : Nat) : Int) ≠ 0 by omega)
          have h2 := Int.emod_lt_of_pos x (show (0 : Int) < ((pw2 ts.length : Nat) : Int) by omega)
          exact ⟨(x % ((pw2 ts.length : Nat) : Int)).toNat, by omega, by omega⟩
        refine sc_region ?_
        refine qs (y_move RF) ?_
        refine qs (y_lss RF RF) ?_
        refine qs (y_move RF) ?_
        refine sq_known (tt := 77) (b' := false) RF (decide_eq_false (by omega)) ?_
        refine qg (y_move RF) ?_
        refine qg LD43 ?_
        refine qg (y_len Try.underlying43 RF) ?_
        refine qg (y_shl RF RF (by omega) (by rw [hsh]; omega)) ?_
        rw [hsh]
        refine qg (y_geq RF RF) ?_
        refine qs (y_pick_f RF RF) ?_
        refine qs (y_move RF) ?_
        refine sq_known (tt := 84) (b' := false) RF (decide_eq_false (by omega)) ?_
        refine qg (y_move RF) ?_
        refine qg (y_neq RF RF) ?_
        refine qs (y_pick_f RF RF) ?_
        refine sq_nil ?_
        refine sx_then ?_
        refine sc_f (lk_bool rfl (by rw [hsl]; rfl)) ?_
        refine sc_skip ?_
        refine sx_then ?_
        refine sc_seq ?_
        refine sc_region ?_
        refine qs (y_move RF) ?_
        refine qs (y_move RF) ?_
        refine sq_call_new (first := []) (caps := [.pointer (some ⟨b4, 0, none⟩)]) (vs := [.int .i64 (k : Nat)]) (Z := Option Addr × Nat) (fun z => .tuple #[.slice z.1 (someL ts k ts.length).length z.2, .int .i64 (costK ts k ts.length)]) (fun lo w' z => RowsA teRow 7 lo w' z.1 (someL ts k ts.length)) RF Try.call39 E1 (fun w1 hw1 => some39 w1 b at_ ct ts (ht.at hw1 MM) hte h8 k (by omega) _ (CA.blk (vs := [.slice at_ ts.length ct]) hw1 MM)) rfl (fun lo1 wr1 zs1 hs1 => ?_)
        refine qs (y_move RF) ?_
        refine qs (y_extract RF RF) ?_
        refine qs (y_extract RF RF) ?_
        refine qs (y_assign RF) ?_
        refine qs (y_assign RF) ?_
        refine sq_nil ?_
        refine sx_then ?_
        refine sc_seq ?_
        refine sc_seq ?_
        refine sc_region ?_
        refine qs LD26 ?_
        refine qs (y_move RF) ?_
        refine sq_call_new (first := []) (caps := []) (Z := Option Addr × Nat) (fun z => .tuple #[.slice z.1 (slipR b (someL ts k ts.length)).1.length z.2, .int .i64 (slipR b (someL ts k ts.length)).2]) (fun _ _ _ => True) RF Try.call21 (EvL.cons RF (EvL.cons RF EvL.nil)) (fun w1 hw1 => (slips21 w1 b a c (hB.at hw1 MM) zs1.1 zs1.2 (someL ts k ts.length) (hs1.at hw1 MM)).mono (fun e w' ⟨z, he, hb, _⟩ => ⟨z, he, hb, trivial⟩)) rfl (fun _ _ _ _ => ?_)
        refine qs (y_move RF) ?_
        refine qs (y_extract RF RF) ?_
        refine qs (y_extract RF RF) ?_
        refine qs (y_assign RF) ?_
        refine qs (y_assign RF) ?_
        refine sq_nil ?_
        refine sx_then ?_
        refine sc_seq ?_
        refine sc_region ?_
        refine qs (y_move RF) ?_
        refine qs (y_move RF) ?_
        refine qs (y_neq RF RF) ?_
        refine qs (y_move RF) ?_
        refine sq_known (tt := 103) (b' := false) RF (by simp) ?_
        refine qg (y_move RF) ?_
        refine qg (y_neq RF RF) ?_
        refine qs (y_pick_f RF RF) ?_
        refine sq_nil ?_
        refine sx_then ?_
        refine sc_f (lk_bool rfl (by rw [slipR_some hchk, if_pos hgood]; rfl)) ?_
        refine sc_skip ?_
        refine sx_then ?_
        refine sc_seq ?_
        refine sc_seq ?_
        refine sc_region ?_
        refine qs LD43 ?_
        refine qs (y_len Try.underlying43 RF) ?_
        refine qs (y_move RF) ?_
        refine sq_nil ?_
        refine sx_then ?_
        refine sc_block ?_
        refine sc_loop (σ := Nat)
          (fun s => [(2, .int .u8 x), (3, .pointer (some ⟨b3, 0, none⟩)), (4, .pointer (some ⟨b4, 0, none⟩)), (7, .int .i64 k), (8, .int .i64 (costK ts k ts.length)), (10, .func (.func 39) #[] #[.pointer (some ⟨b4, 0, none⟩)]), (108, .int .i64 ts.length), (109, .int .i64 s)])
          (fun s => [.blk b4 (.cells [Value.slice at_ ts.length ct].toArray 43 (0, 0)), .blk b3 (.cells (bxRow b a c).toArray 26 (0, 0)), .reg 0 w])
          (fun s => s ≤ ts.length)
          (fun s => ts.length - s)
          (0) ?_ SU SR ?_
        · exact Nat.zero_le _
        rintro i hi
        refine sc_seq ?_
        refine sc_region ?_
        refine qs (y_lss RF RF) ?_
        refine sq_nil ?_
        refine sx_then ?_
        refine sc_seq ?_
        refine scp (fun hc4 => ?_) (fun hc4 => ?_)
        ·
          have hi' : i < ts.length := by omega
          have hshi := pw2_shl i
          have hpi := pw2_le (show i ≤ 20 by omega)
          have hpi1 := pw2_pos i
          refine sc_skip ?_
          refine sx_then ?_
          refine sc_seq ?_
          refine sc_block ?_
          refine sc_seq ?_
          refine sc_region ?_
          refine qs (y_move RF) ?_
          refine qs (y_assign RF) ?_
          refine sq_nil ?_
          refine sx_then ?_
          refine sc_seq ?_
          refine sc_region ?_
          refine qs (y_move RF) ?_
          refine qs (y_move RF) ?_
          refine qs (y_shr RF RF (by simp [IntKind.bits]; omega)) ?_
          refine qs (y_and RF RF (shr_bd (by omega) i) (by omega)) ?_
          refine qs (y_eql RF RF) ?_
          rw [bit_one]
          refine sq_nil ?_
          refine sx_then ?_
          refine scp (fun hc5 => ?_) (fun hc5 => ?_)
          ·
            have hin : inS k i = true := by simpa [inS] using hc5
            have hbad : goodS b ts (andNotN k (pw2 i)) = false := by
              cases hg : goodS b ts (andNotN k (pw2 i)) with
              | false => rfl
              | true =>
                have h1 := less_lt hin
                have h2 := hmin _ (by omega) hg
                have h3 := cost_less hte k i ts.length (Nat.le_refl _)
                omega
            refine sc_seq ?_
            refine sc_region ?_
            refine qs (y_move RF) ?_
            refine qs (y_move RF) ?_
            refine qs (y_move RF) ?_
            refine qs (y_shl RF RF (by omega) (by rw [hshi]; omega)) ?_
            rw [hshi]
            refine qs (y_andNot RF RF (by omega) (by omega)) ?_
            rw [Int.toNat_natCast, Int.toNat_natCast]
            refine sq_call_new (first := []) (caps := [.pointer (some ⟨b4, 0, none⟩)]) (vs := [.int .i64 ((andNotN k (pw2 i)) : Nat)]) (Z := Option Addr × Nat) (fun z => .tuple #[.slice z.1 (someL ts (andNotN k (pw2 i)) ts.length).length z.2, .int .i64 (costK ts (andNotN k (pw2 i)) ts.length)]) (fun lo w' z => RowsA teRow 7 lo w' z.1 (someL ts (andNotN k (pw2 i)) ts.length)) RF Try.call39 E1 (fun w1 hw1 => some39 w1 b at_ ct ts (ht.at hw1 MM) hte h8 (andNotN k (pw2 i)) (by have := less_lt hin; omega) _ (CA.blk (vs := [.slice at_ ts.length ct]) hw1 MM)) rfl (fun lo2 wr2 zs2 hs2 => ?_)
            refine qs (y_move RF) ?_
            refine qs (y_extract RF RF) ?_
            refine qs (y_extract RF RF) ?_
            refine qs (y_assign RF) ?_
            refine qs (y_assign RF) ?_
            refine sq_nil ?_
            refine sx_then ?_
            refine sc_seq ?_
            refine sc_region ?_
            refine qs LD26 ?_
            refine qs (y_move RF) ?_
            refine sq_call_new (first := []) (caps := []) (Z := Option Addr × Nat) (fun z => .tuple #[.slice z.1 (slipR b (someL ts (andNotN k (pw2 i)) ts.length)).1.length z.2, .int .i64 (slipR b (someL ts (andNotN k (pw2 i)) ts.length)).2]) (fun _ _ _ => True) RF Try.call21 (EvL.cons RF (EvL.cons RF EvL.nil)) (fun w1 hw1 => (slips21 w1 b a c (hB.at hw1 MM) zs2.1 zs2.2 (someL ts (andNotN k (pw2 i)) ts.length) (hs2.at hw1 MM)).mono (fun e w' ⟨z, he, hb, _⟩ => ⟨z, he, hb, trivial⟩)) rfl (fun _ _ _ _ => ?_)
            refine qs (y_move RF) ?_
            refine qs (y_extract RF RF) ?_
            refine qs (y_extract RF RF) ?_
            refine qs (y_assign RF) ?_
            refine qs (y_assign RF) ?_
            refine sq_nil ?_
            refine sx_then ?_
            refine sc_seq ?_
            refine sc_region ?_
            refine qs (y_move RF) ?_
            refine qs (y_neq RF RF) ?_
            refine sq_nil ?_
            refine sx_then ?_
            refine sc_f (lk_bool rfl (by rw [slipR_some hchk, if_neg (by rw [hbad]; decide)]; rfl)) ?_
            refine sc_skip ?_
            refine sx_blk ?_
            refine sx_then ?_
            refine sc_region ?_
            refine qs (y_add RF RF (by omega)) ?_
            refine qs (y_move RF) ?_
            refine sq_nil ?_
            refine sx_round (i + 1) ?_ ?_ SU SR
            · omega
            · omega
          ·
            refine sc_skip ?_
            refine sx_blk ?_
            refine sx_then ?_
            refine sc_region ?_
            refine qs (y_add RF RF (by omega)) ?_
            refine qs (y_move RF) ?_
            refine sq_nil ?_
            refine sx_round (i + 1) ?_ ?_ SU SR
            · omega
            · omega
        ·
          refine sc_exit ?_
          refine sx_then_exit ?_
          refine sx_round_exit ?_
          refine sx_blk_hit ?_
          refine sx_then ?_
          refine sc_seq ?_
          refine sc_region ?_
          refine qs (y_move RF) ?_
          refine qs (y_conv Try.underlying5 Try.underlying3 RF (wrap64_in (by omega) (by omega))) ?_
          refine qs LD43 ?_
          refine qs (y_len Try.underlying43 RF) ?_
          refine qs (y_shl RF RF (by omega) (by rw [hsh]; omega)) ?_
          rw [hsh]
          refine qs (y_rem RF RF (by omega) (by omega)) ?_
          rw [ho]
          refine qs (y_assign RF) ?_
          refine sq_nil ?_
          refine sx_then ?_
          refine sc_seq ?_
          refine sc_region ?_
          refine qs (y_move RF) ?_
          refine qs (y_move RF) ?_
          refine sq_call_new (first := []) (caps := [.pointer (some ⟨b4, 0, none⟩)]) (vs := [.int .i64 (o : Nat)]) (Z := Option Addr × Nat) (fun z => .tuple #[.slice z.1 (someL ts o ts.length).length z.2, .int .i64 (costK ts o ts.length)]) (fun lo w' z => RowsA teRow 7 lo w' z.1 (someL ts o ts.length)) RF Try.call39 E1 (fun w1 hw1 => some39 w1 b at_ ct ts (ht.at hw1 MM) hte h8 o (by omega) _ (CA.blk (vs := [.slice at_ ts.length ct]) hw1 MM)) rfl (fun lo3 wr3 zs3 hs3 => ?_)
          refine qs (y_move RF) ?_
          refine qs (y_extract RF RF) ?_
          refine qs (y_extract RF RF) ?_
          refine qs (y_assign RF) ?_
          refine qs (y_assign RF) ?_
          refine sq_nil ?_
          refine sx_then ?_
          refine sc_seq ?_
          refine sc_seq ?_
          refine sc_region ?_
          refine qs LD26 ?_
          refine qs (y_move RF) ?_
          refine sq_call_new (first := []) (caps := []) (Z := Option Addr × Nat) (fun z => .tuple #[.slice z.1 (slipR b (someL ts o ts.length)).1.length z.2, .int .i64 (slipR b (someL ts o ts.length)).2]) (fun _ _ _ => True) RF Try.call21 (EvL.cons RF (EvL.cons RF EvL.nil)) (fun w1 hw1 => (slips21 w1 b a c (hB.at hw1 MM) zs3.1 zs3.2 (someL ts o ts.length) (hs3.at hw1 MM)).mono (fun e w' ⟨z, he, hb, _⟩ => ⟨z, he, hb, trivial⟩)) rfl (fun _ _ _ _ => ?_)
          refine qs (y_move RF) ?_
          refine qs (y_extract RF RF) ?_
          refine qs (y_extract RF RF) ?_
          refine qs (y_assign RF) ?_
          refine qs (y_assign RF) ?_
          refine sq_nil ?_
          refine sx_then ?_
          refine sc_seq ?_
          refine sc_region ?_
          refine qs (y_move RF) ?_
          refine qs (y_eql RF RF) ?_
          refine qs (y_move RF) ?_
          refine sp 155 (fun hg26_2 => ?_) (fun hg26_2 => ?_)
          ·
            refine qg (y_move RF) ?_
            refine qg (y_move RF) ?_
            refine qg (y_lss RF RF) ?_
            refine qg (y_move RF) ?_
            refine sq_known (tt := 159) (b' := false) RF (decide_eq_false (by have := hmin o hol (by rw [slipR_some hchk] at hg26_2; by_cases h : goodS b ts o = true <;> simp_all); omega)) ?_
            refine qg (y_move RF) ?_
            refine qg (y_move RF) ?_
            refine qg (y_eql RF RF) ?_
            refine qg (y_move RF) ?_
            refine sp 163 (fun hg26_10 => ?_) (fun hg26_10 => ?_)
            ·
              refine qg (y_move RF) ?_
              refine qg (y_move RF) ?_
              refine qg (y_lss RF RF) ?_
              refine qg (y_pick_t RF RF) ?_
              refine qg (y_pick_f RF RF) ?_
              refine qs (y_pick_t RF RF) ?_
              refine sq_nil ?_
              refine sx_then ?_
              refine sc_f (lk_bool rfl (decide_eq_false (by have := hmin o hol (by rw [slipR_some hchk] at hg26_2; by_cases h : goodS b ts o = true <;> simp_all); omega))) ?_
              refine sc_skip ?_
              refine sx_then ?_
              refine sc_seq ?_
              refine sc_region ?_
              refine qy (yc Try.call13 E0 (fun w1 _ => alive13 w1)) ?_
              refine qs (y_assign RF) ?_
              refine sq_nil ?_
              refine sx_then ?_
              refine sc_ret ?_
              refine sx_ret1 (.inl rfl) rfl Try.results8 RF ?_
              intro w' hw'
              exact ⟨rfl, hw'.below MM⟩
            ·
              refine qf ?_
              refine qf ?_
              refine qf ?_
              refine qg (y_pick_f RF RF) ?_
              refine qg (y_pick_f RF RF) ?_
              refine qs (y_pick_t RF RF) ?_
              refine sq_nil ?_
              refine sx_then ?_
              refine sc_f RF ?_
              refine sc_skip ?_
              refine sx_then ?_
              refine sc_seq ?_
              refine sc_region ?_
              refine qy (yc Try.call13 E0 (fun w1 _ => alive13 w1)) ?_
              refine qs (y_assign RF) ?_
              refine sq_nil ?_
              refine sx_then ?_
              refine sc_ret ?_
              refine sx_ret1 (.inl rfl) rfl Try.results8 RF ?_
              intro w' hw'
              exact ⟨rfl, hw'.below MM⟩
          ·
            refine qf ?_
            refine qf ?_
            refine qf ?_
            refine qf ?_
            refine sq_gu RF RF rfl ?_
            refine sq_gu RF RF rfl ?_
            refine sq_gu RF RF rfl ?_
            refine sq_gu RF RF rfl ?_
            refine sq_gu RF RF rfl ?_
            refine sq_gu RF RF rfl ?_
            refine sq_gu RF RF rfl ?_
            refine sq_gu RF RF rfl ?_
            refine qf ?_
            refine qs (y_pick_f RF RF) ?_
            refine sq_nil ?_
            refine sx_then ?_
            refine sc_f RF ?_
            refine sc_skip ?_
            refine sx_then ?_
            refine sc_seq ?_
            refine sc_region ?_
            refine qy (yc Try.call13 E0 (fun w1 _ => alive13 w1)) ?_
            refine qs (y_assign RF) ?_
            refine sq_nil ?_
            refine sx_then ?_
            refine sc_ret ?_
            refine sx_ret1 (.inl rfl) rfl Try.results8 RF ?_
            intro w' hw'
            exact ⟨rfl, hw'.below MM⟩
end Go.Proofs.Ytofjipmheckmjaa
