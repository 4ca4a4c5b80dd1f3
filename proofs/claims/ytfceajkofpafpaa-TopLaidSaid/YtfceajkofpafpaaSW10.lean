/- The walks of Left. -/
import Derived.Test.YtfceajkofpafpaaSW9
namespace Go.Proofs.Ytfceajkofpafpaa.Sc
open Go Go.Eng Go.RowKit Go.Proofs
set_option maxRecDepth 100000
/-- what is left of a kind, in the first lists -/
def leftK (ll : List (List Int)) (k : Nat) : Nat → Sp
  | 0 => ⟨(ll.getD 0 []).getD k 0, (ll.getD 0 []).getD k 0⟩
  | j + 1 => ⟨min (leftK ll k j).lo ((ll.getD j []).getD k 0), max (leftK ll k j).hi ((ll.getD j []).getD k 0)⟩
def leftS (n : Nat) (ll : List (List Int)) : List Sp := (List.range n).map fun k => leftK ll k ll.length
def leftR (b : Bx) (ls : List Rd) : List Sp := if openE b ls [] = 0 then leftS b.kinds.length (fitL b ls) else []
theorem leftS_succ (n : Nat) (ll : List (List Int)) : (leftS (n + 1) ll).flatMap spRow = (leftS n ll).flatMap spRow ++ spRow (leftK ll n ll.length) := by
  unfold leftS; rw [List.range_succ, List.map_append, List.flatMap_append]; simp
theorem leftS_len (n : Nat) (ll : List (List Int)) : (leftS n ll).length = n := by simp [leftS]

theorem fold52 (w : World) (a2 : Option Addr) (c2 : Nat) (f : Nat → Option Addr) (cf : Nat → Nat) (ll : List (List Int)) (hL : LLA 0 w a2 f cf ll) (g : FuncId) (caps : List Value) (F : Nat → Sp) (hcg : ∀ args w, (callFunc g args).run Try.prog w = .ok (.enter g args) w) (hp : ∀ i, i < ll.length → ∀ w1, Below w.heap.size w w1 → Calls Try.prog g (.agg (spRow (F i)).toArray :: .int .i64 i :: .slice (f i) (ll.getD i []).length (cf i) :: caps).toArray w1 fun e w' => e = .returned (.agg (spRow (F (i + 1))).toArray) ∧ Below w1.heap.size w1 w') : Calls Try.prog 40 #[.agg (spRow (F 0)).toArray, .slice a2 ll.length c2, .func (.func g) #[] caps.toArray] w fun e w' => e = .returned (.agg (spRow (F ll.length)).toArray) ∧ Below w.heap.size w w' := by
  have hlen := hL.len
  refine calls_of_SC (args := [.agg (spRow (F 0)).toArray, .slice a2 ll.length c2, .func (.func g) #[] caps.toArray]) Try.func40 rfl Try.ntmps40 rfl ?_
  simp only [argL, Nat.reduceAdd, Nat.zero_add]
  refine sc_seq ?_
  refine sc_region ?_
  refine sq_box RF rfl (fun b3 => ?_)
  refine sq_alloc Try.zeroValue38 rfl (fun b6 => ?_)
  refine sq_nil ?_
  refine sx_then ?_
  refine sc_seq ?_
  refine sc_seq ?_
  refine sc_region ?_
  refine qs (y_move RF) ?_
  refine qs (y_len Try.underlying115 RF) ?_
  refine qs (y_move RF) ?_
  refine sq_nil ?_
  refine sx_then ?_
  refine sc_block ?_
  refine sc_loop (σ := Nat)
    (fun s => [(2, .func (.func g) #[] caps.toArray), (3, .pointer (some ⟨b3, 0, none⟩)), (6, .pointer (some ⟨b6, 0, none⟩)), (9, .slice a2 ll.length c2), (10, .int .i64 ll.length), (11, .int .i64 s)])
    (fun s => [.blk b6 (.cells [.int .i64 0, .int .i64 0].toArray 38 (0, 0)), .blk b3 (.cells (spRow (F s)).toArray 38 (0, 0)), .reg 0 w])
    (fun s => s ≤ ll.length)
    (fun s => ll.length - s)
    (0) ?_ SU SE ?_
  · exact Nat.zero_le _
  rintro k hk
  refine sc_seq ?_
  refine sc_region ?_
  refine qs (y_lss RF RF) ?_
  refine sq_nil ?_
  refine sx_then ?_
  refine sc_seq ?_
  refine scp (fun hc0 => ?_) (fun hc0 => ?_)
  ·
    have hk' : k < ll.length := by omega
    have hsm := (hL.el k _ (get_of_lt [] hk')).1
    have hca := (hL.el k _ (get_of_lt [] hk')).2.1
    refine sc_skip ?_
    refine sx_then ?_
    refine sc_seq ?_
    refine sc_block ?_
    refine sc_seq ?_
    refine sc_region ?_
    refine qs (y_move RF) ?_
    refine qs IA84 ?_
    refine qs (by first | exact y_load_ca0 Try.underlying111 rfl RF MM hca rfl | exact LD79) ?_
    refine qs (y_assign RF) ?_
    refine qs (y_assign RF) ?_
    refine sq_nil ?_
    refine sx_then ?_
    refine sc_region ?_
    refine qs (y_move RF) ?_
    refine qs LD24 ?_
    refine qs (y_move RF) ?_
    refine qs (y_move RF) ?_
    refine qy (y_call (first := []) (caps := caps) RF hcg (EvL.cons RF (EvL.cons RF (EvL.cons RF EvL.nil))) (fun w1 hw1 => hp k hk' w1 (hw1.below MM))) ?_
    refine sq_store_all Try.sizeOf38 RF RF rfl RM rfl rfl ?_
    refine sq_nil ?_
    refine sx_blk ?_
    refine sx_then ?_
    refine sc_region ?_
    refine qs (y_add RF RF (by omega)) ?_
    refine qs (y_move RF) ?_
    refine sq_nil ?_
    refine sx_round (k + 1) ?_ ?_ SU SE
    · omega
    · omega
  ·
    refine sc_exit ?_
    refine sx_then_exit ?_
    refine sx_round_exit ?_
    refine sx_blk_hit ?_
    refine sx_then ?_
    refine sc_seq ?_
    refine sc_region ?_
    refine qs LD24 ?_
    refine sq_store_all Try.sizeOf38 RF RF rfl RM rfl rfl ?_
    refine sq_nil ?_
    refine sx_then ?_
    refine sc_ret ?_
    refine sx_retc (.inl rfl) rfl Try.results40 Try.underlying38 rfl Try.sizeOf38 RF MM rfl ?_
    intro w' hw'
    refine ⟨?_, hw'.below MM⟩
    have hkn : k = ll.length := by omega
    rw [hkn]
theorem left53 (w : World) (s : Sp) (i : Value) (al : Option Addr) (cl : Nat) (l : List Int) (hl : RowsA iRow 1 0 w al l) (p : Addr) (k : Nat) (hp : CA 0 w p [.int .i64 k]) (hk' : k < l.length) : Calls Try.prog 41 #[.agg (spRow s).toArray, i, .slice al l.length cl, .pointer (some p)] w fun e w' => e = .returned (.agg (spRow ⟨min s.lo (l.getD k 0), max s.hi (l.getD k 0)⟩).toArray) ∧ Below w.heap.size w w' := by
  have hlen := hl.len
  have hsm := (hl.get 0 hk').1
  have hca := (hl.get 0 hk').2
  refine calls_of_SC (args := [.agg (spRow s).toArray, i, .slice al l.length cl, .pointer (some p)]) Try.func41 rfl Try.ntmps41 rfl ?_
  simp only [argL, Nat.reduceAdd, Nat.zero_add]
  refine sc_seq ?_
  refine sc_region ?_
  refine sq_box RF rfl (fun b4 => ?_)
  refine sq_alloc Try.zeroValue38 rfl (fun b7 => ?_)
  refine sq_nil ?_
  refine sx_then ?_
  refine sc_seq ?_
  refine sc_drawR (by kernel_rfl) ?_
  refine xj_s 0 RF (by kernel_rfl) SE FA24_3 rfl ?_
  refine xj_s 1 RF (by kernel_rfl) SE LD3 rfl ?_
  refine xj_s 2 RF (by kernel_rfl) SE (y_move RF) rfl ?_
  refine xj_s 3 RF (by kernel_rfl) SE (by first | exact y_load_ca0 Try.underlying3 rfl RF MM hp rfl | exact LD3) rfl ?_
  refine xj_s 4 RF (by kernel_rfl) SE IA79 rfl ?_
  refine xj_s 5 RF (by kernel_rfl) SE (by first | exact y_load_ca0 Try.underlying3 rfl RF MM hca rfl | exact LD3) rfl ?_
  refine xj_s 6 RF (by kernel_rfl) SE (y_min RF RF) rfl ?_
  refine xj_s 7 RF (by kernel_rfl) SE FA24_3 rfl ?_
  refine xj_s 8 RF (by kernel_rfl) SE LD3 rfl ?_
  refine xj_s 9 RF (by kernel_rfl) SE (y_move RF) rfl ?_
  refine xj_s 10 RF (by kernel_rfl) SE (by first | exact y_load_ca0 Try.underlying3 rfl RF MM hp rfl | exact LD3) rfl ?_
  refine xj_s 11 RF (by kernel_rfl) SE IA79 rfl ?_
  refine xj_s 12 RF (by kernel_rfl) SE (by first | exact y_load_ca0 Try.underlying3 rfl RF MM hca rfl | exact LD3) rfl ?_
  refine xj_s 13 RF (by kernel_rfl) SE (y_max RF RF) rfl ?_
  refine xj_s 14 RF (by kernel_rfl) SE (y_build bt24 (EvP.cons RF (EvP.cons RF EvP.nil)) RF) rfl ?_
  refine xj_one 15 RF (by kernel_rfl) ?_
  refine sq_store_all Try.sizeOf38 RF RF rfl RM rfl rfl ?_
  refine sq_nil ?_
  refine sx_xpl (by kernel_rfl) ?_
  refine xj_done (by kernel_rfl) ?_
  refine sx_then ?_
  refine sc_ret ?_
  refine sx_retc (.inl rfl) rfl Try.results41 Try.underlying38 rfl Try.sizeOf38 RF MM rfl ?_
  intro w' hw'
  exact ⟨rfl, hw'.below MM⟩
theorem left18 (w : World) (b : Bx) (a : Option Addr) (c : Nat) (hB : RowsA kdRow 3 0 w a b.kinds) (al : Option Addr) (cl : Nat) (ls : List Rd) (hl : RowsA rdRow 8 0 w al ls) : Calls Try.prog 13 #[.agg (bxRow b a c).toArray, .slice al ls.length cl] w fun e w' => ∃ v, e = .returned (.tuple #[v, .int .i64 (openE b ls [])]) ∧ Below w.heap.size w w' ∧ w'.ownsRow w.heap.size 38 2 v (leftR b ls).length ((leftR b ls).flatMap spRow) := by
  have hblen := hB.len
  refine calls_of_SC (args := [.agg (bxRow b a c).toArray, .slice al ls.length cl]) Try.func13 rfl Try.ntmps13 rfl ?_
  simp only [argL, Nat.zero_add]
  refine sc_seq ?_
  refine sc_region ?_
  refine sq_box RF rfl (fun b2 => ?_)
  refine qs (y_assign RF) ?_
  refine qs (y_assign RF) ?_
  refine sq_nil ?_
  refine sx_then ?_
  refine sc_seq ?_
  refine sc_region ?_
  refine qs LD26 ?_
  refine qs (y_move RF) ?_
  refine sq_call_new (first := []) (caps := []) (Z := (Option Addr × (Nat → Option Addr) × Nat × (Nat → Nat)) × Nat) (fun z => .tuple #[.slice z.1.1 z.2 z.1.2.2.1, .int .i64 (openE b ls [])]) (fun lo w' z => w.heap.size ≤ lo ∧ (openE b ls [] = 0 → z.2 = (fitL b ls).length ∧ Opened lo w' b ls z.1)) RF Try.call38 (EvL.cons RF (EvL.cons RF (EvL.cons RF EvL.nil))) (fun w1 hw1 => (open49 w1 b a c (hB.at hw1 MM) al cl ls (hl.at hw1 MM) none 0 [] (RowsA.nil 0 w1)).mono (fun e w' ⟨z, he, hb, hL⟩ => ⟨z, he, hb, hw1.size, hL⟩)) rfl (fun lo wr zo hzo => ?_)
  refine qs (y_move RF) ?_
  refine qs (y_extract RF RF) ?_
  refine qs (y_extract RF RF) ?_
  refine qs (y_assign RF) ?_
  refine qs (y_assign RF) ?_
  refine sq_nil ?_
  refine sx_then ?_
  refine sc_seq ?_
  refine sc_seq ?_
  refine sc_region ?_
  refine qs (y_move RF) ?_
  refine qs (y_neq RF RF) ?_
  refine sq_nil ?_
  refine sx_then ?_
  refine scp (fun hc0 => ?_) (fun hc0 => ?_)
  ·
    refine sc_seq ?_
    refine sc_region ?_
    refine qs (y_move RF) ?_
    refine qs (y_assign RF) ?_
    refine qs (y_assign RF) ?_
    refine sq_nil ?_
    refine sx_then ?_
    refine sc_ret ?_
    refine sx_then_ret ?_
    refine sx_ret2 (.inl rfl) rfl Try.results13 RF RF ?_
    intro w' hw'
    have hR : leftR b ls = [] := by unfold leftR; rw [if_neg (by simpa using hc0)]
    rw [hR]
    exact ⟨_, rfl, hw'.below MM, World.ownsRow_nil w' _ 38 2⟩
  ·
    refine sc_skip ?_
    refine sx_then ?_
    refine sc_seq ?_
    refine sc_seq ?_
    have hE : openE b ls [] = 0 := by simpa using hc0
    obtain ⟨hz2, hL⟩ := hzo.2 hE
    have hzz := openE_zero hE
    have hok := (chk_zero hzz.1).1
    have hbp := bxB_parts hok
    rw [hz2]
    have hlenk : ∀ i, i < (fitL b ls).length → ((fitL b ls).getD i []).length = b.kinds.length := fun i hi => (allL_ok hok _ (List.mem_filter.1 (show _ ∈ (allL b).filter (fitV b ls) from List.mem_of_getElem? (get_of_lt [] hi))).1).len
    have hsm0 := (hL.el 0 _ (get_of_lt [] hzz.2)).1
    have hca0 := (hL.el 0 _ (get_of_lt [] hzz.2)).2.1
    have hr0 := (hL.el 0 _ (get_of_lt [] hzz.2)).2.2
    have hf0 : 0 < (fitL b ls).length := hzz.2
    refine sc_nil_own 38 2 ?_
    refine sc_region ?_
    refine qs FA26_22 ?_
    refine qs LD22 ?_
    refine qs (y_len Try.underlying32 RF) ?_
    refine qs (y_move RF) ?_
    refine sq_nil ?_
    refine sx_then ?_
    refine sc_block ?_
    refine sc_loop (σ := Nat × Value)
      (fun s => [(2, .pointer (some ⟨b2, 0, none⟩)), (4, s.2), (5, .int .i64 (openE b ls [])), (6, .slice zo.1.1 (fitL b ls).length zo.1.2.2.1), (20, .int .i64 b.kinds.length), (21, .int .i64 s.1)])
      (fun s => .own s.2 38 2 s.1 ((leftS s.1 (fitL b ls)).flatMap spRow) :: .blk b2 (.cells (bxRow b a c).toArray 45 (0, 0)) :: .reg lo wr :: [.reg 0 w])
      (fun s => s.1 ≤ b.kinds.length ∧ s.2.oneCell' = true)
      (fun s => b.kinds.length - s.1)
      ((0, .slice none 0 0)) ?_ SU SR ?_
    · exact ⟨Nat.zero_le _, rfl⟩
    rintro ⟨k, v4⟩ ⟨hk, hv4⟩
    dsimp only at hk hv4 ⊢
    refine sc_seq ?_
    refine sc_region ?_
    refine qs (y_lss RF RF) ?_
    refine sq_nil ?_
    refine sx_then ?_
    refine sc_seq ?_
    refine scp (fun hc1 => ?_) (fun hc1 => ?_)
    ·
      have hk' : k < b.kinds.length := by omega
      have hkl : k < ((fitL b ls).getD 0 []).length := by rw [hlenk 0 hzz.2]; exact hk'
      have hsmk := (hr0.get 0 hkl).1
      have hcak := (hr0.get 0 hkl).2
      refine sc_skip ?_
      refine sx_then ?_
      refine sc_seq ?_
      refine sc_block ?_
      refine sc_seq ?_
      refine sc_region ?_
      refine qs (y_move RF) ?_
      refine sq_alloc Try.zeroValue3 rfl (fun b7 => ?_)
      refine sq_store Try.sizeOf3 RF RF (by first | rfl | assumption) RM (by first | exact Nat.le_of_ble_eq_true rfl | simp | omega) ?_
      refine sq_nil ?_
      refine sx_then ?_
      refine sc_seq ?_
      refine sc_drawX ([.blk b7 (.cells #[.int .i64 k] 3 (0, 0)), .reg lo wr, .reg 0 w]) (by kernel_rfl) ?_
      refine xj_s 0 RF (by kernel_rfl) SR (y_move RF) rfl ?_
      refine xj_s 1 RF (by kernel_rfl) SR (by first | exact y_ia_blk Try.underlying115 Try.sizeOf111 RF (show _ = some (Value.int .i64 ((0 : Nat) : Int)) from rfl) (by omega) | exact y_ia_el Try.underlying115 Try.sizeOf111 RF (show _ = some (Value.int .i64 ((0 : Nat) : Int)) from rfl) (by omega) (by first | assumption | simp)) rfl ?_
      refine xj_s 2 RF (by kernel_rfl) SR (by first | exact y_load_ca0 Try.underlying111 rfl RF MM hca0 rfl | exact LD79) rfl ?_
      refine xj_s 3 RF (by kernel_rfl) SR LD3 rfl ?_
      refine xj_s 4 RF (by kernel_rfl) SR IA79 rfl ?_
      refine xj_s 5 RF (by kernel_rfl) SR (by first | exact y_load_ca0 Try.underlying3 rfl RF MM hcak rfl | exact LD3) rfl ?_
      refine xj_s 6 RF (by kernel_rfl) SR (y_move RF) rfl ?_
      refine xj_s 7 RF (by kernel_rfl) SR (by first | exact y_ia_blk Try.underlying115 Try.sizeOf111 RF (show _ = some (Value.int .i64 ((0 : Nat) : Int)) from rfl) (by omega) | exact y_ia_el Try.underlying115 Try.sizeOf111 RF (show _ = some (Value.int .i64 ((0 : Nat) : Int)) from rfl) (by omega) (by first | assumption | simp)) rfl ?_
      refine xj_s 8 RF (by kernel_rfl) SR (by first | exact y_load_ca0 Try.underlying111 rfl RF MM hca0 rfl | exact LD79) rfl ?_
      refine xj_s 9 RF (by kernel_rfl) SR LD3 rfl ?_
      refine xj_s 10 RF (by kernel_rfl) SR IA79 rfl ?_
      refine xj_s 11 RF (by kernel_rfl) SR (by first | exact y_load_ca0 Try.underlying3 rfl RF MM hcak rfl | exact LD3) rfl ?_
      refine xj_s 12 RF (by kernel_rfl) SR (y_build bt24 (EvP.cons RF (EvP.cons RF EvP.nil)) RF) rfl ?_
      refine xj_one 13 RF (by kernel_rfl) ?_
      refine sq_alloc Try.zeroValue38 rfl (fun b8 => ?_)
      refine sq_nil ?_
      refine sx_xp SR ?_
      refine xj_one 14 RF (by kernel_rfl) ?_
      refine sq_store_all Try.sizeOf38 RF RF rfl RM rfl rfl ?_
      refine sq_nil ?_
      refine sx_xpl (by kernel_rfl) ?_
      refine xj_done (by kernel_rfl) ?_
      refine sx_then ?_
      refine sc_region ?_
      refine qs (y_move RF) ?_
      refine qs LD24 ?_
      refine qs (y_move RF) ?_
      refine qs (y_makeFunc EvL.nil (EvL.cons RF EvL.nil)) ?_
      refine qy (yc Try.call40 E3 (fun w1 hw1 => fold52 w1 zo.1.1 zo.1.2.2.1 zo.1.2.1 zo.1.2.2.2 (fitL b ls) (hL.at hw1 MM) 41 [.pointer (some ⟨b7, 0, none⟩)] (leftK (fitL b ls) k) Try.call41 (fun i hi w2 hb2 => left53 w2 _ _ _ _ _ (((hL.el i _ (get_of_lt [] hi)).2.2.at hw1 MM).below hb2) ⟨b7, 0, none⟩ k (CA.below (CA.blk (vs := [.int .i64 k]) hw1 MM) hb2) (by rw [hlenk i hi]; omega)))) ?_
      refine sq_bs Try.underlying54 ei24 (EvI.cons RF EvI.nil) (by first | (simp [Value.cells]; done) | (simp [Value.cells]; rfl) | (simp [Value.cells]; and_intros <;> rfl)) rfl rfl rfl (fun b42 => ?_)
      refine sq_append (news := spRow (leftK (fitL b ls) k (fitL b ls).length)) Try.underlying54 ei24 rfl (by decide) RF RM RF rfl (fun _ hw => news_blk hw MM) (by simp [spRow, Value.oneCell']) (by omega) rfl (fun v43 ho43 => ?_)
      rw [← leftS_succ]
      refine qs (y_assign RF) ?_
      refine sq_nil ?_
      refine sx_blk ?_
      refine sx_then ?_
      refine sc_region ?_
      refine qs (y_add RF RF (by omega)) ?_
      refine qs (y_move RF) ?_
      refine sq_nil ?_
      refine sx_round ((k + 1, v43)) ?_ ?_ SU SR
      · exact ⟨by omega, ho43⟩
      · omega
    ·
      refine sc_exit ?_
      refine sx_then_exit ?_
      refine sx_round_exit ?_
      refine sx_blk_hit ?_
      refine sx_then ?_
      refine sc_seq ?_
      refine sc_region ?_
      refine qs (y_move RF) ?_
      refine qs (y_assign RF) ?_
      refine qs (y_assign RF) ?_
      refine sq_nil ?_
      refine sx_then ?_
      refine sc_ret ?_
      refine sx_ret2 (.inl rfl) rfl Try.results13 RF RF ?_
      intro w' hw'
      have hkn : k = b.kinds.length := by omega
      subst hkn
      have hR : leftR b ls = leftS b.kinds.length (fitL b ls) := by unfold leftR; rw [if_pos hE]
      rw [hR, leftS_len, hE]
      exact ⟨v4, rfl, hw'.below MM, own_new_mem hw' MM MM⟩
end Go.Proofs.Ytfceajkofpafpaa.Sc
