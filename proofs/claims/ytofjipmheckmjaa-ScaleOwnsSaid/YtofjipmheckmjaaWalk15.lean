/- The walk of Next. -/
import Derived.Test.YtofjipmheckmjaaWalk14
namespace Go.Proofs.Ytofjipmheckmjaa
open Go Go.Eng Go.RowKit Go.Proofs
set_option maxRecDepth 100000
/-- the tests that settle, of the first -/
def chL (b : Bx) (ts : List Te) (ll : List (List Int)) : Nat → List Ch
  | 0 => []
  | k + 1 => if setV b ll (ts.getD k te0) = true then chL b ts ll k ++ [⟨k, (ts.getD k te0).cost⟩] else chL b ts ll k
theorem chL_len (b : Bx) (ts : List Te) (ll : List (List Int)) : ∀ k, (chL b ts ll k).length ≤ k
  | 0 => Nat.le_refl _
  | k + 1 => by
    have := chL_len b ts ll k
    unfold chL
    split
    · simp; omega
    · omega
def nextR (b : Bx) (ls : List Rd) (ts : List Te) : Int × Int := if openE b ls ts ≠ 0 then (0, openE b ls ts) else if judgeV (fitL b ls) ≠ 1 then (0, 6) else if (chL b ts (fitL b ls) ts.length).length = 0 then (0, 4) else ((bestC (chL b ts (fitL b ls) ts.length)).at_, 0)
theorem best58v (w : World) (v : Value) (l : List Ch) (hv : w.ownsRow 0 99 2 v l.length (l.flatMap chRow)) (hb : l.length ≤ 100000) : Calls Try.prog 58 #[v] w fun e w' => e = .returned (.tuple #[.agg (chRow (if l.length = 0 then ch0 else bestC l)).toArray, .bool (decide (0 < l.length))]) ∧ Below w.heap.size w w' := by
  obtain ⟨a, c, rfl, _, hr⟩ := own_rowsA (row := chRow) (fun _ => rfl) hv rfl (by omega)
  exact best58 w a c l hr

theorem next25 (w : World) (b : Bx) (a : Option Addr) (c : Nat) (hB : RowsA kdRow 3 0 w a b.kinds) (al : Option Addr) (cl : Nat) (ls : List Rd) (hl : RowsA rdRow 8 0 w al ls) (at_ : Option Addr) (ct : Nat) (ts : List Te) (ht : RowsA teRow 7 0 w at_ ts) : Calls Try.prog 25 #[.agg (bxRow b a c).toArray, .slice al ls.length cl, .slice at_ ts.length ct] w fun e w' => e = .returned (.tuple #[.int .i64 (nextR b ls ts).1, .int .i64 (nextR b ls ts).2]) ∧ Below w.heap.size w w' := by
  have htlen := ht.len
  refine calls_of_SC (args := [.agg (bxRow b a c).toArray, .slice al ls.length cl, .slice at_ ts.length ct]) Try.func25 rfl Try.ntmps25 rfl ?_
  simp only [argL, Nat.reduceAdd, Nat.zero_add]
  refine sc_seq ?_
  refine sc_region ?_
  refine sq_box RF rfl (fun b3 => ?_)
  refine qs (y_assign RF) ?_
  refine qs (y_assign RF) ?_
  refine sq_nil ?_
  refine sx_then ?_
  refine sc_seq ?_
  refine sc_region ?_
  refine qs LD26 ?_
  refine qs (y_move RF) ?_
  refine qs (y_move RF) ?_
  refine sq_call_new (first := []) (caps := []) (Z := (Option Addr × (Nat → Option Addr) × Nat × (Nat → Nat)) × Nat) (fun z => .tuple #[.slice z.1.1 z.2 z.1.2.2.1, .int .i64 (openE b ls ts)]) (fun lo w' z => w.heap.size ≤ lo ∧ (openE b ls ts = 0 → z.2 = (fitL b ls).length ∧ Opened lo w' b ls z.1)) RF Try.call49 (EvL.cons RF (EvL.cons RF (EvL.cons RF EvL.nil))) (fun w1 hw1 => (open49 w1 b a c (hB.at hw1 MM) al cl ls (hl.at hw1 MM) at_ ct ts (ht.at hw1 MM)).mono (fun e w' ⟨z, he, hb, hL⟩ => ⟨z, he, hb, hw1.size, hL⟩)) rfl (fun lo wr zo hzo => ?_)
  refine qs (y_move RF) ?_
  refine qs (y_extract RF RF) ?_
  refine qs (y_extract RF RF) ?_
  refine qs (y_assign RF) ?_
  refine qs (y_assign RF) ?_
  refine sq_nil ?_
  refine sx_then ?_
  refine sc_seq ?_
  refine sc_block ?_
  refine sc_seq ?_
  refine sc_region ?_
  refine qs (y_move RF) ?_
  refine qs (y_neq RF RF) ?_
  refine qs (y_assign RF) ?_
  refine sq_nil ?_
  refine sx_then ?_
  refine scp (fun hc0 => ?_) (fun hc0 => ?_)
  ·
    refine sc_seq ?_
    refine sc_region ?_
    refine qs (y_move RF) ?_
    refine qs (y_assign RF) ?_
    refine qs (y_assign RF) ?_
    refine sq_nil ?_
    refine sx_then ?_
    refine sc_ret ?_
    refine sx_blk_ret ?_
    refine sx_then_ret ?_
    refine sx_ret2 (.inl rfl) rfl Try.results25 RF RF ?_
    intro w' hw'
    refine ⟨?_, hw'.below MM⟩
    unfold nextR; rw [if_pos (by simpa using hc0)]; rfl
  ·
    refine sc_seq ?_
    have hE : openE b ls ts = 0 := by simpa using hc0
    obtain ⟨hz2, hL⟩ := hzo.2 hE
    rw [hz2]
    have hz := chk_zero (openE_zero hE).1
    have hok := hz.1
    have hin : ∀ h, h ∈ fitL b ls → HasOk b h := fun h hh => allL_ok hok h (List.mem_filter.1 hh).1
    refine sc_region ?_
    refine qs (y_move RF) ?_
    refine qy (yc Try.call50 E1 (fun w1 hw1 => judge50 w1 zo.1.1 zo.1.2.2.1 zo.1.2.1 zo.1.2.2.2 (fitL b ls) ((hzo.2 hE).2.at hw1 MM))) ?_
    refine qs (y_neq RF RF) ?_
    refine qs (y_assign RF) ?_
    refine sq_nil ?_
    refine sx_then ?_
    refine scp (fun hc1 => ?_) (fun hc1 => ?_)
    ·
      refine sc_seq ?_
      refine sc_region ?_
      refine qs (y_assign RF) ?_
      refine qs (y_assign RF) ?_
      refine sq_nil ?_
      refine sx_then ?_
      refine sc_ret ?_
      refine sx_blk_ret ?_
      refine sx_then_ret ?_
      refine sx_ret2 (.inl rfl) rfl Try.results25 RF RF ?_
      intro w' hw'
      refine ⟨?_, hw'.below MM⟩
      unfold nextR; rw [if_neg (by simpa using hE), if_pos (by simpa using hc1)]
    ·
      refine sc_skip ?_
      refine sx_blk ?_
      refine sx_then ?_
      refine sc_seq ?_
      have hJ : judgeV (fitL b ls) = 1 := by simpa using hc1
      refine sc_region ?_
      refine qs (y_assign RF) ?_
      refine sq_nil ?_
      refine sx_then ?_
      refine sc_seq ?_
      refine sc_seq ?_
      refine sc_nil_own 99 2 ?_
      refine sc_region ?_
      refine qs (y_move RF) ?_
      refine qs (y_len Try.underlying43 RF) ?_
      refine qs (y_move RF) ?_
      refine sq_nil ?_
      refine sx_then ?_
      refine sc_block ?_
      refine sc_loop (σ := Nat × Value)
        (fun s => [(2, .slice at_ ts.length ct), (3, .pointer (some ⟨b3, 0, none⟩)), (8, .slice zo.1.1 (fitL b ls).length zo.1.2.2.1), (10, s.2), (30, .slice at_ ts.length ct), (31, .int .i64 ts.length), (32, .int .i64 s.1)])
        (fun s => .own s.2 99 2 (chL b ts (fitL b ls) s.1).length ((chL b ts (fitL b ls) s.1).flatMap chRow) :: .blk b3 (.cells (bxRow b a c).toArray 26 (0, 0)) :: .reg lo wr :: [.reg 0 w])
        (fun s => s.1 ≤ ts.length ∧ s.2.oneCell' = true)
        (fun s => ts.length - s.1)
        ((0, .slice none 0 0)) ?_ SU SR ?_
      · exact ⟨Nat.zero_le _, rfl⟩
      rintro ⟨k, v10⟩ ⟨hk, hv10⟩
      dsimp only at hk hv10 ⊢
      refine sc_seq ?_
      refine sc_region ?_
      refine qs (y_lss RF RF) ?_
      refine sq_nil ?_
      refine sx_then ?_
      refine sc_seq ?_
      refine scp (fun hc2 => ?_) (fun hc2 => ?_)
      ·
        have hk' : k < ts.length := by omega
        have hsm := (ht.get te0 hk').1
        have hca := (ht.get te0 hk').2
        have hcl := chL_len b ts (fitL b ls) k
        refine sc_skip ?_
        refine sx_then ?_
        refine sc_seq ?_
        refine sc_block ?_
        refine sc_seq ?_
        refine sc_region ?_
        refine qs (y_move RF) ?_
        refine qs IA43 ?_
        refine qs (by first | exact y_load_ca Try.underlying29 rfl Try.sizeOf29 RF MM hca rfl | exact LD29) ?_
        refine sq_alloc Try.zeroValue29 rfl (fun b12 => ?_)
        refine qs (y_assign RF) ?_
        refine sq_store_all Try.sizeOf29 RF RF rfl RM rfl rfl ?_
        refine sq_nil ?_
        refine sx_then ?_
        refine sc_seq ?_
        refine sc_region ?_
        refine qs LD26 ?_
        refine qs (y_move RF) ?_
        refine qs LD29 ?_
        refine qy (yc Try.call60 E3 (fun w1 hw1 => settles60 w1 b a c (hB.at hw1 MM) hok zo.1.1 zo.1.2.2.1 zo.1.2.1 zo.1.2.2.2 (fitL b ls) (hL.at hw1 MM) hin (ts.getD k te0) (hz.2.2.2.2 _ (List.mem_of_getElem? (get_of_lt te0 hk'))))) ?_
        refine sq_nil ?_
        refine sx_then ?_
        refine scp (fun hc3 => ?_) (fun hc3 => ?_)
        ·
          refine sc_region ?_
          refine qs (y_move RF) ?_
          refine qs (y_move RF) ?_
          refine qs FA29_3 ?_
          refine qs LD3 ?_
          refine qs (y_build bt99 (EvP.cons RF (EvP.cons RF EvP.nil)) RF) ?_
          refine sq_bs Try.underlying97 ei99 (EvI.cons RF EvI.nil) (by first | (simp [Value.cells]; done) | (simp [Value.cells]; rfl) | (simp [Value.cells]; and_intros <;> rfl)) rfl rfl rfl (fun b46 => ?_)
          refine sq_append (news := chRow ⟨k, (ts.getD k te0).cost⟩) Try.underlying97 ei99 rfl (by decide) RF RM RF rfl (fun _ hw => news_blk hw MM) (by simp [chRow, Value.oneCell']) (by omega) rfl (fun v47 ho47 => ?_)
          rw [show (chL b ts (fitL b ls) k).flatMap chRow ++ chRow ⟨k, (ts.getD k te0).cost⟩ = (chL b ts (fitL b ls) (k + 1)).flatMap chRow from by show _ = List.flatMap chRow (if _ then _ else _); rw [if_pos hc3, List.flatMap_append]; simp, show (chL b ts (fitL b ls) k).length + 1 = (chL b ts (fitL b ls) (k + 1)).length from by show _ = List.length (if _ then _ else _); rw [if_pos hc3]; simp]
          refine qs (y_assign RF) ?_
          refine sq_nil ?_
          refine sx_blk ?_
          refine sx_then ?_
          refine sc_region ?_
          refine qs (y_add RF RF (by omega)) ?_
          refine qs (y_move RF) ?_
          refine sq_nil ?_
          refine sx_round ((k + 1, v47)) ?_ ?_ SU SR
          · exact ⟨by omega, ho47⟩
          · omega
        ·
          rw [show chL b ts (fitL b ls) k = chL b ts (fitL b ls) (k + 1) from by show _ = if _ then _ else _; rw [if_neg (by simpa using hc3)]]
          refine sc_skip ?_
          refine sx_blk ?_
          refine sx_then ?_
          refine sc_region ?_
          refine qs (y_add RF RF (by omega)) ?_
          refine qs (y_move RF) ?_
          refine sq_nil ?_
          refine sx_round ((k + 1, v10)) ?_ ?_ SU SR
          · exact ⟨by omega, hv10⟩
          · omega
      ·
        have hkn : k = ts.length := by omega
        subst hkn
        refine sc_exit ?_
        refine sx_then_exit ?_
        refine sx_round_exit ?_
        refine sx_blk_hit ?_
        refine sx_then ?_
        refine sc_seq ?_
        refine sc_region ?_
        refine qs (y_move RF) ?_
        refine qy (yc Try.call58 E1 (fun w1 hw1 => best58v w1 v10 _ (hw1.ok (Res.own v10 99 2 (chL b ts (fitL b ls) ts.length).length ((chL b ts (fitL b ls) ts.length).flatMap chRow)) MM) (by have := chL_len b ts (fitL b ls) ts.length; omega))) ?_
        refine qs (y_move RF) ?_
        refine qs (y_extract RF RF) ?_
        refine qs (y_extract RF RF) ?_
        refine sq_alloc Try.zeroValue99 rfl (fun b13 => ?_)
        refine sq_store_all Try.sizeOf99 RF RF rfl RM rfl rfl ?_
        refine qs (y_assign RF) ?_
        refine sq_nil ?_
        refine sx_then ?_
        refine sc_seq ?_
        refine sc_seq ?_
        refine sc_region ?_
        refine qs (y_move RF) ?_
        refine qs (y_not RF) ?_
        refine sq_nil ?_
        refine sx_then ?_
        refine scp (fun hc4 => ?_) (fun hc4 => ?_)
        ·
          refine sc_seq ?_
          refine sc_region ?_
          refine qs (y_assign RF) ?_
          refine qs (y_assign RF) ?_
          refine sq_nil ?_
          refine sx_then ?_
          refine sc_ret ?_
          refine sx_then_ret ?_
          refine sx_ret2 (.inl rfl) rfl Try.results25 RF RF ?_
          intro w' hw'
          refine ⟨?_, hw'.below MM⟩
          have h0 : (chL b ts (fitL b ls) ts.length).length = 0 := by simpa using hc4
          unfold nextR; rw [if_neg (by simpa using hE), if_neg (by simpa using hJ), if_pos h0]
        ·
          refine sc_skip ?_
          refine sx_then ?_
          refine sc_seq ?_
          refine sc_region ?_
          refine qs FA99_3 ?_
          refine qs LD3 ?_
          refine qs (y_assign RF) ?_
          refine qs (y_assign RF) ?_
          refine sq_nil ?_
          refine sx_then ?_
          refine sc_ret ?_
          refine sx_ret2 (.inl rfl) rfl Try.results25 RF RF ?_
          intro w' hw'
          refine ⟨?_, hw'.below MM⟩
          have h0 : ¬ (chL b ts (fitL b ls) ts.length).length = 0 := by have h4 := hc4; omega
          unfold nextR; rw [if_neg h0, if_neg (by simpa using hE), if_neg (by simpa using hJ), if_neg h0]; rfl
end Go.Proofs.Ytofjipmheckmjaa
