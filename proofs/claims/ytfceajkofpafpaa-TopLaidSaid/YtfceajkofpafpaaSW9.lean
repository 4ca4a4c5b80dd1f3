/- The walks of open, and of Judge. -/
import Derived.Test.YtfceajkofpafpaaSW8
namespace Go.Proofs.Ytfceajkofpafpaa.Sc
open Go Go.Eng Go.RowKit Go.Proofs
set_option maxRecDepth 100000
theorem chk_zero {b : Bx} {ls : List Rd} {ts : List Te} (h : chk b ls ts = 0) : bxB b = true ∧ ls.length ≤ 16 ∧ ts.length ≤ 8 ∧ (∀ r, r ∈ ls → teB b r.test = true) ∧ ∀ t, t ∈ ts → teB b t = true := by
  unfold chk at h
  split at h
  · cases h
  · rename_i h1
    split at h
    · cases h
    · rename_i h2
      split at h
      · cases h
      · rename_i h3
        simp only [Bool.or_eq_true, List.any_eq_true, not_or, not_exists, not_and, Bool.not_eq_true, Bool.not_eq_false'] at h3
        refine ⟨by simpa using h1, by omega, by omega, fun r hr => ?_, fun t ht => ?_⟩
        · exact h3.1 r hr
        · exact h3.2 t ht
theorem openE_zero {b : Bx} {ls : List Rd} {ts : List Te} (h : openE b ls ts = 0) : chk b ls ts = 0 ∧ 0 < (fitL b ls).length := by
  unfold openE at h
  split at h
  · rename_i h1; exact absurd h h1
  · rename_i h1
    split at h
    · cases h
    · rename_i h2; exact ⟨by omega, by omega⟩
theorem LLA.keep {w0 rs w lo wr a f cf ll} (h : LLA lo wr a f cf ll) (hw : Hp w0 rs w) (hm : Res.reg lo wr ∈ rs) : LLA lo w a f cf ll :=
  ⟨fun i x hi => ⟨(h.el i x hi).1, CA.keep (h.el i x hi).2.1 hw hm, fun j y hj => ⟨((h.el i x hi).2.2.el j y hj).1, CA.keep ((h.el i x hi).2.2.el j y hj).2 hw hm⟩, (h.el i x hi).2.2.len⟩, h.len⟩
/-- the least of the first numbers -/
def minK (l : List Int) : Nat → Int
  | 0 => l.getD 0 0
  | k + 1 => min (minK l k) (l.getD (k + 1) 0)
def minL (l : List Int) : Int := minK l (l.length - 1)
theorem minK_ge (l : List Int) (x : Int) : ∀ k, x ≤ minK l k ↔ ∀ i, i ≤ k → x ≤ l.getD i 0
  | 0 => ⟨fun h i hi => by rw [show i = 0 by omega]; exact h, fun h => h 0 (Nat.le_refl _)⟩
  | k + 1 => by
    have ih := minK_ge l x k
    have e : x ≤ minK l (k + 1) ↔ x ≤ minK l k ∧ x ≤ l.getD (k + 1) 0 := by
      show x ≤ min (minK l k) (l.getD (k + 1) 0) ↔ _
      omega
    rw [e, ih]
    refine ⟨fun h i hi => ?_, fun h => ⟨fun i hi => h i (by omega), h _ (Nat.le_refl _)⟩⟩
    rcases Nat.lt_succ_iff_lt_or_eq.1 (Nat.lt_succ_of_le hi) with h1 | rfl
    · exact h.1 i (by omega)
    · exact h.2
theorem whole_min {l : List Int} (h : 0 < l.length) : decide (0 ≤ minL l) = wholeV l := by
  rw [Bool.eq_iff_iff, decide_eq_true_eq]
  unfold minL wholeV
  rw [minK_ge, List.all_eq_true]
  refine ⟨fun hh x hx => ?_, fun hh i hi => ?_⟩
  · obtain ⟨i, hi, rfl⟩ := List.getElem_of_mem hx
    have := hh i (by omega)
    rw [getD_of (List.getElem?_eq_getElem hi)] at this
    exact decide_eq_true this
  · have := hh (l.getD i 0) (List.mem_of_getElem? (get_of_lt 0 (by omega)))
    exact of_decide_eq_true this
/-- what open hands back -/
def Opened (lo : Nat) (w' : World) (b : Bx) (ls : List Rd) (z : Option Addr × (Nat → Option Addr) × Nat × (Nat → Nat)) : Prop := LLA lo w' z.1 z.2.1 z.2.2.2 (fitL b ls)

theorem open49 (w : World) (b : Bx) (a : Option Addr) (c : Nat) (hB : RowsA kdRow 3 0 w a b.kinds) (al : Option Addr) (cl : Nat) (ls : List Rd) (hl : RowsA rdRow 8 0 w al ls) (at_ : Option Addr) (ct : Nat) (ts : List Te) (ht : RowsA teRow 7 0 w at_ ts) : Calls Try.prog 38 #[.agg (bxRow b a c).toArray, .slice al ls.length cl, .slice at_ ts.length ct] w fun e w' => ∃ z : (Option Addr × (Nat → Option Addr) × Nat × (Nat → Nat)) × Nat, e = .returned (.tuple #[.slice z.1.1 z.2 z.1.2.2.1, .int .i64 (openE b ls ts)]) ∧ Below w.heap.size w w' ∧ (openE b ls ts = 0 → z.2 = (fitL b ls).length ∧ Opened w.heap.size w' b ls z.1) := by
  refine calls_of_SC (args := [.agg (bxRow b a c).toArray, .slice al ls.length cl, .slice at_ ts.length ct]) Try.func38 rfl Try.ntmps38 rfl ?_
  simp only [argL, Nat.reduceAdd, Nat.zero_add]
  refine sc_seq ?_
  refine sc_region ?_
  refine sq_box RF rfl (fun b3 => ?_)
  refine qs (y_assign RF) ?_
  refine qs (y_assign RF) ?_
  refine sq_nil ?_
  refine sx_then ?_
  refine sc_seq ?_
  refine sc_seq ?_
  refine sc_region ?_
  refine qs LD26 ?_
  refine qs (y_move RF) ?_
  refine qs (y_move RF) ?_
  refine qy (yc Try.call71 E3 (fun w1 hw1 => check54 w1 b a c (hB.at hw1 MM) al cl ls (hl.at hw1 MM) at_ ct ts (ht.at hw1 MM))) ?_
  refine qs (y_assign RF) ?_
  refine sq_nil ?_
  refine sx_then ?_
  refine sc_seq ?_
  refine sc_region ?_
  refine qs (y_move RF) ?_
  refine qs (y_neq RF RF) ?_
  refine sq_nil ?_
  refine sx_then ?_
  refine scp (fun hc0 => ?_) (fun hc0 => ?_)
  ·
    refine sc_seq ?_
    refine sc_region ?_
    refine qs (y_move RF) ?_
    refine qs (y_assign RF) ?_
    refine qs (y_assign RF) ?_
    refine sq_nil ?_
    refine sx_then ?_
    refine sc_ret ?_
    refine sx_then_ret ?_
    refine sx_ret2 (.inl rfl) rfl Try.results38 RF RF ?_
    intro w' hw'
    have hE : openE b ls ts = chk b ls ts := by unfold openE; rw [if_pos (by simpa using hc0)]
    rw [hE]
    exact ⟨((none, fun _ => none, 0, fun _ => 0), 0), rfl, hw'.below MM, fun h => absurd h (by simpa using hc0)⟩
  ·
    refine sc_skip ?_
    refine sx_then ?_
    refine sc_seq ?_
    have hz0 : chk b ls ts = 0 := by simpa using hc0
    have hz := chk_zero hz0
    refine sc_region ?_
    refine qs LD26 ?_
    refine qs (y_move RF) ?_
    refine sq_call_new (first := []) (caps := []) (Z := Option Addr × (Nat → Option Addr) × Nat × (Nat → Nat)) (fun z => .slice z.1 (fitL b ls).length z.2.2.1) (fun lo w' z => w.heap.size ≤ lo ∧ Opened lo w' b ls z) RF Try.call72 (EvL.cons RF (EvL.cons RF EvL.nil)) (fun w1 hw1 => (fitting76 w1 b a c (hB.at hw1 MM) hz.1 al cl ls (hl.at hw1 MM) hz.2.2.2.1).mono (fun e w' ⟨a2, f, c2, cf, he, hb, hL⟩ => ⟨(a2, f, c2, cf), he, hb, hw1.size, hL⟩)) rfl (fun lo wr zf hzf => ?_)
    refine qs (y_assign RF) ?_
    refine sq_nil ?_
    refine sx_then ?_
    refine sc_seq ?_
    refine sc_seq ?_
    refine sc_region ?_
    refine qs (y_move RF) ?_
    refine qs (y_len Try.underlying115 RF) ?_
    refine qs (y_eql RF RF) ?_
    refine sq_nil ?_
    refine sx_then ?_
    refine scp (fun hc1 => ?_) (fun hc1 => ?_)
    ·
      refine sc_seq ?_
      refine sc_region ?_
      refine qs (y_assign RF) ?_
      refine qs (y_assign RF) ?_
      refine sq_nil ?_
      refine sx_then ?_
      refine sc_ret ?_
      refine sx_then_ret ?_
      refine sx_ret2 (.inl rfl) rfl Try.results38 RF RF ?_
      intro w' hw'
      have hE : openE b ls ts = 6 := by unfold openE; rw [if_neg (by simpa using hz0), if_pos (by omega)]
      rw [hE]
      exact ⟨((none, fun _ => none, 0, fun _ => 0), 0), rfl, hw'.below MM, fun h => by cases h⟩
    ·
      refine sc_skip ?_
      refine sx_then ?_
      refine sc_seq ?_
      refine sc_region ?_
      refine qs (y_move RF) ?_
      refine qs (y_assign RF) ?_
      refine qs (y_assign RF) ?_
      refine sq_nil ?_
      refine sx_then ?_
      refine sc_ret ?_
      refine sx_ret2 (.inl rfl) rfl Try.results38 RF RF ?_
      intro w' hw'
      have hE : openE b ls ts = 0 := by unfold openE; rw [if_neg (by simpa using hz0), if_neg (by omega)]
      rw [hE]
      exact ⟨(zf, (fitL b ls).length), rfl, hw'.below MM, fun _ => ⟨rfl, LLA.low (LLA.keep hzf.2 hw' MM) hzf.1⟩⟩
theorem min92 (w : World) (al : Option Addr) (cl : Nat) (l : List Int) (hl : RowsA iRow 1 0 w al l) (h0 : 0 < l.length) : Calls Try.prog 103 #[.slice al l.length cl] w fun e w' => e = .returned (.int .i64 (minL l)) ∧ Below w.heap.size w w' := by
  have hlen := hl.len
  have hsm0 := (hl.get 0 h0).1
  have hca0 := (hl.get 0 h0).2
  refine calls_of_SC (args := [.slice al l.length cl]) Try.func103 rfl Try.ntmps103 rfl ?_
  simp only [argL]
  refine sc_seq ?_
  refine sc_region ?_
  refine qs (y_assign RF) ?_
  refine sq_nil ?_
  refine sx_then ?_
  refine sc_seq ?_
  refine sc_seq ?_
  refine sc_region ?_
  refine qs (y_move RF) ?_
  refine qs (y_len Try.underlying111 RF) ?_
  refine qs (y_lss RF RF) ?_
  refine sq_nil ?_
  refine sx_then ?_
  refine scp (fun hc0 => ?_) (fun hc0 => ?_)
  ·
    omega
  ·
    refine sc_skip ?_
    refine sx_then ?_
    refine sc_seq ?_
    refine sc_region ?_
    refine qs (y_move RF) ?_
    refine qs (by first | exact y_ia_blk Try.underlying111 Try.sizeOf3 RF (show _ = some (Value.int .i64 ((0 : Nat) : Int)) from rfl) (by omega) | exact y_ia_el Try.underlying111 Try.sizeOf3 RF (show _ = some (Value.int .i64 ((0 : Nat) : Int)) from rfl) (by omega) (by first | assumption | simp)) ?_
    refine qs (by first | exact y_load_ca0 Try.underlying3 rfl RF MM hca0 rfl | exact LD3) ?_
    refine qs (y_assign RF) ?_
    refine sq_nil ?_
    refine sx_then ?_
    refine sc_seq ?_
    refine sc_seq ?_
    refine sc_region ?_
    refine qs (y_assign RF) ?_
    refine sq_nil ?_
    refine sx_then ?_
    refine sc_block ?_
    refine sc_loop (σ := Nat)
      (fun s => [(0, .slice al l.length cl), (3, .int .i64 (minK l s)), (4, .int .i64 ((s + 1 : Nat) : Int))])
      (fun s => [.reg 0 w])
      (fun s => s + 1 ≤ l.length)
      (fun s => l.length - s)
      (0) ?_ SU SE ?_
    · exact h0
    rintro j hj
    obtain ⟨k, hk⟩ : ∃ k, k = j + 1 := ⟨_, rfl⟩
    rw [← hk] at hj ⊢
    refine sc_seq ?_
    refine sc_seq ?_
    refine sc_region ?_
    refine qs (y_move RF) ?_
    refine qs (y_move RF) ?_
    refine qs (y_len Try.underlying111 RF) ?_
    refine qs (y_lss RF RF) ?_
    refine sq_nil ?_
    refine sx_then ?_
    refine scp (fun hc1 => ?_) (fun hc1 => ?_)
    ·
      have hk' : k < l.length := by omega
      have hsm := (hl.get 0 hk').1
      have hca := (hl.get 0 hk').2
      refine sc_skip ?_
      refine sx_then ?_
      refine sc_seq ?_
      refine sc_block ?_
      refine sc_region ?_
      refine qs (y_move RF) ?_
      refine qs (y_move RF) ?_
      refine qs (y_move RF) ?_
      refine qs IA79 ?_
      refine qs (by first | exact y_load_ca0 Try.underlying3 rfl RF MM hca rfl | exact LD3) ?_
      refine qs (y_min RF RF) ?_
      refine qs (y_assign RF) ?_
      refine sq_nil ?_
      refine sx_blk ?_
      refine sx_then ?_
      refine sc_region ?_
      refine qs (y_move RF) ?_
      refine qs (y_add RF RF (by omega)) ?_
      refine qs (y_assign RF) ?_
      refine sq_nil ?_
      refine sx_round (j + 1) ?_ ?_ (by repeat (first | exact SubL.nil | refine SubL.cons (by first | exact rfl | exact lk_int rfl (by omega) | (subst hk; exact rfl)) ?_)) SE
      · omega
      · omega
    ·
      refine sc_exit ?_
      refine sx_then_exit ?_
      refine sx_round_exit ?_
      refine sx_blk_hit ?_
      refine sx_then ?_
      refine sc_seq ?_
      refine sc_region ?_
      refine qs (y_move RF) ?_
      refine qs (y_assign RF) ?_
      refine sq_nil ?_
      refine sx_then ?_
      refine sc_ret ?_
      refine sx_ret1 (.inl rfl) rfl Try.results103 RF ?_
      intro w' hw'
      refine ⟨?_, hw'.below MM⟩
      have hjk : l.length = j + 1 := by omega
      unfold minL; rw [hjk, Nat.add_sub_cancel]
theorem isWhole78 (w : World) (al : Option Addr) (cl : Nat) (l : List Int) (hl : RowsA iRow 1 0 w al l) : Calls Try.prog 74 #[.slice al l.length cl] w fun e w' => e = .returned (.bool (wholeV l)) ∧ Below w.heap.size w w' := by
  have hlen := hl.len
  refine calls_of_SC (args := [.slice al l.length cl]) Try.func74 rfl Try.ntmps74 rfl ?_
  simp only [argL]
  refine sc_seq ?_
  refine sc_region ?_
  refine qs (y_assign RF) ?_
  refine sq_nil ?_
  refine sx_then ?_
  refine sc_seq ?_
  refine sc_region ?_
  refine qs (y_move RF) ?_
  refine qs (y_len Try.underlying111 RF) ?_
  refine qs (y_eql RF RF) ?_
  refine qs (y_move RF) ?_
  refine sp 6 (fun hg1_3 => ?_) (fun hg1_3 => ?_)
  ·
    refine qf ?_
    refine qf ?_
    refine qf ?_
    refine qs (y_pick_t RF RF) ?_
    refine qs (y_assign RF) ?_
    refine sq_nil ?_
    refine sx_then ?_
    refine sc_ret ?_
    refine sx_ret1 (.inl rfl) rfl Try.results74 RF ?_
    intro w' hw'
    refine ⟨?_, hw'.below MM⟩
    have : l = [] := List.eq_nil_of_length_eq_zero (by omega)
    subst this; rfl
  ·
    refine qg (y_move RF) ?_
    refine sq_gt RF RF (y_call (first := []) (caps := []) RF Try.call103 (EvL.cons RF EvL.nil) (fun w1 hw1 => min92 w1 al cl l (hl.at hw1 MM) (by omega))) rfl ?_
    refine qg (y_geq RF RF) ?_
    refine qs (y_pick_f RF RF) ?_
    refine qs (y_assign RF) ?_
    refine sq_nil ?_
    refine sx_then ?_
    refine sc_ret ?_
    refine sx_ret1 (.inl rfl) rfl Try.results74 RF ?_
    intro w' hw'
    refine ⟨?_, hw'.below MM⟩
    rw [whole_min (by omega)]
theorem judge77 (w : World) (al : Option Addr) (cl : Nat) (l : List Int) (hl : RowsA iRow 1 0 w al l) : Calls Try.prog 73 #[.slice al l.length cl] w fun e w' => e = .returned (.bool (!wholeV l)) ∧ Below w.heap.size w w' := by
  refine calls_of_SC (args := [.slice al l.length cl]) Try.func73 rfl Try.ntmps73 rfl ?_
  simp only [argL]
  refine sc_seq ?_
  refine sc_region ?_
  refine qs (y_assign RF) ?_
  refine sq_nil ?_
  refine sx_then ?_
  refine sc_seq ?_
  refine sc_region ?_
  refine qs (y_move RF) ?_
  refine qy (yc Try.call74 E1 (fun w1 hw1 => isWhole78 w1 al cl l (hl.at hw1 MM))) ?_
  refine qs (y_not RF) ?_
  refine qs (y_assign RF) ?_
  refine sq_nil ?_
  refine sx_then ?_
  refine sc_ret ?_
  refine sx_ret1 (.inl rfl) rfl Try.results73 RF ?_
  intro w' hw'
  exact ⟨rfl, hw'.below MM⟩
theorem judge50 (w : World) (a2 : Option Addr) (c2 : Nat) (f : Nat → Option Addr) (cf : Nat → Nat) (ll : List (List Int)) (hL : LLA 0 w a2 f cf ll) : Calls Try.prog 39 #[.slice a2 ll.length c2] w fun e w' => e = .returned (.int .i64 (judgeV ll)) ∧ Below w.heap.size w w' := by
  refine calls_of_SC (args := [.slice a2 ll.length c2]) Try.func39 rfl Try.ntmps39 rfl ?_
  simp only [argL]
  refine sc_seq ?_
  refine sc_region ?_
  refine qs (y_assign RF) ?_
  refine sq_nil ?_
  refine sx_then ?_
  refine sc_seq ?_
  refine sc_region ?_
  refine qs (y_assign RF) ?_
  refine sq_nil ?_
  refine sx_then ?_
  refine sc_seq ?_
  refine sc_block ?_
  refine sc_seq ?_
  refine sc_region ?_
  refine qs (y_move RF) ?_
  refine qs (y_move RF) ?_
  refine qy (yc Try.call75 E2 (fun w1 hw1 => (containsLi 73 [] (fun i => !wholeV (ll.getD i [])) w1 a2 _ c2 (fun i => .slice (f i) (ll.getD i []).length (cf i)) hL.len (fun i hi => ⟨(hL.el i _ (get_of_lt [] hi)).1, CA.at (hL.el i _ (get_of_lt [] hi)).2.1 hw1 MM⟩) Try.call73 (fun i hi w2 hb2 => judge77 w2 (f i) (cf i) (ll.getD i []) (((hL.el i _ (get_of_lt [] hi)).2.2.at hw1 MM).below hb2))).mono (fun e w' h => ⟨h.1.trans (by rw [any_range_get ll [] (fun h => !wholeV h)]), h.2⟩))) ?_
  refine qs (y_not RF) ?_
  refine qs (y_assign RF) ?_
  refine sq_nil ?_
  refine sx_then ?_
  refine scp (fun hc0 => ?_) (fun hc0 => ?_)
  ·
    refine sc_seq ?_
    refine sc_region ?_
    refine qs (y_assign RF) ?_
    refine sq_nil ?_
    refine sx_then ?_
    refine sc_ret ?_
    refine sx_blk_ret ?_
    refine sx_then_ret ?_
    refine sx_ret1 (.inl rfl) rfl Try.results39 RF ?_
    intro w' hw'
    refine ⟨?_, hw'.below MM⟩
    unfold judgeV; rw [if_pos (by simpa using hc0)]
  ·
    refine sc_seq ?_
    refine sc_region ?_
    refine qs (y_move RF) ?_
    refine qy (yc Try.call75 E2 (fun w1 hw1 => (containsLi 74 [] (fun i => wholeV (ll.getD i [])) w1 a2 _ c2 (fun i => .slice (f i) (ll.getD i []).length (cf i)) hL.len (fun i hi => ⟨(hL.el i _ (get_of_lt [] hi)).1, CA.at (hL.el i _ (get_of_lt [] hi)).2.1 hw1 MM⟩) Try.call74 (fun i hi w2 hb2 => isWhole78 w2 (f i) (cf i) (ll.getD i []) (((hL.el i _ (get_of_lt [] hi)).2.2.at hw1 MM).below hb2))).mono (fun e w' h => ⟨h.1.trans (by rw [any_range_get ll [] wholeV]), h.2⟩))) ?_
    refine qs (y_not RF) ?_
    refine qs (y_assign RF) ?_
    refine sq_nil ?_
    refine sx_then ?_
    refine scp (fun hc1 => ?_) (fun hc1 => ?_)
    ·
      refine sc_seq ?_
      refine sc_region ?_
      refine qs (y_assign RF) ?_
      refine sq_nil ?_
      refine sx_then ?_
      refine sc_ret ?_
      refine sx_blk_ret ?_
      refine sx_then_ret ?_
      refine sx_ret1 (.inl rfl) rfl Try.results39 RF ?_
      intro w' hw'
      refine ⟨?_, hw'.below MM⟩
      unfold judgeV; rw [if_neg (by simpa using hc0), if_pos (by simpa using hc1)]
    ·
      refine sc_skip ?_
      refine sx_blk ?_
      refine sx_then ?_
      refine sc_seq ?_
      refine sc_region ?_
      refine qs (y_assign RF) ?_
      refine sq_nil ?_
      refine sx_then ?_
      refine sc_ret ?_
      refine sx_ret1 (.inl rfl) rfl Try.results39 RF ?_
      intro w' hw'
      refine ⟨?_, hw'.below MM⟩
      unfold judgeV; rw [if_neg (by simpa using hc0), if_neg (by simpa using hc1)]
def judgeAns (b : Bx) (ls : List Rd) : Value := if openE b ls [] = 0 then .tuple #[.int .i64 (judgeV (fitL b ls)), .int .i64 0] else .tuple #[.int .i64 0, .int .i64 (openE b ls [])]
theorem judge16 (w : World) (b : Bx) (a : Option Addr) (c : Nat) (hB : RowsA kdRow 3 0 w a b.kinds) (al : Option Addr) (cl : Nat) (ls : List Rd) (hl : RowsA rdRow 8 0 w al ls) : Calls Try.prog 12 #[.agg (bxRow b a c).toArray, .slice al ls.length cl] w fun e w' => e = .returned (judgeAns b ls) ∧ Below w.heap.size w w' := by
  refine calls_of_SC (args := [.agg (bxRow b a c).toArray, .slice al ls.length cl]) Try.func12 rfl Try.ntmps12 rfl ?_
  simp only [argL, Nat.zero_add]
  refine sc_seq ?_
  refine sc_region ?_
  refine sq_box RF rfl (fun b2 => ?_)
  refine qs (y_assign RF) ?_
  refine qs (y_assign RF) ?_
  refine sq_nil ?_
  refine sx_then ?_
  refine sc_seq ?_
  refine sc_region ?_
  refine qs LD26 ?_
  refine qs (y_move RF) ?_
  refine sq_call_new (first := []) (caps := []) (Z := (Option Addr × (Nat → Option Addr) × Nat × (Nat → Nat)) × Nat) (fun z => .tuple #[.slice z.1.1 z.2 z.1.2.2.1, .int .i64 (openE b ls [])]) (fun lo w' z => w.heap.size ≤ lo ∧ (openE b ls [] = 0 → z.2 = (fitL b ls).length ∧ Opened lo w' b ls z.1)) RF Try.call38 (EvL.cons RF (EvL.cons RF (EvL.cons RF EvL.nil))) (fun w1 hw1 => (open49 w1 b a c (hB.at hw1 MM) al cl ls (hl.at hw1 MM) none 0 [] (RowsA.nil 0 w1)).mono (fun e w' ⟨z, he, hb, hL⟩ => ⟨z, he, hb, hw1.size, hL⟩)) rfl (fun lo wr zo hzo => ?_)
  refine qs (y_move RF) ?_
  refine qs (y_extract RF RF) ?_
  refine qs (y_extract RF RF) ?_
  refine qs (y_assign RF) ?_
  refine qs (y_assign RF) ?_
  refine sq_nil ?_
  refine sx_then ?_
  refine sc_seq ?_
  refine sc_seq ?_
  refine sc_region ?_
  refine qs (y_move RF) ?_
  refine qs (y_neq RF RF) ?_
  refine sq_nil ?_
  refine sx_then ?_
  refine scp (fun hc0 => ?_) (fun hc0 => ?_)
  ·
    refine sc_seq ?_
    refine sc_region ?_
    refine qs (y_move RF) ?_
    refine qs (y_assign RF) ?_
    refine qs (y_assign RF) ?_
    refine sq_nil ?_
    refine sx_then ?_
    refine sc_ret ?_
    refine sx_then_ret ?_
    refine sx_ret2 (.inl rfl) rfl Try.results12 RF RF ?_
    intro w' hw'
    refine ⟨?_, hw'.below MM⟩
    unfold judgeAns; rw [if_neg (by simpa using hc0)]; rfl
  ·
    refine sc_skip ?_
    refine sx_then ?_
    refine sc_seq ?_
    have hE : openE b ls [] = 0 := by simpa using hc0
    rw [(hzo.2 hE).1]
    refine sc_region ?_
    refine qs (y_move RF) ?_
    refine qy (yc Try.call39 E1 (fun w1 hw1 => judge50 w1 zo.1.1 zo.1.2.2.1 zo.1.2.1 zo.1.2.2.2 (fitL b ls) ((hzo.2 hE).2.at hw1 MM))) ?_
    refine qs (y_assign RF) ?_
    refine qs (y_assign RF) ?_
    refine sq_nil ?_
    refine sx_then ?_
    refine sc_ret ?_
    refine sx_ret2 (.inl rfl) rfl Try.results12 RF RF ?_
    intro w' hw'
    refine ⟨?_, hw'.below MM⟩
    unfold judgeAns; rw [if_pos hE]
theorem judge_count (ll : List (List Int)) : judgeV ll = if (ll.filter wholeV).length = ll.length then 2 else if (ll.filter wholeV).length = 0 then 0 else 1 := by
  have h1 : ((ll.any fun h => !wholeV h) = false) ↔ (ll.filter wholeV).length = ll.length := by
    rw [List.length_filter_eq_length_iff, all_not_any]
    simp
  have h2 : (ll.any wholeV = false) ↔ (ll.filter wholeV).length = 0 := by
    rw [List.length_eq_zero_iff, List.filter_eq_nil_iff]
    simp
  unfold judgeV
  simp only [h1, h2]
end Go.Proofs.Ytfceajkofpafpaa.Sc
