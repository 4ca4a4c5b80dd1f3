/- The walk of open, and of what is valid. -/
import Derived.Test.YtegdfpilhlcplaaWalk9
import Derived.Test.YtegdfpilhlcplaaLaw2
namespace Go.Proofs.Ytegdfpilhlcplaa
open Go Go.Eng Go.RowKit Go.Proofs
set_option maxRecDepth 100000

theorem valid68 (w : World) (bt br bm : Addr) (r : Rc) (a : Option Addr) (c : Nat) (tz mz : Int) (hn : r.teams.length ≤ 9223372036854775807) (h1 : CA 0 w bt [.int .i64 tz]) (h2 : CA 0 w br (rcVal r a c)) (h3 : CA 0 w bm [.int .i64 mz]) :
    Calls Try.prog 68 #[.pointer (some bt), .pointer (some br), .pointer (some bm)] w fun e w' => e = .returned (.bool (tmzB r tz mz)) ∧ Below w.heap.size w w' := by
  simp only [rcVal] at h2
  refine calls_of_SC (args := [.pointer (some bt), .pointer (some br), .pointer (some bm)]) Try.func68 rfl Try.ntmps68 rfl ?_
  simp only [argL, Nat.reduceAdd, Nat.zero_add]
  refine sc_seq ?_
  refine sc_region ?_
  refine sq_y (OpY.s (y_assign (by exact rfl))) rfl ?_
  refine sq_nil ?_
  refine sx_then ?_
  refine sc_seq ?_
  refine sc_region ?_
  refine sq_y (OpY.s (by first | exact y_load_blk Try.underlying3 rfl (by exact rfl) (by repeat (first | exact .head _ | refine .tail _ ?_)) (by exact rfl) | exact y_load_caj Try.underlying3 rfl (by exact rfl) (by repeat (first | exact .head _ | refine .tail _ ?_)) (by assumption) (by exact rfl) | exact y_load_ca0 Try.underlying3 rfl (by exact rfl) (by repeat (first | exact .head _ | refine .tail _ ?_)) (by assumption) (by exact rfl))) rfl ?_
  refine sq_y (OpY.s (by first | exact y_fab Try.underlying24 (by exact rfl) (by exact Try.sizeOf22) (by exact rfl) rfl | exact y_fa Try.underlying24 (by exact rfl) (by exact Try.sizeOf22) (by exact rfl) rfl)) rfl ?_
  refine sq_y (OpY.s (by first | exact y_load_blk Try.underlying22 rfl (by exact rfl) (by repeat (first | exact .head _ | refine .tail _ ?_)) (by exact rfl) | exact y_load_caj Try.underlying22 rfl (by exact rfl) (by repeat (first | exact .head _ | refine .tail _ ?_)) (by assumption) (by exact rfl) | exact y_load_ca0 Try.underlying22 rfl (by exact rfl) (by repeat (first | exact .head _ | refine .tail _ ?_)) (by assumption) (by exact rfl))) rfl ?_
  refine sq_y (OpY.s (y_len Try.underlying22 (by exact rfl))) rfl ?_
  refine sq_y (OpY.s (y_sub (by exact rfl) (by exact rfl) (by omega))) rfl ?_
  refine sq_y (y_call (first := []) (caps := []) (by exact rfl) Try.call40 (EvL.cons (by exact rfl) (EvL.cons (by exact rfl) (EvL.cons (by exact rfl) EvL.nil))) (fun w1 _ => within40 _ _ _ w1)) rfl ?_
  refine sq_y (OpY.s (y_move (by exact rfl))) rfl ?_
  first | refine sq_splitd (tt := 10) (by exact rfl) (fun hg1_6 => ?_) (fun hg1_6 => ?_) | refine sq_splitn (tt := 10) (by exact rfl) (fun hg1_6 => ?_) (fun hg1_6 => ?_) | refine sq_split (tt := 10) (by exact rfl) (fun hg1_6 => ?_) (fun hg1_6 => ?_)
  ·
    refine sq_gt (by exact rfl) (by exact rfl) (OpY.s (by first | exact y_load_blk Try.underlying3 rfl (by exact rfl) (by repeat (first | exact .head _ | refine .tail _ ?_)) (by exact rfl) | exact y_load_caj Try.underlying3 rfl (by exact rfl) (by repeat (first | exact .head _ | refine .tail _ ?_)) (by assumption) (by exact rfl) | exact y_load_ca0 Try.underlying3 rfl (by exact rfl) (by repeat (first | exact .head _ | refine .tail _ ?_)) (by assumption) (by exact rfl))) rfl ?_
    refine sq_gt (by exact rfl) (by exact rfl) (y_call (first := []) (caps := []) (by exact rfl) Try.call40 (EvL.cons (by exact rfl) (EvL.cons (by exact rfl) (EvL.cons (by exact rfl) EvL.nil))) (fun w1 _ => within40 _ _ _ w1)) rfl ?_
    refine sq_y (OpY.s (y_pick_t (by exact rfl) (by exact rfl))) rfl ?_
    refine sq_y (OpY.s (y_assign (by exact rfl))) rfl ?_
    refine sq_nil ?_
    refine sx_then ?_
    refine sc_ret ?_
    refine sx_ret1 (.inl rfl) rfl Try.results68 (by exact rfl) ?_
    intro w' hw'
    refine ⟨?_, hw'.below (by repeat (first | exact .head _ | refine .tail _ ?_))⟩
    unfold tmzB minB; simp [*]
  ·
    refine sq_gf (by exact rfl) (by exact rfl) (by exact rfl) rfl ?_
    refine sq_gf (by exact rfl) (by exact rfl) (by exact rfl) rfl ?_
    refine sq_y (OpY.s (y_pick_f (by exact rfl) (by exact rfl))) rfl ?_
    refine sq_y (OpY.s (y_assign (by exact rfl))) rfl ?_
    refine sq_nil ?_
    refine sx_then ?_
    refine sc_ret ?_
    refine sx_ret1 (.inl rfl) rfl Try.results68 (by exact rfl) ?_
    intro w' hw'
    refine ⟨?_, hw'.below (by repeat (first | exact .head _ | refine .tail _ ?_))⟩
    unfold tmzB minB; simp [*]
theorem valid53 (w : World) (bm : Addr) (mz : Int) (h3 : CA 0 w bm [.int .i64 mz]) :
    Calls Try.prog 53 #[.pointer (some bm)] w fun e w' => e = .returned (.bool (minB mz)) ∧ Below w.heap.size w w' := by
  refine calls_of_SC (args := [.pointer (some bm)]) Try.func53 rfl Try.ntmps53 rfl ?_
  simp only [argL]
  refine sc_seq ?_
  refine sc_region ?_
  refine sq_y (OpY.s (y_assign (by exact rfl))) rfl ?_
  refine sq_nil ?_
  refine sx_then ?_
  refine sc_seq ?_
  refine sc_region ?_
  refine sq_y (OpY.s (by first | exact y_load_blk Try.underlying3 rfl (by exact rfl) (by repeat (first | exact .head _ | refine .tail _ ?_)) (by exact rfl) | exact y_load_caj Try.underlying3 rfl (by exact rfl) (by repeat (first | exact .head _ | refine .tail _ ?_)) (by assumption) (by exact rfl) | exact y_load_ca0 Try.underlying3 rfl (by exact rfl) (by repeat (first | exact .head _ | refine .tail _ ?_)) (by assumption) (by exact rfl))) rfl ?_
  refine sq_y (y_call (first := []) (caps := []) (by exact rfl) Try.call40 (EvL.cons (by exact rfl) (EvL.cons (by exact rfl) (EvL.cons (by exact rfl) EvL.nil))) (fun w1 _ => within40 _ _ _ w1)) rfl ?_
  refine sq_y (OpY.s (y_assign (by exact rfl))) rfl ?_
  refine sq_nil ?_
  refine sx_then ?_
  refine sc_ret ?_
  refine sx_ret1 (.inl rfl) rfl Try.results53 (by exact rfl) ?_
  intro w' hw'
  exact ⟨rfl, hw'.below (by repeat (first | exact .head _ | refine .tail _ ?_))⟩
theorem valid55 (w : World) : Calls Try.prog 55 #[] w fun e w' => e = .returned (.bool true) ∧ Below w.heap.size w w' := by
  refine calls_of_SC (args := []) Try.func55 rfl Try.ntmps55 rfl ?_
  simp only [argL]
  refine sc_seq ?_
  refine sc_region ?_
  refine sq_y (OpY.s (y_assign (by exact rfl))) rfl ?_
  refine sq_nil ?_
  refine sx_then ?_
  refine sc_seq ?_
  refine sc_region ?_
  refine sq_y (OpY.s (y_assign (by exact rfl))) rfl ?_
  refine sq_nil ?_
  refine sx_then ?_
  refine sc_ret ?_
  refine sx_ret1 (.inl rfl) rfl Try.results55 (by exact rfl) ?_
  intro w' hw'
  exact ⟨rfl, hw'.below (by repeat (first | exact .head _ | refine .tail _ ?_))⟩
/-- what open hands back -/
def Opened (lo : Nat) (w' : World) (r : Rc) (a : Option Addr) (c : Nat) (l : List Wd) (m : Value) : Prop := ∃ b ps, m = .map (some b) ∧ lo ≤ b ∧ w'.heap[b]? = some (dense ps) ∧ ps.length = r.teams.length ∧ ∀ t, t < r.teams.length → ∃ p, ps[t]? = some (.pointer (some p)) ∧ CoN lo w' p r a c t (allW r t l)
theorem open52 (w : World) (r : Rc) (a : Option Addr) (c : Nat) (f : Nat → Option Addr) (cf : Nat → Nat) (al : Option Addr) (cl : Nat) (ls : List Wd) (g : FuncId) (caps : List Value) (vb : Bool)
    (hT : TmsA 0 w a r.teams f cf) (hl : WdsA 0 w al ls) (i1 : InI r.p) (i2 : InI r.lim) (i3 : InI r.rate) (hcg : ∀ args w, (callFunc g args).run Try.prog w = .ok (.enter g args) w) (hg : ∀ w1, Below w.heap.size w w1 → Calls Try.prog g caps.toArray w1 fun e w' => e = .returned (.bool vb) ∧ Below w1.heap.size w1 w') :
    Calls Try.prog 52 #[.agg (rcVal r a c).toArray, .slice al ls.length cl, .func (.func g) #[] caps.toArray] w fun e w' => ∃ m, e = .returned (.tuple #[m, .int .i64 (openE r ls vb)]) ∧ Below w.heap.size w w' ∧ (openE r ls vb = 0 → Opened w.heap.size w' r a c ls m) := by
  have hlen := hT.len
  refine calls_of_SC (args := [.agg (rcVal r a c).toArray, .slice al ls.length cl, .func (.func g) #[] caps.toArray]) Try.func52 rfl Try.ntmps52 rfl ?_
  simp only [argL, Nat.reduceAdd, Nat.zero_add]
  refine sc_seq ?_
  refine sc_region ?_
  refine sq_box (by exact rfl) rfl (fun b3 => ?_)
  refine sq_y (OpY.s (y_assign (by exact rfl))) rfl ?_
  refine sq_y (OpY.s (y_assign (by exact rfl))) rfl ?_
  refine sq_nil ?_
  refine sx_then ?_
  refine sc_seq ?_
  refine sc_seq ?_
  refine sc_region ?_
  refine sq_y (OpY.s (by first | exact y_load_all Try.underlying24 rfl Try.sizeOf24 (by exact rfl) (by repeat (first | exact .head _ | refine .tail _ ?_)) (by exact rfl) | exact y_load_ca Try.underlying24 rfl Try.sizeOf24 (by exact rfl) (by repeat (first | exact .head _ | refine .tail _ ?_)) (by assumption) (by exact rfl))) rfl ?_
  refine sq_y (OpY.s (y_move (by exact rfl))) rfl ?_
  refine sq_y (y_call (first := []) (caps := []) (by exact rfl) Try.call57 (EvL.cons (by exact rfl) (EvL.cons (by exact rfl) EvL.nil)) (fun w1 hw1 => check57 w1 _ r al cl ls ((hT.at hw1 (by repeat (first | exact .head _ | refine .tail _ ?_))).rc i1 i2 i3) (hl.at hw1 (by repeat (first | exact .head _ | refine .tail _ ?_))))) rfl ?_
  refine sq_y (OpY.s (y_assign (by exact rfl))) rfl ?_
  refine sq_nil ?_
  refine sx_then ?_
  refine sc_seq ?_
  refine sc_region ?_
  refine sq_y (OpY.s (y_move (by exact rfl))) rfl ?_
  refine sq_y (OpY.s (y_neq (by exact rfl) (by exact rfl))) rfl ?_
  refine sq_nil ?_
  refine sx_then ?_
  first | refine sc_if (by exact rfl) (fun hc0 => ?_) (fun hc0 => ?_) | refine sc_ifn (by exact rfl) (fun hc0 => ?_) (fun hc0 => ?_) | refine sc_cond (by exact rfl) (fun hc0 => ?_) (fun hc0 => ?_)
  ·
    refine sc_seq ?_
    refine sc_region ?_
    refine sq_y (OpY.s (y_move (by exact rfl))) rfl ?_
    refine sq_y (OpY.s (y_assign (by exact rfl))) rfl ?_
    refine sq_y (OpY.s (y_assign (by exact rfl))) rfl ?_
    refine sq_nil ?_
    refine sx_then ?_
    refine sc_ret ?_
    refine sx_then_ret ?_
    refine sx_ret2 (.inl rfl) rfl Try.results52 (by exact rfl) (by exact rfl) ?_
    intro w' hw'
    refine ⟨.map none, ?_, hw'.below (by repeat (first | exact .head _ | refine .tail _ ?_)), ?_⟩
    · unfold openE; rw [if_pos hc0]
    · intro h; exact absurd (openE_zero h).1 hc0
  ·
    refine sc_skip ?_
    refine sx_then ?_
    refine sc_seq ?_
    refine sc_seq ?_
    refine sc_region ?_
    refine sq_y (OpY.s (y_move (by exact rfl))) rfl ?_
    refine sq_y (y_call (first := []) (caps := caps) (by exact rfl) hcg EvL.nil (fun w1 hw1 => hg w1 (hw1.below (by repeat (first | exact .head _ | refine .tail _ ?_))))) rfl ?_
    refine sq_y (OpY.s (y_not (by exact rfl))) rfl ?_
    refine sq_nil ?_
    refine sx_then ?_
    first | refine sc_if (by exact rfl) (fun hc1 => ?_) (fun hc1 => ?_) | refine sc_ifn (by exact rfl) (fun hc1 => ?_) (fun hc1 => ?_) | refine sc_cond (by exact rfl) (fun hc1 => ?_) (fun hc1 => ?_)
    ·
      refine sc_seq ?_
      refine sc_region ?_
      refine sq_y (OpY.s (y_assign (by exact rfl))) rfl ?_
      refine sq_y (OpY.s (y_assign (by exact rfl))) rfl ?_
      refine sq_nil ?_
      refine sx_then ?_
      refine sc_ret ?_
      refine sx_then_ret ?_
      refine sx_ret2 (.inl rfl) rfl Try.results52 (by exact rfl) (by exact rfl) ?_
      intro w' hw'
      have hv : vb = false := by simpa using hc1
      have hE : openE r ls vb = 2 := by unfold openE; rw [if_neg (fun h => h hc0), if_pos hv]
      rw [hE]
      exact ⟨.map none, rfl, hw'.below (by repeat (first | exact .head _ | refine .tail _ ?_)), fun h => by omega⟩
    ·
      refine sc_skip ?_
      refine sx_then ?_
      refine sc_seq ?_
      have hz : chk r ls = 0 := hc0
      obtain ⟨hok, hll, hwd⟩ := chk_zero hz
      refine sc_region ?_
      refine sq_makeMap rfl (fun b20 => ?_)
      refine sq_y (OpY.s (y_assign (by exact rfl))) rfl ?_
      refine sq_nil ?_
      refine sx_then ?_
      refine sc_seq ?_
      refine sc_seq ?_
      refine sc_region ?_
      refine sq_y (OpY.s (by first | exact y_fab Try.underlying24 (by exact rfl) (by exact Try.sizeOf22) (by exact rfl) rfl | exact y_fa Try.underlying24 (by exact rfl) (by exact Try.sizeOf22) (by exact rfl) rfl)) rfl ?_
      refine sq_y (OpY.s (by first | exact y_load_blk Try.underlying22 rfl (by exact rfl) (by repeat (first | exact .head _ | refine .tail _ ?_)) (by exact rfl) | exact y_load_caj Try.underlying22 rfl (by exact rfl) (by repeat (first | exact .head _ | refine .tail _ ?_)) (by assumption) (by exact rfl) | exact y_load_ca0 Try.underlying22 rfl (by exact rfl) (by repeat (first | exact .head _ | refine .tail _ ?_)) (by assumption) (by exact rfl))) rfl ?_
      refine sq_y (OpY.s (y_len Try.underlying22 (by exact rfl))) rfl ?_
      refine sq_y (OpY.s (y_move (by exact rfl))) rfl ?_
      refine sq_nil ?_
      refine sx_then ?_
      refine sc_block ?_
      refine sc_loop (σ := List Value × List Res)
        (fun s => [(1, .slice al ls.length cl), (3, .pointer (some ⟨b3, 0, none⟩)), (9, .map (some b20)), (23, .int .i64 r.teams.length), (24, .int .i64 s.1.length)])
        (fun s => .blk b20 (dense s.1) :: .blk b3 (.cells (rcVal r a c).toArray 24 (0, 0)) :: .reg 0 w :: s.2)
        (fun s => s.1.length ≤ r.teams.length ∧ ∀ t, t < s.1.length → trT r ls t = true ∧ ∃ p lo wr, s.1[t]? = some (.pointer (some p)) ∧ w.heap.size ≤ lo ∧ Res.reg lo wr ∈ s.2 ∧ CoN lo wr p r a c t (allW r t ls))
        (fun s => r.teams.length - s.1.length)
        (([], [])) ?_ (by repeat (first | exact SubL.nil | refine SubL.cons (by first | exact rfl | exact lk_int rfl (by omega) | exact lk_eq rfl (by simp)) ?_)) (by repeat (first | exact Sel.refl _ | exact Sel.nil | refine Sel.cons (by repeat (first | exact Rem.here | apply Rem.there)) ?_ | refine Sel.skip ?_)) ?_
      · exact ⟨Nat.zero_le _, fun t ht => absurd ht (Nat.not_lt_zero t)⟩
      rintro ⟨ps, regs⟩ ⟨hk, hps⟩
      dsimp only at hk hps ⊢
      refine sc_seq ?_
      refine sc_region ?_
      refine sq_y (OpY.s (y_lss (by exact rfl) (by exact rfl))) rfl ?_
      refine sq_nil ?_
      refine sx_then ?_
      refine sc_seq ?_
      first | refine sc_if (by exact rfl) (fun hc2 => ?_) (fun hc2 => ?_) | refine sc_ifn (by exact rfl) (fun hc2 => ?_) (fun hc2 => ?_) | refine sc_cond (by exact rfl) (fun hc2 => ?_) (fun hc2 => ?_)
      ·
        have hk' : ps.length < r.teams.length := by omega
        refine sc_skip ?_
        refine sx_then ?_
        refine sc_seq ?_
        refine sc_block ?_
        refine sc_seq ?_
        refine sc_region ?_
        refine sq_y (OpY.s (y_move (by exact rfl))) rfl ?_
        refine sq_y (OpY.s (y_assign (by exact rfl))) rfl ?_
        refine sq_nil ?_
        refine sx_then ?_
        refine sc_seq ?_
        refine sc_region ?_
        refine sq_y (OpY.s (y_move (by exact rfl))) rfl ?_
        refine sq_y (OpY.s (y_move (by exact rfl))) rfl ?_
        refine sq_y (OpY.s (by first | exact y_load_all Try.underlying24 rfl Try.sizeOf24 (by exact rfl) (by repeat (first | exact .head _ | refine .tail _ ?_)) (by exact rfl) | exact y_load_ca Try.underlying24 rfl Try.sizeOf24 (by exact rfl) (by repeat (first | exact .head _ | refine .tail _ ?_)) (by assumption) (by exact rfl))) rfl ?_
        refine sq_y (OpY.s (y_move (by exact rfl))) rfl ?_
        refine sq_y (OpY.s (y_move (by exact rfl))) rfl ?_
        refine sq_call_new (first := []) (caps := []) (Z := Addr) (fun z => .pointer (some z)) (fun lo w' z => w.heap.size ≤ lo ∧ CoN lo w' z r a c ps.length (allW r ps.length ls)) (by exact rfl) Try.call58 (EvL.cons (by exact rfl) (EvL.cons (by exact rfl) (EvL.cons (by exact rfl) EvL.nil))) (fun w1 hw1 => (newCourse58 w1 r a c f cf ps.length al cl ls (hT.at hw1 (by repeat (first | exact .head _ | refine .tail _ ?_))) (hl.at hw1 (by repeat (first | exact .head _ | refine .tail _ ?_))) i1 i2 i3 hok hk' (fun d hd => (wdB_parts (hwd d hd)).2.1) hll).mono (fun e w' ⟨p, he, hb, hc⟩ => ⟨p, he, hb, hw1.size, hc⟩)) rfl (fun lo1 w58 p hp => ?_)
        refine sq_mapPut Try.underlying80 Try.underlying3 (by exact rfl) (by repeat (first | exact Rem.here | apply Rem.there)) (by exact rfl) (by exact rfl) ?_
        refine sq_nil ?_
        refine sx_then ?_
        refine sc_seq ?_
        refine sc_region ?_
        refine sq_y (OpY.s (y_move (by exact rfl))) rfl ?_
        refine sq_y (OpY.s (y_move (by exact rfl))) rfl ?_
        refine sq_y (OpY.s (y_lookup Try.underlying80 Try.underlying3 (by exact rfl) (fun _ hw => map_blk hw (by repeat (first | exact .head _ | refine .tail _ ?_))) (by exact rfl) List.getElem?_concat_length)) rfl ?_
        refine sq_y (y_call (first := []) (caps := []) (by exact rfl) Try.call59 (EvL.cons (by exact rfl) EvL.nil) (fun w1 hw1 => isTrue59 w1 p r ps.length (allW r ps.length ls) (((hp.2.keep hw1 (by repeat (first | exact .head _ | refine .tail _ ?_))).low (Nat.zero_le _)).co (hT.at hw1 (by repeat (first | exact .head _ | refine .tail _ ?_))) (allW_ok hok hwd) (allW_len hll)) hok)) rfl ?_
        refine sq_y (OpY.s (y_not (by exact rfl))) rfl ?_
        refine sq_nil ?_
        refine sx_then ?_
        first | refine sc_if (by exact rfl) (fun hc3 => ?_) (fun hc3 => ?_) | refine sc_ifn (by exact rfl) (fun hc3 => ?_) (fun hc3 => ?_) | refine sc_cond (by exact rfl) (fun hc3 => ?_) (fun hc3 => ?_)
        ·
          refine sc_seq ?_
          refine sc_region ?_
          refine sq_y (OpY.s (y_assign (by exact rfl))) rfl ?_
          refine sq_y (OpY.s (y_assign (by exact rfl))) rfl ?_
          refine sq_nil ?_
          refine sx_then ?_
          refine sc_ret ?_
          refine sx_blk_ret ?_
          refine sx_then_ret ?_
          refine sx_round_ret ?_
          refine sx_blk_ret ?_
          refine sx_then_ret ?_
          refine sx_ret2 (.inl rfl) rfl Try.results52 (by exact rfl) (by exact rfl) ?_
          intro w' hw'
          have hv : ¬ vb = false := by simpa using hc1
          have hE : openE r ls vb = 6 := by
            unfold openE
            rw [if_neg (fun h => h hc0), if_neg hv, if_neg]
            intro h
            have h1 := List.all_eq_true.1 h ps.length (List.mem_range.2 hk')
            unfold trT at h1; rw [h1] at hc3; simp at hc3
          rw [hE]
          exact ⟨.map none, rfl, hw'.below (by repeat (first | exact .head _ | refine .tail _ ?_)), fun h => by omega⟩
        ·
          refine sc_skip ?_
          refine sx_blk ?_
          refine sx_then ?_
          refine sc_region ?_
          refine sq_y (OpY.s (y_add (by exact rfl) (by exact rfl) (by omega))) rfl ?_
          refine sq_y (OpY.s (y_move (by exact rfl))) rfl ?_
          refine sq_nil ?_
          refine sx_round ((ps ++ [.pointer (some p)], .reg lo1 w58 :: regs)) ?_ ?_ (by repeat (first | exact SubL.nil | refine SubL.cons (by first | exact rfl | exact lk_int rfl (by simp) | exact lk_eq rfl (by simp)) ?_)) (by repeat (first | exact Sel.refl _ | exact Sel.nil | refine Sel.cons (by repeat (first | exact Rem.here | apply Rem.there)) ?_ | refine Sel.skip ?_))
          · refine ⟨by simp only [List.length_append, List.length_cons, List.length_nil]; omega, fun t ht => ?_⟩
            simp only [List.length_append, List.length_cons, List.length_nil] at ht
            rcases Nat.lt_or_ge t ps.length with hlt | hge
            · obtain ⟨h1, p', lo, wr, h2, h3, h4, h5⟩ := hps t hlt
              exact ⟨h1, p', lo, wr, by rw [List.getElem?_append_left hlt]; exact h2, h3, .tail _ h4, h5⟩
            · have e : t = ps.length := by omega
              subst e
              exact ⟨by simpa [trT] using hc3, p, lo1, w58, by simp, hp.1, .head _, hp.2⟩
          · simp only [List.length_append, List.length_cons, List.length_nil]; omega
      ·
        refine sc_exit ?_
        refine sx_then_exit ?_
        refine sx_round_exit ?_
        refine sx_blk_hit ?_
        refine sx_then ?_
        refine sc_seq ?_
        refine sc_region ?_
        refine sq_y (OpY.s (y_move (by exact rfl))) rfl ?_
        refine sq_y (OpY.s (y_assign (by exact rfl))) rfl ?_
        refine sq_y (OpY.s (y_assign (by exact rfl))) rfl ?_
        refine sq_nil ?_
        refine sx_then ?_
        refine sc_ret ?_
        refine sx_ret2 (.inl rfl) rfl Try.results52 (by exact rfl) (by exact rfl) ?_
        intro w' hw'
        have hv : ¬ vb = false := by simpa using hc1
        have hpl : ps.length = r.teams.length := by omega
        have hE : openE r ls vb = 0 := by
          unfold openE
          rw [if_neg (fun h => h hc0), if_neg hv, if_pos]
          exact List.all_eq_true.2 fun t ht => (hps t (by rw [hpl]; exact List.mem_range.1 ht)).1
        rw [hE]
        refine ⟨.map (some b20), rfl, hw'.below (by repeat (first | exact .head _ | refine .tail _ ?_)), fun _ => ⟨b20, ps, rfl, blk_new hw' (by repeat (first | exact Rem.here | apply Rem.there)) (by repeat (first | exact .head _ | refine .tail _ ?_)), map_blk hw' (by repeat (first | exact .head _ | refine .tail _ ?_)), hpl, fun t ht => ?_⟩⟩
        obtain ⟨_, p, lo, wr, h2, h3, h4, h5⟩ := hps t (by omega)
        exact ⟨p, h2, (h5.keep hw' (by first | exact .tail _ (.tail _ (.tail _ h4)) | simp [h4])).low h3⟩
end Go.Proofs.Ytegdfpilhlcplaa
