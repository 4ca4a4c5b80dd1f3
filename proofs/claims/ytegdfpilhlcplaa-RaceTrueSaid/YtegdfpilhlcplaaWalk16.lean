/- The walks of Winners, and of small things of the laws. -/
import Derived.Test.YtegdfpilhlcplaaWalk15
import Derived.Test.YtegdfpilhlcplaaLaw6
namespace Go.Proofs.Ytegdfpilhlcplaa
open Go Go.Eng Go.RowKit Go.Proofs
set_option maxRecDepth 100000

theorem power56 (w : World) (n : Nat) (hn : n ≤ 20) : Calls Try.prog 56 #[.int .i64 n] w fun e w' => e = .returned (.int .i64 ((pw2 n : Nat) : Int)) ∧ Below w.heap.size w w' := by
  refine calls_of_SC (args := [.int .i64 n]) Try.func56 rfl Try.ntmps56 rfl ?_
  simp only [argL]
  refine sc_seq ?_
  refine sc_region ?_
  refine sq_y (OpY.s (y_assign (by exact rfl))) rfl ?_
  refine sq_nil ?_
  refine sx_then ?_
  refine sc_seq ?_
  refine sc_region ?_
  refine sq_y (OpY.s (y_assign (by exact rfl))) rfl ?_
  refine sq_nil ?_
  refine sx_then ?_
  refine sc_seq ?_
  refine sc_seq ?_
  refine sc_region ?_
  refine sq_y (OpY.s (y_assign (by exact rfl))) rfl ?_
  refine sq_nil ?_
  refine sx_then ?_
  refine sc_block ?_
  refine sc_loop (σ := Nat)
    (fun s => [(0, .int .i64 n), (3, .int .i64 ((pw2 s : Nat) : Int)), (4, .int .i64 s)])
    (fun s => [.reg 0 w])
    (fun s => s ≤ n)
    (fun s => n - s)
    (0) ?_ (by repeat (first | exact SubL.nil | refine SubL.cons (by first | exact rfl | exact lk_int rfl (by omega) | exact lk_eq rfl (by simp)) ?_)) (by repeat (first | exact Sel.nil | refine Sel.cons (by repeat (first | exact Rem.here | apply Rem.there)) ?_)) ?_
  · exact Nat.zero_le _
  rintro k hk
  have hpw := pw2_le (show k ≤ 20 by omega)
  have hps : (2 : Int) * ((pw2 k : Nat) : Int) = ((pw2 (k + 1) : Nat) : Int) := by rw [pw2_succ]; omega
  refine sc_seq ?_
  refine sc_seq ?_
  refine sc_region ?_
  refine sq_y (OpY.s (y_move (by exact rfl))) rfl ?_
  refine sq_y (OpY.s (y_move (by exact rfl))) rfl ?_
  refine sq_y (OpY.s (y_lss (by exact rfl) (by exact rfl))) rfl ?_
  refine sq_nil ?_
  refine sx_then ?_
  first | refine sc_if (by exact rfl) (fun hc0 => ?_) (fun hc0 => ?_) | refine sc_ifn (by exact rfl) (fun hc0 => ?_) (fun hc0 => ?_) | refine sc_cond (by exact rfl) (fun hc0 => ?_) (fun hc0 => ?_)
  ·
    refine sc_skip ?_
    refine sx_then ?_
    refine sc_seq ?_
    refine sc_block ?_
    refine sc_region ?_
    refine sq_y (OpY.s (y_move (by exact rfl))) rfl ?_
    refine sq_y (OpY.s (y_mul (by exact rfl) (by exact rfl) (by omega))) rfl ?_
    refine sq_y (OpY.s (y_assign (by exact rfl))) rfl ?_
    refine sq_nil ?_
    refine sx_blk ?_
    refine sx_then ?_
    refine sc_region ?_
    refine sq_y (OpY.s (y_move (by exact rfl))) rfl ?_
    refine sq_y (OpY.s (y_add (by exact rfl) (by exact rfl) (by omega))) rfl ?_
    refine sq_y (OpY.s (y_assign (by exact rfl))) rfl ?_
    refine sq_nil ?_
    refine sx_round (k + 1) ?_ ?_ (.cons (by exact rfl) (.cons (lk_int rfl hps) (.cons (lk_int rfl (by omega)) .nil))) (by repeat (first | exact Sel.nil | refine Sel.cons (by repeat (first | exact Rem.here | apply Rem.there)) ?_))
    · omega
    · omega
  ·
    refine sc_exit ?_
    refine sx_then_exit ?_
    refine sx_round_exit ?_
    refine sx_blk_hit ?_
    refine sx_then ?_
    refine sc_seq ?_
    refine sc_region ?_
    refine sq_y (OpY.s (y_move (by exact rfl))) rfl ?_
    refine sq_y (OpY.s (y_assign (by exact rfl))) rfl ?_
    refine sq_nil ?_
    refine sx_then ?_
    refine sc_ret ?_
    refine sx_ret1 (.inl rfl) rfl Try.results56 (by exact rfl) ?_
    intro w' hw'
    refine ⟨?_, hw'.below (by repeat (first | exact .head _ | refine .tail _ ?_))⟩
    have hkn : k = n := by omega
    rw [hkn]
theorem span50i (w : World) (p : Addr) (r : Rc) (team : Nat) (ws : List (Int × Sp)) (mz : Int) (hm : 0 ≤ mz ∧ mz ≤ 1000) (hteam : team < r.teams.length) (hco : CoA 0 w p r team ws) (hok : rcB r = true) :
    Calls Try.prog 50 #[.pointer (some p), .int .i64 mz] w fun e w' => e = .returned (.agg #[.int .i64 (ptsLo r team ws mz.toNat), .int .i64 (ptsHi r team ws mz.toNat)]) ∧ Below w.heap.size w w' := by
  obtain ⟨m, rfl⟩ := Int.eq_ofNat_of_zero_le hm.1
  exact span50 w p r team ws m (by omega) hteam hco hok
def winL (r : Rc) (ls : List Wd) : List Sp := rankL (scoreL r ls fun _ => r.lim.toNat)
def winS (r : Rc) (ls : List Wd) : Nat := maskN (sureQ (winL r ls)) r.teams.length
def winC (r : Rc) (ls : List Wd) : Nat := maskN (canQ (winL r ls)) r.teams.length
def winAns (r : Rc) (ls : List Wd) : Value := if openE r ls true = 0 then .tuple #[.int .i64 (winS r ls : Nat), .int .i64 (winC r ls : Nat), .int .i64 0] else .tuple #[.int .i64 0, .int .i64 0, .int .i64 (openE r ls true)]
theorem winL_len (r : Rc) (ls : List Wd) : (winL r ls).length = r.teams.length := by simp [winL, rankL, scoreL]
theorem winners23 (w : World) (r : Rc) (a : Option Addr) (c : Nat) (f : Nat → Option Addr) (cf : Nat → Nat) (al : Option Addr) (cl : Nat) (ls : List Wd) (hT : TmsA 0 w a r.teams f cf) (hl : WdsA 0 w al ls) (i1 : InI r.p) (i2 : InI r.lim) (i3 : InI r.rate) : Calls Try.prog 23 #[.agg (rcVal r a c).toArray, .slice al ls.length cl] w fun e w' => e = .returned (winAns r ls) ∧ Below w.heap.size w w' := by
  refine calls_of_SC (args := [.agg (rcVal r a c).toArray, .slice al ls.length cl]) Try.func23 rfl Try.ntmps23 rfl ?_
  simp only [argL, Nat.zero_add]
  refine sc_seq ?_
  refine sc_region ?_
  refine sq_box (by exact rfl) rfl (fun b2 => ?_)
  refine sq_y (OpY.s (y_assign (by exact rfl))) rfl ?_
  refine sq_y (OpY.s (y_assign (by exact rfl))) rfl ?_
  refine sq_y (OpY.s (y_assign (by exact rfl))) rfl ?_
  refine sq_nil ?_
  refine sx_then ?_
  refine sc_seq ?_
  refine sc_region ?_
  refine sq_y (OpY.s (by first | exact y_load_all Try.underlying24 rfl Try.sizeOf24 (by exact rfl) (by repeat (first | exact .head _ | refine .tail _ ?_)) (by exact rfl) | exact y_load_ca Try.underlying24 rfl Try.sizeOf24 (by exact rfl) (by repeat (first | exact .head _ | refine .tail _ ?_)) (by assumption) (by exact rfl))) rfl ?_
  refine sq_y (OpY.s (y_move (by exact rfl))) rfl ?_
  refine sq_call_new (first := []) (caps := []) (Z := Value) (fun z => .tuple #[z, .int .i64 (openE r ls true)]) (fun lo w' z => w.heap.size ≤ lo ∧ (openE r ls true = 0 → Opened lo w' r a c ls z)) (by exact rfl) Try.call52 (EvL.cons (by exact rfl) (EvL.cons (by exact rfl) (EvL.cons (by exact rfl) EvL.nil))) (fun w1 hw1 => (open52 w1 r a c f cf al cl ls 55 [] true (hT.at hw1 (by repeat (first | exact .head _ | refine .tail _ ?_))) (hl.at hw1 (by repeat (first | exact .head _ | refine .tail _ ?_))) i1 i2 i3 Try.call55 (fun w2 _ => valid55 w2)).mono (fun e w' ⟨z, he, hb, hz⟩ => ⟨z, he, hb, hw1.size, hz⟩)) rfl (fun lo52 w52 m52 h52 => ?_)
  refine sq_y (OpY.s (y_move (by exact rfl))) rfl ?_
  refine sq_y (OpY.s (y_extract (by exact rfl) (by exact rfl))) rfl ?_
  refine sq_y (OpY.s (y_extract (by exact rfl) (by exact rfl))) rfl ?_
  refine sq_y (OpY.s (y_assign (by exact rfl))) rfl ?_
  refine sq_y (OpY.s (y_assign (by exact rfl))) rfl ?_
  refine sq_nil ?_
  refine sx_then ?_
  refine sc_seq ?_
  refine sc_seq ?_
  refine sc_region ?_
  refine sq_y (OpY.s (y_move (by exact rfl))) rfl ?_
  refine sq_y (OpY.s (y_neq (by exact rfl) (by exact rfl))) rfl ?_
  refine sq_nil ?_
  refine sx_then ?_
  first | refine sc_if (by exact rfl) (fun hc0 => ?_) (fun hc0 => ?_) | refine sc_ifn (by exact rfl) (fun hc0 => ?_) (fun hc0 => ?_) | refine sc_cond (by exact rfl) (fun hc0 => ?_) (fun hc0 => ?_)
  ·
    refine sc_seq ?_
    refine sc_region ?_
    refine sq_y (OpY.s (y_move (by exact rfl))) rfl ?_
    refine sq_y (OpY.s (y_assign (by exact rfl))) rfl ?_
    refine sq_y (OpY.s (y_assign (by exact rfl))) rfl ?_
    refine sq_y (OpY.s (y_assign (by exact rfl))) rfl ?_
    refine sq_nil ?_
    refine sx_then ?_
    refine sc_ret ?_
    refine sx_then_ret ?_
    refine sx_ret3 (.inl rfl) rfl Try.results23 (by exact rfl) (by exact rfl) (by exact rfl) ?_
    intro w' hw'
    refine ⟨?_, hw'.below (by repeat (first | exact .head _ | refine .tail _ ?_))⟩
    unfold winAns; rw [if_neg hc0]; rfl
  ·
    refine sc_skip ?_
    refine sx_then ?_
    refine sc_seq ?_
    have hE : openE r ls true = 0 := hc0
    obtain ⟨hz1, hz2, hz3⟩ := openE_zero hE
    obtain ⟨hok, hll, hwd⟩ := chk_zero hz1
    have hlim := rcB_nums hok
    obtain ⟨L, hL⟩ := Int.eq_ofNat_of_zero_le (show 0 ≤ r.lim by omega)
    have hLn : r.lim.toNat = L := by omega
    obtain ⟨hlo52, hop⟩ := h52
    obtain ⟨bm, ps, rfl, hbm, hmap, hpl, hps⟩ := hop hE
    refine sc_region ?_
    refine sq_y (OpY.s (y_assign (by exact rfl))) rfl ?_
    refine sq_nil ?_
    refine sx_then ?_
    refine sc_seq ?_
    refine sc_seq ?_
    refine sc_region ?_
    refine sq_y (OpY.s (by first | exact y_fab Try.underlying24 (by exact rfl) (by exact Try.sizeOf22) (by exact rfl) rfl | exact y_fa Try.underlying24 (by exact rfl) (by exact Try.sizeOf22) (by exact rfl) rfl)) rfl ?_
    refine sq_y (OpY.s (by first | exact y_load_blk Try.underlying22 rfl (by exact rfl) (by repeat (first | exact .head _ | refine .tail _ ?_)) (by exact rfl) | exact y_load_caj Try.underlying22 rfl (by exact rfl) (by repeat (first | exact .head _ | refine .tail _ ?_)) (by assumption) (by exact rfl) | exact y_load_ca0 Try.underlying22 rfl (by exact rfl) (by repeat (first | exact .head _ | refine .tail _ ?_)) (by assumption) (by exact rfl))) rfl ?_
    refine sq_y (OpY.s (y_len Try.underlying22 (by exact rfl))) rfl ?_
    refine sq_y (OpY.s (y_move (by exact rfl))) rfl ?_
    refine sq_nil ?_
    refine sx_then ?_
    refine sc_block ?_
    refine sc_nil_own 32 2 ?_
    refine sc_loop (σ := Nat × Value)
      (fun s => [(2, .pointer (some ⟨b2, 0, none⟩)), (4, .int .i64 0), (5, .int .i64 0), (7, .map (some bm)), (8, s.2), (23, .int .i64 r.teams.length), (24, .int .i64 s.1)])
      (fun s => [.own s.2 32 2 s.1 (flatS ((List.range s.1).map fun t => ptsP r ls t r.lim.toNat)), .reg lo52 w52, .blk b2 (.cells (rcVal r a c).toArray 24 (0, 0)), .reg 0 w])
      (fun s => s.1 ≤ r.teams.length)
      (fun s => r.teams.length - s.1)
      ((0, .slice none 0 0)) ?_ (by repeat (first | exact SubL.nil | refine SubL.cons (by first | exact rfl | exact lk_int rfl (by omega) | exact lk_eq rfl (by simp)) ?_)) (by repeat (first | exact Sel.nil | refine Sel.cons (by repeat (first | exact Rem.here | apply Rem.there)) ?_)) ?_
    · exact Nat.zero_le _
    rintro ⟨k, v⟩ hk
    dsimp only at hk ⊢
    refine sc_seq ?_
    refine sc_region ?_
    refine sq_y (OpY.s (y_lss (by exact rfl) (by exact rfl))) rfl ?_
    refine sq_nil ?_
    refine sx_then ?_
    refine sc_seq ?_
    first | refine sc_if (by exact rfl) (fun hc1 => ?_) (fun hc1 => ?_) | refine sc_ifn (by exact rfl) (fun hc1 => ?_) (fun hc1 => ?_) | refine sc_cond (by exact rfl) (fun hc1 => ?_) (fun hc1 => ?_)
    ·
      have hk' : k < r.teams.length := by omega
      obtain ⟨p, hp, hco⟩ := hps k hk'
      have hfl : flatS ((List.range k).map fun t => ptsP r ls t r.lim.toNat) ++ [.int .i64 (ptsLo r k (allW r k ls) r.lim.toNat), .int .i64 (ptsHi r k (allW r k ls) r.lim.toNat)] = flatS ((List.range (k + 1)).map fun t => ptsP r ls t r.lim.toNat) := by
        rw [List.range_succ, List.map_append]; simp [flatS, ptsP, spRow]
      refine sc_skip ?_
      refine sx_then ?_
      refine sc_seq ?_
      refine sc_block ?_
      refine sc_seq ?_
      refine sc_region ?_
      refine sq_y (OpY.s (y_move (by exact rfl))) rfl ?_
      refine sq_y (OpY.s (y_assign (by exact rfl))) rfl ?_
      refine sq_nil ?_
      refine sx_then ?_
      refine sc_region ?_
      refine sq_y (OpY.s (y_move (by exact rfl))) rfl ?_
      refine sq_y (OpY.s (y_move (by exact rfl))) rfl ?_
      refine sq_y (OpY.s (y_move (by exact rfl))) rfl ?_
      refine sq_y (OpY.s (y_lookup Try.underlying80 Try.underlying3 (by exact rfl) (fun _ hw => heap_reg hw (by repeat (first | exact .head _ | refine .tail _ ?_)) hbm hmap) (by exact rfl) hp)) rfl ?_
      refine sq_y (OpY.s (by first | exact y_fab Try.underlying24 (by exact rfl) (by exact Try.sizeOf3) (by exact rfl) rfl | exact y_fa Try.underlying24 (by exact rfl) (by exact Try.sizeOf3) (by exact rfl) rfl)) rfl ?_
      refine sq_y (OpY.s (by first | exact y_load_blk Try.underlying3 rfl (by exact rfl) (by repeat (first | exact .head _ | refine .tail _ ?_)) (by exact rfl) | exact y_load_caj Try.underlying3 rfl (by exact rfl) (by repeat (first | exact .head _ | refine .tail _ ?_)) (by assumption) (by exact rfl) | exact y_load_ca0 Try.underlying3 rfl (by exact rfl) (by repeat (first | exact .head _ | refine .tail _ ?_)) (by assumption) (by exact rfl))) rfl ?_
      refine sq_y (y_call (first := []) (caps := []) (by exact rfl) Try.call50 (EvL.cons (by exact rfl) (EvL.cons (by exact rfl) EvL.nil)) (fun w1 hw1 => span50i w1 p r k (allW r k ls) _ (by omega) hk' (((hco.keep hw1 (by repeat (first | exact .head _ | refine .tail _ ?_))).low (Nat.zero_le _)).co (hT.at hw1 (by repeat (first | exact .head _ | refine .tail _ ?_))) (allW_ok hok hwd) (allW_len hll)) hok)) rfl ?_
      refine sq_bs Try.underlying83 ei32 (EvI.cons (by exact rfl) EvI.nil) (by first | (simp [Value.cells]; done) | (simp [Value.cells]; rfl)) rfl rfl rfl (fun b34 => ?_)
      refine sq_append (news := [.int .i64 (ptsLo r k (allW r k ls) r.lim.toNat), .int .i64 (ptsHi r k (allW r k ls) r.lim.toNat)]) Try.underlying83 ei32 rfl (by decide) (by exact rfl) (by repeat (first | exact Rem.here | apply Rem.there)) (by exact rfl) rfl (fun _ hw => news_blk hw (by repeat (first | exact .head _ | refine .tail _ ?_))) (by simp [Value.oneCell']) (by omega) rfl (fun v35 ho35 => ?_)
      rw [hfl]
      refine sq_y (OpY.s (y_assign (by exact rfl))) rfl ?_
      refine sq_nil ?_
      refine sx_blk ?_
      refine sx_then ?_
      refine sc_region ?_
      refine sq_y (OpY.s (y_add (by exact rfl) (by exact rfl) (by omega))) rfl ?_
      refine sq_y (OpY.s (y_move (by exact rfl))) rfl ?_
      refine sq_nil ?_
      refine sx_round ((k + 1, v35)) ?_ ?_ (by repeat (first | exact SubL.nil | refine SubL.cons (by first | exact rfl | exact lk_int rfl (by omega) | exact lk_eq rfl (by simp)) ?_)) (by repeat (first | exact Sel.nil | refine Sel.cons (by repeat (first | exact Rem.here | apply Rem.there)) ?_))
      · show k + 1 ≤ r.teams.length; omega
      · show r.teams.length - (k + 1) < r.teams.length - k; omega
    ·
      have hkn : k = r.teams.length := by omega
      rw [hkn]
      refine sc_exit ?_
      refine sx_then_exit ?_
      refine sx_round_exit ?_
      refine sx_blk_hit ?_
      refine sx_then ?_
      refine sc_seq ?_
      refine sc_seq ?_
      refine sc_region ?_
      refine sq_y (OpY.s (y_move (by exact rfl))) rfl ?_
      refine sq_call_new (first := []) (caps := []) (Z := Option Addr × Nat) (fun z => .slice z.1 r.teams.length z.2) (fun lo w' z => SpsA lo w' z.1 (winL r ls)) (by exact rfl) Try.call54 (EvL.cons (by exact rfl) EvL.nil) (fun w1 hw1 => (ranks54 w1 v (scoreL r ls fun _ => r.lim.toNat) (by simp [scoreL]; omega) (own_sps (e := 32) (by have ho : w1.ownsRow 0 32 2 v r.teams.length _ := hw1.ok (.own v 32 2 r.teams.length _) (by repeat (first | exact .head _ | refine .tail _ ?_)); simpa [scoreL] using ho) (by simp [scoreL]; omega))).mono (fun e w' ⟨z, he, hb, hz⟩ => by
          obtain ⟨a', c', rfl, hS⟩ := own_sps (l := winL r ls) hz (by rw [winL_len]; omega)
          exact ⟨(a', c'), by rw [he, winL_len], hb, hS⟩)) rfl (fun lo54 w54 z54 hS54 => ?_)
      refine sq_y (OpY.s (y_len Try.underlying36 (by exact rfl))) rfl ?_
      refine sq_y (OpY.s (y_move (by exact rfl))) rfl ?_
      refine sq_nil ?_
      refine sx_then ?_
      refine sc_block ?_
      refine sc_loop (σ := Nat)
        (fun s => [(4, .int .i64 (maskN (sureQ (winL r ls)) s : Nat)), (5, .int .i64 (maskN (canQ (winL r ls)) s : Nat)), (38, .slice z54.1 r.teams.length z54.2), (39, .int .i64 r.teams.length), (40, .int .i64 s)])
        (fun s => [.reg lo54 w54, .reg 0 w])
        (fun s => s ≤ r.teams.length)
        (fun s => r.teams.length - s)
        (0) ?_ (by repeat (first | exact SubL.nil | refine SubL.cons (by first | exact rfl | exact lk_int rfl (by omega) | exact lk_eq rfl (by simp)) ?_)) (by repeat (first | exact Sel.nil | refine Sel.cons (by repeat (first | exact Rem.here | apply Rem.there)) ?_)) ?_
      · exact Nat.zero_le _
      rintro k hk
      refine sc_seq ?_
      refine sc_region ?_
      refine sq_y (OpY.s (y_lss (by exact rfl) (by exact rfl))) rfl ?_
      refine sq_nil ?_
      refine sx_then ?_
      refine sc_seq ?_
      first | refine sc_if (by exact rfl) (fun hc2 => ?_) (fun hc2 => ?_) | refine sc_ifn (by exact rfl) (fun hc2 => ?_) (fun hc2 => ?_) | refine sc_cond (by exact rfl) (fun hc2 => ?_) (fun hc2 => ?_)
      ·
        have hk' : k < r.teams.length := by omega
        obtain ⟨x, hx⟩ : ∃ x, (winL r ls)[k]? = some x := ⟨_, List.getElem?_eq_getElem (by rw [winL_len]; omega)⟩
        have hsmx := (hS54.el k x hx).1
        have hcax := (hS54.el k x hx).2
        have hqs : sureQ (winL r ls) k = decide (x.hi = 1) := by unfold sureQ; rw [getD_of hx]
        have hqc : canQ (winL r ls) k = decide (x.lo = 1) := by unfold canQ; rw [getD_of hx]
        have hms := maskN_pw (sureQ (winL r ls)) k
        have hmc := maskN_pw (canQ (winL r ls)) k
        have hpw := pw2_le (show k ≤ 20 by omega)
        have hsh := pw2_shl k
        refine sc_skip ?_
        refine sx_then ?_
        refine sc_seq ?_
        refine sc_block ?_
        refine sc_seq ?_
        refine sc_region ?_
        refine sq_y (OpY.s (y_move (by exact rfl))) rfl ?_
        refine sq_y (OpY.s (by first | exact y_ia_blk Try.underlying36 Try.sizeOf32 (by exact rfl) (by exact rfl) (by omega) | exact y_ia_el Try.underlying36 Try.sizeOf32 (by exact rfl) (by exact rfl) (by omega) (by first | assumption | simp))) rfl ?_
        refine sq_y (OpY.s (by first | exact y_load_ca Try.underlying32 rfl Try.sizeOf32 (by exact rfl) (by repeat (first | exact .head _ | refine .tail _ ?_)) hcax rfl | exact y_load_all Try.underlying32 rfl Try.sizeOf32 (by exact rfl) (by repeat (first | exact .head _ | refine .tail _ ?_)) (by exact rfl) | exact y_load_2 Try.underlying32 rfl Try.sizeOf32 (by exact rfl) (by repeat (first | exact .head _ | refine .tail _ ?_)) (by exact rfl) (by exact rfl) | exact y_load_ca Try.underlying32 rfl Try.sizeOf32 (by exact rfl) (by repeat (first | exact .head _ | refine .tail _ ?_)) (by assumption) (by exact rfl))) rfl ?_
        refine sq_alloc Try.zeroValue32 rfl (fun b11 => ?_)
        refine sq_y (OpY.s (y_assign (by exact rfl))) rfl ?_
        refine sq_store_all Try.sizeOf32 (by exact rfl) (by exact rfl) rfl (by repeat (first | exact Rem.here | apply Rem.there)) rfl rfl ?_
        refine sq_nil ?_
        refine sx_then ?_
        refine sc_seq ?_
        refine sc_seq ?_
        refine sc_region ?_
        refine sq_y (OpY.s (by first | exact y_fab Try.underlying32 (by exact rfl) (by exact Try.sizeOf3) (by exact rfl) rfl | exact y_fa Try.underlying32 (by exact rfl) (by exact Try.sizeOf3) (by exact rfl) rfl)) rfl ?_
        refine sq_y (OpY.s (by first | exact y_load_blk Try.underlying3 rfl (by exact rfl) (by repeat (first | exact .head _ | refine .tail _ ?_)) (by exact rfl) | exact y_load_caj Try.underlying3 rfl (by exact rfl) (by repeat (first | exact .head _ | refine .tail _ ?_)) (by assumption) (by exact rfl) | exact y_load_ca0 Try.underlying3 rfl (by exact rfl) (by repeat (first | exact .head _ | refine .tail _ ?_)) (by assumption) (by exact rfl))) rfl ?_
        refine sq_y (OpY.s (y_eql (by exact rfl) (by exact rfl))) rfl ?_
        refine sq_nil ?_
        refine sx_then ?_
        first | refine sc_if (by exact rfl) (fun hc3 => ?_) (fun hc3 => ?_) | refine sc_ifn (by exact rfl) (fun hc3 => ?_) (fun hc3 => ?_) | refine sc_cond (by exact rfl) (fun hc3 => ?_) (fun hc3 => ?_)
        ·
          have hS := maskN_or (sureQ (winL r ls)) k (by rw [hqs]; exact decide_eq_true hc3)
          refine sc_region ?_
          refine sq_y (OpY.s (y_move (by exact rfl))) rfl ?_
          refine sq_y (OpY.s (y_move (by exact rfl))) rfl ?_
          refine sq_y (OpY.s (y_shl (by exact rfl) (by exact rfl) (by omega) (by rw [hsh]; omega))) rfl ?_
          refine sq_y (OpY.s (y_or (by exact rfl) (by exact rfl) (by omega) (by rw [hsh]; omega))) rfl ?_
          refine sq_y (OpY.s (y_assign (by exact rfl))) rfl ?_
          refine sq_nil ?_
          refine sx_then ?_
          refine sc_seq ?_
          refine sc_region ?_
          refine sq_y (OpY.s (by first | exact y_fab Try.underlying32 (by exact rfl) (by exact Try.sizeOf3) (by exact rfl) rfl | exact y_fa Try.underlying32 (by exact rfl) (by exact Try.sizeOf3) (by exact rfl) rfl)) rfl ?_
          refine sq_y (OpY.s (by first | exact y_load_blk Try.underlying3 rfl (by exact rfl) (by repeat (first | exact .head _ | refine .tail _ ?_)) (by exact rfl) | exact y_load_caj Try.underlying3 rfl (by exact rfl) (by repeat (first | exact .head _ | refine .tail _ ?_)) (by assumption) (by exact rfl) | exact y_load_ca0 Try.underlying3 rfl (by exact rfl) (by repeat (first | exact .head _ | refine .tail _ ?_)) (by assumption) (by exact rfl))) rfl ?_
          refine sq_y (OpY.s (y_eql (by exact rfl) (by exact rfl))) rfl ?_
          refine sq_nil ?_
          refine sx_then ?_
          first | refine sc_if (by exact rfl) (fun hc4 => ?_) (fun hc4 => ?_) | refine sc_ifn (by exact rfl) (fun hc4 => ?_) (fun hc4 => ?_) | refine sc_cond (by exact rfl) (fun hc4 => ?_) (fun hc4 => ?_)
          ·
            have hC := maskN_or (canQ (winL r ls)) k (by rw [hqc]; exact decide_eq_true hc4)
            refine sc_region ?_
            refine sq_y (OpY.s (y_move (by exact rfl))) rfl ?_
            refine sq_y (OpY.s (y_move (by exact rfl))) rfl ?_
            refine sq_y (OpY.s (y_shl (by exact rfl) (by exact rfl) (by omega) (by rw [hsh]; omega))) rfl ?_
            refine sq_y (OpY.s (y_or (by exact rfl) (by exact rfl) (by omega) (by rw [hsh]; omega))) rfl ?_
            refine sq_y (OpY.s (y_assign (by exact rfl))) rfl ?_
            refine sq_nil ?_
            refine sx_blk ?_
            refine sx_then ?_
            refine sc_region ?_
            refine sq_y (OpY.s (y_add (by exact rfl) (by exact rfl) (by omega))) rfl ?_
            refine sq_y (OpY.s (y_move (by exact rfl))) rfl ?_
            refine sq_nil ?_
            refine sx_round (k + 1) ?_ ?_ (by repeat (first | exact SubL.nil | refine SubL.cons (by first | exact rfl | exact lk_int rfl hS | exact lk_int rfl hC | exact lk_int rfl (by omega)) ?_)) (by repeat (first | exact Sel.nil | refine Sel.cons (by repeat (first | exact Rem.here | apply Rem.there)) ?_))
            · omega
            · omega
          ·
            have hC := maskN_no (canQ (winL r ls)) k (by rw [hqc]; exact decide_eq_false hc4)
            refine sc_skip ?_
            refine sx_blk ?_
            refine sx_then ?_
            refine sc_region ?_
            refine sq_y (OpY.s (y_add (by exact rfl) (by exact rfl) (by omega))) rfl ?_
            refine sq_y (OpY.s (y_move (by exact rfl))) rfl ?_
            refine sq_nil ?_
            refine sx_round (k + 1) ?_ ?_ (by repeat (first | exact SubL.nil | refine SubL.cons (by first | exact rfl | exact lk_int rfl hS | exact lk_int rfl hC | exact lk_int rfl (by omega)) ?_)) (by repeat (first | exact Sel.nil | refine Sel.cons (by repeat (first | exact Rem.here | apply Rem.there)) ?_))
            · omega
            · omega
        ·
          have hS := maskN_no (sureQ (winL r ls)) k (by rw [hqs]; exact decide_eq_false hc3)
          refine sc_skip ?_
          refine sx_then ?_
          refine sc_seq ?_
          refine sc_region ?_
          refine sq_y (OpY.s (by first | exact y_fab Try.underlying32 (by exact rfl) (by exact Try.sizeOf3) (by exact rfl) rfl | exact y_fa Try.underlying32 (by exact rfl) (by exact Try.sizeOf3) (by exact rfl) rfl)) rfl ?_
          refine sq_y (OpY.s (by first | exact y_load_blk Try.underlying3 rfl (by exact rfl) (by repeat (first | exact .head _ | refine .tail _ ?_)) (by exact rfl) | exact y_load_caj Try.underlying3 rfl (by exact rfl) (by repeat (first | exact .head _ | refine .tail _ ?_)) (by assumption) (by exact rfl) | exact y_load_ca0 Try.underlying3 rfl (by exact rfl) (by repeat (first | exact .head _ | refine .tail _ ?_)) (by assumption) (by exact rfl))) rfl ?_
          refine sq_y (OpY.s (y_eql (by exact rfl) (by exact rfl))) rfl ?_
          refine sq_nil ?_
          refine sx_then ?_
          first | refine sc_if (by exact rfl) (fun hc4 => ?_) (fun hc4 => ?_) | refine sc_ifn (by exact rfl) (fun hc4 => ?_) (fun hc4 => ?_) | refine sc_cond (by exact rfl) (fun hc4 => ?_) (fun hc4 => ?_)
          ·
            have hC := maskN_or (canQ (winL r ls)) k (by rw [hqc]; exact decide_eq_true hc4)
            refine sc_region ?_
            refine sq_y (OpY.s (y_move (by exact rfl))) rfl ?_
            refine sq_y (OpY.s (y_move (by exact rfl))) rfl ?_
            refine sq_y (OpY.s (y_shl (by exact rfl) (by exact rfl) (by omega) (by rw [hsh]; omega))) rfl ?_
            refine sq_y (OpY.s (y_or (by exact rfl) (by exact rfl) (by omega) (by rw [hsh]; omega))) rfl ?_
            refine sq_y (OpY.s (y_assign (by exact rfl))) rfl ?_
            refine sq_nil ?_
            refine sx_blk ?_
            refine sx_then ?_
            refine sc_region ?_
            refine sq_y (OpY.s (y_add (by exact rfl) (by exact rfl) (by omega))) rfl ?_
            refine sq_y (OpY.s (y_move (by exact rfl))) rfl ?_
            refine sq_nil ?_
            refine sx_round (k + 1) ?_ ?_ (by repeat (first | exact SubL.nil | refine SubL.cons (by first | exact rfl | exact lk_int rfl hS | exact lk_int rfl hC | exact lk_int rfl (by omega)) ?_)) (by repeat (first | exact Sel.nil | refine Sel.cons (by repeat (first | exact Rem.here | apply Rem.there)) ?_))
            · omega
            · omega
          ·
            have hC := maskN_no (canQ (winL r ls)) k (by rw [hqc]; exact decide_eq_false hc4)
            refine sc_skip ?_
            refine sx_blk ?_
            refine sx_then ?_
            refine sc_region ?_
            refine sq_y (OpY.s (y_add (by exact rfl) (by exact rfl) (by omega))) rfl ?_
            refine sq_y (OpY.s (y_move (by exact rfl))) rfl ?_
            refine sq_nil ?_
            refine sx_round (k + 1) ?_ ?_ (by repeat (first | exact SubL.nil | refine SubL.cons (by first | exact rfl | exact lk_int rfl hS | exact lk_int rfl hC | exact lk_int rfl (by omega)) ?_)) (by repeat (first | exact Sel.nil | refine Sel.cons (by repeat (first | exact Rem.here | apply Rem.there)) ?_))
            · omega
            · omega
      ·
        have hkn : k = r.teams.length := by omega
        rw [hkn]
        refine sc_exit ?_
        refine sx_then_exit ?_
        refine sx_round_exit ?_
        refine sx_blk_hit ?_
        refine sx_then ?_
        refine sc_seq ?_
        refine sc_region ?_
        refine sq_y (OpY.s (y_move (by exact rfl))) rfl ?_
        refine sq_y (OpY.s (y_move (by exact rfl))) rfl ?_
        refine sq_y (OpY.s (y_assign (by exact rfl))) rfl ?_
        refine sq_y (OpY.s (y_assign (by exact rfl))) rfl ?_
        refine sq_y (OpY.s (y_assign (by exact rfl))) rfl ?_
        refine sq_nil ?_
        refine sx_then ?_
        refine sc_ret ?_
        refine sx_ret3 (.inl rfl) rfl Try.results23 (by exact rfl) (by exact rfl) (by exact rfl) ?_
        intro w' hw'
        refine ⟨?_, hw'.below (by repeat (first | exact .head _ | refine .tail _ ?_))⟩
        unfold winAns winS winC; rw [if_pos hE]
theorem findE_00 (r : Rc) (ls : List Wd) : findE r ls 0 0 = openE r ls true := by rw [findE_zero]; rfl
theorem points51i (w : World) (r : Rc) (a : Option Addr) (c : Nat) (f : Nat → Option Addr) (cf : Nat → Nat) (al : Option Addr) (cl : Nat) (ls : List Wd) (t : Nat) (mz : Int) (ht : t < r.teams.length) (hm : mz = r.lim) (htr : trT r ls t = true) (hok : rcB r = true) (hwd : ∀ d, d ∈ ls → wdB r d = true) (hT : TmsA 0 w a r.teams f cf) (hl : WdsA 0 w al ls) (i1 : InI r.p) (i2 : InI r.lim) (i3 : InI r.rate) : Calls Try.prog 51 #[.agg (rcVal r a c).toArray, .slice al ls.length cl, .int .i64 t, .int .i64 mz] w fun e w' => e = .returned (.agg (spRow (ptsP r ls t r.lim.toNat)).toArray) ∧ Below w.heap.size w w' := by
  have hlim := rcB_nums hok
  obtain ⟨m, hme⟩ := Int.eq_ofNat_of_zero_le (show 0 ≤ mz by omega)
  have h := points51 w r a c f cf al cl ls t m ht (by omega) htr hok hwd hT hl i1 i2 i3
  rw [hme, show r.lim.toNat = m by omega]; exact h
theorem winners24 (w : World) (r : Rc) (a : Option Addr) (c : Nat) (f : Nat → Option Addr) (cf : Nat → Nat) (al : Option Addr) (cl : Nat) (ls : List Wd) (hT : TmsA 0 w a r.teams f cf) (hl : WdsA 0 w al ls) (i1 : InI r.p) (i2 : InI r.lim) (i3 : InI r.rate) : Calls Try.prog 24 #[.agg (rcVal r a c).toArray, .slice al ls.length cl] w fun e w' => e = .returned (winAns r ls) ∧ Below w.heap.size w w' := by
  have hlen := hT.len
  refine calls_of_SC (args := [.agg (rcVal r a c).toArray, .slice al ls.length cl]) Try.func24 rfl Try.ntmps24 rfl ?_
  simp only [argL, Nat.zero_add]
  refine sc_seq ?_
  refine sc_region ?_
  refine sq_box (by exact rfl) rfl (fun b2 => ?_)
  refine sq_y (OpY.s (y_assign (by exact rfl))) rfl ?_
  refine sq_y (OpY.s (y_assign (by exact rfl))) rfl ?_
  refine sq_y (OpY.s (y_assign (by exact rfl))) rfl ?_
  refine sq_nil ?_
  refine sx_then ?_
  refine sc_seq ?_
  refine sc_region ?_
  refine sq_y (OpY.s (by first | exact y_load_all Try.underlying24 rfl Try.sizeOf24 (by exact rfl) (by repeat (first | exact .head _ | refine .tail _ ?_)) (by exact rfl) | exact y_load_ca Try.underlying24 rfl Try.sizeOf24 (by exact rfl) (by repeat (first | exact .head _ | refine .tail _ ?_)) (by assumption) (by exact rfl))) rfl ?_
  refine sq_y (OpY.s (y_move (by exact rfl))) rfl ?_
  refine sq_y (y_call (first := []) (caps := []) (by exact rfl) Try.call48 (EvL.cons (by exact rfl) (EvL.cons (by exact rfl) (EvL.cons (by exact rfl) (EvL.cons (by exact rfl) EvL.nil)))) (fun w1 hw1 => all48 w1 r a c f cf al cl ls 0 0 (hT.at hw1 (by repeat (first | exact .head _ | refine .tail _ ?_))) (hl.at hw1 (by repeat (first | exact .head _ | refine .tail _ ?_))) i1 i2 i3)) rfl ?_
  refine sq_y (OpY.s (y_assign (by exact rfl))) rfl ?_
  refine sq_nil ?_
  refine sx_then ?_
  refine sc_seq ?_
  refine sc_seq ?_
  refine sc_region ?_
  refine sq_y (OpY.s (y_move (by exact rfl))) rfl ?_
  refine sq_y (OpY.s (y_neq (by exact rfl) (by exact rfl))) rfl ?_
  refine sq_nil ?_
  refine sx_then ?_
  first | refine sc_if (by exact rfl) (fun hc0 => ?_) (fun hc0 => ?_) | refine sc_ifn (by exact rfl) (fun hc0 => ?_) (fun hc0 => ?_) | refine sc_cond (by exact rfl) (fun hc0 => ?_) (fun hc0 => ?_)
  ·
    refine sc_seq ?_
    refine sc_region ?_
    refine sq_y (OpY.s (y_move (by exact rfl))) rfl ?_
    refine sq_y (OpY.s (y_assign (by exact rfl))) rfl ?_
    refine sq_y (OpY.s (y_assign (by exact rfl))) rfl ?_
    refine sq_y (OpY.s (y_assign (by exact rfl))) rfl ?_
    refine sq_nil ?_
    refine sx_then ?_
    refine sc_ret ?_
    refine sx_then_ret ?_
    refine sx_ret3 (.inl rfl) rfl Try.results24 (by exact rfl) (by exact rfl) (by exact rfl) ?_
    intro w' hw'
    refine ⟨?_, hw'.below (by repeat (first | exact .head _ | refine .tail _ ?_))⟩
    unfold winAns; rw [findE_00] at hc0 ⊢; rw [if_neg hc0]
  ·
    refine sc_skip ?_
    refine sx_then ?_
    refine sc_seq ?_
    have hE : openE r ls true = 0 := (findE_00 r ls) ▸ hc0
    obtain ⟨hz1, hz2, hz3⟩ := openE_zero hE
    obtain ⟨hok, hll, hwd⟩ := chk_zero hz1
    have hlim := rcB_nums hok
    obtain ⟨L, hL⟩ := Int.eq_ofNat_of_zero_le (show 0 ≤ r.lim by omega)
    have hLn : r.lim.toNat = L := by omega
    refine sc_region ?_
    refine sq_y (OpY.s (y_assign (by exact rfl))) rfl ?_
    refine sq_nil ?_
    refine sx_then ?_
    refine sc_seq ?_
    refine sc_seq ?_
    refine sc_region ?_
    refine sq_y (OpY.s (y_assign (by exact rfl))) rfl ?_
    refine sq_nil ?_
    refine sx_then ?_
    refine sc_block ?_
    refine sc_nil_own 32 2 ?_
    refine sc_loop (σ := Nat × Value)
      (fun s => [(1, .slice al ls.length cl), (2, .pointer (some ⟨b2, 0, none⟩)), (8, s.2), (9, .int .i64 s.1)])
      (fun s => [.own s.2 32 2 s.1 (flatS ((List.range s.1).map fun t => ptsP r ls t r.lim.toNat)), .blk b2 (.cells (rcVal r a c).toArray 24 (0, 0)), .reg 0 w])
      (fun s => s.1 ≤ r.teams.length)
      (fun s => r.teams.length - s.1)
      ((0, .slice none 0 0)) ?_ (by repeat (first | exact SubL.nil | refine SubL.cons (by first | exact rfl | exact lk_int rfl (by omega) | exact lk_eq rfl (by simp)) ?_)) (by repeat (first | exact Sel.nil | refine Sel.cons (by repeat (first | exact Rem.here | apply Rem.there)) ?_)) ?_
    · exact Nat.zero_le _
    rintro ⟨k, v⟩ hk
    dsimp only at hk ⊢
    refine sc_seq ?_
    refine sc_seq ?_
    refine sc_region ?_
    refine sq_y (OpY.s (y_move (by exact rfl))) rfl ?_
    refine sq_y (OpY.s (by first | exact y_fab Try.underlying24 (by exact rfl) (by exact Try.sizeOf22) (by exact rfl) rfl | exact y_fa Try.underlying24 (by exact rfl) (by exact Try.sizeOf22) (by exact rfl) rfl)) rfl ?_
    refine sq_y (OpY.s (by first | exact y_load_blk Try.underlying22 rfl (by exact rfl) (by repeat (first | exact .head _ | refine .tail _ ?_)) (by exact rfl) | exact y_load_caj Try.underlying22 rfl (by exact rfl) (by repeat (first | exact .head _ | refine .tail _ ?_)) (by assumption) (by exact rfl) | exact y_load_ca0 Try.underlying22 rfl (by exact rfl) (by repeat (first | exact .head _ | refine .tail _ ?_)) (by assumption) (by exact rfl))) rfl ?_
    refine sq_y (OpY.s (y_len Try.underlying22 (by exact rfl))) rfl ?_
    refine sq_y (OpY.s (y_lss (by exact rfl) (by exact rfl))) rfl ?_
    refine sq_nil ?_
    refine sx_then ?_
    first | refine sc_if (by exact rfl) (fun hc1 => ?_) (fun hc1 => ?_) | refine sc_ifn (by exact rfl) (fun hc1 => ?_) (fun hc1 => ?_) | refine sc_cond (by exact rfl) (fun hc1 => ?_) (fun hc1 => ?_)
    ·
      have hk' : k < r.teams.length := by omega
      have hfl : flatS ((List.range k).map fun t => ptsP r ls t r.lim.toNat) ++ [.int .i64 (ptsLo r k (allW r k ls) r.lim.toNat), .int .i64 (ptsHi r k (allW r k ls) r.lim.toNat)] = flatS ((List.range (k + 1)).map fun t => ptsP r ls t r.lim.toNat) := by
        rw [List.range_succ, List.map_append]; simp [flatS, ptsP, spRow]
      refine sc_skip ?_
      refine sx_then ?_
      refine sc_seq ?_
      refine sc_block ?_
      refine sc_region ?_
      refine sq_y (OpY.s (y_move (by exact rfl))) rfl ?_
      refine sq_y (OpY.s (by first | exact y_load_all Try.underlying24 rfl Try.sizeOf24 (by exact rfl) (by repeat (first | exact .head _ | refine .tail _ ?_)) (by exact rfl) | exact y_load_ca Try.underlying24 rfl Try.sizeOf24 (by exact rfl) (by repeat (first | exact .head _ | refine .tail _ ?_)) (by assumption) (by exact rfl))) rfl ?_
      refine sq_y (OpY.s (y_move (by exact rfl))) rfl ?_
      refine sq_y (OpY.s (y_move (by exact rfl))) rfl ?_
      refine sq_y (OpY.s (by first | exact y_fab Try.underlying24 (by exact rfl) (by exact Try.sizeOf3) (by exact rfl) rfl | exact y_fa Try.underlying24 (by exact rfl) (by exact Try.sizeOf3) (by exact rfl) rfl)) rfl ?_
      refine sq_y (OpY.s (by first | exact y_load_blk Try.underlying3 rfl (by exact rfl) (by repeat (first | exact .head _ | refine .tail _ ?_)) (by exact rfl) | exact y_load_caj Try.underlying3 rfl (by exact rfl) (by repeat (first | exact .head _ | refine .tail _ ?_)) (by assumption) (by exact rfl) | exact y_load_ca0 Try.underlying3 rfl (by exact rfl) (by repeat (first | exact .head _ | refine .tail _ ?_)) (by assumption) (by exact rfl))) rfl ?_
      refine sq_y (y_call (first := []) (caps := []) (by exact rfl) Try.call51 (EvL.cons (by exact rfl) (EvL.cons (by exact rfl) (EvL.cons (by exact rfl) (EvL.cons (by exact rfl) EvL.nil)))) (fun w1 hw1 => points51i w1 r a c f cf al cl ls k _ hk' rfl (hz3 k hk') hok hwd (hT.at hw1 (by repeat (first | exact .head _ | refine .tail _ ?_))) (hl.at hw1 (by repeat (first | exact .head _ | refine .tail _ ?_))) i1 i2 i3)) rfl ?_
      refine sq_bs Try.underlying36 ei32 (EvI.cons (by exact rfl) EvI.nil) (by first | (simp [Value.cells]; done) | (simp [Value.cells]; rfl)) rfl rfl rfl (fun b34 => ?_)
      refine sq_append (news := [.int .i64 (ptsLo r k (allW r k ls) r.lim.toNat), .int .i64 (ptsHi r k (allW r k ls) r.lim.toNat)]) Try.underlying36 ei32 rfl (by decide) (by exact rfl) (by repeat (first | exact Rem.here | apply Rem.there)) (by exact rfl) rfl (fun _ hw => news_blk hw (by repeat (first | exact .head _ | refine .tail _ ?_))) (by simp [Value.oneCell']) (by omega) rfl (fun v35 ho35 => ?_)
      rw [hfl]
      refine sq_y (OpY.s (y_assign (by exact rfl))) rfl ?_
      refine sq_nil ?_
      refine sx_blk ?_
      refine sx_then ?_
      refine sc_region ?_
      refine sq_y (OpY.s (y_move (by exact rfl))) rfl ?_
      refine sq_y (OpY.s (y_add (by exact rfl) (by exact rfl) (by omega))) rfl ?_
      refine sq_y (OpY.s (y_assign (by exact rfl))) rfl ?_
      refine sq_nil ?_
      refine sx_round ((k + 1, v35)) ?_ ?_ (by repeat (first | exact SubL.nil | refine SubL.cons (by first | exact rfl | exact lk_int rfl (by omega) | exact lk_eq rfl (by simp)) ?_)) (by repeat (first | exact Sel.nil | refine Sel.cons (by repeat (first | exact Rem.here | apply Rem.there)) ?_))
      · show k + 1 ≤ r.teams.length; omega
      · show r.teams.length - (k + 1) < r.teams.length - k; omega
    ·
      have hkn : k = r.teams.length := by omega
      rw [hkn]
      refine sc_exit ?_
      refine sx_then_exit ?_
      refine sx_round_exit ?_
      refine sx_blk_hit ?_
      refine sx_then ?_
      refine sc_seq ?_
      refine sc_region ?_
      refine sq_y (OpY.s (y_move (by exact rfl))) rfl ?_
      refine sq_call_new (first := []) (caps := []) (Z := Option Addr × Nat) (fun z => .slice z.1 r.teams.length z.2) (fun lo w' z => SpsA lo w' z.1 (winL r ls)) (by exact rfl) Try.call36 (EvL.cons (by exact rfl) EvL.nil) (fun w1 hw1 => (ranksOf36 w1 v (scoreL r ls fun _ => r.lim.toNat) (by simp [scoreL]; omega) (own_sps (e := 32) (by have ho : w1.ownsRow 0 32 2 v r.teams.length _ := hw1.ok (.own v 32 2 r.teams.length _) (by repeat (first | exact .head _ | refine .tail _ ?_)); simpa [scoreL] using ho) (by simp [scoreL]; omega))).mono (fun e w' ⟨z, he, hb, hz⟩ => by
          obtain ⟨a', c', rfl, hS⟩ := own_sps (l := winL r ls) hz (by rw [winL_len]; omega)
          exact ⟨(a', c'), by rw [he, winL_len], hb, hS⟩)) rfl (fun lo54 w54 z54 hS54 => ?_)
      refine sq_y (OpY.s (y_assign (by exact rfl))) rfl ?_
      refine sq_nil ?_
      refine sx_then ?_
      refine sc_seq ?_
      refine sc_region ?_
      refine sq_y (OpY.s (y_assign (by exact rfl))) rfl ?_
      refine sq_y (OpY.s (y_assign (by exact rfl))) rfl ?_
      refine sq_nil ?_
      refine sx_then ?_
      refine sc_seq ?_
      refine sc_seq ?_
      refine sc_region ?_
      refine sq_y (OpY.s (y_assign (by exact rfl))) rfl ?_
      refine sq_nil ?_
      refine sx_then ?_
      refine sc_block ?_
      refine sc_loop (σ := Nat)
        (fun s => [(10, .slice z54.1 r.teams.length z54.2), (11, .int .i64 (maskN (sureQ (winL r ls)) s : Nat)), (12, .int .i64 (maskN (canQ (winL r ls)) s : Nat)), (13, .int .i64 s)])
        (fun s => [.reg lo54 w54, .reg 0 w])
        (fun s => s ≤ r.teams.length)
        (fun s => r.teams.length - s)
        (0) ?_ (by repeat (first | exact SubL.nil | refine SubL.cons (by first | exact rfl | exact lk_int rfl (by omega) | exact lk_eq rfl (by simp)) ?_)) (by repeat (first | exact Sel.nil | refine Sel.cons (by repeat (first | exact Rem.here | apply Rem.there)) ?_)) ?_
      · exact Nat.zero_le _
      rintro k hk
      refine sc_seq ?_
      refine sc_seq ?_
      refine sc_region ?_
      refine sq_y (OpY.s (y_move (by exact rfl))) rfl ?_
      refine sq_y (OpY.s (y_move (by exact rfl))) rfl ?_
      refine sq_y (OpY.s (y_len Try.underlying36 (by exact rfl))) rfl ?_
      refine sq_y (OpY.s (y_lss (by exact rfl) (by exact rfl))) rfl ?_
      refine sq_nil ?_
      refine sx_then ?_
      first | refine sc_if (by exact rfl) (fun hc2 => ?_) (fun hc2 => ?_) | refine sc_ifn (by exact rfl) (fun hc2 => ?_) (fun hc2 => ?_) | refine sc_cond (by exact rfl) (fun hc2 => ?_) (fun hc2 => ?_)
      ·
        have hk' : k < r.teams.length := by omega
        obtain ⟨x, hx⟩ : ∃ x, (winL r ls)[k]? = some x := ⟨_, List.getElem?_eq_getElem (by rw [winL_len]; omega)⟩
        have hsmx := (hS54.el k x hx).1
        have hcax := (hS54.el k x hx).2
        have hqs : sureQ (winL r ls) k = decide (x.hi = 1) := by unfold sureQ; rw [getD_of hx]
        have hqc : canQ (winL r ls) k = decide (x.lo = 1) := by unfold canQ; rw [getD_of hx]
        have hms := maskN_pw (sureQ (winL r ls)) k
        have hmc := maskN_pw (canQ (winL r ls)) k
        have hpw := pw2_le (show k ≤ 20 by omega)
        have hsh := pw2_shl k
        refine sc_skip ?_
        refine sx_then ?_
        refine sc_seq ?_
        refine sc_block ?_
        refine sc_seq ?_
        refine sc_seq ?_
        refine sc_region ?_
        refine sq_y (OpY.s (y_move (by exact rfl))) rfl ?_
        refine sq_y (OpY.s (y_move (by exact rfl))) rfl ?_
        refine sq_y (OpY.s (by first | exact y_ia_blk Try.underlying36 Try.sizeOf32 (by exact rfl) (by exact rfl) (by omega) | exact y_ia_el Try.underlying36 Try.sizeOf32 (by exact rfl) (by exact rfl) (by omega) (by first | assumption | simp))) rfl ?_
        refine sq_y (OpY.s (by first | exact y_fab Try.underlying32 (by exact rfl) (by exact Try.sizeOf3) (by exact rfl) rfl | exact y_fa Try.underlying32 (by exact rfl) (by exact Try.sizeOf3) (by exact rfl) rfl)) rfl ?_
        refine sq_y (OpY.s (by first | exact y_load_blk Try.underlying3 rfl (by exact rfl) (by repeat (first | exact .head _ | refine .tail _ ?_)) (by exact rfl) | exact y_load_caj Try.underlying3 rfl (by exact rfl) (by repeat (first | exact .head _ | refine .tail _ ?_)) (by assumption) (by exact rfl) | exact y_load_ca0 Try.underlying3 rfl (by exact rfl) (by repeat (first | exact .head _ | refine .tail _ ?_)) (by assumption) (by exact rfl))) rfl ?_
        refine sq_y (OpY.s (y_eql (by exact rfl) (by exact rfl))) rfl ?_
        refine sq_nil ?_
        refine sx_then ?_
        first | refine sc_if (by exact rfl) (fun hc3 => ?_) (fun hc3 => ?_) | refine sc_ifn (by exact rfl) (fun hc3 => ?_) (fun hc3 => ?_) | refine sc_cond (by exact rfl) (fun hc3 => ?_) (fun hc3 => ?_)
        ·
          have hS := maskN_add (sureQ (winL r ls)) k (by rw [hqs]; exact decide_eq_true hc3)
          refine sc_region ?_
          refine sq_y (OpY.s (y_move (by exact rfl))) rfl ?_
          refine sq_y (OpY.s (y_move (by exact rfl))) rfl ?_
          refine sq_y (y_call (first := []) (caps := []) (by exact rfl) Try.call56 (EvL.cons (by exact rfl) EvL.nil) (fun w1 _ => power56 w1 k (by omega))) rfl ?_
          refine sq_y (OpY.s (y_add (by exact rfl) (by exact rfl) (by omega))) rfl ?_
          refine sq_y (OpY.s (y_assign (by exact rfl))) rfl ?_
          refine sq_nil ?_
          refine sx_then ?_
          refine sc_seq ?_
          refine sc_region ?_
          refine sq_y (OpY.s (y_move (by exact rfl))) rfl ?_
          refine sq_y (OpY.s (y_move (by exact rfl))) rfl ?_
          refine sq_y (OpY.s (by first | exact y_ia_blk Try.underlying36 Try.sizeOf32 (by exact rfl) (by exact rfl) (by omega) | exact y_ia_el Try.underlying36 Try.sizeOf32 (by exact rfl) (by exact rfl) (by omega) (by first | assumption | simp))) rfl ?_
          refine sq_y (OpY.s (by first | exact y_fab Try.underlying32 (by exact rfl) (by exact Try.sizeOf3) (by exact rfl) rfl | exact y_fa Try.underlying32 (by exact rfl) (by exact Try.sizeOf3) (by exact rfl) rfl)) rfl ?_
          refine sq_y (OpY.s (by first | exact y_load_blk Try.underlying3 rfl (by exact rfl) (by repeat (first | exact .head _ | refine .tail _ ?_)) (by exact rfl) | exact y_load_caj Try.underlying3 rfl (by exact rfl) (by repeat (first | exact .head _ | refine .tail _ ?_)) (by assumption) (by exact rfl) | exact y_load_ca0 Try.underlying3 rfl (by exact rfl) (by repeat (first | exact .head _ | refine .tail _ ?_)) (by assumption) (by exact rfl))) rfl ?_
          refine sq_y (OpY.s (y_eql (by exact rfl) (by exact rfl))) rfl ?_
          refine sq_nil ?_
          refine sx_then ?_
          first | refine sc_if (by exact rfl) (fun hc4 => ?_) (fun hc4 => ?_) | refine sc_ifn (by exact rfl) (fun hc4 => ?_) (fun hc4 => ?_) | refine sc_cond (by exact rfl) (fun hc4 => ?_) (fun hc4 => ?_)
          ·
            have hC := maskN_add (canQ (winL r ls)) k (by rw [hqc]; exact decide_eq_true hc4)
            refine sc_region ?_
            refine sq_y (OpY.s (y_move (by exact rfl))) rfl ?_
            refine sq_y (OpY.s (y_move (by exact rfl))) rfl ?_
            refine sq_y (y_call (first := []) (caps := []) (by exact rfl) Try.call56 (EvL.cons (by exact rfl) EvL.nil) (fun w1 _ => power56 w1 k (by omega))) rfl ?_
            refine sq_y (OpY.s (y_add (by exact rfl) (by exact rfl) (by omega))) rfl ?_
            refine sq_y (OpY.s (y_assign (by exact rfl))) rfl ?_
            refine sq_nil ?_
            refine sx_blk ?_
            refine sx_then ?_
            refine sc_region ?_
            refine sq_y (OpY.s (y_move (by exact rfl))) rfl ?_
            refine sq_y (OpY.s (y_add (by exact rfl) (by exact rfl) (by omega))) rfl ?_
            refine sq_y (OpY.s (y_assign (by exact rfl))) rfl ?_
            refine sq_nil ?_
            refine sx_round (k + 1) ?_ ?_ (by repeat (first | exact SubL.nil | refine SubL.cons (by first | exact rfl | exact lk_int rfl hS | exact lk_int rfl hC | exact lk_int rfl (by omega)) ?_)) (by repeat (first | exact Sel.nil | refine Sel.cons (by repeat (first | exact Rem.here | apply Rem.there)) ?_))
            · omega
            · omega
          ·
            have hC := maskN_no (canQ (winL r ls)) k (by rw [hqc]; exact decide_eq_false hc4)
            refine sc_skip ?_
            refine sx_blk ?_
            refine sx_then ?_
            refine sc_region ?_
            refine sq_y (OpY.s (y_move (by exact rfl))) rfl ?_
            refine sq_y (OpY.s (y_add (by exact rfl) (by exact rfl) (by omega))) rfl ?_
            refine sq_y (OpY.s (y_assign (by exact rfl))) rfl ?_
            refine sq_nil ?_
            refine sx_round (k + 1) ?_ ?_ (by repeat (first | exact SubL.nil | refine SubL.cons (by first | exact rfl | exact lk_int rfl hS | exact lk_int rfl hC | exact lk_int rfl (by omega)) ?_)) (by repeat (first | exact Sel.nil | refine Sel.cons (by repeat (first | exact Rem.here | apply Rem.there)) ?_))
            · omega
            · omega
        ·
          have hS := maskN_no (sureQ (winL r ls)) k (by rw [hqs]; exact decide_eq_false hc3)
          refine sc_skip ?_
          refine sx_then ?_
          refine sc_seq ?_
          refine sc_region ?_
          refine sq_y (OpY.s (y_move (by exact rfl))) rfl ?_
          refine sq_y (OpY.s (y_move (by exact rfl))) rfl ?_
          refine sq_y (OpY.s (by first | exact y_ia_blk Try.underlying36 Try.sizeOf32 (by exact rfl) (by exact rfl) (by omega) | exact y_ia_el Try.underlying36 Try.sizeOf32 (by exact rfl) (by exact rfl) (by omega) (by first | assumption | simp))) rfl ?_
          refine sq_y (OpY.s (by first | exact y_fab Try.underlying32 (by exact rfl) (by exact Try.sizeOf3) (by exact rfl) rfl | exact y_fa Try.underlying32 (by exact rfl) (by exact Try.sizeOf3) (by exact rfl) rfl)) rfl ?_
          refine sq_y (OpY.s (by first | exact y_load_blk Try.underlying3 rfl (by exact rfl) (by repeat (first | exact .head _ | refine .tail _ ?_)) (by exact rfl) | exact y_load_caj Try.underlying3 rfl (by exact rfl) (by repeat (first | exact .head _ | refine .tail _ ?_)) (by assumption) (by exact rfl) | exact y_load_ca0 Try.underlying3 rfl (by exact rfl) (by repeat (first | exact .head _ | refine .tail _ ?_)) (by assumption) (by exact rfl))) rfl ?_
          refine sq_y (OpY.s (y_eql (by exact rfl) (by exact rfl))) rfl ?_
          refine sq_nil ?_
          refine sx_then ?_
          first | refine sc_if (by exact rfl) (fun hc4 => ?_) (fun hc4 => ?_) | refine sc_ifn (by exact rfl) (fun hc4 => ?_) (fun hc4 => ?_) | refine sc_cond (by exact rfl) (fun hc4 => ?_) (fun hc4 => ?_)
          ·
            have hC := maskN_add (canQ (winL r ls)) k (by rw [hqc]; exact decide_eq_true hc4)
            refine sc_region ?_
            refine sq_y (OpY.s (y_move (by exact rfl))) rfl ?_
            refine sq_y (OpY.s (y_move (by exact rfl))) rfl ?_
            refine sq_y (y_call (first := []) (caps := []) (by exact rfl) Try.call56 (EvL.cons (by exact rfl) EvL.nil) (fun w1 _ => power56 w1 k (by omega))) rfl ?_
            refine sq_y (OpY.s (y_add (by exact rfl) (by exact rfl) (by omega))) rfl ?_
            refine sq_y (OpY.s (y_assign (by exact rfl))) rfl ?_
            refine sq_nil ?_
            refine sx_blk ?_
            refine sx_then ?_
            refine sc_region ?_
            refine sq_y (OpY.s (y_move (by exact rfl))) rfl ?_
            refine sq_y (OpY.s (y_add (by exact rfl) (by exact rfl) (by omega))) rfl ?_
            refine sq_y (OpY.s (y_assign (by exact rfl))) rfl ?_
            refine sq_nil ?_
            refine sx_round (k + 1) ?_ ?_ (by repeat (first | exact SubL.nil | refine SubL.cons (by first | exact rfl | exact lk_int rfl hS | exact lk_int rfl hC | exact lk_int rfl (by omega)) ?_)) (by repeat (first | exact Sel.nil | refine Sel.cons (by repeat (first | exact Rem.here | apply Rem.there)) ?_))
            · omega
            · omega
          ·
            have hC := maskN_no (canQ (winL r ls)) k (by rw [hqc]; exact decide_eq_false hc4)
            refine sc_skip ?_
            refine sx_blk ?_
            refine sx_then ?_
            refine sc_region ?_
            refine sq_y (OpY.s (y_move (by exact rfl))) rfl ?_
            refine sq_y (OpY.s (y_add (by exact rfl) (by exact rfl) (by omega))) rfl ?_
            refine sq_y (OpY.s (y_assign (by exact rfl))) rfl ?_
            refine sq_nil ?_
            refine sx_round (k + 1) ?_ ?_ (by repeat (first | exact SubL.nil | refine SubL.cons (by first | exact rfl | exact lk_int rfl hS | exact lk_int rfl hC | exact lk_int rfl (by omega)) ?_)) (by repeat (first | exact Sel.nil | refine Sel.cons (by repeat (first | exact Rem.here | apply Rem.there)) ?_))
            · omega
            · omega
      ·
        have hkn : k = r.teams.length := by omega
        rw [hkn]
        refine sc_exit ?_
        refine sx_then_exit ?_
        refine sx_round_exit ?_
        refine sx_blk_hit ?_
        refine sx_then ?_
        refine sc_seq ?_
        refine sc_region ?_
        refine sq_y (OpY.s (y_move (by exact rfl))) rfl ?_
        refine sq_y (OpY.s (y_move (by exact rfl))) rfl ?_
        refine sq_y (OpY.s (y_assign (by exact rfl))) rfl ?_
        refine sq_y (OpY.s (y_assign (by exact rfl))) rfl ?_
        refine sq_y (OpY.s (y_assign (by exact rfl))) rfl ?_
        refine sq_nil ?_
        refine sx_then ?_
        refine sc_ret ?_
        refine sx_ret3 (.inl rfl) rfl Try.results24 (by exact rfl) (by exact rfl) (by exact rfl) ?_
        intro w' hw'
        refine ⟨?_, hw'.below (by repeat (first | exact .head _ | refine .tail _ ?_))⟩
        unfold winAns winS winC; rw [if_pos hE]
theorem span30 (w : World) (x y : Int) : Calls Try.prog 30 #[.int .i64 x, .int .i64 y] w fun e w' => e = .returned (.agg #[.int .i64 x, .int .i64 y]) ∧ Below w.heap.size w w' := by
  refine calls_of_SC (args := [.int .i64 x, .int .i64 y]) Try.func30 rfl Try.ntmps30 rfl ?_
  simp only [argL, Nat.zero_add]
  refine sc_seq ?_
  refine sc_region ?_
  refine sq_alloc Try.zeroValue32 rfl (fun b4 => ?_)
  refine sq_nil ?_
  refine sx_then ?_
  refine sc_seq ?_
  refine sc_region ?_
  refine sq_y (OpY.s (y_move (by exact rfl))) rfl ?_
  refine sq_y (OpY.s (y_move (by exact rfl))) rfl ?_
  refine sq_y (OpY.s (y_build bt32 (EvP.cons (by exact rfl) (EvP.cons (by exact rfl) EvP.nil)) (by exact rfl))) rfl ?_
  refine sq_store_all Try.sizeOf32 (by exact rfl) (by exact rfl) rfl (by repeat (first | exact Rem.here | apply Rem.there)) rfl rfl ?_
  refine sq_nil ?_
  refine sx_then ?_
  refine sc_ret ?_
  refine sx_retc (.inl rfl) rfl Try.results30 Try.underlying32 rfl Try.sizeOf32 (by exact rfl) (by repeat (first | exact .head _ | refine .tail _ ?_)) rfl ?_
  intro w' hw'
  exact ⟨rfl, hw'.below (by repeat (first | exact .head _ | refine .tail _ ?_))⟩
def greatB (r : Rc) (ls : List Wd) : Bool := r.teams.any (fun t => decide (10 < t.brk.length)) || decide (14 < r.teams.length) || decide (50 < ls.length)
theorem great13 (w : World) (r : Rc) (a : Option Addr) (c : Nat) (f : Nat → Option Addr) (cf : Nat → Nat) (al : Option Addr) (cl : Nat) (ls : List Wd) (hT : TmsA 0 w a r.teams f cf) (hln : ls.length ≤ 9223372036854775807) : Calls Try.prog 13 #[.agg (rcVal r a c).toArray, .slice al ls.length cl] w fun e w' => e = .returned (.bool (greatB r ls)) ∧ Below w.heap.size w w' := by
  have hlen := hT.len
  refine calls_of_SC (args := [.agg (rcVal r a c).toArray, .slice al ls.length cl]) Try.func13 rfl Try.ntmps13 rfl ?_
  simp only [argL, Nat.zero_add]
  refine sc_seq ?_
  refine sc_region ?_
  refine sq_box (by exact rfl) rfl (fun b2 => ?_)
  refine sq_y (OpY.s (y_assign (by exact rfl))) rfl ?_
  refine sq_nil ?_
  refine sx_then ?_
  refine sc_seq ?_
  refine sc_seq ?_
  refine sc_region ?_
  refine sq_y (OpY.s (by first | exact y_fab Try.underlying24 (by exact rfl) (by exact Try.sizeOf22) (by exact rfl) rfl | exact y_fa Try.underlying24 (by exact rfl) (by exact Try.sizeOf22) (by exact rfl) rfl)) rfl ?_
  refine sq_y (OpY.s (by first | exact y_load_blk Try.underlying22 rfl (by exact rfl) (by repeat (first | exact .head _ | refine .tail _ ?_)) (by exact rfl) | exact y_load_caj Try.underlying22 rfl (by exact rfl) (by repeat (first | exact .head _ | refine .tail _ ?_)) (by assumption) (by exact rfl) | exact y_load_ca0 Try.underlying22 rfl (by exact rfl) (by repeat (first | exact .head _ | refine .tail _ ?_)) (by assumption) (by exact rfl))) rfl ?_
  refine sq_y (OpY.s (y_len Try.underlying22 (by exact rfl))) rfl ?_
  refine sq_y (OpY.s (y_move (by exact rfl))) rfl ?_
  refine sq_nil ?_
  refine sx_then ?_
  refine sc_block ?_
  refine sc_loop (σ := Nat)
    (fun s => [(1, .slice al ls.length cl), (2, .pointer (some ⟨b2, 0, none⟩)), (8, .slice a r.teams.length c), (9, .int .i64 r.teams.length), (10, .int .i64 s)])
    (fun s => [.blk b2 (.cells (rcVal r a c).toArray 24 (0, 0)), .reg 0 w])
    (fun s => s ≤ r.teams.length ∧ ∀ j t, j < s → r.teams[j]? = some t → t.brk.length ≤ 10)
    (fun s => r.teams.length - s)
    (0) ?_ (by repeat (first | exact SubL.nil | refine SubL.cons (by first | exact rfl | exact lk_int rfl (by omega) | exact lk_eq rfl (by simp)) ?_)) (by repeat (first | exact Sel.nil | refine Sel.cons (by repeat (first | exact Rem.here | apply Rem.there)) ?_)) ?_
  · exact ⟨Nat.zero_le _, fun j t hj => absurd hj (Nat.not_lt_zero j)⟩
  rintro k ⟨hk, hno⟩
  refine sc_seq ?_
  refine sc_region ?_
  refine sq_y (OpY.s (y_lss (by exact rfl) (by exact rfl))) rfl ?_
  refine sq_nil ?_
  refine sx_then ?_
  refine sc_seq ?_
  first | refine sc_if (by exact rfl) (fun hc0 => ?_) (fun hc0 => ?_) | refine sc_ifn (by exact rfl) (fun hc0 => ?_) (fun hc0 => ?_) | refine sc_cond (by exact rfl) (fun hc0 => ?_) (fun hc0 => ?_)
  ·
    have hk' : k < r.teams.length := by omega
    obtain ⟨te, hte⟩ : ∃ te, r.teams[k]? = some te := ⟨_, List.getElem?_eq_getElem hk'⟩
    have hsm := (hT.el k te hte).1
    have hca := (hT.el k te hte).2
    have hbl := (hT.br k te hte).len
    refine sc_skip ?_
    refine sx_then ?_
    refine sc_seq ?_
    refine sc_block ?_
    refine sc_seq ?_
    refine sc_region ?_
    refine sq_y (OpY.s (by first | exact y_ia_blk Try.underlying22 Try.sizeOf66 (by exact rfl) (by exact rfl) (by omega) | exact y_ia_el Try.underlying22 Try.sizeOf66 (by exact rfl) (by exact rfl) (by omega) (by first | assumption | simp))) rfl ?_
    refine sq_y (OpY.s (by first | exact y_load_ca Try.underlying66 rfl Try.sizeOf66 (by exact rfl) (by repeat (first | exact .head _ | refine .tail _ ?_)) hca rfl | exact y_load_all Try.underlying66 rfl Try.sizeOf66 (by exact rfl) (by repeat (first | exact .head _ | refine .tail _ ?_)) (by exact rfl) | exact y_load_2 Try.underlying66 rfl Try.sizeOf66 (by exact rfl) (by repeat (first | exact .head _ | refine .tail _ ?_)) (by exact rfl) (by exact rfl) | exact y_load_ca Try.underlying66 rfl Try.sizeOf66 (by exact rfl) (by repeat (first | exact .head _ | refine .tail _ ?_)) (by assumption) (by exact rfl))) rfl ?_
    refine sq_alloc Try.zeroValue66 rfl (fun b6 => ?_)
    refine sq_store_all Try.sizeOf66 (by exact rfl) (by exact rfl) rfl (by repeat (first | exact Rem.here | apply Rem.there)) rfl rfl ?_
    refine sq_nil ?_
    refine sx_then ?_
    refine sc_seq ?_
    refine sc_region ?_
    refine sq_y (OpY.s (by first | exact y_fab Try.underlying66 (by exact rfl) (by exact Try.sizeOf36) (by exact rfl) rfl | exact y_fa Try.underlying66 (by exact rfl) (by exact Try.sizeOf36) (by exact rfl) rfl)) rfl ?_
    refine sq_y (OpY.s (by first | exact y_load_blk Try.underlying36 rfl (by exact rfl) (by repeat (first | exact .head _ | refine .tail _ ?_)) (by exact rfl) | exact y_load_caj Try.underlying36 rfl (by exact rfl) (by repeat (first | exact .head _ | refine .tail _ ?_)) (by assumption) (by exact rfl) | exact y_load_ca0 Try.underlying36 rfl (by exact rfl) (by repeat (first | exact .head _ | refine .tail _ ?_)) (by assumption) (by exact rfl))) rfl ?_
    refine sq_y (OpY.s (y_len Try.underlying36 (by exact rfl))) rfl ?_
    refine sq_y (OpY.s (y_gtr (by exact rfl) (by exact rfl))) rfl ?_
    refine sq_nil ?_
    refine sx_then ?_
    first | refine sc_if (by exact rfl) (fun hc1 => ?_) (fun hc1 => ?_) | refine sc_ifn (by exact rfl) (fun hc1 => ?_) (fun hc1 => ?_) | refine sc_cond (by exact rfl) (fun hc1 => ?_) (fun hc1 => ?_)
    ·
      refine sc_seq ?_
      refine sc_region ?_
      refine sq_y (OpY.s (y_assign (by exact rfl))) rfl ?_
      refine sq_nil ?_
      refine sx_then ?_
      refine sc_ret ?_
      refine sx_blk_ret ?_
      refine sx_then_ret ?_
      refine sx_round_ret ?_
      refine sx_blk_ret ?_
      refine sx_then_ret ?_
      refine sx_ret1 (.inl rfl) rfl Try.results13 (by exact rfl) ?_
      intro w' hw'
      refine ⟨?_, hw'.below (by repeat (first | exact .head _ | refine .tail _ ?_))⟩
      have hany : r.teams.any (fun t => decide (10 < t.brk.length)) = true := List.any_eq_true.2 ⟨te, List.mem_of_getElem? hte, by simp; omega⟩
      unfold greatB; rw [hany]; rfl
    ·
      refine sc_skip ?_
      refine sx_blk ?_
      refine sx_then ?_
      refine sc_region ?_
      refine sq_y (OpY.s (y_add (by exact rfl) (by exact rfl) (by omega))) rfl ?_
      refine sq_y (OpY.s (y_move (by exact rfl))) rfl ?_
      refine sq_nil ?_
      refine sx_round (k + 1) ?_ ?_ (by repeat (first | exact SubL.nil | refine SubL.cons (by first | exact rfl | exact lk_int rfl (by omega) | exact lk_eq rfl (by simp)) ?_)) (by repeat (first | exact Sel.nil | refine Sel.cons (by repeat (first | exact Rem.here | apply Rem.there)) ?_))
      · refine ⟨by omega, fun j t hj ht => ?_⟩
        rcases Nat.lt_succ_iff_lt_or_eq.1 hj with h | rfl
        · exact hno j t h ht
        · rw [ht] at hte; cases hte; omega
      · omega
  ·
    have hall : r.teams.any (fun t => decide (10 < t.brk.length)) = false := by
      rw [List.any_eq_false]
      intro t ht
      obtain ⟨j, hj, rfl⟩ := List.getElem_of_mem ht
      have := hno j _ (by omega) (List.getElem?_eq_getElem hj)
      simp; omega
    refine sc_exit ?_
    refine sx_then_exit ?_
    refine sx_round_exit ?_
    refine sx_blk_hit ?_
    refine sx_then ?_
    refine sc_seq ?_
    refine sc_region ?_
    refine sq_y (OpY.s (by first | exact y_fab Try.underlying24 (by exact rfl) (by exact Try.sizeOf22) (by exact rfl) rfl | exact y_fa Try.underlying24 (by exact rfl) (by exact Try.sizeOf22) (by exact rfl) rfl)) rfl ?_
    refine sq_y (OpY.s (by first | exact y_load_blk Try.underlying22 rfl (by exact rfl) (by repeat (first | exact .head _ | refine .tail _ ?_)) (by exact rfl) | exact y_load_caj Try.underlying22 rfl (by exact rfl) (by repeat (first | exact .head _ | refine .tail _ ?_)) (by assumption) (by exact rfl) | exact y_load_ca0 Try.underlying22 rfl (by exact rfl) (by repeat (first | exact .head _ | refine .tail _ ?_)) (by assumption) (by exact rfl))) rfl ?_
    refine sq_y (OpY.s (y_len Try.underlying22 (by exact rfl))) rfl ?_
    refine sq_y (OpY.s (y_gtr (by exact rfl) (by exact rfl))) rfl ?_
    refine sq_y (OpY.s (y_move (by exact rfl))) rfl ?_
    first | refine sq_splitd (tt := 23) (by exact rfl) (fun hg7_4 => ?_) (fun hg7_4 => ?_) | refine sq_splitn (tt := 23) (by exact rfl) (fun hg7_4 => ?_) (fun hg7_4 => ?_) | refine sq_split (tt := 23) (by exact rfl) (fun hg7_4 => ?_) (fun hg7_4 => ?_)
    ·
      refine sq_gf (by exact rfl) (by exact rfl) (by exact rfl) rfl ?_
      refine sq_gf (by exact rfl) (by exact rfl) (by exact rfl) rfl ?_
      refine sq_gf (by exact rfl) (by exact rfl) (by exact rfl) rfl ?_
      refine sq_y (OpY.s (y_pick_t (by exact rfl) (by exact rfl))) rfl ?_
      refine sq_y (OpY.s (y_assign (by exact rfl))) rfl ?_
      refine sq_nil ?_
      refine sx_then ?_
      refine sc_ret ?_
      refine sx_ret1 (.inl rfl) rfl Try.results13 (by exact rfl) ?_
      intro w' hw'
      refine ⟨?_, hw'.below (by repeat (first | exact .head _ | refine .tail _ ?_))⟩
      unfold greatB; rw [hall]; congr 2; rw [Bool.eq_iff_iff, Bool.false_or, Bool.or_eq_true, decide_eq_true_eq, decide_eq_true_eq]; first | (rw [decide_eq_true_eq]; omega) | (exact ⟨fun _ => by omega, fun _ => rfl⟩)
    ·
      refine sq_gt (by exact rfl) (by exact rfl) (OpY.s (y_move (by exact rfl))) rfl ?_
      refine sq_gt (by exact rfl) (by exact rfl) (OpY.s (y_len Try.underlying25 (by exact rfl))) rfl ?_
      refine sq_gt (by exact rfl) (by exact rfl) (OpY.s (y_gtr (by exact rfl) (by exact rfl))) rfl ?_
      refine sq_y (OpY.s (y_pick_f (by exact rfl) (by exact rfl))) rfl ?_
      refine sq_y (OpY.s (y_assign (by exact rfl))) rfl ?_
      refine sq_nil ?_
      refine sx_then ?_
      refine sc_ret ?_
      refine sx_ret1 (.inl rfl) rfl Try.results13 (by exact rfl) ?_
      intro w' hw'
      refine ⟨?_, hw'.below (by repeat (first | exact .head _ | refine .tail _ ?_))⟩
      unfold greatB; rw [hall]; congr 2; rw [Bool.eq_iff_iff, Bool.false_or, Bool.or_eq_true, decide_eq_true_eq, decide_eq_true_eq]; first | (rw [decide_eq_true_eq]; omega) | (exact ⟨fun _ => by omega, fun _ => rfl⟩)
theorem spans27 (w : World) (a b : Option Addr) (ca cb : Nat) (l1 l2 : List Sp) (h1 : SpsA 0 w a l1) (h2 : SpsA 0 w b l2) : Calls Try.prog 27 #[.slice a l1.length ca, .slice b l2.length cb] w fun e w' => e = .returned (.bool (decide (l1 = l2))) ∧ Below w.heap.size w w' := by
  have hn1 := h1.len
  have hn2 := h2.len
  refine calls_of_SC (args := [.slice a l1.length ca, .slice b l2.length cb]) Try.func27 rfl Try.ntmps27 rfl ?_
  simp only [argL, Nat.zero_add]
  refine sc_seq ?_
  refine sc_region ?_
  refine sq_y (OpY.s (y_assign (by exact rfl))) rfl ?_
  refine sq_nil ?_
  refine sx_then ?_
  refine sc_seq ?_
  refine sc_seq ?_
  refine sc_region ?_
  refine sq_y (OpY.s (y_move (by exact rfl))) rfl ?_
  refine sq_y (OpY.s (y_len Try.underlying36 (by exact rfl))) rfl ?_
  refine sq_y (OpY.s (y_move (by exact rfl))) rfl ?_
  refine sq_y (OpY.s (y_len Try.underlying36 (by exact rfl))) rfl ?_
  refine sq_y (OpY.s (y_neq (by exact rfl) (by exact rfl))) rfl ?_
  refine sq_nil ?_
  refine sx_then ?_
  first | refine sc_if (by exact rfl) (fun hc0 => ?_) (fun hc0 => ?_) | refine sc_ifn (by exact rfl) (fun hc0 => ?_) (fun hc0 => ?_) | refine sc_cond (by exact rfl) (fun hc0 => ?_) (fun hc0 => ?_)
  ·
    refine sc_seq ?_
    refine sc_region ?_
    refine sq_y (OpY.s (y_assign (by exact rfl))) rfl ?_
    refine sq_nil ?_
    refine sx_then ?_
    refine sc_ret ?_
    refine sx_then_ret ?_
    refine sx_ret1 (.inl rfl) rfl Try.results27 (by exact rfl) ?_
    intro w' hw'
    refine ⟨?_, hw'.below (by repeat (first | exact .head _ | refine .tail _ ?_))⟩
    congr 2; symm; rw [decide_eq_false_iff_not]; intro h; rw [h] at hc0; exact hc0 rfl
  ·
    refine sc_skip ?_
    refine sx_then ?_
    refine sc_seq ?_
    refine sc_seq ?_
    have hll : l1.length = l2.length := by omega
    refine sc_region ?_
    refine sq_y (OpY.s (y_assign (by exact rfl))) rfl ?_
    refine sq_nil ?_
    refine sx_then ?_
    refine sc_block ?_
    refine sc_loop (σ := Nat)
      (fun s => [(0, .slice a l1.length ca), (1, .slice b l2.length cb), (5, .int .i64 s)])
      (fun s => [.reg 0 w])
      (fun s => s ≤ l1.length ∧ ∀ j, j < s → l1[j]? = l2[j]?)
      (fun s => l1.length - s)
      (0) ?_ (by repeat (first | exact SubL.nil | refine SubL.cons (by first | exact rfl | exact lk_int rfl (by omega) | exact lk_eq rfl (by simp)) ?_)) (by repeat (first | exact Sel.nil | refine Sel.cons (by repeat (first | exact Rem.here | apply Rem.there)) ?_)) ?_
    · exact ⟨Nat.zero_le _, fun j hj => absurd hj (Nat.not_lt_zero j)⟩
    rintro k ⟨hk, hsame⟩
    refine sc_seq ?_
    refine sc_seq ?_
    refine sc_region ?_
    refine sq_y (OpY.s (y_move (by exact rfl))) rfl ?_
    refine sq_y (OpY.s (y_move (by exact rfl))) rfl ?_
    refine sq_y (OpY.s (y_len Try.underlying36 (by exact rfl))) rfl ?_
    refine sq_y (OpY.s (y_lss (by exact rfl) (by exact rfl))) rfl ?_
    refine sq_nil ?_
    refine sx_then ?_
    first | refine sc_if (by exact rfl) (fun hc1 => ?_) (fun hc1 => ?_) | refine sc_ifn (by exact rfl) (fun hc1 => ?_) (fun hc1 => ?_) | refine sc_cond (by exact rfl) (fun hc1 => ?_) (fun hc1 => ?_)
    ·
      have hk' : k < l1.length := by omega
      obtain ⟨x, hx⟩ : ∃ x, l1[k]? = some x := ⟨_, List.getElem?_eq_getElem hk'⟩
      obtain ⟨y, hy⟩ : ∃ y, l2[k]? = some y := ⟨_, List.getElem?_eq_getElem (by omega)⟩
      have hs1 := (h1.el k x hx).1
      have hc1 := (h1.el k x hx).2
      have hs2 := (h2.el k y hy).1
      have hc22 := (h2.el k y hy).2
      refine sc_skip ?_
      refine sx_then ?_
      refine sc_seq ?_
      refine sc_block ?_
      refine sc_seq ?_
      refine sc_draw rfl (by kernel_rfl) (by kernel_rfl) ?_
      refine qq_y (OpY.s (y_move (by exact rfl))) rfl ?_
      refine qq_y (OpY.s (y_move (by exact rfl))) rfl ?_
      refine qq_y (OpY.s (by first | exact y_ia_blk Try.underlying36 Try.sizeOf32 (by exact rfl) (by exact rfl) (by omega) | exact y_ia_el Try.underlying36 Try.sizeOf32 (by exact rfl) (by exact rfl) (by omega) (by first | assumption | simp))) rfl ?_
      refine qq_y (OpY.s (by first | exact y_load_ca Try.underlying32 rfl Try.sizeOf32 (by exact rfl) (by repeat (first | exact .head _ | refine .tail _ ?_)) hc1 rfl | exact y_load_all Try.underlying32 rfl Try.sizeOf32 (by exact rfl) (by repeat (first | exact .head _ | refine .tail _ ?_)) (by exact rfl) | exact y_load_2 Try.underlying32 rfl Try.sizeOf32 (by exact rfl) (by repeat (first | exact .head _ | refine .tail _ ?_)) (by exact rfl) (by exact rfl) | exact y_load_ca Try.underlying32 rfl Try.sizeOf32 (by exact rfl) (by repeat (first | exact .head _ | refine .tail _ ?_)) (by assumption) (by exact rfl))) rfl ?_
      refine qq_y (OpY.s (y_move (by exact rfl))) rfl ?_
      refine qq_y (OpY.s (y_move (by exact rfl))) rfl ?_
      refine qq_y (OpY.s (by first | exact y_ia_blk Try.underlying36 Try.sizeOf32 (by exact rfl) (by exact rfl) (by omega) | exact y_ia_el Try.underlying36 Try.sizeOf32 (by exact rfl) (by exact rfl) (by omega) (by first | assumption | simp))) rfl ?_
      refine qq_y (OpY.s (by first | exact y_load_ca Try.underlying32 rfl Try.sizeOf32 (by exact rfl) (by repeat (first | exact .head _ | refine .tail _ ?_)) hc22 rfl | exact y_load_all Try.underlying32 rfl Try.sizeOf32 (by exact rfl) (by repeat (first | exact .head _ | refine .tail _ ?_)) (by exact rfl) | exact y_load_2 Try.underlying32 rfl Try.sizeOf32 (by exact rfl) (by repeat (first | exact .head _ | refine .tail _ ?_)) (by exact rfl) (by exact rfl) | exact y_load_ca Try.underlying32 rfl Try.sizeOf32 (by exact rfl) (by repeat (first | exact .head _ | refine .tail _ ?_)) (by assumption) (by exact rfl))) rfl ?_
      refine qq_y (OpY.s (y_neqs (by kernel_rfl) (by exact rfl) (by exact rfl) (neq32 _ _ _ _))) rfl ?_
      refine qq_nil ?_
      refine sx_then ?_
      first | refine sc_if (by exact rfl) (fun hc2 => ?_) (fun hc2 => ?_) | refine sc_ifn (by exact rfl) (fun hc2 => ?_) (fun hc2 => ?_) | refine sc_cond (by exact rfl) (fun hc2 => ?_) (fun hc2 => ?_)
      ·
        refine sc_seq ?_
        refine sc_region ?_
        refine sq_y (OpY.s (y_assign (by exact rfl))) rfl ?_
        refine sq_nil ?_
        refine sx_then ?_
        refine sc_ret ?_
        refine sx_blk_ret ?_
        refine sx_then_ret ?_
        refine sx_round_ret ?_
        refine sx_blk_ret ?_
        refine sx_then_ret ?_
        refine sx_ret1 (.inl rfl) rfl Try.results27 (by exact rfl) ?_
        intro w' hw'
        refine ⟨?_, hw'.below (by repeat (first | exact .head _ | refine .tail _ ?_))⟩
        congr 2; symm; rw [decide_eq_false_iff_not]; intro h; rw [h, hy] at hx; cases hx; simp at hc2
      ·
        refine sc_skip ?_
        refine sx_blk ?_
        refine sx_then ?_
        refine sc_region ?_
        refine sq_y (OpY.s (y_move (by exact rfl))) rfl ?_
        refine sq_y (OpY.s (y_add (by exact rfl) (by exact rfl) (by omega))) rfl ?_
        refine sq_y (OpY.s (y_assign (by exact rfl))) rfl ?_
        refine sq_nil ?_
        refine sx_round (k + 1) ?_ ?_ (by repeat (first | exact SubL.nil | refine SubL.cons (by first | exact rfl | exact lk_int rfl (by omega) | exact lk_eq rfl (by simp)) ?_)) (by repeat (first | exact Sel.nil | refine Sel.cons (by repeat (first | exact Rem.here | apply Rem.there)) ?_))
        · refine ⟨by omega, fun j hj => ?_⟩
          rcases Nat.lt_succ_iff_lt_or_eq.1 hj with h | rfl
          · exact hsame j h
          · rw [hx, hy]; congr 1; cases x; cases y; simp at hc2; simp [hc2]
        · omega
    ·
      refine sc_exit ?_
      refine sx_then_exit ?_
      refine sx_round_exit ?_
      refine sx_blk_hit ?_
      refine sx_then ?_
      refine sc_seq ?_
      refine sc_region ?_
      refine sq_y (OpY.s (y_assign (by exact rfl))) rfl ?_
      refine sq_nil ?_
      refine sx_then ?_
      refine sc_ret ?_
      refine sx_ret1 (.inl rfl) rfl Try.results27 (by exact rfl) ?_
      intro w' hw'
      refine ⟨?_, hw'.below (by repeat (first | exact .head _ | refine .tail _ ?_))⟩
      congr 2; symm; rw [decide_eq_true_eq]
      exact List.ext_getElem? fun j => by
        rcases Nat.lt_or_ge j k with h | h
        · exact hsame j h
        · rw [List.getElem?_eq_none (by omega), List.getElem?_eq_none (by omega)]
end Go.Proofs.Ytegdfpilhlcplaa
