/- The walks of the specification: points, ranks, Clash. -/
import Derived.Test.YtegdfpilhlcplaaWalk14
namespace Go.Proofs.Ytegdfpilhlcplaa
open Go Go.Eng Go.RowKit Go.Proofs
set_option maxRecDepth 100000

theorem points51 (w : World) (r : Rc) (a : Option Addr) (c : Nat) (f : Nat → Option Addr) (cf : Nat → Nat) (al : Option Addr) (cl : Nat) (ls : List Wd) (t m : Nat) (ht : t < r.teams.length) (hm : m ≤ r.lim.toNat) (htr : trT r ls t = true) (hok : rcB r = true) (hwd : ∀ d, d ∈ ls → wdB r d = true) (hT : TmsA 0 w a r.teams f cf) (hl : WdsA 0 w al ls) (i1 : InI r.p) (i2 : InI r.lim) (i3 : InI r.rate) : Calls Try.prog 51 #[.agg (rcVal r a c).toArray, .slice al ls.length cl, .int .i64 t, .int .i64 m] w fun e w' => e = .returned (.agg (spRow (ptsP r ls t m)).toArray) ∧ Below w.heap.size w w' := by
  have hlim := rcB_nums hok
  have hws := allW_ok (team := t) hok hwd
  have hle : ∀ k : Nat, lowC (allW r t ls) r.rate k ≤ r.p := fun k => Int.le_trans (trueC_all hok hwd htr k) (highC_bd hws (by omega) (by omega)).2
  have hL : scV (lowB r t ls) r.p (penOf r t) m = ptsLo r t (allW r t ls) m := scV_eq (fun k hk => lowB_eq hok (by omega)) (fun k _ => hle k)
  have hH : scV (highB r t ls) r.p (penOf r t) m = ptsHi r t (allW r t ls) m := scV_eq (fun k hk => highB_eq hok (by omega)) (fun k _ => (highC_bd hws (by omega) (by omega)).2)
  refine calls_of_SC (args := [.agg (rcVal r a c).toArray, .slice al ls.length cl, .int .i64 t, .int .i64 m]) Try.func51 rfl Try.ntmps51 rfl ?_
  simp only [argL, Nat.reduceAdd, Nat.zero_add]
  refine sc_seq ?_
  refine sc_region ?_
  refine sq_box (by exact rfl) rfl (fun b4 => ?_)
  refine sq_alloc Try.zeroValue32 rfl (fun b8 => ?_)
  refine sq_nil ?_
  refine sx_then ?_
  refine sc_seq ?_
  refine sc_region ?_
  refine sq_y (OpY.s (by first | exact y_load_all Try.underlying24 rfl Try.sizeOf24 (by exact rfl) (by repeat (first | exact .head _ | refine .tail _ ?_)) (by exact rfl) | exact y_load_ca Try.underlying24 rfl Try.sizeOf24 (by exact rfl) (by repeat (first | exact .head _ | refine .tail _ ?_)) (by assumption) (by exact rfl))) rfl ?_
  refine sq_y (OpY.s (y_move (by exact rfl))) rfl ?_
  refine sq_y (OpY.s (y_move (by exact rfl))) rfl ?_
  refine sq_call_new (first := []) (caps := []) (Z := Option Addr × Option Addr) (fun z => .tuple #[.slice z.1 (r.lim.toNat + 1) (r.lim.toNat + 1), .slice z.2 (r.lim.toNat + 1) (r.lim.toNat + 1), .bool (trT r ls (t))]) (fun lo w' z => IntsA lo w' z.1 ((List.range (r.lim.toNat + 1)).map (lowB r (t) ls)) ∧ IntsA lo w' z.2 ((List.range (r.lim.toNat + 1)).map (highB r (t) ls))) (by exact rfl) Try.call49 (EvL.cons (by exact rfl) (EvL.cons (by exact rfl) (EvL.cons (by exact rfl) EvL.nil))) (fun w1 hw1 => bounds49a w1 r a c f cf al cl ls _ rfl (t) ht hok hwd (hT.at hw1 (by repeat (first | exact .head _ | refine .tail _ ?_))) (hl.at hw1 (by repeat (first | exact .head _ | refine .tail _ ?_))) i1 i2 i3) rfl (fun lo49 w49 z49 h49 => ?_)
  refine sq_y (OpY.s (y_move (by exact rfl))) rfl ?_
  refine sq_y (OpY.s (y_extract (by exact rfl) (by exact rfl))) rfl ?_
  refine sq_y (OpY.s (y_extract (by exact rfl) (by exact rfl))) rfl ?_
  refine sq_y (OpY.s (y_extract (by exact rfl) (by exact rfl))) rfl ?_
  refine sq_y (OpY.s (y_assign (by exact rfl))) rfl ?_
  refine sq_y (OpY.s (y_assign (by exact rfl))) rfl ?_
  refine sq_y (OpY.s (y_assign (by exact rfl))) rfl ?_
  refine sq_nil ?_
  refine sx_then ?_
  refine sc_seq ?_
  refine sc_drawX ([.reg lo49 w49, .blk b4 (.cells (rcVal r a c).toArray 24 (0, 0)), .reg 0 w]) (by kernel_rfl) ?_
  refine xj_s 0 (by exact rfl) (by kernel_rfl) (by repeat (first | exact Sel.nil | refine Sel.cons (by repeat (first | exact Rem.here | apply Rem.there)) ?_)) (by first | exact y_load_all Try.underlying24 rfl Try.sizeOf24 (by exact rfl) (by repeat (first | exact .head _ | refine .tail _ ?_)) (by exact rfl) | exact y_load_ca Try.underlying24 rfl Try.sizeOf24 (by exact rfl) (by repeat (first | exact .head _ | refine .tail _ ?_)) (by assumption) (by exact rfl)) rfl ?_
  refine xj_s 1 (by exact rfl) (by kernel_rfl) (by repeat (first | exact Sel.nil | refine Sel.cons (by repeat (first | exact Rem.here | apply Rem.there)) ?_)) (y_move (by exact rfl)) rfl ?_
  refine xj_s 2 (by exact rfl) (by kernel_rfl) (by repeat (first | exact Sel.nil | refine Sel.cons (by repeat (first | exact Rem.here | apply Rem.there)) ?_)) (y_move (by exact rfl)) rfl ?_
  refine xj_s 3 (by exact rfl) (by kernel_rfl) (by repeat (first | exact Sel.nil | refine Sel.cons (by repeat (first | exact Rem.here | apply Rem.there)) ?_)) (y_move (by exact rfl)) rfl ?_
  refine xj_s 5 (by exact rfl) (by kernel_rfl) (by repeat (first | exact Sel.nil | refine Sel.cons (by repeat (first | exact Rem.here | apply Rem.there)) ?_)) (by first | exact y_load_all Try.underlying24 rfl Try.sizeOf24 (by exact rfl) (by repeat (first | exact .head _ | refine .tail _ ?_)) (by exact rfl) | exact y_load_ca Try.underlying24 rfl Try.sizeOf24 (by exact rfl) (by repeat (first | exact .head _ | refine .tail _ ?_)) (by assumption) (by exact rfl)) rfl ?_
  refine xj_s 6 (by exact rfl) (by kernel_rfl) (by repeat (first | exact Sel.nil | refine Sel.cons (by repeat (first | exact Rem.here | apply Rem.there)) ?_)) (y_move (by exact rfl)) rfl ?_
  refine xj_s 7 (by exact rfl) (by kernel_rfl) (by repeat (first | exact Sel.nil | refine Sel.cons (by repeat (first | exact Rem.here | apply Rem.there)) ?_)) (y_move (by exact rfl)) rfl ?_
  refine xj_s 8 (by exact rfl) (by kernel_rfl) (by repeat (first | exact Sel.nil | refine Sel.cons (by repeat (first | exact Rem.here | apply Rem.there)) ?_)) (y_move (by exact rfl)) rfl ?_
  refine xj_one 4 (by exact rfl) (by kernel_rfl) ?_
  refine sq_y (y_call (first := []) (caps := []) (by exact rfl) Try.call34 (EvL.cons (by exact rfl) (EvL.cons (by exact rfl) (EvL.cons (by exact rfl) (EvL.cons (by exact rfl) EvL.nil)))) (fun w1 hw1 => score34 w1 r a c f cf t z49.1 (r.lim.toNat + 1) _ (lowB r t ls) m (hT.at hw1 (by repeat (first | exact .head _ | refine .tail _ ?_))) hok ht (h49.1.at hw1 (by repeat (first | exact .head _ | refine .tail _ ?_))) (by omega) (by omega) (lowB_bd hok hwd))) rfl ?_
  refine sq_nil ?_
  refine sx_xp (by repeat (first | exact Sel.nil | refine Sel.cons (by repeat (first | exact Rem.here | apply Rem.there)) ?_)) ?_
  refine xj_one 9 (by exact rfl) (by kernel_rfl) ?_
  refine sq_y (y_call (first := []) (caps := []) (by exact rfl) Try.call34 (EvL.cons (by exact rfl) (EvL.cons (by exact rfl) (EvL.cons (by exact rfl) (EvL.cons (by exact rfl) EvL.nil)))) (fun w1 hw1 => score34 w1 r a c f cf t z49.2 (r.lim.toNat + 1) _ (highB r t ls) m (hT.at hw1 (by repeat (first | exact .head _ | refine .tail _ ?_))) hok ht (h49.2.at hw1 (by repeat (first | exact .head _ | refine .tail _ ?_))) (by omega) (by omega) (fun k => by have := highB_bd (team := t) hok hwd k; omega))) rfl ?_
  refine sq_nil ?_
  refine sx_xp (by repeat (first | exact Sel.nil | refine Sel.cons (by repeat (first | exact Rem.here | apply Rem.there)) ?_)) ?_
  refine xj_s 10 (by exact rfl) (by kernel_rfl) (by repeat (first | exact Sel.nil | refine Sel.cons (by repeat (first | exact Rem.here | apply Rem.there)) ?_)) (y_build bt32 (EvP.cons (by exact rfl) (EvP.cons (by exact rfl) EvP.nil)) (by exact rfl)) rfl ?_
  refine xj_one 11 (by exact rfl) (by kernel_rfl) ?_
  refine sq_store_all Try.sizeOf32 (by exact rfl) (by exact rfl) rfl (by repeat (first | exact Rem.here | apply Rem.there)) rfl rfl ?_
  refine sq_nil ?_
  refine sx_xpl (by kernel_rfl) ?_
  refine xj_done (by kernel_rfl) ?_
  refine sx_then ?_
  refine sc_ret ?_
  refine sx_retc (.inl rfl) rfl Try.results51 Try.underlying32 rfl Try.sizeOf32 (by exact rfl) (by repeat (first | exact .head _ | refine .tail _ ?_)) rfl ?_
  intro w' hw'
  refine ⟨?_, hw'.below (by repeat (first | exact .head _ | refine .tail _ ?_))⟩
  unfold ptsP; rw [← hL, ← hH]; rfl
theorem points20 (w : World) (r : Rc) (a : Option Addr) (c : Nat) (f : Nat → Option Addr) (cf : Nat → Nat) (al : Option Addr) (cl : Nat) (ls : List Wd) (tz mz : Int) (hT : TmsA 0 w a r.teams f cf) (hl : WdsA 0 w al ls) (i1 : InI r.p) (i2 : InI r.lim) (i3 : InI r.rate) : Calls Try.prog 20 #[.agg (rcVal r a c).toArray, .slice al ls.length cl, .int .i64 tz, .int .i64 mz] w fun e w' => e = .returned (pointsAns r ls tz mz) ∧ Below w.heap.size w w' := by
  refine calls_of_SC (args := [.agg (rcVal r a c).toArray, .slice al ls.length cl, .int .i64 tz, .int .i64 mz]) Try.func20 rfl Try.ntmps20 rfl ?_
  simp only [argL, Nat.reduceAdd, Nat.zero_add]
  refine sc_seq ?_
  refine sc_region ?_
  refine sq_box (by exact rfl) rfl (fun b4 => ?_)
  refine sq_alloc Try.zeroValue32 rfl (fun b8 => ?_)
  refine sq_y (OpY.s (y_assign (by exact rfl))) rfl ?_
  refine sq_nil ?_
  refine sx_then ?_
  refine sc_seq ?_
  refine sc_region ?_
  refine sq_y (OpY.s (by first | exact y_load_all Try.underlying24 rfl Try.sizeOf24 (by exact rfl) (by repeat (first | exact .head _ | refine .tail _ ?_)) (by exact rfl) | exact y_load_ca Try.underlying24 rfl Try.sizeOf24 (by exact rfl) (by repeat (first | exact .head _ | refine .tail _ ?_)) (by assumption) (by exact rfl))) rfl ?_
  refine sq_y (OpY.s (y_move (by exact rfl))) rfl ?_
  refine sq_y (OpY.s (y_move (by exact rfl))) rfl ?_
  refine sq_y (OpY.s (y_move (by exact rfl))) rfl ?_
  refine sq_y (y_call (first := []) (caps := []) (by exact rfl) Try.call48 (EvL.cons (by exact rfl) (EvL.cons (by exact rfl) (EvL.cons (by exact rfl) (EvL.cons (by exact rfl) EvL.nil)))) (fun w1 hw1 => all48 w1 r a c f cf al cl ls tz mz (hT.at hw1 (by repeat (first | exact .head _ | refine .tail _ ?_))) (hl.at hw1 (by repeat (first | exact .head _ | refine .tail _ ?_))) i1 i2 i3)) rfl ?_
  refine sq_y (OpY.s (y_assign (by exact rfl))) rfl ?_
  refine sq_nil ?_
  refine sx_then ?_
  refine sc_seq ?_
  refine sc_seq ?_
  refine sc_region ?_
  refine sq_y (OpY.s (y_move (by exact rfl))) rfl ?_
  refine sq_y (OpY.s (y_neq (by exact rfl) (by exact rfl))) rfl ?_
  refine sq_nil ?_
  refine sx_then ?_
  first | refine sc_if (by exact rfl) (fun hc0 => ?_) (fun hc0 => ?_) | refine sc_ifn (by exact rfl) (fun hc0 => ?_) (fun hc0 => ?_) | refine sc_cond (by exact rfl) (fun hc0 => ?_) (fun hc0 => ?_)
  ·
    refine sc_seq ?_
    refine sc_region ?_
    refine sq_y (OpY.s (y_build bt32 EvP.nil (by exact rfl))) rfl ?_
    refine sq_y (OpY.s (y_move (by exact rfl))) rfl ?_
    refine sq_store_all Try.sizeOf32 (by exact rfl) (by exact rfl) rfl (by repeat (first | exact Rem.here | apply Rem.there)) rfl rfl ?_
    refine sq_y (OpY.s (y_assign (by exact rfl))) rfl ?_
    refine sq_nil ?_
    refine sx_then ?_
    refine sc_ret ?_
    refine sx_then_ret ?_
    refine sx_retct (.inl rfl) rfl Try.results20 Try.underlying32 rfl Try.sizeOf32 (by exact rfl) (by repeat (first | exact .head _ | refine .tail _ ?_)) rfl (by exact rfl) ?_
    intro w' hw'
    refine ⟨?_, hw'.below (by repeat (first | exact .head _ | refine .tail _ ?_))⟩
    unfold pointsAns spanAns; rw [if_neg hc0]; rfl
  ·
    refine sc_skip ?_
    refine sx_then ?_
    refine sc_seq ?_
    have hE : findE r ls tz mz = 0 := hc0
    obtain ⟨hz1, hz2, hz3⟩ := openE_zero hE
    obtain ⟨hok, hll, hwd⟩ := chk_zero hz1
    obtain ⟨t, m, rfl, rfl, ht, hm⟩ := tmzB_parts hz2
    have hlim := rcB_nums hok
    have hwk := wrk_le r t m (by omega)
    refine sc_drawX ([.blk b4 (.cells (rcVal r a c).toArray 24 (0, 0)), .reg 0 w]) (by kernel_rfl) ?_
    refine xj_s 0 (by exact rfl) (by kernel_rfl) (by repeat (first | exact Sel.nil | refine Sel.cons (by repeat (first | exact Rem.here | apply Rem.there)) ?_)) (by first | exact y_load_all Try.underlying24 rfl Try.sizeOf24 (by exact rfl) (by repeat (first | exact .head _ | refine .tail _ ?_)) (by exact rfl) | exact y_load_ca Try.underlying24 rfl Try.sizeOf24 (by exact rfl) (by repeat (first | exact .head _ | refine .tail _ ?_)) (by assumption) (by exact rfl)) rfl ?_
    refine xj_s 1 (by exact rfl) (by kernel_rfl) (by repeat (first | exact Sel.nil | refine Sel.cons (by repeat (first | exact Rem.here | apply Rem.there)) ?_)) (y_move (by exact rfl)) rfl ?_
    refine xj_s 2 (by exact rfl) (by kernel_rfl) (by repeat (first | exact Sel.nil | refine Sel.cons (by repeat (first | exact Rem.here | apply Rem.there)) ?_)) (y_move (by exact rfl)) rfl ?_
    refine xj_s 3 (by exact rfl) (by kernel_rfl) (by repeat (first | exact Sel.nil | refine Sel.cons (by repeat (first | exact Rem.here | apply Rem.there)) ?_)) (by first | exact y_load_all Try.underlying24 rfl Try.sizeOf24 (by exact rfl) (by repeat (first | exact .head _ | refine .tail _ ?_)) (by exact rfl) | exact y_load_ca Try.underlying24 rfl Try.sizeOf24 (by exact rfl) (by repeat (first | exact .head _ | refine .tail _ ?_)) (by assumption) (by exact rfl)) rfl ?_
    refine xj_s 4 (by exact rfl) (by kernel_rfl) (by repeat (first | exact Sel.nil | refine Sel.cons (by repeat (first | exact Rem.here | apply Rem.there)) ?_)) (y_move (by exact rfl)) rfl ?_
    refine xj_s 5 (by exact rfl) (by kernel_rfl) (by repeat (first | exact Sel.nil | refine Sel.cons (by repeat (first | exact Rem.here | apply Rem.there)) ?_)) (y_move (by exact rfl)) rfl ?_
    refine xj_one 6 (by exact rfl) (by kernel_rfl) ?_
    refine sq_y (y_call (first := []) (caps := []) (by exact rfl) Try.call43 (EvL.cons (by exact rfl) (EvL.cons (by exact rfl) (EvL.cons (by exact rfl) EvL.nil))) (fun w1 hw1 => minutes43 w1 _ r t m ((hT.at hw1 (by repeat (first | exact .head _ | refine .tail _ ?_))).rc i1 i2 i3) (by omega) ht hm)) rfl ?_
    refine sq_nil ?_
    refine sx_xp (by repeat (first | exact Sel.nil | refine Sel.cons (by repeat (first | exact Rem.here | apply Rem.there)) ?_)) ?_
    refine xj_one 7 (by exact rfl) (by kernel_rfl) ?_
    refine sq_y (y_call (first := []) (caps := []) (by exact rfl) Try.call51 (EvL.cons (by exact rfl) (EvL.cons (by exact rfl) (EvL.cons (by exact rfl) (EvL.cons (by exact rfl) EvL.nil)))) (fun w1 hw1 => points51 w1 r a c f cf al cl ls t (wrk r t m) ht (by omega) (hz3 t ht) hok hwd (hT.at hw1 (by repeat (first | exact .head _ | refine .tail _ ?_))) (hl.at hw1 (by repeat (first | exact .head _ | refine .tail _ ?_))) i1 i2 i3)) rfl ?_
    refine sq_nil ?_
    refine sx_xp (by repeat (first | exact Sel.nil | refine Sel.cons (by repeat (first | exact Rem.here | apply Rem.there)) ?_)) ?_
    refine xj_one 8 (by exact rfl) (by kernel_rfl) ?_
    refine sq_store_all Try.sizeOf32 (by exact rfl) (by exact rfl) rfl (by repeat (first | exact Rem.here | apply Rem.there)) rfl rfl ?_
    refine sq_nil ?_
    refine sx_xp (by repeat (first | exact Sel.nil | refine Sel.cons (by repeat (first | exact Rem.here | apply Rem.there)) ?_)) ?_
    refine xj_s 9 (by exact rfl) (by kernel_rfl) (by repeat (first | exact Sel.nil | refine Sel.cons (by repeat (first | exact Rem.here | apply Rem.there)) ?_)) (y_assign (by exact rfl)) rfl ?_
    refine xj_done (by kernel_rfl) ?_
    refine sx_then ?_
    refine sc_ret ?_
    refine sx_retct (.inl rfl) rfl Try.results20 Try.underlying32 rfl Try.sizeOf32 (by exact rfl) (by repeat (first | exact .head _ | refine .tail _ ?_)) rfl (by exact rfl) ?_
    intro w' hw'
    refine ⟨?_, hw'.below (by repeat (first | exact .head _ | refine .tail _ ?_))⟩
    unfold pointsAns spanAns; rw [if_pos hE]; rfl
theorem ranksOf36 (w : World) (v : Value) (sc : List Sp) (hn : sc.length ≤ 1000) (hv : ∃ a c, v = .slice a sc.length c ∧ SpsA 0 w a sc) : Calls Try.prog 36 #[v] w fun e w' => ∃ z, e = .returned z ∧ Below w.heap.size w w' ∧ w'.ownsRow w.heap.size 32 2 z (rankL sc).length (flatS (rankL sc)) := by
  obtain ⟨a, c, rfl, hS⟩ := hv
  refine calls_of_SC (args := [.slice a sc.length c]) Try.func36 rfl Try.ntmps36 rfl ?_
  simp only [argL]
  refine sc_seq ?_
  refine sc_region ?_
  refine sq_y (OpY.s (y_assign (by exact rfl))) rfl ?_
  refine sq_nil ?_
  refine sx_then ?_
  refine sc_seq ?_
  refine sc_region ?_
  refine sq_y (OpY.s (y_assign (by exact rfl))) rfl ?_
  refine sq_nil ?_
  refine sx_then ?_
  refine sc_seq ?_
  refine sc_seq ?_
  refine sc_region ?_
  refine sq_y (OpY.s (y_assign (by exact rfl))) rfl ?_
  refine sq_nil ?_
  refine sx_then ?_
  refine sc_block ?_
  refine sc_nil_own 32 2 ?_
  refine sc_loop (σ := Nat × Value)
    (fun s => [(0, .slice a sc.length c), (3, s.2), (4, .int .i64 s.1)])
    (fun s => [.own s.2 32 2 s.1 (flatS ((List.range s.1).map (rkS sc))), .reg 0 w])
    (fun s => s.1 ≤ sc.length)
    (fun s => sc.length - s.1)
    ((0, .slice none 0 0)) ?_ (by repeat (first | exact SubL.nil | refine SubL.cons (by first | exact rfl | exact lk_int rfl (by omega) | exact lk_eq rfl (by simp)) ?_)) (by repeat (first | exact Sel.nil | refine Sel.cons (by repeat (first | exact Rem.here | apply Rem.there)) ?_)) ?_
  · exact Nat.zero_le _
  rintro ⟨i, v⟩ hi
  dsimp only at hi ⊢
  refine sc_seq ?_
  refine sc_seq ?_
  refine sc_region ?_
  refine sq_y (OpY.s (y_move (by exact rfl))) rfl ?_
  refine sq_y (OpY.s (y_move (by exact rfl))) rfl ?_
  refine sq_y (OpY.s (y_len Try.underlying36 (by exact rfl))) rfl ?_
  refine sq_y (OpY.s (y_lss (by exact rfl) (by exact rfl))) rfl ?_
  refine sq_nil ?_
  refine sx_then ?_
  first | refine sc_if (by exact rfl) (fun hc0 => ?_) (fun hc0 => ?_) | refine sc_ifn (by exact rfl) (fun hc0 => ?_) (fun hc0 => ?_) | refine sc_cond (by exact rfl) (fun hc0 => ?_) (fun hc0 => ?_)
  ·
    have hi' : i < sc.length := by omega
    obtain ⟨si, hsi⟩ : ∃ si, sc[i]? = some si := ⟨_, List.getElem?_eq_getElem hi'⟩
    have hsmi := (hS.el i si hsi).1
    have hcai := (hS.el i si hsi).2
    have hdi : sc.getD i sp0 = si := getD_of hsi
    refine sc_skip ?_
    refine sx_then ?_
    refine sc_seq ?_
    refine sc_block ?_
    refine sc_seq ?_
    refine sc_region ?_
    refine sq_y (OpY.s (y_build bt32 (EvP.cons (by exact rfl) (EvP.cons (by exact rfl) EvP.nil)) (by exact rfl))) rfl ?_
    refine sq_alloc Try.zeroValue32 rfl (fun b5 => ?_)
    refine sq_store_all Try.sizeOf32 (by exact rfl) (by exact rfl) rfl (by repeat (first | exact Rem.here | apply Rem.there)) rfl rfl ?_
    refine sq_nil ?_
    refine sx_then ?_
    refine sc_seq ?_
    refine sc_seq ?_
    refine sc_region ?_
    refine sq_y (OpY.s (y_assign (by exact rfl))) rfl ?_
    refine sq_nil ?_
    refine sx_then ?_
    refine sc_block ?_
    refine sc_loop (σ := Nat)
      (fun s => [(0, .slice a sc.length c), (3, v), (4, .int .i64 i), (5, .pointer (some ⟨b5, 0, none⟩)), (6, .int .i64 s)])
      (fun s => [.blk b5 (.cells [Value.int .i64 (rkA sc i s), .int .i64 (rkB sc i s)].toArray 32 (0, 0)), .own v 32 2 i (flatS ((List.range i).map (rkS sc))), .reg 0 w])
      (fun s => s ≤ sc.length)
      (fun s => sc.length - s)
      (0) ?_ (by repeat (first | exact SubL.nil | refine SubL.cons (by first | exact rfl | exact lk_int rfl (by omega) | exact lk_eq rfl (by simp)) ?_)) (by repeat (first | exact Sel.nil | refine Sel.cons (by repeat (first | exact Rem.here | apply Rem.there)) ?_)) ?_
    · exact Nat.zero_le _
    rintro k hk
    have hbA := rkA_bd sc i k
    have hbB := rkB_bd sc i k
    refine sc_seq ?_
    refine sc_seq ?_
    refine sc_region ?_
    refine sq_y (OpY.s (y_move (by exact rfl))) rfl ?_
    refine sq_y (OpY.s (y_move (by exact rfl))) rfl ?_
    refine sq_y (OpY.s (y_len Try.underlying36 (by exact rfl))) rfl ?_
    refine sq_y (OpY.s (y_lss (by exact rfl) (by exact rfl))) rfl ?_
    refine sq_nil ?_
    refine sx_then ?_
    first | refine sc_if (by exact rfl) (fun hc1 => ?_) (fun hc1 => ?_) | refine sc_ifn (by exact rfl) (fun hc1 => ?_) (fun hc1 => ?_) | refine sc_cond (by exact rfl) (fun hc1 => ?_) (fun hc1 => ?_)
    ·
      have hk' : k < sc.length := by omega
      obtain ⟨sk, hsk⟩ : ∃ sk, sc[k]? = some sk := ⟨_, List.getElem?_eq_getElem hk'⟩
      have hsmk := (hS.el k sk hsk).1
      have hcak := (hS.el k sk hsk).2
      have hdk : sc.getD k sp0 = sk := getD_of hsk
      refine sc_skip ?_
      refine sx_then ?_
      refine sc_seq ?_
      refine sc_block ?_
      refine sc_seq ?_
      refine sc_seq ?_
      refine sc_merge 35 (.bool (decide (k ≠ i ∧ sk.lo > si.hi))) ?_ ?_
      ·
        refine sc_draw rfl (by kernel_rfl) (by kernel_rfl) ?_
        refine qq_y (OpY.s (y_move (by exact rfl))) rfl ?_
        refine qq_y (OpY.s (y_move (by exact rfl))) rfl ?_
        refine qq_y (OpY.s (y_neq (by exact rfl) (by exact rfl))) rfl ?_
        refine qq_y (OpY.s (y_move (by exact rfl))) rfl ?_
        first | refine qq_splitd (tt := 23) (by exact rfl) (fun hg9_3 => ?_) (fun hg9_3 => ?_) | refine qq_splitn (tt := 23) (by exact rfl) (fun hg9_3 => ?_) (fun hg9_3 => ?_) | refine qq_split (tt := 23) (by exact rfl) (fun hg9_3 => ?_) (fun hg9_3 => ?_)
        ·
          refine qq_gt (by exact rfl) (by exact rfl) (OpY.s (y_move (by exact rfl))) rfl ?_
          refine qq_gt (by exact rfl) (by exact rfl) (OpY.s (y_move (by exact rfl))) rfl ?_
          refine qq_gt (by exact rfl) (by exact rfl) (OpY.s (by first | exact y_ia_blk Try.underlying36 Try.sizeOf32 (by exact rfl) (by exact rfl) (by omega) | exact y_ia_el Try.underlying36 Try.sizeOf32 (by exact rfl) (by exact rfl) (by omega) (by first | assumption | simp))) rfl ?_
          refine qq_gt (by exact rfl) (by exact rfl) (OpY.s (by first | exact y_fab Try.underlying32 (by exact rfl) (by exact Try.sizeOf3) (by exact rfl) rfl | exact y_fa Try.underlying32 (by exact rfl) (by exact Try.sizeOf3) (by exact rfl) rfl)) rfl ?_
          refine qq_gt (by exact rfl) (by exact rfl) (OpY.s (by first | exact y_load_blk Try.underlying3 rfl (by exact rfl) (by repeat (first | exact .head _ | refine .tail _ ?_)) (by exact rfl) | exact y_load_caj Try.underlying3 rfl (by exact rfl) (by repeat (first | exact .head _ | refine .tail _ ?_)) (by assumption) (by exact rfl) | exact y_load_ca0 Try.underlying3 rfl (by exact rfl) (by repeat (first | exact .head _ | refine .tail _ ?_)) (by assumption) (by exact rfl))) rfl ?_
          refine qq_gt (by exact rfl) (by exact rfl) (OpY.s (y_move (by exact rfl))) rfl ?_
          refine qq_gt (by exact rfl) (by exact rfl) (OpY.s (y_move (by exact rfl))) rfl ?_
          refine qq_gt (by exact rfl) (by exact rfl) (OpY.s (by first | exact y_ia_blk Try.underlying36 Try.sizeOf32 (by exact rfl) (by exact rfl) (by omega) | exact y_ia_el Try.underlying36 Try.sizeOf32 (by exact rfl) (by exact rfl) (by omega) (by first | assumption | simp))) rfl ?_
          refine qq_gt (by exact rfl) (by exact rfl) (OpY.s (by first | exact y_fab Try.underlying32 (by exact rfl) (by exact Try.sizeOf3) (by exact rfl) rfl | exact y_fa Try.underlying32 (by exact rfl) (by exact Try.sizeOf3) (by exact rfl) rfl)) rfl ?_
          refine qq_gt (by exact rfl) (by exact rfl) (OpY.s (by first | exact y_load_blk Try.underlying3 rfl (by exact rfl) (by repeat (first | exact .head _ | refine .tail _ ?_)) (by exact rfl) | exact y_load_caj Try.underlying3 rfl (by exact rfl) (by repeat (first | exact .head _ | refine .tail _ ?_)) (by assumption) (by exact rfl) | exact y_load_ca0 Try.underlying3 rfl (by exact rfl) (by repeat (first | exact .head _ | refine .tail _ ?_)) (by assumption) (by exact rfl))) rfl ?_
          refine qq_gt (by exact rfl) (by exact rfl) (OpY.s (y_gtr (by exact rfl) (by exact rfl))) rfl ?_
          refine qq_y (OpY.s (y_pick_t (by exact rfl) (by exact rfl))) rfl ?_
          refine qq_nil ?_
          refine sx_merge ?_ ?_
          · exact lk_bool rfl (by simp [*]; try omega)
          · exact (by repeat (first | exact SubX.refl _ _ | refine SubX.skipT ?_ | refine SubX.skip rfl ?_))
        ·
          refine qq_gf (by exact rfl) (by exact rfl) (by exact rfl) rfl ?_
          refine qq_gf (by exact rfl) (by exact rfl) (by exact rfl) rfl ?_
          refine qq_gf (by exact rfl) (by exact rfl) (by exact rfl) rfl ?_
          refine qq_gf (by exact rfl) (by exact rfl) (by exact rfl) rfl ?_
          refine qq_gf (by exact rfl) (by exact rfl) (by exact rfl) rfl ?_
          refine qq_gf (by exact rfl) (by exact rfl) (by exact rfl) rfl ?_
          refine qq_gf (by exact rfl) (by exact rfl) (by exact rfl) rfl ?_
          refine qq_gf (by exact rfl) (by exact rfl) (by exact rfl) rfl ?_
          refine qq_gf (by exact rfl) (by exact rfl) (by exact rfl) rfl ?_
          refine qq_gf (by exact rfl) (by exact rfl) (by exact rfl) rfl ?_
          refine qq_gf (by exact rfl) (by exact rfl) (by exact rfl) rfl ?_
          refine qq_y (OpY.s (y_pick_f (by exact rfl) (by exact rfl))) rfl ?_
          refine qq_nil ?_
          refine sx_merge ?_ ?_
          · exact lk_bool rfl (by simp [*]; try omega)
          · exact (by repeat (first | exact SubX.refl _ _ | refine SubX.skipT ?_ | refine SubX.skip rfl ?_))
      refine sx_then ?_
      first | refine sc_if (by exact rfl) (fun hc2 => ?_) (fun hc2 => ?_) | refine sc_ifn (by exact rfl) (fun hc2 => ?_) (fun hc2 => ?_) | refine sc_cond (by exact rfl) (fun hc2 => ?_) (fun hc2 => ?_)
      ·
        have hA : rkA sc i k + 1 = rkA sc i (k + 1) := by rw [rkA_succ, hdk, hdi, if_pos hc2]
        refine sc_region ?_
        refine sq_y (OpY.s (by first | exact y_fab Try.underlying32 (by exact rfl) (by exact Try.sizeOf3) (by exact rfl) rfl | exact y_fa Try.underlying32 (by exact rfl) (by exact Try.sizeOf3) (by exact rfl) rfl)) rfl ?_
        refine sq_y (OpY.s (by first | exact y_load_blk Try.underlying3 rfl (by exact rfl) (by repeat (first | exact .head _ | refine .tail _ ?_)) (by exact rfl) | exact y_load_caj Try.underlying3 rfl (by exact rfl) (by repeat (first | exact .head _ | refine .tail _ ?_)) (by assumption) (by exact rfl) | exact y_load_ca0 Try.underlying3 rfl (by exact rfl) (by repeat (first | exact .head _ | refine .tail _ ?_)) (by assumption) (by exact rfl))) rfl ?_
        refine sq_y (OpY.s (y_add (by exact rfl) (by exact rfl) (by omega))) rfl ?_
        refine sq_y (OpY.s (by first | exact y_fab Try.underlying32 (by exact rfl) (by exact Try.sizeOf3) (by exact rfl) rfl | exact y_fa Try.underlying32 (by exact rfl) (by exact Try.sizeOf3) (by exact rfl) rfl)) rfl ?_
        refine sq_store Try.sizeOf3 (by exact rfl) (by exact rfl) (by first | rfl | assumption) (by repeat (first | exact Rem.here | apply Rem.there)) (by first | exact Nat.le_of_ble_eq_true rfl | simp | omega) ?_
        rw [hA]
        refine sq_nil ?_
        refine sx_then ?_
        refine sc_seq ?_
        refine sc_merge 55 (.bool (decide (k ≠ i ∧ sk.hi > si.lo))) ?_ ?_
        ·
          refine sc_draw rfl (by kernel_rfl) (by kernel_rfl) ?_
          refine qq_y (OpY.s (y_move (by exact rfl))) rfl ?_
          refine qq_y (OpY.s (y_move (by exact rfl))) rfl ?_
          refine qq_y (OpY.s (y_neq (by exact rfl) (by exact rfl))) rfl ?_
          refine qq_y (OpY.s (y_move (by exact rfl))) rfl ?_
          first | refine qq_splitd (tt := 43) (by exact rfl) (fun hg11_3 => ?_) (fun hg11_3 => ?_) | refine qq_splitn (tt := 43) (by exact rfl) (fun hg11_3 => ?_) (fun hg11_3 => ?_) | refine qq_split (tt := 43) (by exact rfl) (fun hg11_3 => ?_) (fun hg11_3 => ?_)
          ·
            refine qq_gt (by exact rfl) (by exact rfl) (OpY.s (y_move (by exact rfl))) rfl ?_
            refine qq_gt (by exact rfl) (by exact rfl) (OpY.s (y_move (by exact rfl))) rfl ?_
            refine qq_gt (by exact rfl) (by exact rfl) (OpY.s (by first | exact y_ia_blk Try.underlying36 Try.sizeOf32 (by exact rfl) (by exact rfl) (by omega) | exact y_ia_el Try.underlying36 Try.sizeOf32 (by exact rfl) (by exact rfl) (by omega) (by first | assumption | simp))) rfl ?_
            refine qq_gt (by exact rfl) (by exact rfl) (OpY.s (by first | exact y_fab Try.underlying32 (by exact rfl) (by exact Try.sizeOf3) (by exact rfl) rfl | exact y_fa Try.underlying32 (by exact rfl) (by exact Try.sizeOf3) (by exact rfl) rfl)) rfl ?_
            refine qq_gt (by exact rfl) (by exact rfl) (OpY.s (by first | exact y_load_blk Try.underlying3 rfl (by exact rfl) (by repeat (first | exact .head _ | refine .tail _ ?_)) (by exact rfl) | exact y_load_caj Try.underlying3 rfl (by exact rfl) (by repeat (first | exact .head _ | refine .tail _ ?_)) (by assumption) (by exact rfl) | exact y_load_ca0 Try.underlying3 rfl (by exact rfl) (by repeat (first | exact .head _ | refine .tail _ ?_)) (by assumption) (by exact rfl))) rfl ?_
            refine qq_gt (by exact rfl) (by exact rfl) (OpY.s (y_move (by exact rfl))) rfl ?_
            refine qq_gt (by exact rfl) (by exact rfl) (OpY.s (y_move (by exact rfl))) rfl ?_
            refine qq_gt (by exact rfl) (by exact rfl) (OpY.s (by first | exact y_ia_blk Try.underlying36 Try.sizeOf32 (by exact rfl) (by exact rfl) (by omega) | exact y_ia_el Try.underlying36 Try.sizeOf32 (by exact rfl) (by exact rfl) (by omega) (by first | assumption | simp))) rfl ?_
            refine qq_gt (by exact rfl) (by exact rfl) (OpY.s (by first | exact y_fab Try.underlying32 (by exact rfl) (by exact Try.sizeOf3) (by exact rfl) rfl | exact y_fa Try.underlying32 (by exact rfl) (by exact Try.sizeOf3) (by exact rfl) rfl)) rfl ?_
            refine qq_gt (by exact rfl) (by exact rfl) (OpY.s (by first | exact y_load_blk Try.underlying3 rfl (by exact rfl) (by repeat (first | exact .head _ | refine .tail _ ?_)) (by exact rfl) | exact y_load_caj Try.underlying3 rfl (by exact rfl) (by repeat (first | exact .head _ | refine .tail _ ?_)) (by assumption) (by exact rfl) | exact y_load_ca0 Try.underlying3 rfl (by exact rfl) (by repeat (first | exact .head _ | refine .tail _ ?_)) (by assumption) (by exact rfl))) rfl ?_
            refine qq_gt (by exact rfl) (by exact rfl) (OpY.s (y_gtr (by exact rfl) (by exact rfl))) rfl ?_
            refine qq_y (OpY.s (y_pick_t (by exact rfl) (by exact rfl))) rfl ?_
            refine qq_nil ?_
            refine sx_merge ?_ ?_
            · exact lk_bool rfl (by simp [*]; try omega)
            · exact (by repeat (first | exact SubX.refl _ _ | refine SubX.skipT ?_ | refine SubX.skip rfl ?_))
          ·
            refine qq_gf (by exact rfl) (by exact rfl) (by exact rfl) rfl ?_
            refine qq_gf (by exact rfl) (by exact rfl) (by exact rfl) rfl ?_
            refine qq_gf (by exact rfl) (by exact rfl) (by exact rfl) rfl ?_
            refine qq_gf (by exact rfl) (by exact rfl) (by exact rfl) rfl ?_
            refine qq_gf (by exact rfl) (by exact rfl) (by exact rfl) rfl ?_
            refine qq_gf (by exact rfl) (by exact rfl) (by exact rfl) rfl ?_
            refine qq_gf (by exact rfl) (by exact rfl) (by exact rfl) rfl ?_
            refine qq_gf (by exact rfl) (by exact rfl) (by exact rfl) rfl ?_
            refine qq_gf (by exact rfl) (by exact rfl) (by exact rfl) rfl ?_
            refine qq_gf (by exact rfl) (by exact rfl) (by exact rfl) rfl ?_
            refine qq_gf (by exact rfl) (by exact rfl) (by exact rfl) rfl ?_
            refine qq_y (OpY.s (y_pick_f (by exact rfl) (by exact rfl))) rfl ?_
            refine qq_nil ?_
            refine sx_merge ?_ ?_
            · exact lk_bool rfl (by simp [*]; try omega)
            · exact (by repeat (first | exact SubX.refl _ _ | refine SubX.skipT ?_ | refine SubX.skip rfl ?_))
        refine sx_then ?_
        first | refine sc_if (by exact rfl) (fun hc3 => ?_) (fun hc3 => ?_) | refine sc_ifn (by exact rfl) (fun hc3 => ?_) (fun hc3 => ?_) | refine sc_cond (by exact rfl) (fun hc3 => ?_) (fun hc3 => ?_)
        ·
          have hB : rkB sc i k + 1 = rkB sc i (k + 1) := by rw [rkB_succ, hdk, hdi, if_pos hc3]
          refine sc_region ?_
          refine sq_y (OpY.s (by first | exact y_fab Try.underlying32 (by exact rfl) (by exact Try.sizeOf3) (by exact rfl) rfl | exact y_fa Try.underlying32 (by exact rfl) (by exact Try.sizeOf3) (by exact rfl) rfl)) rfl ?_
          refine sq_y (OpY.s (by first | exact y_load_blk Try.underlying3 rfl (by exact rfl) (by repeat (first | exact .head _ | refine .tail _ ?_)) (by exact rfl) | exact y_load_caj Try.underlying3 rfl (by exact rfl) (by repeat (first | exact .head _ | refine .tail _ ?_)) (by assumption) (by exact rfl) | exact y_load_ca0 Try.underlying3 rfl (by exact rfl) (by repeat (first | exact .head _ | refine .tail _ ?_)) (by assumption) (by exact rfl))) rfl ?_
          refine sq_y (OpY.s (y_add (by exact rfl) (by exact rfl) (by omega))) rfl ?_
          refine sq_y (OpY.s (by first | exact y_fab Try.underlying32 (by exact rfl) (by exact Try.sizeOf3) (by exact rfl) rfl | exact y_fa Try.underlying32 (by exact rfl) (by exact Try.sizeOf3) (by exact rfl) rfl)) rfl ?_
          refine sq_store Try.sizeOf3 (by exact rfl) (by exact rfl) (by first | rfl | assumption) (by repeat (first | exact Rem.here | apply Rem.there)) (by first | exact Nat.le_of_ble_eq_true rfl | simp | omega) ?_
          rw [hB]
          refine sq_nil ?_
          refine sx_blk ?_
          refine sx_then ?_
          refine sc_region ?_
          refine sq_y (OpY.s (y_move (by exact rfl))) rfl ?_
          refine sq_y (OpY.s (y_add (by exact rfl) (by exact rfl) (by omega))) rfl ?_
          refine sq_y (OpY.s (y_assign (by exact rfl))) rfl ?_
          refine sq_nil ?_
          refine sx_round (k + 1) ?_ ?_ (by repeat (first | exact SubL.nil | refine SubL.cons (by first | exact rfl | exact lk_int rfl (by omega) | exact lk_eq rfl (by simp)) ?_)) (by repeat (first | exact Sel.nil | refine Sel.cons (by repeat (first | exact Rem.here | apply Rem.there)) ?_))
          · show k + 1 ≤ sc.length; omega
          · show sc.length - (k + 1) < sc.length - k; omega
        ·
          have hB : rkB sc i k = rkB sc i (k + 1) := by rw [rkB_succ, hdk, hdi, if_neg hc3]; omega
          rw [hB]
          refine sc_skip ?_
          refine sx_blk ?_
          refine sx_then ?_
          refine sc_region ?_
          refine sq_y (OpY.s (y_move (by exact rfl))) rfl ?_
          refine sq_y (OpY.s (y_add (by exact rfl) (by exact rfl) (by omega))) rfl ?_
          refine sq_y (OpY.s (y_assign (by exact rfl))) rfl ?_
          refine sq_nil ?_
          refine sx_round (k + 1) ?_ ?_ (by repeat (first | exact SubL.nil | refine SubL.cons (by first | exact rfl | exact lk_int rfl (by omega) | exact lk_eq rfl (by simp)) ?_)) (by repeat (first | exact Sel.nil | refine Sel.cons (by repeat (first | exact Rem.here | apply Rem.there)) ?_))
          · show k + 1 ≤ sc.length; omega
          · show sc.length - (k + 1) < sc.length - k; omega
      ·
        have hA : rkA sc i k = rkA sc i (k + 1) := by rw [rkA_succ, hdk, hdi, if_neg hc2]; omega
        rw [hA]
        refine sc_skip ?_
        refine sx_then ?_
        refine sc_seq ?_
        refine sc_merge 55 (.bool (decide (k ≠ i ∧ sk.hi > si.lo))) ?_ ?_
        ·
          refine sc_draw rfl (by kernel_rfl) (by kernel_rfl) ?_
          refine qq_y (OpY.s (y_move (by exact rfl))) rfl ?_
          refine qq_y (OpY.s (y_move (by exact rfl))) rfl ?_
          refine qq_y (OpY.s (y_neq (by exact rfl) (by exact rfl))) rfl ?_
          refine qq_y (OpY.s (y_move (by exact rfl))) rfl ?_
          first | refine qq_splitd (tt := 43) (by exact rfl) (fun hg11_3 => ?_) (fun hg11_3 => ?_) | refine qq_splitn (tt := 43) (by exact rfl) (fun hg11_3 => ?_) (fun hg11_3 => ?_) | refine qq_split (tt := 43) (by exact rfl) (fun hg11_3 => ?_) (fun hg11_3 => ?_)
          ·
            refine qq_gt (by exact rfl) (by exact rfl) (OpY.s (y_move (by exact rfl))) rfl ?_
            refine qq_gt (by exact rfl) (by exact rfl) (OpY.s (y_move (by exact rfl))) rfl ?_
            refine qq_gt (by exact rfl) (by exact rfl) (OpY.s (by first | exact y_ia_blk Try.underlying36 Try.sizeOf32 (by exact rfl) (by exact rfl) (by omega) | exact y_ia_el Try.underlying36 Try.sizeOf32 (by exact rfl) (by exact rfl) (by omega) (by first | assumption | simp))) rfl ?_
            refine qq_gt (by exact rfl) (by exact rfl) (OpY.s (by first | exact y_fab Try.underlying32 (by exact rfl) (by exact Try.sizeOf3) (by exact rfl) rfl | exact y_fa Try.underlying32 (by exact rfl) (by exact Try.sizeOf3) (by exact rfl) rfl)) rfl ?_
            refine qq_gt (by exact rfl) (by exact rfl) (OpY.s (by first | exact y_load_blk Try.underlying3 rfl (by exact rfl) (by repeat (first | exact .head _ | refine .tail _ ?_)) (by exact rfl) | exact y_load_caj Try.underlying3 rfl (by exact rfl) (by repeat (first | exact .head _ | refine .tail _ ?_)) (by assumption) (by exact rfl) | exact y_load_ca0 Try.underlying3 rfl (by exact rfl) (by repeat (first | exact .head _ | refine .tail _ ?_)) (by assumption) (by exact rfl))) rfl ?_
            refine qq_gt (by exact rfl) (by exact rfl) (OpY.s (y_move (by exact rfl))) rfl ?_
            refine qq_gt (by exact rfl) (by exact rfl) (OpY.s (y_move (by exact rfl))) rfl ?_
            refine qq_gt (by exact rfl) (by exact rfl) (OpY.s (by first | exact y_ia_blk Try.underlying36 Try.sizeOf32 (by exact rfl) (by exact rfl) (by omega) | exact y_ia_el Try.underlying36 Try.sizeOf32 (by exact rfl) (by exact rfl) (by omega) (by first | assumption | simp))) rfl ?_
            refine qq_gt (by exact rfl) (by exact rfl) (OpY.s (by first | exact y_fab Try.underlying32 (by exact rfl) (by exact Try.sizeOf3) (by exact rfl) rfl | exact y_fa Try.underlying32 (by exact rfl) (by exact Try.sizeOf3) (by exact rfl) rfl)) rfl ?_
            refine qq_gt (by exact rfl) (by exact rfl) (OpY.s (by first | exact y_load_blk Try.underlying3 rfl (by exact rfl) (by repeat (first | exact .head _ | refine .tail _ ?_)) (by exact rfl) | exact y_load_caj Try.underlying3 rfl (by exact rfl) (by repeat (first | exact .head _ | refine .tail _ ?_)) (by assumption) (by exact rfl) | exact y_load_ca0 Try.underlying3 rfl (by exact rfl) (by repeat (first | exact .head _ | refine .tail _ ?_)) (by assumption) (by exact rfl))) rfl ?_
            refine qq_gt (by exact rfl) (by exact rfl) (OpY.s (y_gtr (by exact rfl) (by exact rfl))) rfl ?_
            refine qq_y (OpY.s (y_pick_t (by exact rfl) (by exact rfl))) rfl ?_
            refine qq_nil ?_
            refine sx_merge ?_ ?_
            · exact lk_bool rfl (by simp [*]; try omega)
            · exact (by repeat (first | exact SubX.refl _ _ | refine SubX.skipT ?_ | refine SubX.skip rfl ?_))
          ·
            refine qq_gf (by exact rfl) (by exact rfl) (by exact rfl) rfl ?_
            refine qq_gf (by exact rfl) (by exact rfl) (by exact rfl) rfl ?_
            refine qq_gf (by exact rfl) (by exact rfl) (by exact rfl) rfl ?_
            refine qq_gf (by exact rfl) (by exact rfl) (by exact rfl) rfl ?_
            refine qq_gf (by exact rfl) (by exact rfl) (by exact rfl) rfl ?_
            refine qq_gf (by exact rfl) (by exact rfl) (by exact rfl) rfl ?_
            refine qq_gf (by exact rfl) (by exact rfl) (by exact rfl) rfl ?_
            refine qq_gf (by exact rfl) (by exact rfl) (by exact rfl) rfl ?_
            refine qq_gf (by exact rfl) (by exact rfl) (by exact rfl) rfl ?_
            refine qq_gf (by exact rfl) (by exact rfl) (by exact rfl) rfl ?_
            refine qq_gf (by exact rfl) (by exact rfl) (by exact rfl) rfl ?_
            refine qq_y (OpY.s (y_pick_f (by exact rfl) (by exact rfl))) rfl ?_
            refine qq_nil ?_
            refine sx_merge ?_ ?_
            · exact lk_bool rfl (by simp [*]; try omega)
            · exact (by repeat (first | exact SubX.refl _ _ | refine SubX.skipT ?_ | refine SubX.skip rfl ?_))
        refine sx_then ?_
        first | refine sc_if (by exact rfl) (fun hc3 => ?_) (fun hc3 => ?_) | refine sc_ifn (by exact rfl) (fun hc3 => ?_) (fun hc3 => ?_) | refine sc_cond (by exact rfl) (fun hc3 => ?_) (fun hc3 => ?_)
        ·
          have hB : rkB sc i k + 1 = rkB sc i (k + 1) := by rw [rkB_succ, hdk, hdi, if_pos hc3]
          refine sc_region ?_
          refine sq_y (OpY.s (by first | exact y_fab Try.underlying32 (by exact rfl) (by exact Try.sizeOf3) (by exact rfl) rfl | exact y_fa Try.underlying32 (by exact rfl) (by exact Try.sizeOf3) (by exact rfl) rfl)) rfl ?_
          refine sq_y (OpY.s (by first | exact y_load_blk Try.underlying3 rfl (by exact rfl) (by repeat (first | exact .head _ | refine .tail _ ?_)) (by exact rfl) | exact y_load_caj Try.underlying3 rfl (by exact rfl) (by repeat (first | exact .head _ | refine .tail _ ?_)) (by assumption) (by exact rfl) | exact y_load_ca0 Try.underlying3 rfl (by exact rfl) (by repeat (first | exact .head _ | refine .tail _ ?_)) (by assumption) (by exact rfl))) rfl ?_
          refine sq_y (OpY.s (y_add (by exact rfl) (by exact rfl) (by omega))) rfl ?_
          refine sq_y (OpY.s (by first | exact y_fab Try.underlying32 (by exact rfl) (by exact Try.sizeOf3) (by exact rfl) rfl | exact y_fa Try.underlying32 (by exact rfl) (by exact Try.sizeOf3) (by exact rfl) rfl)) rfl ?_
          refine sq_store Try.sizeOf3 (by exact rfl) (by exact rfl) (by first | rfl | assumption) (by repeat (first | exact Rem.here | apply Rem.there)) (by first | exact Nat.le_of_ble_eq_true rfl | simp | omega) ?_
          rw [hB]
          refine sq_nil ?_
          refine sx_blk ?_
          refine sx_then ?_
          refine sc_region ?_
          refine sq_y (OpY.s (y_move (by exact rfl))) rfl ?_
          refine sq_y (OpY.s (y_add (by exact rfl) (by exact rfl) (by omega))) rfl ?_
          refine sq_y (OpY.s (y_assign (by exact rfl))) rfl ?_
          refine sq_nil ?_
          refine sx_round (k + 1) ?_ ?_ (by repeat (first | exact SubL.nil | refine SubL.cons (by first | exact rfl | exact lk_int rfl (by omega) | exact lk_eq rfl (by simp)) ?_)) (by repeat (first | exact Sel.nil | refine Sel.cons (by repeat (first | exact Rem.here | apply Rem.there)) ?_))
          · show k + 1 ≤ sc.length; omega
          · show sc.length - (k + 1) < sc.length - k; omega
        ·
          have hB : rkB sc i k = rkB sc i (k + 1) := by rw [rkB_succ, hdk, hdi, if_neg hc3]; omega
          rw [hB]
          refine sc_skip ?_
          refine sx_blk ?_
          refine sx_then ?_
          refine sc_region ?_
          refine sq_y (OpY.s (y_move (by exact rfl))) rfl ?_
          refine sq_y (OpY.s (y_add (by exact rfl) (by exact rfl) (by omega))) rfl ?_
          refine sq_y (OpY.s (y_assign (by exact rfl))) rfl ?_
          refine sq_nil ?_
          refine sx_round (k + 1) ?_ ?_ (by repeat (first | exact SubL.nil | refine SubL.cons (by first | exact rfl | exact lk_int rfl (by omega) | exact lk_eq rfl (by simp)) ?_)) (by repeat (first | exact Sel.nil | refine Sel.cons (by repeat (first | exact Rem.here | apply Rem.there)) ?_))
          · show k + 1 ≤ sc.length; omega
          · show sc.length - (k + 1) < sc.length - k; omega
    ·
      have hkn : k = sc.length := by omega
      rw [hkn]
      have hfl : flatS ((List.range i).map (rkS sc)) ++ [.int .i64 (rkA sc i sc.length), .int .i64 (rkB sc i sc.length)] = flatS ((List.range (i + 1)).map (rkS sc)) := by
        rw [List.range_succ, List.map_append]; simp [flatS, rkS, spRow]
      refine sc_exit ?_
      refine sx_then_exit ?_
      refine sx_round_exit ?_
      refine sx_blk_hit ?_
      refine sx_then ?_
      refine sc_region ?_
      refine sq_y (OpY.s (y_move (by exact rfl))) rfl ?_
      refine sq_y (OpY.s (by first | exact y_load_all Try.underlying32 rfl Try.sizeOf32 (by exact rfl) (by repeat (first | exact .head _ | refine .tail _ ?_)) (by exact rfl) | exact y_load_2 Try.underlying32 rfl Try.sizeOf32 (by exact rfl) (by repeat (first | exact .head _ | refine .tail _ ?_)) (by exact rfl) (by exact rfl) | exact y_load_ca Try.underlying32 rfl Try.sizeOf32 (by exact rfl) (by repeat (first | exact .head _ | refine .tail _ ?_)) (by assumption) (by exact rfl))) rfl ?_
      refine sq_bs Try.underlying36 ei32 (EvI.cons (by exact rfl) EvI.nil) (by first | (simp [Value.cells]; done) | (simp [Value.cells]; rfl)) rfl rfl rfl (fun b62 => ?_)
      refine sq_append (news := [.int .i64 (rkA sc i sc.length), .int .i64 (rkB sc i sc.length)]) Try.underlying36 ei32 rfl (by decide) (by exact rfl) (by repeat (first | exact Rem.here | apply Rem.there)) (by exact rfl) rfl (fun _ hw => news_blk hw (by repeat (first | exact .head _ | refine .tail _ ?_))) (by simp [Value.oneCell']) (by omega) rfl (fun v63 ho63 => ?_)
      rw [hfl]
      refine sq_y (OpY.s (y_assign (by exact rfl))) rfl ?_
      refine sq_nil ?_
      refine sx_blk ?_
      refine sx_then ?_
      refine sc_region ?_
      refine sq_y (OpY.s (y_move (by exact rfl))) rfl ?_
      refine sq_y (OpY.s (y_add (by exact rfl) (by exact rfl) (by omega))) rfl ?_
      refine sq_y (OpY.s (y_assign (by exact rfl))) rfl ?_
      refine sq_nil ?_
      refine sx_round ((i + 1, v63)) ?_ ?_ (by repeat (first | exact SubL.nil | refine SubL.cons (by first | exact rfl | exact lk_int rfl (by omega) | exact lk_eq rfl (by simp)) ?_)) (by repeat (first | exact Sel.nil | refine Sel.cons (by repeat (first | exact Rem.here | apply Rem.there)) ?_))
      · show i + 1 ≤ sc.length; omega
      · show sc.length - (i + 1) < sc.length - i; omega
  ·
    have hin : i = sc.length := by omega
    rw [hin]
    refine sc_exit ?_
    refine sx_then_exit ?_
    refine sx_round_exit ?_
    refine sx_blk_hit ?_
    refine sx_then ?_
    refine sc_seq ?_
    refine sc_region ?_
    refine sq_y (OpY.s (y_move (by exact rfl))) rfl ?_
    refine sq_y (OpY.s (y_assign (by exact rfl))) rfl ?_
    refine sq_nil ?_
    refine sx_then ?_
    refine sc_ret ?_
    refine sx_ret1 (.inl rfl) rfl Try.results36 (by exact rfl) ?_
    intro w' hw'
    refine ⟨_, rfl, hw'.below (by repeat (first | exact .head _ | refine .tail _ ?_)), ?_⟩
    have ho := own_new hw' (.here) (by repeat (first | exact .head _ | refine .tail _ ?_))
    have hl : (rankL sc).length = sc.length := by simp [rankL]
    rw [hl]; exact ho
theorem minB_tmz {r : Rc} (hn : 1 ≤ r.teams.length) (mz : Int) : tmzB r 0 mz = minB mz := by
  unfold tmzB
  rw [decide_eq_true (by omega), Bool.true_and]
theorem findE_zero (r : Rc) (ls : List Wd) (mz : Int) : findE r ls 0 mz = openE r ls (minB mz) := by
  unfold findE
  by_cases h : chk r ls = 0
  · have := rcB_nums (chk_zero h).1
    rw [minB_tmz (by omega)]
  · unfold openE; rw [if_pos h, if_pos h]
theorem ranks22 (w : World) (r : Rc) (a : Option Addr) (c : Nat) (f : Nat → Option Addr) (cf : Nat → Nat) (al : Option Addr) (cl : Nat) (ls : List Wd) (mz : Int) (hT : TmsA 0 w a r.teams f cf) (hl : WdsA 0 w al ls) (i1 : InI r.p) (i2 : InI r.lim) (i3 : InI r.rate) : Calls Try.prog 22 #[.agg (rcVal r a c).toArray, .slice al ls.length cl, .int .i64 mz] w fun e w' => ∃ z, e = .returned (.tuple #[z, .int .i64 (openE r ls (minB mz))]) ∧ Below w.heap.size w w' ∧ w'.ownsRow w.heap.size 32 2 z (ranksL r ls mz).length (flatS (ranksL r ls mz)) := by
  have hlen := hT.len
  rw [← findE_zero r ls mz]
  refine calls_of_SC (args := [.agg (rcVal r a c).toArray, .slice al ls.length cl, .int .i64 mz]) Try.func22 rfl Try.ntmps22 rfl ?_
  simp only [argL, Nat.reduceAdd, Nat.zero_add]
  refine sc_seq ?_
  refine sc_region ?_
  refine sq_box (by exact rfl) rfl (fun b3 => ?_)
  refine sq_y (OpY.s (y_assign (by exact rfl))) rfl ?_
  refine sq_y (OpY.s (y_assign (by exact rfl))) rfl ?_
  refine sq_nil ?_
  refine sx_then ?_
  refine sc_seq ?_
  refine sc_region ?_
  refine sq_y (OpY.s (by first | exact y_load_all Try.underlying24 rfl Try.sizeOf24 (by exact rfl) (by repeat (first | exact .head _ | refine .tail _ ?_)) (by exact rfl) | exact y_load_ca Try.underlying24 rfl Try.sizeOf24 (by exact rfl) (by repeat (first | exact .head _ | refine .tail _ ?_)) (by assumption) (by exact rfl))) rfl ?_
  refine sq_y (OpY.s (y_move (by exact rfl))) rfl ?_
  refine sq_y (OpY.s (y_move (by exact rfl))) rfl ?_
  refine sq_y (y_call (first := []) (caps := []) (by exact rfl) Try.call48 (EvL.cons (by exact rfl) (EvL.cons (by exact rfl) (EvL.cons (by exact rfl) (EvL.cons (by exact rfl) EvL.nil)))) (fun w1 hw1 => all48 w1 r a c f cf al cl ls 0 mz (hT.at hw1 (by repeat (first | exact .head _ | refine .tail _ ?_))) (hl.at hw1 (by repeat (first | exact .head _ | refine .tail _ ?_))) i1 i2 i3)) rfl ?_
  refine sq_y (OpY.s (y_assign (by exact rfl))) rfl ?_
  refine sq_nil ?_
  refine sx_then ?_
  refine sc_seq ?_
  refine sc_seq ?_
  refine sc_region ?_
  refine sq_y (OpY.s (y_move (by exact rfl))) rfl ?_
  refine sq_y (OpY.s (y_neq (by exact rfl) (by exact rfl))) rfl ?_
  refine sq_nil ?_
  refine sx_then ?_
  first | refine sc_if (by exact rfl) (fun hc0 => ?_) (fun hc0 => ?_) | refine sc_ifn (by exact rfl) (fun hc0 => ?_) (fun hc0 => ?_) | refine sc_cond (by exact rfl) (fun hc0 => ?_) (fun hc0 => ?_)
  ·
    refine sc_seq ?_
    refine sc_region ?_
    refine sq_y (OpY.s (y_move (by exact rfl))) rfl ?_
    refine sq_y (OpY.s (y_assign (by exact rfl))) rfl ?_
    refine sq_y (OpY.s (y_assign (by exact rfl))) rfl ?_
    refine sq_nil ?_
    refine sx_then ?_
    refine sc_ret ?_
    refine sx_then_ret ?_
    refine sx_ret2 (.inl rfl) rfl Try.results22 (by exact rfl) (by exact rfl) ?_
    intro w' hw'
    refine ⟨_, rfl, hw'.below (by repeat (first | exact .head _ | refine .tail _ ?_)), ?_⟩
    unfold ranksL; rw [if_neg (by rw [← findE_zero]; exact hc0)]; exact World.ownsRow_nil w' _ 32 2
  ·
    refine sc_skip ?_
    refine sx_then ?_
    refine sc_seq ?_
    have hE : openE r ls (minB mz) = 0 := (findE_zero r ls mz) ▸ hc0
    obtain ⟨hz1, hz2, hz3⟩ := openE_zero hE
    obtain ⟨hok, hll, hwd⟩ := chk_zero hz1
    have hlim := rcB_nums hok
    obtain ⟨m, rfl⟩ := Int.eq_ofNat_of_zero_le (show 0 ≤ mz by simp [minB] at hz2; omega)
    have hm2 : m ≤ 2000 := by simp [minB] at hz2; omega
    refine sc_region ?_
    refine sq_y (OpY.s (y_assign (by exact rfl))) rfl ?_
    refine sq_nil ?_
    refine sx_then ?_
    refine sc_seq ?_
    refine sc_seq ?_
    refine sc_region ?_
    refine sq_y (OpY.s (y_assign (by exact rfl))) rfl ?_
    refine sq_nil ?_
    refine sx_then ?_
    refine sc_block ?_
    refine sc_nil_own 32 2 ?_
    refine sc_loop (σ := Nat × Value)
      (fun s => [(1, .slice al ls.length cl), (2, .int .i64 m), (3, .pointer (some ⟨b3, 0, none⟩)), (9, s.2), (10, .int .i64 s.1)])
      (fun s => [.own s.2 32 2 s.1 (flatS ((List.range s.1).map fun t => ptsP r ls t (wrk r t m))), .blk b3 (.cells (rcVal r a c).toArray 24 (0, 0)), .reg 0 w])
      (fun s => s.1 ≤ r.teams.length)
      (fun s => r.teams.length - s.1)
      ((0, .slice none 0 0)) ?_ (by repeat (first | exact SubL.nil | refine SubL.cons (by first | exact rfl | exact lk_int rfl (by omega) | exact lk_eq rfl (by simp)) ?_)) (by repeat (first | exact Sel.nil | refine Sel.cons (by repeat (first | exact Rem.here | apply Rem.there)) ?_)) ?_
    · exact Nat.zero_le _
    rintro ⟨k, v⟩ hk
    dsimp only at hk ⊢
    refine sc_seq ?_
    refine sc_seq ?_
    refine sc_region ?_
    refine sq_y (OpY.s (y_move (by exact rfl))) rfl ?_
    refine sq_y (OpY.s (by first | exact y_fab Try.underlying24 (by exact rfl) (by exact Try.sizeOf22) (by exact rfl) rfl | exact y_fa Try.underlying24 (by exact rfl) (by exact Try.sizeOf22) (by exact rfl) rfl)) rfl ?_
    refine sq_y (OpY.s (by first | exact y_load_blk Try.underlying22 rfl (by exact rfl) (by repeat (first | exact .head _ | refine .tail _ ?_)) (by exact rfl) | exact y_load_caj Try.underlying22 rfl (by exact rfl) (by repeat (first | exact .head _ | refine .tail _ ?_)) (by assumption) (by exact rfl) | exact y_load_ca0 Try.underlying22 rfl (by exact rfl) (by repeat (first | exact .head _ | refine .tail _ ?_)) (by assumption) (by exact rfl))) rfl ?_
    refine sq_y (OpY.s (y_len Try.underlying22 (by exact rfl))) rfl ?_
    refine sq_y (OpY.s (y_lss (by exact rfl) (by exact rfl))) rfl ?_
    refine sq_nil ?_
    refine sx_then ?_
    first | refine sc_if (by exact rfl) (fun hc1 => ?_) (fun hc1 => ?_) | refine sc_ifn (by exact rfl) (fun hc1 => ?_) (fun hc1 => ?_) | refine sc_cond (by exact rfl) (fun hc1 => ?_) (fun hc1 => ?_)
    ·
      have hk' : k < r.teams.length := by omega
      have hfl : flatS ((List.range k).map fun t => ptsP r ls t (wrk r t m)) ++ [.int .i64 (ptsLo r k (allW r k ls) (wrk r k m)), .int .i64 (ptsHi r k (allW r k ls) (wrk r k m))] = flatS ((List.range (k + 1)).map fun t => ptsP r ls t (wrk r t m)) := by
        rw [List.range_succ, List.map_append]; simp [flatS, ptsP, spRow]
      refine sc_skip ?_
      refine sx_then ?_
      refine sc_seq ?_
      refine sc_block ?_
      refine sc_drawX ([.blk b3 (.cells (rcVal r a c).toArray 24 (0, 0)), .reg 0 w]) (by kernel_rfl) ?_
      refine xj_s 0 (by exact rfl) (by kernel_rfl) (by repeat (first | exact Sel.nil | refine Sel.cons (by repeat (first | exact Rem.here | apply Rem.there)) ?_)) (y_move (by exact rfl)) rfl ?_
      refine xj_s 1 (by exact rfl) (by kernel_rfl) (by repeat (first | exact Sel.nil | refine Sel.cons (by repeat (first | exact Rem.here | apply Rem.there)) ?_)) (by first | exact y_load_all Try.underlying24 rfl Try.sizeOf24 (by exact rfl) (by repeat (first | exact .head _ | refine .tail _ ?_)) (by exact rfl) | exact y_load_ca Try.underlying24 rfl Try.sizeOf24 (by exact rfl) (by repeat (first | exact .head _ | refine .tail _ ?_)) (by assumption) (by exact rfl)) rfl ?_
      refine xj_s 2 (by exact rfl) (by kernel_rfl) (by repeat (first | exact Sel.nil | refine Sel.cons (by repeat (first | exact Rem.here | apply Rem.there)) ?_)) (y_move (by exact rfl)) rfl ?_
      refine xj_s 3 (by exact rfl) (by kernel_rfl) (by repeat (first | exact Sel.nil | refine Sel.cons (by repeat (first | exact Rem.here | apply Rem.there)) ?_)) (y_move (by exact rfl)) rfl ?_
      refine xj_s 4 (by exact rfl) (by kernel_rfl) (by repeat (first | exact Sel.nil | refine Sel.cons (by repeat (first | exact Rem.here | apply Rem.there)) ?_)) (by first | exact y_load_all Try.underlying24 rfl Try.sizeOf24 (by exact rfl) (by repeat (first | exact .head _ | refine .tail _ ?_)) (by exact rfl) | exact y_load_ca Try.underlying24 rfl Try.sizeOf24 (by exact rfl) (by repeat (first | exact .head _ | refine .tail _ ?_)) (by assumption) (by exact rfl)) rfl ?_
      refine xj_s 5 (by exact rfl) (by kernel_rfl) (by repeat (first | exact Sel.nil | refine Sel.cons (by repeat (first | exact Rem.here | apply Rem.there)) ?_)) (y_move (by exact rfl)) rfl ?_
      refine xj_s 6 (by exact rfl) (by kernel_rfl) (by repeat (first | exact Sel.nil | refine Sel.cons (by repeat (first | exact Rem.here | apply Rem.there)) ?_)) (y_move (by exact rfl)) rfl ?_
      refine xj_one 7 (by exact rfl) (by kernel_rfl) ?_
      refine sq_y (y_call (first := []) (caps := []) (by exact rfl) Try.call43 (EvL.cons (by exact rfl) (EvL.cons (by exact rfl) (EvL.cons (by exact rfl) EvL.nil))) (fun w1 hw1 => minutes43 w1 _ r k m ((hT.at hw1 (by repeat (first | exact .head _ | refine .tail _ ?_))).rc i1 i2 i3) (by omega) hk' hm2)) rfl ?_
      refine sq_nil ?_
      refine sx_xp (by repeat (first | exact Sel.nil | refine Sel.cons (by repeat (first | exact Rem.here | apply Rem.there)) ?_)) ?_
      refine xj_one 8 (by exact rfl) (by kernel_rfl) ?_
      refine sq_y (y_call (first := []) (caps := []) (by exact rfl) Try.call51 (EvL.cons (by exact rfl) (EvL.cons (by exact rfl) (EvL.cons (by exact rfl) (EvL.cons (by exact rfl) EvL.nil)))) (fun w1 hw1 => points51 w1 r a c f cf al cl ls k (wrk r k m) hk' (by have := wrk_le r k m (by omega); omega) (hz3 k hk') hok hwd (hT.at hw1 (by repeat (first | exact .head _ | refine .tail _ ?_))) (hl.at hw1 (by repeat (first | exact .head _ | refine .tail _ ?_))) i1 i2 i3)) rfl ?_
      refine sq_nil ?_
      refine sx_xp (by repeat (first | exact Sel.nil | refine Sel.cons (by repeat (first | exact Rem.here | apply Rem.there)) ?_)) ?_
      refine xj_one 9 (by exact rfl) (by kernel_rfl) ?_
      refine sq_bs Try.underlying36 ei32 (EvI.cons (by exact rfl) EvI.nil) (by first | (simp [Value.cells]; done) | (simp [Value.cells]; rfl)) rfl rfl rfl (fun b34 => ?_)
      refine sq_nil ?_
      refine sx_xp (by repeat (first | exact Sel.nil | refine Sel.cons (by repeat (first | exact Rem.here | apply Rem.there)) ?_)) ?_
      refine xj_one 10 (by exact rfl) (by kernel_rfl) ?_
      refine sq_append (news := [.int .i64 (ptsLo r k (allW r k ls) (wrk r k m)), .int .i64 (ptsHi r k (allW r k ls) (wrk r k m))]) Try.underlying36 ei32 rfl (by decide) (by exact rfl) (by repeat (first | exact Rem.here | apply Rem.there)) (by exact rfl) rfl (fun _ hw => news_blk hw (by repeat (first | exact .head _ | refine .tail _ ?_))) (by simp [Value.oneCell']) (by omega) rfl (fun v35 ho35 => ?_)
      refine sq_nil ?_
      refine sx_xp (by repeat (first | exact Sel.nil | refine Sel.cons (by repeat (first | exact Rem.here | apply Rem.there)) ?_)) ?_
      rw [hfl]
      refine xj_s 11 (by exact rfl) (by kernel_rfl) (by repeat (first | exact Sel.nil | refine Sel.cons (by repeat (first | exact Rem.here | apply Rem.there)) ?_)) (y_assign (by exact rfl)) rfl ?_
      refine xj_done (by kernel_rfl) ?_
      refine sx_blk ?_
      refine sx_then ?_
      refine sc_region ?_
      refine sq_y (OpY.s (y_move (by exact rfl))) rfl ?_
      refine sq_y (OpY.s (y_add (by exact rfl) (by exact rfl) (by omega))) rfl ?_
      refine sq_y (OpY.s (y_assign (by exact rfl))) rfl ?_
      refine sq_nil ?_
      refine sx_round ((k + 1, v35)) ?_ ?_ (by repeat (first | exact SubL.nil | refine SubL.cons (by first | exact rfl | exact lk_int rfl (by omega) | exact lk_eq rfl (by simp)) ?_)) (by repeat (first | exact Sel.nil | refine Sel.cons (by repeat (first | exact Rem.here | apply Rem.there)) ?_))
      · show k + 1 ≤ r.teams.length; omega
      · show r.teams.length - (k + 1) < r.teams.length - k; omega
    ·
      have hkn : k = r.teams.length := by omega
      rw [hkn]
      refine sc_exit ?_
      refine sx_then_exit ?_
      refine sx_round_exit ?_
      refine sx_blk_hit ?_
      refine sx_then ?_
      refine sc_seq ?_
      refine sc_region ?_
      refine sq_y (OpY.s (y_move (by exact rfl))) rfl ?_
      refine sq_call_new (first := []) (caps := []) (Z := Value) (fun z => z) (fun lo w' z => w.heap.size ≤ lo ∧ w'.ownsRow lo 32 2 z (rankL (scoreL r ls fun t => wrk r t m)).length (flatS (rankL (scoreL r ls fun t => wrk r t m)))) (by exact rfl) Try.call36 (EvL.cons (by exact rfl) EvL.nil) (fun w1 hw1 => (ranksOf36 w1 v (scoreL r ls fun t => wrk r t m) (by simp [scoreL]; omega) (own_sps (e := 32) (by have ho : w1.ownsRow 0 32 2 v r.teams.length _ := hw1.ok (.own v 32 2 r.teams.length _) (by repeat (first | exact .head _ | refine .tail _ ?_)); simpa [scoreL] using ho) (by simp [scoreL]; omega))).mono (fun e w' ⟨z, he, hb, hz⟩ => ⟨z, he, hb, hw1.size, hz⟩)) rfl (fun lo54 w54 z54 h54 => ?_)
      refine sq_y (OpY.s (y_assign (by exact rfl))) rfl ?_
      refine sq_y (OpY.s (y_assign (by exact rfl))) rfl ?_
      refine sq_nil ?_
      refine sx_then ?_
      refine sc_ret ?_
      refine sx_ret2 (.inl rfl) rfl Try.results22 (by exact rfl) (by exact rfl) ?_
      intro w' hw'
      refine ⟨_, by rw [findE_zero, hE], hw'.below (by repeat (first | exact .head _ | refine .tail _ ?_)), ?_⟩
      unfold ranksL; rw [if_pos hE]
      exact own_low (own_reg h54.2 hw' (by repeat (first | exact .head _ | refine .tail _ ?_))) h54.1
theorem allW_team {r : Rc} {l : List Wd} {k : Nat} {d : Wd} (h : l[k]? = some d) {t : Nat} (hne : d.team ≠ (t : Int)) : allW r t (l.take (k + 1)) = allW r t (l.take k) := by
  unfold allW; rw [sayW_take r t h, if_neg hne]
theorem can_step {r : Rc} {l : List Wd} {k : Nat} {d : Wd} (h : l[k]? = some d) (h0 : 0 ≤ d.team ∧ d.team < r.teams.length) (hprev : ∀ t, t < r.teams.length → trT r (l.take k) t = true) : (List.range r.teams.length).all (trT r (l.take (k + 1))) = trT r (l.take (k + 1)) d.team.toNat := by
  rw [Bool.eq_iff_iff]
  constructor
  · intro ha; exact List.all_eq_true.1 ha _ (List.mem_range.2 (by omega))
  · intro ha
    refine List.all_eq_true.2 fun t ht => ?_
    by_cases e : d.team = (t : Int)
    · rw [show t = d.team.toNat by omega]; exact ha
    · have := hprev t (List.mem_range.1 ht)
      unfold trT at this ⊢; rw [allW_team h e]; exact this
theorem can_nil {r : Rc} (hok : rcB r = true) (t : Nat) : trT r [] t = true := by
  have hn := rcB_nums hok
  refine List.all_eq_true.2 fun x hx => decide_eq_true ?_
  have hws := allW_ok (team := t) (l := []) hok (by simp)
  simp only [allW, sayW, List.filter_nil, List.map_nil, List.mem_cons, List.not_mem_nil, or_false] at hx
  have h0 := highC_bd (m := x.1) hws (rate := r.rate) (p := r.p) (by omega) (by omega)
  refine lowC_le.2 ⟨h0.1, fun y hy => ?_⟩
  have hlo : y.2.lo = 0 := by
    simp only [allW, sayW, List.filter_nil, List.map_nil, List.mem_cons, List.not_mem_nil, or_false] at hy
    rcases hy with rfl | rfl <;> rfl
  have := max_mul_nonneg (a := y.1 - x.1) (rate := r.rate) (by omega)
  rw [hlo]; omega
theorem clash26 (w : World) (r : Rc) (a : Option Addr) (c : Nat) (f : Nat → Option Addr) (cf : Nat → Nat) (al : Option Addr) (cl : Nat) (ls : List Wd) (hcl : ls.length ≤ cl) (hT : TmsA 0 w a r.teams f cf) (hl : WdsA 0 w al ls) (i1 : InI r.p) (i2 : InI r.lim) (i3 : InI r.rate) : Calls Try.prog 26 #[.agg (rcVal r a c).toArray, .slice al ls.length cl] w fun e w' => e = .returned (.tuple #[.int .i64 (clashN r ls).1, .int .i64 (clashN r ls).2]) ∧ Below w.heap.size w w' := by
  have hlen := hl.len
  refine calls_of_SC (args := [.agg (rcVal r a c).toArray, .slice al ls.length cl]) Try.func26 rfl Try.ntmps26 rfl ?_
  simp only [argL, Nat.zero_add]
  refine sc_seq ?_
  refine sc_region ?_
  refine sq_box (by exact rfl) rfl (fun b2 => ?_)
  refine sq_y (OpY.s (y_assign (by exact rfl))) rfl ?_
  refine sq_y (OpY.s (y_assign (by exact rfl))) rfl ?_
  refine sq_nil ?_
  refine sx_then ?_
  refine sc_seq ?_
  refine sc_region ?_
  refine sq_y (OpY.s (by first | exact y_load_all Try.underlying24 rfl Try.sizeOf24 (by exact rfl) (by repeat (first | exact .head _ | refine .tail _ ?_)) (by exact rfl) | exact y_load_ca Try.underlying24 rfl Try.sizeOf24 (by exact rfl) (by repeat (first | exact .head _ | refine .tail _ ?_)) (by assumption) (by exact rfl))) rfl ?_
  refine sq_y (OpY.s (y_move (by exact rfl))) rfl ?_
  refine sq_y (y_call (first := []) (caps := []) (by exact rfl) Try.call60 (EvL.cons (by exact rfl) (EvL.cons (by exact rfl) EvL.nil)) (fun w1 hw1 => check60 w1 _ r al cl ls ((hT.at hw1 (by repeat (first | exact .head _ | refine .tail _ ?_))).rc i1 i2 i3) (hl.at hw1 (by repeat (first | exact .head _ | refine .tail _ ?_))))) rfl ?_
  refine sq_y (OpY.s (y_assign (by exact rfl))) rfl ?_
  refine sq_nil ?_
  refine sx_then ?_
  refine sc_seq ?_
  refine sc_seq ?_
  refine sc_region ?_
  refine sq_y (OpY.s (y_move (by exact rfl))) rfl ?_
  refine sq_y (OpY.s (y_neq (by exact rfl) (by exact rfl))) rfl ?_
  refine sq_nil ?_
  refine sx_then ?_
  first | refine sc_if (by exact rfl) (fun hc0 => ?_) (fun hc0 => ?_) | refine sc_ifn (by exact rfl) (fun hc0 => ?_) (fun hc0 => ?_) | refine sc_cond (by exact rfl) (fun hc0 => ?_) (fun hc0 => ?_)
  ·
    refine sc_seq ?_
    refine sc_region ?_
    refine sq_y (OpY.s (y_move (by exact rfl))) rfl ?_
    refine sq_y (OpY.s (y_assign (by exact rfl))) rfl ?_
    refine sq_y (OpY.s (y_assign (by exact rfl))) rfl ?_
    refine sq_nil ?_
    refine sx_then ?_
    refine sc_ret ?_
    refine sx_then_ret ?_
    refine sx_ret2 (.inl rfl) rfl Try.results26 (by exact rfl) (by exact rfl) ?_
    intro w' hw'
    refine ⟨?_, hw'.below (by repeat (first | exact .head _ | refine .tail _ ?_))⟩
    unfold clashN; rw [if_pos hc0]
  ·
    refine sc_skip ?_
    refine sx_then ?_
    refine sc_seq ?_
    refine sc_seq ?_
    have hz : chk r ls = 0 := hc0
    obtain ⟨hok, hll, hwd⟩ := chk_zero hz
    refine sc_region ?_
    refine sq_y (OpY.s (y_assign (by exact rfl))) rfl ?_
    refine sq_nil ?_
    refine sx_then ?_
    refine sc_block ?_
    refine sc_loop (σ := Nat)
      (fun s => [(1, .slice al ls.length cl), (2, .pointer (some ⟨b2, 0, none⟩)), (7, .int .i64 s)])
      (fun s => [.blk b2 (.cells (rcVal r a c).toArray 24 (0, 0)), .reg 0 w])
      (fun s => s ≤ ls.length ∧ (∀ j, j < s → clashP r ls j = false) ∧ ∀ t, t < r.teams.length → trT r (ls.take s) t = true)
      (fun s => ls.length - s)
      (0) ?_ (by repeat (first | exact SubL.nil | refine SubL.cons (by first | exact rfl | exact lk_int rfl (by omega) | exact lk_eq rfl (by simp)) ?_)) (by repeat (first | exact Sel.nil | refine Sel.cons (by repeat (first | exact Rem.here | apply Rem.there)) ?_)) ?_
    · exact ⟨Nat.zero_le _, fun j hj => absurd hj (Nat.not_lt_zero j), fun t _ => by rw [List.take_zero]; exact can_nil hok t⟩
    rintro k ⟨hk, hno, hpre⟩
    refine sc_seq ?_
    refine sc_seq ?_
    refine sc_region ?_
    refine sq_y (OpY.s (y_move (by exact rfl))) rfl ?_
    refine sq_y (OpY.s (y_move (by exact rfl))) rfl ?_
    refine sq_y (OpY.s (y_len Try.underlying25 (by exact rfl))) rfl ?_
    refine sq_y (OpY.s (y_lss (by exact rfl) (by exact rfl))) rfl ?_
    refine sq_nil ?_
    refine sx_then ?_
    first | refine sc_if (by exact rfl) (fun hc1 => ?_) (fun hc1 => ?_) | refine sc_ifn (by exact rfl) (fun hc1 => ?_) (fun hc1 => ?_) | refine sc_cond (by exact rfl) (fun hc1 => ?_) (fun hc1 => ?_)
    ·
      have hk' : k < ls.length := by omega
      obtain ⟨d, hd⟩ : ∃ d, ls[k]? = some d := ⟨_, List.getElem?_eq_getElem hk'⟩
      have hdk : ls.getD k wd0 = d := getD_of hd
      have hdt := (wdB_parts (hwd d (List.mem_of_getElem? hd))).1
      have hlt : (ls.take (k + 1)).length = k + 1 := by rw [List.length_take]; omega
      have hstep := can_step hd (by omega) hpre
      refine sc_skip ?_
      refine sx_then ?_
      refine sc_seq ?_
      refine sc_block ?_
      refine sc_seq ?_
      refine sc_draw rfl (by kernel_rfl) (by kernel_rfl) ?_
      refine qq_y (OpY.s (by first | exact y_load_all Try.underlying24 rfl Try.sizeOf24 (by exact rfl) (by repeat (first | exact .head _ | refine .tail _ ?_)) (by exact rfl) | exact y_load_ca Try.underlying24 rfl Try.sizeOf24 (by exact rfl) (by repeat (first | exact .head _ | refine .tail _ ?_)) (by assumption) (by exact rfl))) rfl ?_
      refine qq_y (OpY.s (y_move (by exact rfl))) rfl ?_
      refine qq_y (OpY.s (y_move (by exact rfl))) rfl ?_
      refine qq_y (OpY.s (y_add (by exact rfl) (by exact rfl) (by omega))) rfl ?_
      refine qq_y (OpY.s (y_slice_h (h := k + 1) Try.underlying25 Try.sizeOf57 (by exact rfl) (ev_int (by exact rfl) (by omega)) (by omega))) rfl ?_
      refine qq_y (y_call (first := []) (caps := []) (by exact rfl) Try.call61 (EvL.cons (by exact rfl) (EvL.cons (by exact rfl) EvL.nil)) (fun w1 hw1 => can61 w1 r a c f cf al cl (ls.take (k + 1)) (k + 1) hlt hok (fun d hd => hwd d (List.mem_of_mem_take hd)) (hT.at hw1 (by repeat (first | exact .head _ | refine .tail _ ?_))) ((hl.take (k + 1)).at hw1 (by repeat (first | exact .head _ | refine .tail _ ?_))) i1 i2 i3)) rfl ?_
      refine qq_y (OpY.s (y_not (by exact rfl))) rfl ?_
      refine qq_nil ?_
      refine sx_then ?_
      first | refine sc_if (by exact rfl) (fun hc2 => ?_) (fun hc2 => ?_) | refine sc_ifn (by exact rfl) (fun hc2 => ?_) (fun hc2 => ?_) | refine sc_cond (by exact rfl) (fun hc2 => ?_) (fun hc2 => ?_)
      ·
        refine sc_seq ?_
        refine sc_region ?_
        refine sq_y (OpY.s (y_move (by exact rfl))) rfl ?_
        refine sq_y (OpY.s (y_assign (by exact rfl))) rfl ?_
        refine sq_y (OpY.s (y_assign (by exact rfl))) rfl ?_
        refine sq_nil ?_
        refine sx_then ?_
        refine sc_ret ?_
        refine sx_blk_ret ?_
        refine sx_then_ret ?_
        refine sx_round_ret ?_
        refine sx_blk_ret ?_
        refine sx_then_ret ?_
        refine sx_ret2 (.inl rfl) rfl Try.results26 (by exact rfl) (by exact rfl) ?_
        intro w' hw'
        refine ⟨?_, hw'.below (by repeat (first | exact .head _ | refine .tail _ ?_))⟩
        have hcan : (List.range r.teams.length).all (trT r (ls.take (k + 1))) = false := by simpa using hc2
        have hq : clashP r ls k = true := by unfold clashP; rw [hdk, ← hstep, hcan]; rfl
        unfold clashN clashI; rw [if_neg (fun h => h hz), find_range hk' hq hno]
      ·
        refine sc_skip ?_
        refine sx_blk ?_
        refine sx_then ?_
        refine sc_region ?_
        refine sq_y (OpY.s (y_move (by exact rfl))) rfl ?_
        refine sq_y (OpY.s (y_add (by exact rfl) (by exact rfl) (by omega))) rfl ?_
        refine sq_y (OpY.s (y_assign (by exact rfl))) rfl ?_
        refine sq_nil ?_
        refine sx_round (k + 1) ?_ ?_ (by repeat (first | exact SubL.nil | refine SubL.cons (by first | exact rfl | exact lk_int rfl (by omega) | exact lk_eq rfl (by simp)) ?_)) (by repeat (first | exact Sel.nil | refine Sel.cons (by repeat (first | exact Rem.here | apply Rem.there)) ?_))
        · have hcan : (List.range r.teams.length).all (trT r (ls.take (k + 1))) = true := by simpa using hc2
          refine ⟨by omega, fun j hj => ?_, fun t ht => List.all_eq_true.1 hcan t (List.mem_range.2 ht)⟩
          rcases Nat.lt_succ_iff_lt_or_eq.1 hj with h | rfl
          · exact hno j h
          · unfold clashP; rw [hdk, ← hstep, hcan]; rfl
        · omega
    ·
      refine sc_exit ?_
      refine sx_then_exit ?_
      refine sx_round_exit ?_
      refine sx_blk_hit ?_
      refine sx_then ?_
      refine sc_seq ?_
      refine sc_region ?_
      refine sq_y (OpY.s (y_assign (by exact rfl))) rfl ?_
      refine sq_y (OpY.s (y_assign (by exact rfl))) rfl ?_
      refine sq_nil ?_
      refine sx_then ?_
      refine sc_ret ?_
      refine sx_ret2 (.inl rfl) rfl Try.results26 (by exact rfl) (by exact rfl) ?_
      intro w' hw'
      refine ⟨?_, hw'.below (by repeat (first | exact .head _ | refine .tail _ ?_))⟩
      have hkn : k = ls.length := by omega
      subst hkn
      unfold clashN clashI; rw [if_neg (fun h => h hz), find_range_none hno]
end Go.Proofs.Ytegdfpilhlcplaa
