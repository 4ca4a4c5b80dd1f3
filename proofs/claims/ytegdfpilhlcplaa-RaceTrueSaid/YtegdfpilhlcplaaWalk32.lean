/- The walk of RaceTrue, joined. -/
import Derived.Test.YtegdfpilhlcplaaWalk31
namespace Go.Proofs.Ytegdfpilhlcplaa
open Go Go.Eng Go.RowKit Go.Proofs
set_option maxRecDepth 100000

set_option maxHeartbeats 2000000 in
theorem true6b (w : World) (r : Rc) (a : Option Addr) (c : Nat) (f : Nat → Option Addr) (cf : Nat → Nat) (ab : Option Addr) (cb : Nat) (bs : List Int) (mz : Int) (hmz : 0 ≤ mz ∧ mz ≤ 65535) (hT : TmsA 0 w a r.teams f cf) (hb : U16A 0 w ab bs) (hok : rcB r = true) (hbs : BsOk bs) (i1 : InI r.p) (i2 : InI r.lim) (i3 : InI r.rate) : Calls Try.prog 6 #[.agg (rcVal r a c).toArray, .slice ab bs.length cb, .int .u16 mz] w fun e w' => e = .returned (.bool true) ∧ Below w.heap.size w w' := by
  have hlim := rcB_nums hok
  have hnb := hbs.1
  have hlen := hb.len
  have hlenT := hT.len
  obtain ⟨L, hL⟩ := Int.eq_ofNat_of_zero_le (show 0 ≤ r.lim by omega)
  obtain ⟨m, hm⟩ := Int.eq_ofNat_of_zero_le (show 0 ≤ mz % 2001 by omega)
  have hm2 : m ≤ 2000 := by omega
  obtain ⟨K, hK⟩ : ∃ K, K = min bs.length 40 := ⟨_, rfl⟩
  obtain ⟨ls, hls⟩ : ∃ ls, saidL r bs K = ls := ⟨_, rfl⟩
  have hlK : ls.length = K := by rw [← hls]; exact saidL_len r bs K
  have hW : TrueW r (hasZ r bs) ls := by rw [← hls]; exact said_true hok hbs (by omega) (by omega)
  have hE := hW.fits
  have hmB : openE r ls (minB m) = 0 := by rw [show minB m = true by simp only [minB, decide_eq_true_eq]; omega]; exact hE
  have hWx : winAns r ls = .tuple #[.int .i64 (winS r ls : Nat), .int .i64 (winC r ls : Nat), .int .i64 0] := by unfold winAns; rw [if_pos hE]
  have hCl := clashN_fits hE
  have hR : ranksL r ls m = rankL (scoreL r ls fun t => wrk r t m) := by unfold ranksL; rw [if_pos hmB]; rfl
  have hRl : (ranksL r ls m).length = r.teams.length := by rw [hR]; simp [rankL, scoreL]
  have hHb : ∀ t k, 0 ≤ hasZ r bs t k ∧ hasZ r bs t k ≤ 10000 := fun t k => by have := (hW.tr t).bd k; omega
  obtain ⟨now, hnow⟩ : ∃ now : Nat → Int, ∀ t, now t = scV (hasZ r bs t) r.p (penOf r t) (wrk r t m) := ⟨_, fun _ => rfl⟩
  obtain ⟨fin, hfin⟩ : ∃ fin : Nat → Int, ∀ t, fin t = scV (hasZ r bs t) r.p (penOf r t) L := ⟨_, fun _ => rfl⟩
  have hwkL : ∀ t, wrk r t m < L + 1 := fun t => by have := wrk_le r t m (by omega); omega
  have hcb : ((winC r ls : Nat) : Int) ≤ 1048576 := by have := maskN_pw (canQ (winL r ls)) r.teams.length; have := pw2_le (show r.teams.length ≤ 20 by omega); unfold winC; omega
  have hsb : ((winS r ls : Nat) : Int) ≤ 1048576 := by have := maskN_pw (sureQ (winL r ls)) r.teams.length; have := pw2_le (show r.teams.length ≤ 20 by omega); unfold winS; omega
  have hLn : r.lim.toNat = L := by omega
  have hgN : ∀ i, i < (scoreL r ls fun t => wrk r t m).length → ((scoreL r ls fun t => wrk r t m).getD i sp0).lo ≤ now i ∧ now i ≤ ((scoreL r ls fun t => wrk r t m).getD i sp0).hi := fun i hi => by
    rw [scoreL_len] at hi
    rw [scoreL_getD hi, hnow]
    exact hW.pts i _ (wrk_le r i m (by omega))
  have hgF : ∀ i, i < r.teams.length → ((winP r ls).getD i sp0).lo ≤ fin i ∧ fin i ≤ ((winP r ls).getD i sp0).hi := fun i hi => by
    rw [winP_get hi, hfin, hLn]
    exact hW.pts i L (by omega)
  refine calls_of_SC (args := [.agg (rcVal r a c).toArray, .slice ab bs.length cb, .int .u16 mz]) Try.func6 rfl Try.ntmps6 rfl ?_
  simp only [argL, Nat.reduceAdd, Nat.zero_add]
  refine sc_seq ?_
  refine sc_region ?_
  refine sq_box (by exact rfl) rfl (fun b3 => ?_)
  refine sq_y (OpY.s (y_assign (by exact rfl))) rfl ?_
  refine sq_nil ?_
  refine sx_then ?_
  refine sc_seq ?_
  refine sc_seq ?_
  refine sc_region ?_
  refine sq_y (OpY.s (by first | exact y_load_all Try.underlying24 rfl Try.sizeOf24 (by exact rfl) (by repeat (first | exact .head _ | refine .tail _ ?_)) (by exact rfl) | exact y_load_ca Try.underlying24 rfl Try.sizeOf24 (by exact rfl) (by repeat (first | exact .head _ | refine .tail _ ?_)) (by assumption) (by exact rfl))) rfl ?_
  refine sq_y (y_call (first := []) (caps := []) (by exact rfl) Try.call13 (EvL.cons (by exact rfl) (EvL.cons (by exact rfl) EvL.nil)) (fun w1 hw1 => great13 w1 r a c f cf none 0 [] (hT.at hw1 (by repeat (first | exact .head _ | refine .tail _ ?_))) (by decide))) rfl ?_
  refine sq_y (OpY.s (y_move (by exact rfl))) rfl ?_
  first | refine sq_splitd (tt := 34) (by exact rfl) (fun hg1_2 => ?_) (fun hg1_2 => ?_) | refine sq_splitn (tt := 34) (by exact rfl) (fun hg1_2 => ?_) (fun hg1_2 => ?_) | refine sq_split (tt := 34) (by exact rfl) (fun hg1_2 => ?_) (fun hg1_2 => ?_)
  ·
    refine sq_gf (by exact rfl) (by exact rfl) (by exact rfl) rfl ?_
    refine sq_gf (by exact rfl) (by exact rfl) (by exact rfl) rfl ?_
    refine sq_gf (by exact rfl) (by exact rfl) (by exact rfl) rfl ?_
    refine sq_y (OpY.s (y_pick_t (by exact rfl) (by exact rfl))) rfl ?_
    refine sq_y (OpY.s (y_move (by exact rfl))) rfl ?_
    refine sq_gf (by exact rfl) (by exact rfl) (by exact rfl) rfl ?_
    refine sq_gf (by exact rfl) (by exact rfl) (by exact rfl) rfl ?_
    refine sq_gf (by exact rfl) (by exact rfl) (by exact rfl) rfl ?_
    refine sq_y (OpY.s (y_pick_t (by exact rfl) (by exact rfl))) rfl ?_
    refine sq_nil ?_
    refine sx_then ?_
    refine sc_t (by exact rfl) ?_
    refine sc_seq ?_
    refine sc_region ?_
    refine sq_y (y_call (first := []) (caps := []) (by exact rfl) Try.call14 EvL.nil (fun w1 _ => alive14 w1)) rfl ?_
    refine sq_y (OpY.s (y_assign (by exact rfl))) rfl ?_
    refine sq_nil ?_
    refine sx_then ?_
    refine sc_ret ?_
    refine sx_then_ret ?_
    refine sx_ret1 (.inl rfl) rfl Try.results6 (by exact rfl) ?_
    intro w' hw'
    exact ⟨rfl, hw'.below (by repeat (first | exact .head _ | refine .tail _ ?_))⟩
  ·
    refine sq_gt (by exact rfl) (by exact rfl) (OpY.s (y_move (by exact rfl))) rfl ?_
    refine sq_gt (by exact rfl) (by exact rfl) (OpY.s (y_len Try.underlying47 (by exact rfl))) rfl ?_
    refine sq_gt (by exact rfl) (by exact rfl) (OpY.s (y_eql (by exact rfl) (by exact rfl))) rfl ?_
    refine sq_y (OpY.s (y_pick_f (by exact rfl) (by exact rfl))) rfl ?_
    refine sq_y (OpY.s (y_move (by exact rfl))) rfl ?_
    refine sq_known (tt := 39) (b' := false) (by exact rfl) (decide_eq_false (by omega)) ?_
    refine sq_gt (by exact rfl) (by exact rfl) (OpY.s (by first | exact y_load_all Try.underlying24 rfl Try.sizeOf24 (by exact rfl) (by repeat (first | exact .head _ | refine .tail _ ?_)) (by exact rfl) | exact y_load_ca Try.underlying24 rfl Try.sizeOf24 (by exact rfl) (by repeat (first | exact .head _ | refine .tail _ ?_)) (by assumption) (by exact rfl))) rfl ?_
    refine sq_gt (by exact rfl) (by exact rfl) (y_call (first := []) (caps := []) (by exact rfl) Try.call31 (EvL.cons (by exact rfl) EvL.nil) (fun w1 hw1 => race31 w1 _ r ((hT.at hw1 (by repeat (first | exact .head _ | refine .tail _ ?_))).rc i1 i2 i3))) rfl ?_
    refine sq_gt (by exact rfl) (by exact rfl) (OpY.s (y_not (by exact rfl))) rfl ?_
    refine sq_y (OpY.s (y_pick_f (by exact rfl) (by exact rfl))) rfl ?_
    refine sq_nil ?_
    refine sx_then ?_
    refine sc_f (lk_bool rfl (by simp [hok])) ?_
    refine sc_skip ?_
    refine sx_then ?_
    refine sc_seq ?_
    refine sc_region ?_
    refine sq_y (OpY.s (y_assign (by exact rfl))) rfl ?_
    refine sq_nil ?_
    refine sx_then ?_
    refine sc_seq ?_
    refine sc_seq ?_
    refine sc_region ?_
    refine sq_y (OpY.s (by first | exact y_fab Try.underlying24 (by exact rfl) (by exact Try.sizeOf22) (by exact rfl) rfl | exact y_fa Try.underlying24 (by exact rfl) (by exact Try.sizeOf22) (by exact rfl) rfl)) rfl ?_
    refine sq_y (OpY.s (by first | exact y_load_blk Try.underlying22 rfl (by exact rfl) (by repeat (first | exact .head _ | refine .tail _ ?_)) (by exact rfl) | exact y_load_caj Try.underlying22 rfl (by exact rfl) (by repeat (first | exact .head _ | refine .tail _ ?_)) (by assumption) (by exact rfl) | exact y_load_ca0 Try.underlying22 rfl (by exact rfl) (by repeat (first | exact .head _ | refine .tail _ ?_)) (by assumption) (by exact rfl))) rfl ?_
    refine sq_y (OpY.s (y_len Try.underlying22 (by exact rfl))) rfl ?_
    refine sq_y (OpY.s (y_move (by exact rfl))) rfl ?_
    refine sq_nil ?_
    refine sx_then ?_
    refine sc_block ?_
    refine sc_nil_own 51 1 ?_
    refine sc_loop (σ := Nat × Value × List (Value × (Nat → Int)))
      (fun s => [(1, .slice ab bs.length cb), (2, .int .u16 mz), (3, .pointer (some ⟨b3, 0, none⟩)), (7, s.2.1), (46, .slice a r.teams.length c), (47, .int .i64 r.teams.length), (48, .int .i64 s.1)])
      (fun s => .own s.2.1 51 1 s.1 (s.2.2.reverse.map (·.1)) :: .blk b3 (.cells (rcVal r a c).toArray 24 (0, 0)) :: .reg 0 w :: innerH L s.2.2)
      (fun s => s.1 ≤ r.teams.length ∧ InH r bs s.1 s.2.2)
      (fun s => r.teams.length - s.1)
      ((0, .slice none 0 0, [])) ?_ (by repeat (first | exact SubL.nil | refine SubL.cons (by first | exact rfl | exact lk_int rfl (by omega) | exact lk_eq rfl (by simp)) ?_)) (by repeat (first | exact Sel.refl _ | exact Sel.nil | refine Sel.cons (by repeat (first | exact Rem.here | apply Rem.there)) ?_ | refine Sel.skip ?_)) ?_
    · exact ⟨Nat.zero_le _, rfl, fun i p h => by simp at h⟩
    rintro ⟨k, vh, iv⟩ ⟨hk, hIn⟩
    dsimp only at hk hIn ⊢
    refine sc_seq ?_
    refine sc_region ?_
    refine sq_y (OpY.s (y_lss (by exact rfl) (by exact rfl))) rfl ?_
    refine sq_nil ?_
    refine sx_then ?_
    refine sc_seq ?_
    first | refine sc_if (by exact rfl) (fun hc1 => ?_) (fun hc1 => ?_) | refine sc_ifn (by exact rfl) (fun hc1 => ?_) (fun hc1 => ?_) | refine sc_cond (by exact rfl) (fun hc1 => ?_) (fun hc1 => ?_)
    ·
      have hk' : k < r.teams.length := by omega
      refine sc_skip ?_
      refine sx_then ?_
      refine sc_seq ?_
      refine sc_block ?_
      refine sc_seq ?_
      refine sc_region ?_
      refine sq_y (OpY.s (y_move (by exact rfl))) rfl ?_
      refine sq_y (OpY.s (y_assign (by exact rfl))) rfl ?_
      refine sq_nil ?_
      refine sx_then ?_
      refine sc_region ?_
      refine sq_y (OpY.s (y_move (by exact rfl))) rfl ?_
      refine sq_y (OpY.s (by first | exact y_load_all Try.underlying24 rfl Try.sizeOf24 (by exact rfl) (by repeat (first | exact .head _ | refine .tail _ ?_)) (by exact rfl) | exact y_load_ca Try.underlying24 rfl Try.sizeOf24 (by exact rfl) (by repeat (first | exact .head _ | refine .tail _ ?_)) (by assumption) (by exact rfl))) rfl ?_
      refine sq_y (OpY.s (y_move (by exact rfl))) rfl ?_
      refine sq_y (OpY.s (y_move (by exact rfl))) rfl ?_
      refine sq_call_own (first := []) (caps := []) (e := 3) (sz := 1) (n := L + 1) (Z := Option Addr × Nat) (fun z => .slice z.1 (L + 1) z.2) (fun z => .slice z.1 (L + 1) z.2) (fun _ => intC (L + 1) (hasZ r bs k)) (fun _ => True) (by exact rfl) Try.call32 (EvL.cons (by exact rfl) (EvL.cons (by exact rfl) (EvL.cons (by exact rfl) EvL.nil))) (fun w1 hw1 => (truth32 w1 r a c f cf ab cb bs k L hL hk' (hT.at hw1 (by repeat (first | exact .head _ | refine .tail _ ?_))) (hb.at hw1 (by repeat (first | exact .head _ | refine .tail _ ?_))) hok hbs).mono (fun e w' ⟨z, he, hbl, ho⟩ => ⟨z, he, hbl, trivial, ho⟩)) rfl (fun zt _ => ?_)
      refine sq_bs Try.underlying50 ei51 (EvI.cons (by exact rfl) EvI.nil) (by first | (simp [Value.cells]; done) | (simp [Value.cells]; rfl) | (simp [Value.cells]; and_intros <;> rfl)) rfl rfl rfl (fun b56 => ?_)
      refine sq_append (news := [.slice zt.1 (L + 1) zt.2]) Try.underlying50 ei51 rfl (by decide) (by exact rfl) (by repeat (first | exact Rem.here | apply Rem.there)) (by exact rfl) rfl (fun _ hw => news_blk hw (by repeat (first | exact .head _ | refine .tail _ ?_))) (by simp [Value.oneCell']) (by omega) rfl (fun v57 ho57 => ?_)
      rw [show iv.reverse.map (·.1) ++ [Value.slice zt.1 (L + 1) zt.2] = ((Value.slice zt.1 (L + 1) zt.2, hasZ r bs k) :: iv).reverse.map (·.1) by simp]
      refine sq_y (OpY.s (y_assign (by exact rfl))) rfl ?_
      refine sq_nil ?_
      refine sx_blk ?_
      refine sx_then ?_
      refine sc_region ?_
      refine sq_y (OpY.s (y_add (by exact rfl) (by exact rfl) (by omega))) rfl ?_
      refine sq_y (OpY.s (y_move (by exact rfl))) rfl ?_
      refine sq_nil ?_
      refine sx_round ((k + 1, v57, (.slice zt.1 (L + 1) zt.2, hasZ r bs k) :: iv)) ?_ ?_ (by repeat (first | exact SubL.nil | refine SubL.cons (by first | exact rfl | exact lk_int rfl (by omega) | exact lk_eq rfl (by simp)) ?_)) (by repeat (first | exact Sel.refl _ | exact Sel.nil | refine Sel.cons (by repeat (first | exact Rem.here | apply Rem.there)) ?_ | refine Sel.skip ?_))
      · exact ⟨show k + 1 ≤ r.teams.length by omega, hIn.step _⟩
      · show r.teams.length - (k + 1) < r.teams.length - k; omega
    ·
      have hkn : k = r.teams.length := by omega
      subst hkn
      refine sc_exit ?_
      refine sx_then_exit ?_
      refine sx_round_exit ?_
      refine sx_blk_hit ?_
      refine sx_then ?_
      refine sc_seq ?_
      refine sc_region ?_
      refine sq_y (OpY.s (by first | exact y_load_all Try.underlying24 rfl Try.sizeOf24 (by exact rfl) (by repeat (first | exact .head _ | refine .tail _ ?_)) (by exact rfl) | exact y_load_ca Try.underlying24 rfl Try.sizeOf24 (by exact rfl) (by repeat (first | exact .head _ | refine .tail _ ?_)) (by assumption) (by exact rfl))) rfl ?_
      refine sq_y (OpY.s (y_move (by exact rfl))) rfl ?_
      refine sq_y (OpY.s (y_move (by exact rfl))) rfl ?_
      refine sq_call_own (first := []) (caps := []) (e := 57) (sz := 4) (n := K) (Z := Value) (fun z => z) (fun z => z) (fun _ => ls.flatMap wdRow) (fun _ => True) (by exact rfl) Try.call33 (EvL.cons (by exact rfl) (EvL.cons (by exact rfl) (EvL.cons (by exact rfl) EvL.nil))) (fun w1 hw1 => by
        obtain ⟨ah, ch, hvh, hH⟩ := has_of (L := L) hw1 hIn (by repeat (first | exact .head _ | refine .tail _ ?_)) (fun x hx => by repeat (first | exact hx | refine List.mem_cons_of_mem _ ?_))
        rw [hvh, ← hls]
        exact (said33 w1 r a c f cf ab cb bs L hL ah ch _ _ K hK (hT.at hw1 (by repeat (first | exact .head _ | refine .tail _ ?_))) (hb.at hw1 (by repeat (first | exact .head _ | refine .tail _ ?_))) hok hbs i1 i2 i3 hH).mono (fun e w' ⟨z, he, hbl, ho⟩ => ⟨z, he, hbl, trivial, ho⟩)) rfl (fun v62 _ => ?_)
      refine sq_y (OpY.s (y_assign (by exact rfl))) rfl ?_
      refine sq_nil ?_
      refine sx_then ?_
      refine sc_seq ?_
      refine sc_region ?_
      refine sq_y (OpY.s (y_move (by exact rfl))) rfl ?_
      refine sq_y (OpY.s (y_conv Try.underlying48 Try.underlying3 (by exact rfl) (wrap64_in (by omega) (by omega)))) rfl ?_
      refine sq_y (OpY.s (y_rem (by exact rfl) (by exact rfl) (by omega) (by omega))) rfl ?_
      rw [hm]
      refine sq_y (OpY.s (y_assign (by exact rfl))) rfl ?_
      refine sq_nil ?_
      refine sx_then ?_
      refine sc_seq ?_
      refine sc_region ?_
      refine sq_y (OpY.s (by first | exact y_load_all Try.underlying24 rfl Try.sizeOf24 (by exact rfl) (by repeat (first | exact .head _ | refine .tail _ ?_)) (by exact rfl) | exact y_load_ca Try.underlying24 rfl Try.sizeOf24 (by exact rfl) (by repeat (first | exact .head _ | refine .tail _ ?_)) (by assumption) (by exact rfl))) rfl ?_
      refine sq_y (OpY.s (y_move (by exact rfl))) rfl ?_
      refine sq_y (OpY.s (y_move (by exact rfl))) rfl ?_
      refine sq_call_new (first := []) (caps := []) (Z := Option Addr × Nat) (fun z => .tuple #[.slice z.1 (ranksL r ls m).length z.2, .int .i64 0]) (fun lo w' z => SpsA lo w' z.1 (ranksL r ls m)) (by exact rfl) Try.call21 (EvL.cons (by exact rfl) (EvL.cons (by exact rfl) (EvL.cons (by exact rfl) EvL.nil))) (fun w1 hw1 => by
            obtain ⟨al, cl, hv, hcl, hl⟩ := (own_wvb hw1 (by repeat (first | exact .head _ | refine .tail _ ?_)) hlK (by omega))
            rw [hv]
            exact (ranks21p w1 r a c f cf al cl ls m (hT.at hw1 (by repeat (first | exact .head _ | refine .tail _ ?_))) hl i1 i2 i3).mono (fun e w' ⟨z, he, hbl, hs⟩ => ⟨z, by rw [he, hmB], hbl, hs⟩)) rfl (fun lr1 wr1 zr1 hr1 => ?_)
      refine sq_y (OpY.s (y_move (by exact rfl))) rfl ?_
      refine sq_y (OpY.s (y_extract (by exact rfl) (by exact rfl))) rfl ?_
      refine sq_y (OpY.s (y_extract (by exact rfl) (by exact rfl))) rfl ?_
      refine sq_y (OpY.s (y_assign (by exact rfl))) rfl ?_
      refine sq_y (OpY.s (y_assign (by exact rfl))) rfl ?_
      refine sq_nil ?_
      refine sx_then ?_
      refine sc_seq ?_
      refine sc_region ?_
      refine sq_y (OpY.s (by first | exact y_load_all Try.underlying24 rfl Try.sizeOf24 (by exact rfl) (by repeat (first | exact .head _ | refine .tail _ ?_)) (by exact rfl) | exact y_load_ca Try.underlying24 rfl Try.sizeOf24 (by exact rfl) (by repeat (first | exact .head _ | refine .tail _ ?_)) (by assumption) (by exact rfl))) rfl ?_
      refine sq_y (OpY.s (y_move (by exact rfl))) rfl ?_
      refine sq_y (y_call (first := []) (caps := []) (by exact rfl) Try.call23 (EvL.cons (by exact rfl) (EvL.cons (by exact rfl) EvL.nil)) (fun w1 hw1 => by
            obtain ⟨al, cl, hv, hcl, hl⟩ := (own_wvb hw1 (by repeat (first | exact .head _ | refine .tail _ ?_)) hlK (by omega))
            rw [hv]
            exact (winners23 w1 r a c f cf al cl ls  (hT.at hw1 (by repeat (first | exact .head _ | refine .tail _ ?_))) hl i1 i2 i3).mono (fun e w' h => ⟨h.1.trans (congrArg Ending.returned hWx), h.2⟩))) rfl ?_
      refine sq_y (OpY.s (y_move (by exact rfl))) rfl ?_
      refine sq_y (OpY.s (y_extract (by exact rfl) (by exact rfl))) rfl ?_
      refine sq_y (OpY.s (y_extract (by exact rfl) (by exact rfl))) rfl ?_
      refine sq_y (OpY.s (y_extract (by exact rfl) (by exact rfl))) rfl ?_
      refine sq_y (OpY.s (y_assign (by exact rfl))) rfl ?_
      refine sq_y (OpY.s (y_assign (by exact rfl))) rfl ?_
      refine sq_y (OpY.s (y_assign (by exact rfl))) rfl ?_
      refine sq_nil ?_
      refine sx_then ?_
      refine sc_seq ?_
      refine sc_region ?_
      refine sq_y (OpY.s (by first | exact y_load_all Try.underlying24 rfl Try.sizeOf24 (by exact rfl) (by repeat (first | exact .head _ | refine .tail _ ?_)) (by exact rfl) | exact y_load_ca Try.underlying24 rfl Try.sizeOf24 (by exact rfl) (by repeat (first | exact .head _ | refine .tail _ ?_)) (by assumption) (by exact rfl))) rfl ?_
      refine sq_y (OpY.s (y_move (by exact rfl))) rfl ?_
      refine sq_y (y_call (first := []) (caps := []) (by exact rfl) Try.call25 (EvL.cons (by exact rfl) (EvL.cons (by exact rfl) EvL.nil)) (fun w1 hw1 => by
            obtain ⟨al, cl, hv, hcl, hl⟩ := (own_wvb hw1 (by repeat (first | exact .head _ | refine .tail _ ?_)) hlK (by omega))
            rw [hv]
            exact clash25y w1 r a c f cf al cl ls _ rfl hcl 0 4 hCl (hT.at hw1 (by repeat (first | exact .head _ | refine .tail _ ?_))) hl i1 i2 i3)) rfl ?_
      refine sq_y (OpY.s (y_move (by exact rfl))) rfl ?_
      refine sq_y (OpY.s (y_extract (by exact rfl) (by exact rfl))) rfl ?_
      refine sq_y (OpY.s (y_extract (by exact rfl) (by exact rfl))) rfl ?_
      refine sq_y (OpY.s (y_assign (by exact rfl))) rfl ?_
      refine sq_y (OpY.s (y_assign (by exact rfl))) rfl ?_
      refine sq_nil ?_
      refine sx_then ?_
      refine sc_seq ?_
      refine sc_seq ?_
      refine sc_region ?_
      refine sq_y (OpY.s (y_move (by exact rfl))) rfl ?_
      refine sq_y (OpY.s (y_neq (by exact rfl) (by exact rfl))) rfl ?_
      refine sq_y (OpY.s (y_move (by exact rfl))) rfl ?_
      refine sq_known (tt := 88) (b' := false) (by exact rfl) (by simp) ?_
      refine sq_gt (by exact rfl) (by exact rfl) (OpY.s (y_move (by exact rfl))) rfl ?_
      refine sq_gt (by exact rfl) (by exact rfl) (OpY.s (y_neq (by exact rfl) (by exact rfl))) rfl ?_
      refine sq_y (OpY.s (y_pick_f (by exact rfl) (by exact rfl))) rfl ?_
      refine sq_y (OpY.s (y_move (by exact rfl))) rfl ?_
      refine sq_known (tt := 92) (b' := false) (by exact rfl) (by simp) ?_
      refine sq_gt (by exact rfl) (by exact rfl) (OpY.s (y_move (by exact rfl))) rfl ?_
      refine sq_gt (by exact rfl) (by exact rfl) (OpY.s (y_neq (by exact rfl) (by exact rfl))) rfl ?_
      refine sq_y (OpY.s (y_pick_f (by exact rfl) (by exact rfl))) rfl ?_
      refine sq_y (OpY.s (y_move (by exact rfl))) rfl ?_
      refine sq_known (tt := 96) (b' := false) (by exact rfl) (by simp) ?_
      refine sq_gt (by exact rfl) (by exact rfl) (OpY.s (y_move (by exact rfl))) rfl ?_
      refine sq_gt (by exact rfl) (by exact rfl) (OpY.s (y_len Try.underlying36 (by exact rfl))) rfl ?_
      refine sq_gt (by exact rfl) (by exact rfl) (OpY.s (by first | exact y_fab Try.underlying24 (by exact rfl) (by exact Try.sizeOf22) (by exact rfl) rfl | exact y_fa Try.underlying24 (by exact rfl) (by exact Try.sizeOf22) (by exact rfl) rfl)) rfl ?_
      refine sq_gt (by exact rfl) (by exact rfl) (OpY.s (by first | exact y_load_blk Try.underlying22 rfl (by exact rfl) (by repeat (first | exact .head _ | refine .tail _ ?_)) (by exact rfl) | exact y_load_caj Try.underlying22 rfl (by exact rfl) (by repeat (first | exact .head _ | refine .tail _ ?_)) (by assumption) (by exact rfl) | exact y_load_ca0 Try.underlying22 rfl (by exact rfl) (by repeat (first | exact .head _ | refine .tail _ ?_)) (by assumption) (by exact rfl))) rfl ?_
      refine sq_gt (by exact rfl) (by exact rfl) (OpY.s (y_len Try.underlying22 (by exact rfl))) rfl ?_
      refine sq_gt (by exact rfl) (by exact rfl) (OpY.s (y_neq (by exact rfl) (by exact rfl))) rfl ?_
      refine sq_y (OpY.s (y_pick_f (by exact rfl) (by exact rfl))) rfl ?_
      refine sq_nil ?_
      refine sx_then ?_
      refine sc_f (lk_bool rfl (by simp [hRl])) ?_
      refine sc_skip ?_
      refine sx_then ?_
      refine sc_seq ?_
      refine sc_region ?_
      refine sq_y (OpY.s (y_assign (by exact rfl))) rfl ?_
      refine sq_y (OpY.s (y_assign (by exact rfl))) rfl ?_
      refine sq_nil ?_
      refine sx_then ?_
      refine sc_seq ?_
      refine sc_seq ?_
      refine sc_region ?_
      refine sq_y (OpY.s (by first | exact y_fab Try.underlying24 (by exact rfl) (by exact Try.sizeOf22) (by exact rfl) rfl | exact y_fa Try.underlying24 (by exact rfl) (by exact Try.sizeOf22) (by exact rfl) rfl)) rfl ?_
      refine sq_y (OpY.s (by first | exact y_load_blk Try.underlying22 rfl (by exact rfl) (by repeat (first | exact .head _ | refine .tail _ ?_)) (by exact rfl) | exact y_load_caj Try.underlying22 rfl (by exact rfl) (by repeat (first | exact .head _ | refine .tail _ ?_)) (by assumption) (by exact rfl) | exact y_load_ca0 Try.underlying22 rfl (by exact rfl) (by repeat (first | exact .head _ | refine .tail _ ?_)) (by assumption) (by exact rfl))) rfl ?_
      refine sq_y (OpY.s (y_len Try.underlying22 (by exact rfl))) rfl ?_
      refine sq_y (OpY.s (y_move (by exact rfl))) rfl ?_
      refine sq_nil ?_
      refine sx_then ?_
      refine sc_block ?_
      refine sc_nil_own 3 1 ?_
      refine sc_nil_own 3 1 ?_
      refine sc_loop (σ := Nat × Value × Value)
        (fun s => [(3, .pointer (some ⟨b3, 0, none⟩)), (7, vh), (9, v62), (10, .int .i64 m), (11, .slice zr1.1 (ranksL r ls m).length zr1.2), (13, .int .i64 (winS r ls : Nat)), (14, .int .i64 (winC r ls : Nat)), (18, s.2.1), (19, s.2.2), (105, .slice a r.teams.length c), (106, .int .i64 r.teams.length), (107, .int .i64 s.1)])
        (fun s => .own s.2.1 3 1 s.1 (intC s.1 now) :: .own s.2.2 3 1 s.1 (intC s.1 fin) :: .reg lr1 wr1 :: .own v62 57 4 K (ls.flatMap wdRow) :: .own vh 51 1 r.teams.length (iv.reverse.map (·.1)) :: .blk b3 (.cells (rcVal r a c).toArray 24 (0, 0)) :: .reg 0 w :: innerH L iv)
        (fun s => s.1 ≤ r.teams.length)
        (fun s => r.teams.length - s.1)
        ((0, .slice none 0 0, .slice none 0 0)) ?_ (by repeat (first | exact SubL.nil | refine SubL.cons (by first | exact rfl | exact lk_int rfl (by omega) | exact lk_eq rfl (by simp)) ?_)) (by repeat (first | exact Sel.refl _ | exact Sel.nil | refine Sel.cons (by repeat (first | exact Rem.here | apply Rem.there)) ?_ | refine Sel.skip ?_)) ?_
      · exact Nat.zero_le _
      rintro ⟨k, vn, vf⟩ hk
      dsimp only at hk ⊢
      refine sc_seq ?_
      refine sc_region ?_
      refine sq_y (OpY.s (y_lss (by exact rfl) (by exact rfl))) rfl ?_
      refine sq_nil ?_
      refine sx_then ?_
      refine sc_seq ?_
      first | refine sc_if (by exact rfl) (fun hc3 => ?_) (fun hc3 => ?_) | refine sc_ifn (by exact rfl) (fun hc3 => ?_) (fun hc3 => ?_) | refine sc_cond (by exact rfl) (fun hc3 => ?_) (fun hc3 => ?_)
      ·
        have hk' : k < r.teams.length := by omega
        obtain ⟨vk, hvk, hin⟩ := hIn.get (L := L) hk'
        have hwk := wrk_le r k m (by omega)
        have hbk : (cntP r ls k (wrk r k m)).lo ≤ hasZ r bs k (wrk r k m) ∧ hasZ r bs k (wrk r k m) ≤ (cntP r ls k (wrk r k m)).hi := hW.bounds k (wrk r k m) hwk
        have hpk := hW.pts k (wrk r k m) hwk
        rw [← hnow] at hpk
        refine sc_skip ?_
        refine sx_then ?_
        refine sc_seq ?_
        refine sc_block ?_
        refine sc_seq ?_
        refine sc_region ?_
        refine sq_y (OpY.s (y_move (by exact rfl))) rfl ?_
        refine sq_y (OpY.s (y_assign (by exact rfl))) rfl ?_
        refine sq_nil ?_
        refine sx_then ?_
        refine sc_seq ?_
        refine sc_region ?_
        refine sq_y (OpY.s (by first | exact y_load_all Try.underlying24 rfl Try.sizeOf24 (by exact rfl) (by repeat (first | exact .head _ | refine .tail _ ?_)) (by exact rfl) | exact y_load_ca Try.underlying24 rfl Try.sizeOf24 (by exact rfl) (by repeat (first | exact .head _ | refine .tail _ ?_)) (by assumption) (by exact rfl))) rfl ?_
        refine sq_y (OpY.s (y_move (by exact rfl))) rfl ?_
        refine sq_y (OpY.s (y_move (by exact rfl))) rfl ?_
        refine sq_y (y_call (first := []) (caps := []) (by exact rfl) Try.call15 (EvL.cons (by exact rfl) (EvL.cons (by exact rfl) (EvL.cons (by exact rfl) EvL.nil))) (fun w1 hw1 => worked15y w1 _ r k m ((hT.at hw1 (by repeat (first | exact .head _ | refine .tail _ ?_))).rc i1 i2 i3) hok hk' hm2)) rfl ?_
        refine sq_y (OpY.s (y_move (by exact rfl))) rfl ?_
        refine sq_y (OpY.s (y_extract (by exact rfl) (by exact rfl))) rfl ?_
        refine sq_y (OpY.s (y_extract (by exact rfl) (by exact rfl))) rfl ?_
        refine sq_y (OpY.s (y_assign (by exact rfl))) rfl ?_
        refine sq_y (OpY.s (y_assign (by exact rfl))) rfl ?_
        refine sq_nil ?_
        refine sx_then ?_
        refine sc_seq ?_
        refine sc_region ?_
        refine sq_y (OpY.s (by first | exact y_load_all Try.underlying24 rfl Try.sizeOf24 (by exact rfl) (by repeat (first | exact .head _ | refine .tail _ ?_)) (by exact rfl) | exact y_load_ca Try.underlying24 rfl Try.sizeOf24 (by exact rfl) (by repeat (first | exact .head _ | refine .tail _ ?_)) (by assumption) (by exact rfl))) rfl ?_
        refine sq_y (OpY.s (y_move (by exact rfl))) rfl ?_
        refine sq_y (OpY.s (y_move (by exact rfl))) rfl ?_
        refine sq_y (OpY.s (y_move (by exact rfl))) rfl ?_
        refine sq_y (y_call (first := []) (caps := []) (by exact rfl) Try.call17 (EvL.cons (by exact rfl) (EvL.cons (by exact rfl) (EvL.cons (by exact rfl) (EvL.cons (by exact rfl) EvL.nil)))) (fun w1 hw1 => by
              obtain ⟨al, cl, hv, hcl, hl⟩ := (own_wvb hw1 (by repeat (first | exact .head _ | refine .tail _ ?_)) hlK (by omega))
              rw [hv]
              exact (count17z w1 r a c f cf al cl ls _ rfl k m hk' hm2 hE (hT.at hw1 (by repeat (first | exact .head _ | refine .tail _ ?_))) hl i1 i2 i3))) rfl ?_
        refine sq_y (OpY.s (y_move (by exact rfl))) rfl ?_
        refine sq_y (OpY.s (y_extract (by exact rfl) (by exact rfl))) rfl ?_
        refine sq_y (OpY.s (y_extract (by exact rfl) (by exact rfl))) rfl ?_
        refine sq_alloc Try.zeroValue32 rfl (fun b23 => ?_)
        refine sq_store_all Try.sizeOf32 (by exact rfl) (by exact rfl) rfl (by repeat (first | exact Rem.here | apply Rem.there)) rfl rfl ?_
        refine sq_y (OpY.s (y_assign (by exact rfl))) rfl ?_
        refine sq_nil ?_
        refine sx_then ?_
        refine sc_seq ?_
        refine sc_region ?_
        refine sq_y (OpY.s (by first | exact y_load_all Try.underlying24 rfl Try.sizeOf24 (by exact rfl) (by repeat (first | exact .head _ | refine .tail _ ?_)) (by exact rfl) | exact y_load_ca Try.underlying24 rfl Try.sizeOf24 (by exact rfl) (by repeat (first | exact .head _ | refine .tail _ ?_)) (by assumption) (by exact rfl))) rfl ?_
        refine sq_y (OpY.s (y_move (by exact rfl))) rfl ?_
        refine sq_y (OpY.s (y_move (by exact rfl))) rfl ?_
        refine sq_y (OpY.s (y_move (by exact rfl))) rfl ?_
        refine sq_y (y_call (first := []) (caps := []) (by exact rfl) Try.call19 (EvL.cons (by exact rfl) (EvL.cons (by exact rfl) (EvL.cons (by exact rfl) (EvL.cons (by exact rfl) EvL.nil)))) (fun w1 hw1 => by
              obtain ⟨al, cl, hv, hcl, hl⟩ := (own_wvb hw1 (by repeat (first | exact .head _ | refine .tail _ ?_)) hlK (by omega))
              rw [hv]
              exact (points19z w1 r a c f cf al cl ls _ rfl k m hk' hm2 hE (hT.at hw1 (by repeat (first | exact .head _ | refine .tail _ ?_))) hl i1 i2 i3))) rfl ?_
        refine sq_y (OpY.s (y_move (by exact rfl))) rfl ?_
        refine sq_y (OpY.s (y_extract (by exact rfl) (by exact rfl))) rfl ?_
        refine sq_y (OpY.s (y_extract (by exact rfl) (by exact rfl))) rfl ?_
        refine sq_alloc Try.zeroValue32 rfl (fun b25 => ?_)
        refine sq_store_all Try.sizeOf32 (by exact rfl) (by exact rfl) rfl (by repeat (first | exact Rem.here | apply Rem.there)) rfl rfl ?_
        refine sq_y (OpY.s (y_assign (by exact rfl))) rfl ?_
        refine sq_nil ?_
        refine sx_then ?_
        refine sc_seq ?_
        refine sc_seq ?_
        refine sc_region ?_
        refine sq_y (OpY.s (y_move (by exact rfl))) rfl ?_
        refine sq_y (OpY.s (y_neq (by exact rfl) (by exact rfl))) rfl ?_
        refine sq_y (OpY.s (y_move (by exact rfl))) rfl ?_
        refine sq_known (tt := 135) (b' := false) (by exact rfl) (by simp) ?_
        refine sq_gt (by exact rfl) (by exact rfl) (OpY.s (y_move (by exact rfl))) rfl ?_
        refine sq_gt (by exact rfl) (by exact rfl) (OpY.s (y_neq (by exact rfl) (by exact rfl))) rfl ?_
        refine sq_y (OpY.s (y_pick_f (by exact rfl) (by exact rfl))) rfl ?_
        refine sq_y (OpY.s (y_move (by exact rfl))) rfl ?_
        refine sq_known (tt := 139) (b' := false) (by exact rfl) (by simp) ?_
        refine sq_gt (by exact rfl) (by exact rfl) (OpY.s (y_move (by exact rfl))) rfl ?_
        refine sq_gt (by exact rfl) (by exact rfl) (OpY.s (y_neq (by exact rfl) (by exact rfl))) rfl ?_
        refine sq_y (OpY.s (y_pick_f (by exact rfl) (by exact rfl))) rfl ?_
        refine sq_y (OpY.s (y_move (by exact rfl))) rfl ?_
        refine sq_known (tt := 143) (b' := false) (by exact rfl) (by simp) ?_
        refine sq_gt (by exact rfl) (by exact rfl) (OpY.s (y_move (by exact rfl))) rfl ?_
        refine sq_gt (by exact rfl) (by exact rfl) (OpY.s (y_lss (by exact rfl) (by exact rfl))) rfl ?_
        refine sq_y (OpY.s (y_pick_f (by exact rfl) (by exact rfl))) rfl ?_
        refine sq_y (OpY.s (y_move (by exact rfl))) rfl ?_
        refine sq_known (tt := 147) (b' := false) (by exact rfl) (decide_eq_false (by omega)) ?_
        refine sq_gt (by exact rfl) (by exact rfl) (OpY.s (y_move (by exact rfl))) rfl ?_
        refine sq_gt (by exact rfl) (by exact rfl) (OpY.s (by first | exact y_fab Try.underlying24 (by exact rfl) (by exact Try.sizeOf3) (by exact rfl) rfl | exact y_fa Try.underlying24 (by exact rfl) (by exact Try.sizeOf3) (by exact rfl) rfl)) rfl ?_
        refine sq_gt (by exact rfl) (by exact rfl) (OpY.s (by first | exact y_load_blk Try.underlying3 rfl (by exact rfl) (by repeat (first | exact .head _ | refine .tail _ ?_)) (by exact rfl) | exact y_load_caj Try.underlying3 rfl (by exact rfl) (by repeat (first | exact .head _ | refine .tail _ ?_)) (by assumption) (by exact rfl) | exact y_load_ca0 Try.underlying3 rfl (by exact rfl) (by repeat (first | exact .head _ | refine .tail _ ?_)) (by assumption) (by exact rfl))) rfl ?_
        refine sq_gt (by exact rfl) (by exact rfl) (OpY.s (y_gtr (by exact rfl) (by exact rfl))) rfl ?_
        refine sq_y (OpY.s (y_pick_f (by exact rfl) (by exact rfl))) rfl ?_
        refine sq_nil ?_
        refine sx_then ?_
        refine sc_f (lk_bool rfl (decide_eq_false (by omega))) ?_
        refine sc_skip ?_
        refine sx_then ?_
        refine sc_seq ?_
        refine sc_draw rfl (by kernel_rfl) (by kernel_rfl) ?_
        refine qq_y (OpY.s (by first | exact y_load_all Try.underlying24 rfl Try.sizeOf24 (by exact rfl) (by repeat (first | exact .head _ | refine .tail _ ?_)) (by exact rfl) | exact y_load_ca Try.underlying24 rfl Try.sizeOf24 (by exact rfl) (by repeat (first | exact .head _ | refine .tail _ ?_)) (by assumption) (by exact rfl))) rfl ?_
        refine qq_y (OpY.s (y_move (by exact rfl))) rfl ?_
        refine qq_y (OpY.s (y_move (by exact rfl))) rfl ?_
        refine qq_y (OpY.s (y_move (by exact rfl))) rfl ?_
        refine qq_y (OpY.s (y_ia_own (i := k) Try.underlying50 Try.sizeOf51 (by exact rfl) (by repeat (first | exact .head _ | refine .tail _ ?_)) (by exact rfl) hk')) rfl ?_
        refine qq_y (OpY.s (by first | exact y_load_own0 Try.underlying51 rfl (by exact rfl) (by repeat (first | exact .head _ | refine .tail _ ?_)) hk' (by rw [Nat.mul_one]; exact hvk) | exact y_load_blk Try.underlying51 rfl (by exact rfl) (by repeat (first | exact .head _ | refine .tail _ ?_)) (by exact rfl) | exact y_load_caj Try.underlying51 rfl (by exact rfl) (by repeat (first | exact .head _ | refine .tail _ ?_)) (by assumption) (by exact rfl) | exact y_load_ca0 Try.underlying51 rfl (by exact rfl) (by repeat (first | exact .head _ | refine .tail _ ?_)) (by assumption) (by exact rfl))) rfl ?_
        refine qq_y (OpY.s (y_move (by exact rfl))) rfl ?_
        refine qq_y (y_call (first := []) (caps := []) (by exact rfl) Try.call34 (EvL.cons (by exact rfl) (EvL.cons (by exact rfl) (EvL.cons (by exact rfl) (EvL.cons (by exact rfl) EvL.nil)))) (fun w1 hw1 => by
              obtain ⟨hv1, hv2⟩ := own_intC hw1 (v := vk) (n := L + 1) (g := hasZ r bs k) (by repeat (first | exact hin | refine List.mem_cons_of_mem _ ?_))
              exact score34y w1 r a c f cf k vk (L + 1) (hasZ r bs k) (wrk r k m) _ rfl (hT.at hw1 (by repeat (first | exact .head _ | refine .tail _ ?_))) hok hk' hv1 hv2 (hwkL k) (by omega) (hHb k))) rfl ?_
        rw [← hnow]
        refine qq_y (OpY.s (y_assign (by exact rfl))) rfl ?_
        refine qq_nil ?_
        refine sx_then ?_
        refine sc_seq ?_
        refine sc_seq ?_
        refine sc_draw rfl (by kernel_rfl) (by kernel_rfl) ?_
        refine qq_y (OpY.s (y_move (by exact rfl))) rfl ?_
        refine qq_y (OpY.s (y_move (by exact rfl))) rfl ?_
        refine qq_y (OpY.s (y_ia_own (i := k) Try.underlying50 Try.sizeOf51 (by exact rfl) (by repeat (first | exact .head _ | refine .tail _ ?_)) (by exact rfl) hk')) rfl ?_
        refine qq_y (OpY.s (by first | exact y_load_own0 Try.underlying51 rfl (by exact rfl) (by repeat (first | exact .head _ | refine .tail _ ?_)) hk' (by rw [Nat.mul_one]; exact hvk) | exact y_load_blk Try.underlying51 rfl (by exact rfl) (by repeat (first | exact .head _ | refine .tail _ ?_)) (by exact rfl) | exact y_load_caj Try.underlying51 rfl (by exact rfl) (by repeat (first | exact .head _ | refine .tail _ ?_)) (by assumption) (by exact rfl) | exact y_load_ca0 Try.underlying51 rfl (by exact rfl) (by repeat (first | exact .head _ | refine .tail _ ?_)) (by assumption) (by exact rfl))) rfl ?_
        refine qq_y (OpY.s (y_move (by exact rfl))) rfl ?_
        refine qq_y (OpY.s (y_ia_own (i := wrk r k m) Try.underlying51 Try.sizeOf3 (by exact rfl) (by repeat (first | exact hin | refine List.mem_cons_of_mem _ ?_)) (by exact rfl) (hwkL k))) rfl ?_
        refine qq_y (OpY.s (by first | exact y_load_own0 Try.underlying3 rfl (by exact rfl) (by repeat (first | exact hin | refine List.mem_cons_of_mem _ ?_)) (hwkL k) (intC_get' (hwkL k)) | exact y_load_blk Try.underlying3 rfl (by exact rfl) (by repeat (first | exact .head _ | refine .tail _ ?_)) (by exact rfl) | exact y_load_caj Try.underlying3 rfl (by exact rfl) (by repeat (first | exact .head _ | refine .tail _ ?_)) (by assumption) (by exact rfl) | exact y_load_ca0 Try.underlying3 rfl (by exact rfl) (by repeat (first | exact .head _ | refine .tail _ ?_)) (by assumption) (by exact rfl))) rfl ?_
        refine qq_y (OpY.s (by first | exact y_fab Try.underlying32 (by exact rfl) (by exact Try.sizeOf3) (by exact rfl) rfl | exact y_fa Try.underlying32 (by exact rfl) (by exact Try.sizeOf3) (by exact rfl) rfl)) rfl ?_
        refine qq_y (OpY.s (by first | exact y_load_blk Try.underlying3 rfl (by exact rfl) (by repeat (first | exact .head _ | refine .tail _ ?_)) (by exact rfl) | exact y_load_caj Try.underlying3 rfl (by exact rfl) (by repeat (first | exact .head _ | refine .tail _ ?_)) (by assumption) (by exact rfl) | exact y_load_ca0 Try.underlying3 rfl (by exact rfl) (by repeat (first | exact .head _ | refine .tail _ ?_)) (by assumption) (by exact rfl))) rfl ?_
        refine qq_y (OpY.s (y_lss (by exact rfl) (by exact rfl))) rfl ?_
        refine qq_y (OpY.s (y_move (by exact rfl))) rfl ?_
        refine qq_known (tt := 171) (b' := false) (by exact rfl) (decide_eq_false (by omega)) ?_
        refine qq_gt (by exact rfl) (by exact rfl) (OpY.s (y_move (by exact rfl))) rfl ?_
        refine qq_gt (by exact rfl) (by exact rfl) (OpY.s (y_move (by exact rfl))) rfl ?_
        refine qq_gt (by exact rfl) (by exact rfl) (OpY.s (y_ia_own (i := k) Try.underlying50 Try.sizeOf51 (by exact rfl) (by repeat (first | exact .head _ | refine .tail _ ?_)) (by exact rfl) hk')) rfl ?_
        refine qq_gt (by exact rfl) (by exact rfl) (OpY.s (by first | exact y_load_own0 Try.underlying51 rfl (by exact rfl) (by repeat (first | exact .head _ | refine .tail _ ?_)) hk' (by rw [Nat.mul_one]; exact hvk) | exact y_load_blk Try.underlying51 rfl (by exact rfl) (by repeat (first | exact .head _ | refine .tail _ ?_)) (by exact rfl) | exact y_load_caj Try.underlying51 rfl (by exact rfl) (by repeat (first | exact .head _ | refine .tail _ ?_)) (by assumption) (by exact rfl) | exact y_load_ca0 Try.underlying51 rfl (by exact rfl) (by repeat (first | exact .head _ | refine .tail _ ?_)) (by assumption) (by exact rfl))) rfl ?_
        refine qq_gt (by exact rfl) (by exact rfl) (OpY.s (y_move (by exact rfl))) rfl ?_
        refine qq_gt (by exact rfl) (by exact rfl) (OpY.s (y_ia_own (i := wrk r k m) Try.underlying51 Try.sizeOf3 (by exact rfl) (by repeat (first | exact hin | refine List.mem_cons_of_mem _ ?_)) (by exact rfl) (hwkL k))) rfl ?_
        refine qq_gt (by exact rfl) (by exact rfl) (OpY.s (by first | exact y_load_own0 Try.underlying3 rfl (by exact rfl) (by repeat (first | exact hin | refine List.mem_cons_of_mem _ ?_)) (hwkL k) (intC_get' (hwkL k)) | exact y_load_blk Try.underlying3 rfl (by exact rfl) (by repeat (first | exact .head _ | refine .tail _ ?_)) (by exact rfl) | exact y_load_caj Try.underlying3 rfl (by exact rfl) (by repeat (first | exact .head _ | refine .tail _ ?_)) (by assumption) (by exact rfl) | exact y_load_ca0 Try.underlying3 rfl (by exact rfl) (by repeat (first | exact .head _ | refine .tail _ ?_)) (by assumption) (by exact rfl))) rfl ?_
        refine qq_gt (by exact rfl) (by exact rfl) (OpY.s (by first | exact y_fab Try.underlying32 (by exact rfl) (by exact Try.sizeOf3) (by exact rfl) rfl | exact y_fa Try.underlying32 (by exact rfl) (by exact Try.sizeOf3) (by exact rfl) rfl)) rfl ?_
        refine qq_gt (by exact rfl) (by exact rfl) (OpY.s (by first | exact y_load_blk Try.underlying3 rfl (by exact rfl) (by repeat (first | exact .head _ | refine .tail _ ?_)) (by exact rfl) | exact y_load_caj Try.underlying3 rfl (by exact rfl) (by repeat (first | exact .head _ | refine .tail _ ?_)) (by assumption) (by exact rfl) | exact y_load_ca0 Try.underlying3 rfl (by exact rfl) (by repeat (first | exact .head _ | refine .tail _ ?_)) (by assumption) (by exact rfl))) rfl ?_
        refine qq_gt (by exact rfl) (by exact rfl) (OpY.s (y_gtr (by exact rfl) (by exact rfl))) rfl ?_
        refine qq_y (OpY.s (y_pick_f (by exact rfl) (by exact rfl))) rfl ?_
        refine qq_y (OpY.s (y_move (by exact rfl))) rfl ?_
        refine qq_known (tt := 183) (b' := false) (by exact rfl) (decide_eq_false (by omega)) ?_
        refine qq_gt (by exact rfl) (by exact rfl) (OpY.s (y_move (by exact rfl))) rfl ?_
        refine qq_gt (by exact rfl) (by exact rfl) (OpY.s (by first | exact y_fab Try.underlying32 (by exact rfl) (by exact Try.sizeOf3) (by exact rfl) rfl | exact y_fa Try.underlying32 (by exact rfl) (by exact Try.sizeOf3) (by exact rfl) rfl)) rfl ?_
        refine qq_gt (by exact rfl) (by exact rfl) (OpY.s (by first | exact y_load_blk Try.underlying3 rfl (by exact rfl) (by repeat (first | exact .head _ | refine .tail _ ?_)) (by exact rfl) | exact y_load_caj Try.underlying3 rfl (by exact rfl) (by repeat (first | exact .head _ | refine .tail _ ?_)) (by assumption) (by exact rfl) | exact y_load_ca0 Try.underlying3 rfl (by exact rfl) (by repeat (first | exact .head _ | refine .tail _ ?_)) (by assumption) (by exact rfl))) rfl ?_
        refine qq_gt (by exact rfl) (by exact rfl) (OpY.s (y_lss (by exact rfl) (by exact rfl))) rfl ?_
        refine qq_y (OpY.s (y_pick_f (by exact rfl) (by exact rfl))) rfl ?_
        refine qq_y (OpY.s (y_move (by exact rfl))) rfl ?_
        refine qq_known (tt := 189) (b' := false) (by exact rfl) (decide_eq_false (by omega)) ?_
        refine qq_gt (by exact rfl) (by exact rfl) (OpY.s (y_move (by exact rfl))) rfl ?_
        refine qq_gt (by exact rfl) (by exact rfl) (OpY.s (by first | exact y_fab Try.underlying32 (by exact rfl) (by exact Try.sizeOf3) (by exact rfl) rfl | exact y_fa Try.underlying32 (by exact rfl) (by exact Try.sizeOf3) (by exact rfl) rfl)) rfl ?_
        refine qq_gt (by exact rfl) (by exact rfl) (OpY.s (by first | exact y_load_blk Try.underlying3 rfl (by exact rfl) (by repeat (first | exact .head _ | refine .tail _ ?_)) (by exact rfl) | exact y_load_caj Try.underlying3 rfl (by exact rfl) (by repeat (first | exact .head _ | refine .tail _ ?_)) (by assumption) (by exact rfl) | exact y_load_ca0 Try.underlying3 rfl (by exact rfl) (by repeat (first | exact .head _ | refine .tail _ ?_)) (by assumption) (by exact rfl))) rfl ?_
        refine qq_gt (by exact rfl) (by exact rfl) (OpY.s (y_gtr (by exact rfl) (by exact rfl))) rfl ?_
        refine qq_y (OpY.s (y_pick_f (by exact rfl) (by exact rfl))) rfl ?_
        refine qq_nil ?_
        refine sx_then ?_
        refine sc_f (lk_bool rfl (decide_eq_false (by omega))) ?_
        refine sc_skip ?_
        refine sx_then ?_
        refine sc_drawX (.own vh 51 1 r.teams.length (iv.reverse.map (·.1)) :: .blk b3 (.cells (rcVal r a c).toArray 24 (0, 0)) :: .reg 0 w :: innerH L iv) (by kernel_rfl) ?_
        refine xj_s 0 (by exact rfl) (by kernel_rfl) (by repeat (first | exact Sel.refl _ | exact Sel.nil | refine Sel.cons (by repeat (first | exact Rem.here | apply Rem.there)) ?_ | refine Sel.skip ?_)) (y_move (by exact rfl)) rfl ?_
        refine xj_s 1 (by exact rfl) (by kernel_rfl) (by repeat (first | exact Sel.refl _ | exact Sel.nil | refine Sel.cons (by repeat (first | exact Rem.here | apply Rem.there)) ?_ | refine Sel.skip ?_)) (y_move (by exact rfl)) rfl ?_
        refine xj_s 4 (by exact rfl) (by kernel_rfl) (by repeat (first | exact Sel.refl _ | exact Sel.nil | refine Sel.cons (by repeat (first | exact Rem.here | apply Rem.there)) ?_ | refine Sel.skip ?_)) (y_move (by exact rfl)) rfl ?_
        refine xj_s 5 (by exact rfl) (by kernel_rfl) (by repeat (first | exact Sel.refl _ | exact Sel.nil | refine Sel.cons (by repeat (first | exact Rem.here | apply Rem.there)) ?_ | refine Sel.skip ?_)) (by first | exact y_load_all Try.underlying24 rfl Try.sizeOf24 (by exact rfl) (by repeat (first | exact .head _ | refine .tail _ ?_)) (by exact rfl) | exact y_load_ca Try.underlying24 rfl Try.sizeOf24 (by exact rfl) (by repeat (first | exact .head _ | refine .tail _ ?_)) (by assumption) (by exact rfl)) rfl ?_
        refine xj_s 6 (by exact rfl) (by kernel_rfl) (by repeat (first | exact Sel.refl _ | exact Sel.nil | refine Sel.cons (by repeat (first | exact Rem.here | apply Rem.there)) ?_ | refine Sel.skip ?_)) (y_move (by exact rfl)) rfl ?_
        refine xj_s 7 (by exact rfl) (by kernel_rfl) (by repeat (first | exact Sel.refl _ | exact Sel.nil | refine Sel.cons (by repeat (first | exact Rem.here | apply Rem.there)) ?_ | refine Sel.skip ?_)) (y_move (by exact rfl)) rfl ?_
        refine xj_s 8 (by exact rfl) (by kernel_rfl) (by repeat (first | exact Sel.refl _ | exact Sel.nil | refine Sel.cons (by repeat (first | exact Rem.here | apply Rem.there)) ?_ | refine Sel.skip ?_)) (y_move (by exact rfl)) rfl ?_
        refine xj_s 9 (by exact rfl) (by kernel_rfl) (by repeat (first | exact Sel.refl _ | exact Sel.nil | refine Sel.cons (by repeat (first | exact Rem.here | apply Rem.there)) ?_ | refine Sel.skip ?_)) (y_ia_own (i := k) Try.underlying50 Try.sizeOf51 (by exact rfl) (by repeat (first | exact .head _ | refine .tail _ ?_)) (by exact rfl) hk') rfl ?_
        refine xj_s 10 (by exact rfl) (by kernel_rfl) (by repeat (first | exact Sel.refl _ | exact Sel.nil | refine Sel.cons (by repeat (first | exact Rem.here | apply Rem.there)) ?_ | refine Sel.skip ?_)) (by first | exact y_load_own0 Try.underlying51 rfl (by exact rfl) (by repeat (first | exact .head _ | refine .tail _ ?_)) hk' (by rw [Nat.mul_one]; exact hvk) | exact y_load_blk Try.underlying51 rfl (by exact rfl) (by repeat (first | exact .head _ | refine .tail _ ?_)) (by exact rfl) | exact y_load_caj Try.underlying51 rfl (by exact rfl) (by repeat (first | exact .head _ | refine .tail _ ?_)) (by assumption) (by exact rfl) | exact y_load_ca0 Try.underlying51 rfl (by exact rfl) (by repeat (first | exact .head _ | refine .tail _ ?_)) (by assumption) (by exact rfl)) rfl ?_
        refine xj_s 11 (by exact rfl) (by kernel_rfl) (by repeat (first | exact Sel.refl _ | exact Sel.nil | refine Sel.cons (by repeat (first | exact Rem.here | apply Rem.there)) ?_ | refine Sel.skip ?_)) (by first | exact y_fab Try.underlying24 (by exact rfl) (by exact Try.sizeOf3) (by exact rfl) rfl | exact y_fa Try.underlying24 (by exact rfl) (by exact Try.sizeOf3) (by exact rfl) rfl) rfl ?_
        refine xj_s 12 (by exact rfl) (by kernel_rfl) (by repeat (first | exact Sel.refl _ | exact Sel.nil | refine Sel.cons (by repeat (first | exact Rem.here | apply Rem.there)) ?_ | refine Sel.skip ?_)) (by first | exact y_load_blk Try.underlying3 rfl (by exact rfl) (by repeat (first | exact .head _ | refine .tail _ ?_)) (by exact rfl) | exact y_load_caj Try.underlying3 rfl (by exact rfl) (by repeat (first | exact .head _ | refine .tail _ ?_)) (by assumption) (by exact rfl) | exact y_load_ca0 Try.underlying3 rfl (by exact rfl) (by repeat (first | exact .head _ | refine .tail _ ?_)) (by assumption) (by exact rfl)) rfl ?_
        refine xj_one 2 (by exact rfl) (by kernel_rfl) ?_
        refine sq_bs Try.underlying51 ei3 (EvI.cons (by exact rfl) EvI.nil) (by first | (simp [Value.cells]; done) | (simp [Value.cells]; rfl) | (simp [Value.cells]; and_intros <;> rfl)) rfl rfl rfl (fun b197 => ?_)
        refine sq_nil ?_
        refine sx_xp (by repeat (first | exact Sel.refl _ | exact Sel.nil | refine Sel.cons (by repeat (first | exact Rem.here | apply Rem.there)) ?_ | refine Sel.skip ?_)) ?_
        refine xj_one 3 (by exact rfl) (by kernel_rfl) ?_
        refine sq_append (news := [.int .i64 (now k)]) Try.underlying51 ei3 rfl (by decide) (by exact rfl) (by repeat (first | exact Rem.here | apply Rem.there)) (by exact rfl) rfl (fun _ hw => news_blk hw (by repeat (first | exact .head _ | refine .tail _ ?_))) (by simp [Value.oneCell']) (by omega) rfl (fun v198 ho198 => ?_)
        refine sq_nil ?_
        refine sx_xp (by repeat (first | exact Sel.refl _ | exact Sel.nil | refine Sel.cons (by repeat (first | exact Rem.here | apply Rem.there)) ?_ | refine Sel.skip ?_)) ?_
        rw [intC_snoc]
        refine xj_one 13 (by exact rfl) (by kernel_rfl) ?_
        refine sq_y (y_call (first := []) (caps := []) (by exact rfl) Try.call34 (EvL.cons (by exact rfl) (EvL.cons (by exact rfl) (EvL.cons (by exact rfl) (EvL.cons (by exact rfl) EvL.nil)))) (fun w1 hw1 => by
              obtain ⟨hv1, hv2⟩ := own_intC hw1 (v := vk) (n := L + 1) (g := hasZ r bs k) (by repeat (first | exact hin | refine List.mem_cons_of_mem _ ?_))
              exact score34y w1 r a c f cf k vk (L + 1) (hasZ r bs k) L _ hL (hT.at hw1 (by repeat (first | exact .head _ | refine .tail _ ?_))) hok hk' hv1 hv2 (by omega) (by omega) (hHb k))) rfl ?_
        refine sq_nil ?_
        refine sx_xp (by repeat (first | exact Sel.refl _ | exact Sel.nil | refine Sel.cons (by repeat (first | exact Rem.here | apply Rem.there)) ?_ | refine Sel.skip ?_)) ?_
        rw [← hfin]
        refine xj_one 14 (by exact rfl) (by kernel_rfl) ?_
        refine sq_bs Try.underlying51 ei3 (EvI.cons (by exact rfl) EvI.nil) (by first | (simp [Value.cells]; done) | (simp [Value.cells]; rfl) | (simp [Value.cells]; and_intros <;> rfl)) rfl rfl rfl (fun b209 => ?_)
        refine sq_nil ?_
        refine sx_xp (by repeat (first | exact Sel.refl _ | exact Sel.nil | refine Sel.cons (by repeat (first | exact Rem.here | apply Rem.there)) ?_ | refine Sel.skip ?_)) ?_
        refine xj_one 15 (by exact rfl) (by kernel_rfl) ?_
        refine sq_append (news := [.int .i64 (fin k)]) Try.underlying51 ei3 rfl (by decide) (by exact rfl) (by repeat (first | exact Rem.here | apply Rem.there)) (by exact rfl) rfl (fun _ hw => news_blk hw (by repeat (first | exact .head _ | refine .tail _ ?_))) (by simp [Value.oneCell']) (by omega) rfl (fun v210 ho210 => ?_)
        refine sq_nil ?_
        refine sx_xp (by repeat (first | exact Sel.refl _ | exact Sel.nil | refine Sel.cons (by repeat (first | exact Rem.here | apply Rem.there)) ?_ | refine Sel.skip ?_)) ?_
        rw [intC_snoc]
        refine xj_s 16 (by exact rfl) (by kernel_rfl) (by repeat (first | exact Sel.refl _ | exact Sel.nil | refine Sel.cons (by repeat (first | exact Rem.here | apply Rem.there)) ?_ | refine Sel.skip ?_)) (y_assign (by exact rfl)) rfl ?_
        refine xj_s 17 (by exact rfl) (by kernel_rfl) (by repeat (first | exact Sel.refl _ | exact Sel.nil | refine Sel.cons (by repeat (first | exact Rem.here | apply Rem.there)) ?_ | refine Sel.skip ?_)) (y_assign (by exact rfl)) rfl ?_
        refine xj_done (by kernel_rfl) ?_
        refine sx_blk ?_
        refine sx_then ?_
        refine sc_region ?_
        refine sq_y (OpY.s (y_add (by exact rfl) (by exact rfl) (by omega))) rfl ?_
        refine sq_y (OpY.s (y_move (by exact rfl))) rfl ?_
        refine sq_nil ?_
        refine sx_round ((k + 1, v198, v210)) ?_ ?_ (by repeat (first | exact SubL.nil | refine SubL.cons (by first | exact rfl | exact lk_int rfl (by omega) | exact lk_eq rfl (by simp)) ?_)) (by repeat (first | exact Sel.refl _ | exact Sel.nil | refine Sel.cons (by repeat (first | exact Rem.here | apply Rem.there)) ?_ | refine Sel.skip ?_))
        · show k + 1 ≤ r.teams.length; omega
        · show r.teams.length - (k + 1) < r.teams.length - k; omega
      ·
        have hkn : k = r.teams.length := by omega
        subst hkn
        refine sc_exit ?_
        refine sx_then_exit ?_
        refine sx_round_exit ?_
        refine sx_blk_hit ?_
        refine sx_then ?_
        refine sc_seq ?_
        refine sc_seq ?_
        refine sc_region ?_
        refine sq_y (OpY.s (by first | exact y_fab Try.underlying24 (by exact rfl) (by exact Try.sizeOf22) (by exact rfl) rfl | exact y_fa Try.underlying24 (by exact rfl) (by exact Try.sizeOf22) (by exact rfl) rfl)) rfl ?_
        refine sq_y (OpY.s (by first | exact y_load_blk Try.underlying22 rfl (by exact rfl) (by repeat (first | exact .head _ | refine .tail _ ?_)) (by exact rfl) | exact y_load_caj Try.underlying22 rfl (by exact rfl) (by repeat (first | exact .head _ | refine .tail _ ?_)) (by assumption) (by exact rfl) | exact y_load_ca0 Try.underlying22 rfl (by exact rfl) (by repeat (first | exact .head _ | refine .tail _ ?_)) (by assumption) (by exact rfl))) rfl ?_
        refine sq_y (OpY.s (y_len Try.underlying22 (by exact rfl))) rfl ?_
        refine sq_y (OpY.s (y_move (by exact rfl))) rfl ?_
        refine sq_nil ?_
        refine sx_then ?_
        refine sc_block ?_
        refine sc_loop (σ := Nat)
          (fun s => [(3, .pointer (some ⟨b3, 0, none⟩)), (11, .slice zr1.1 (ranksL r ls m).length zr1.2), (13, .int .i64 (winS r ls : Nat)), (14, .int .i64 (winC r ls : Nat)), (18, vn), (19, vf), (213, .slice a r.teams.length c), (214, .int .i64 r.teams.length), (215, .int .i64 s)])
          (fun s => [.own vn 3 1 r.teams.length (intC r.teams.length now), .own vf 3 1 r.teams.length (intC r.teams.length fin), .reg lr1 wr1, .blk b3 (.cells (rcVal r a c).toArray 24 (0, 0)), .reg 0 w])
          (fun s => s ≤ r.teams.length)
          (fun s => r.teams.length - s)
          (0) ?_ (by repeat (first | exact SubL.nil | refine SubL.cons (by first | exact rfl | exact lk_int rfl (by omega) | exact lk_eq rfl (by simp)) ?_)) (by repeat (first | exact Sel.refl _ | exact Sel.nil | refine Sel.cons (by repeat (first | exact Rem.here | apply Rem.there)) ?_ | refine Sel.skip ?_)) ?_
        · exact Nat.zero_le _
        rintro k hk
        refine sc_seq ?_
        refine sc_region ?_
        refine sq_y (OpY.s (y_lss (by exact rfl) (by exact rfl))) rfl ?_
        refine sq_nil ?_
        refine sx_then ?_
        refine sc_seq ?_
        first | refine sc_if (by exact rfl) (fun hc6 => ?_) (fun hc6 => ?_) | refine sc_ifn (by exact rfl) (fun hc6 => ?_) (fun hc6 => ?_) | refine sc_cond (by exact rfl) (fun hc6 => ?_) (fun hc6 => ?_)
        ·
          have hk' : k < r.teams.length := by omega
          obtain ⟨x, hx⟩ : ∃ x, (ranksL r ls m)[k]? = some x := ⟨_, List.getElem?_eq_getElem (by omega)⟩
          have hsx := (hr1.el k x hx).1
          have hcx := (hr1.el k x hx).2
          have hrk := rank_true hgN (show k < (scoreL r ls fun t => wrk r t m).length by rw [scoreL_len]; exact hk')
          rw [← hR, getD_of hx, scoreL_len] at hrk
          refine sc_skip ?_
          refine sx_then ?_
          refine sc_seq ?_
          refine sc_block ?_
          refine sc_seq ?_
          refine sc_region ?_
          refine sq_y (OpY.s (y_move (by exact rfl))) rfl ?_
          refine sq_y (OpY.s (y_assign (by exact rfl))) rfl ?_
          refine sq_nil ?_
          refine sx_then ?_
          refine sc_seq ?_
          refine sc_region ?_
          refine sq_y (OpY.s (y_assign (by exact rfl))) rfl ?_
          refine sq_y (OpY.s (y_assign (by exact rfl))) rfl ?_
          refine sq_nil ?_
          refine sx_then ?_
          refine sc_seq ?_
          refine sc_seq ?_
          refine sc_region ?_
          refine sq_y (OpY.s (by first | exact y_fab Try.underlying24 (by exact rfl) (by exact Try.sizeOf22) (by exact rfl) rfl | exact y_fa Try.underlying24 (by exact rfl) (by exact Try.sizeOf22) (by exact rfl) rfl)) rfl ?_
          refine sq_y (OpY.s (by first | exact y_load_blk Try.underlying22 rfl (by exact rfl) (by repeat (first | exact .head _ | refine .tail _ ?_)) (by exact rfl) | exact y_load_caj Try.underlying22 rfl (by exact rfl) (by repeat (first | exact .head _ | refine .tail _ ?_)) (by assumption) (by exact rfl) | exact y_load_ca0 Try.underlying22 rfl (by exact rfl) (by repeat (first | exact .head _ | refine .tail _ ?_)) (by assumption) (by exact rfl))) rfl ?_
          refine sq_y (OpY.s (y_len Try.underlying22 (by exact rfl))) rfl ?_
          refine sq_y (OpY.s (y_move (by exact rfl))) rfl ?_
          refine sq_nil ?_
          refine sx_then ?_
          refine sc_block ?_
          refine sc_loop (σ := Nat)
            (fun s => [(3, .pointer (some ⟨b3, 0, none⟩)), (11, .slice zr1.1 (ranksL r ls m).length zr1.2), (13, .int .i64 (winS r ls : Nat)), (14, .int .i64 (winC r ls : Nat)), (18, vn), (19, vf), (28, .int .i64 k), (29, .int .i64 (rkT now s k)), (30, .int .i64 (rkT fin s k)), (213, .slice a r.teams.length c), (214, .int .i64 r.teams.length), (215, .int .i64 k), (219, .slice a r.teams.length c), (220, .int .i64 r.teams.length), (221, .int .i64 s)])
            (fun s => [.own vn 3 1 r.teams.length (intC r.teams.length now), .own vf 3 1 r.teams.length (intC r.teams.length fin), .reg lr1 wr1, .blk b3 (.cells (rcVal r a c).toArray 24 (0, 0)), .reg 0 w])
            (fun s => s ≤ r.teams.length)
            (fun s => r.teams.length - s)
            (0) ?_ (by repeat (first | exact SubL.nil | refine SubL.cons (by first | exact rfl | exact lk_int rfl (by first | omega | rfl | simp [rkT])) ?_)) (by repeat (first | exact Sel.refl _ | exact Sel.nil | refine Sel.cons (by repeat (first | exact Rem.here | apply Rem.there)) ?_ | refine Sel.skip ?_)) ?_
          · exact Nat.zero_le _
          rintro j hj
          refine sc_seq ?_
          refine sc_region ?_
          refine sq_y (OpY.s (y_lss (by exact rfl) (by exact rfl))) rfl ?_
          refine sq_nil ?_
          refine sx_then ?_
          refine sc_seq ?_
          first | refine sc_if (by exact rfl) (fun hc7 => ?_) (fun hc7 => ?_) | refine sc_ifn (by exact rfl) (fun hc7 => ?_) (fun hc7 => ?_) | refine sc_cond (by exact rfl) (fun hc7 => ?_) (fun hc7 => ?_)
          ·
            have hj' : j < r.teams.length := by omega
            have hb1 := rkT_bd now j k
            have hb2 := rkT_bd fin j k
            refine sc_skip ?_
            refine sx_then ?_
            refine sc_seq ?_
            refine sc_block ?_
            refine sc_seq ?_
            refine sc_region ?_
            refine sq_y (OpY.s (y_move (by exact rfl))) rfl ?_
            refine sq_y (OpY.s (y_assign (by exact rfl))) rfl ?_
            refine sq_nil ?_
            refine sx_then ?_
            refine sc_seq ?_
            refine sc_seq ?_
            refine sc_draw rfl (by kernel_rfl) (by kernel_rfl) ?_
            refine qq_y (OpY.s (y_move (by exact rfl))) rfl ?_
            refine qq_y (OpY.s (y_move (by exact rfl))) rfl ?_
            refine qq_y (OpY.s (y_ia_own (i := j) Try.underlying51 Try.sizeOf3 (by exact rfl) (by repeat (first | exact .head _ | refine .tail _ ?_)) (by exact rfl) (by omega))) rfl ?_
            refine qq_y (OpY.s (by first | exact y_load_own0 (i := j) Try.underlying3 rfl (by exact rfl) (by repeat (first | exact .head _ | refine .tail _ ?_)) (by omega) (intC_get' (by omega)) | exact y_load_blk Try.underlying3 rfl (by exact rfl) (by repeat (first | exact .head _ | refine .tail _ ?_)) (by exact rfl) | exact y_load_caj Try.underlying3 rfl (by exact rfl) (by repeat (first | exact .head _ | refine .tail _ ?_)) (by assumption) (by exact rfl) | exact y_load_ca0 Try.underlying3 rfl (by exact rfl) (by repeat (first | exact .head _ | refine .tail _ ?_)) (by assumption) (by exact rfl))) rfl ?_
            refine qq_y (OpY.s (y_move (by exact rfl))) rfl ?_
            refine qq_y (OpY.s (y_move (by exact rfl))) rfl ?_
            refine qq_y (OpY.s (y_ia_own (i := k) Try.underlying51 Try.sizeOf3 (by exact rfl) (by repeat (first | exact .head _ | refine .tail _ ?_)) (by exact rfl) (by omega))) rfl ?_
            refine qq_y (OpY.s (by first | exact y_load_own0 (i := k) Try.underlying3 rfl (by exact rfl) (by repeat (first | exact .head _ | refine .tail _ ?_)) (by omega) (intC_get' (by omega)) | exact y_load_blk Try.underlying3 rfl (by exact rfl) (by repeat (first | exact .head _ | refine .tail _ ?_)) (by exact rfl) | exact y_load_caj Try.underlying3 rfl (by exact rfl) (by repeat (first | exact .head _ | refine .tail _ ?_)) (by assumption) (by exact rfl) | exact y_load_ca0 Try.underlying3 rfl (by exact rfl) (by repeat (first | exact .head _ | refine .tail _ ?_)) (by assumption) (by exact rfl))) rfl ?_
            refine qq_y (OpY.s (y_gtr (by exact rfl) (by exact rfl))) rfl ?_
            refine qq_nil ?_
            refine sx_then ?_
            first | refine sc_if (by exact rfl) (fun hc8 => ?_) (fun hc8 => ?_) | refine sc_ifn (by exact rfl) (fun hc8 => ?_) (fun hc8 => ?_) | refine sc_cond (by exact rfl) (fun hc8 => ?_) (fun hc8 => ?_)
            ·
              have hS : rkT now j k + 1 = rkT now (j + 1) k := by rw [rkT_succ, if_pos hc8]
              refine sc_region ?_
              refine sq_y (OpY.s (y_move (by exact rfl))) rfl ?_
              refine sq_y (OpY.s (y_add (by exact rfl) (by exact rfl) (by omega))) rfl ?_
              refine sq_y (OpY.s (y_assign (by exact rfl))) rfl ?_
              refine sq_nil ?_
              refine sx_then ?_
              refine sc_seq ?_
              refine sc_draw rfl (by kernel_rfl) (by kernel_rfl) ?_
              refine qq_y (OpY.s (y_move (by exact rfl))) rfl ?_
              refine qq_y (OpY.s (y_move (by exact rfl))) rfl ?_
              refine qq_y (OpY.s (y_ia_own (i := j) Try.underlying51 Try.sizeOf3 (by exact rfl) (by repeat (first | exact .head _ | refine .tail _ ?_)) (by exact rfl) (by omega))) rfl ?_
              refine qq_y (OpY.s (by first | exact y_load_own0 (i := j) Try.underlying3 rfl (by exact rfl) (by repeat (first | exact .head _ | refine .tail _ ?_)) (by omega) (intC_get' (by omega)) | exact y_load_blk Try.underlying3 rfl (by exact rfl) (by repeat (first | exact .head _ | refine .tail _ ?_)) (by exact rfl) | exact y_load_caj Try.underlying3 rfl (by exact rfl) (by repeat (first | exact .head _ | refine .tail _ ?_)) (by assumption) (by exact rfl) | exact y_load_ca0 Try.underlying3 rfl (by exact rfl) (by repeat (first | exact .head _ | refine .tail _ ?_)) (by assumption) (by exact rfl))) rfl ?_
              refine qq_y (OpY.s (y_move (by exact rfl))) rfl ?_
              refine qq_y (OpY.s (y_move (by exact rfl))) rfl ?_
              refine qq_y (OpY.s (y_ia_own (i := k) Try.underlying51 Try.sizeOf3 (by exact rfl) (by repeat (first | exact .head _ | refine .tail _ ?_)) (by exact rfl) (by omega))) rfl ?_
              refine qq_y (OpY.s (by first | exact y_load_own0 (i := k) Try.underlying3 rfl (by exact rfl) (by repeat (first | exact .head _ | refine .tail _ ?_)) (by omega) (intC_get' (by omega)) | exact y_load_blk Try.underlying3 rfl (by exact rfl) (by repeat (first | exact .head _ | refine .tail _ ?_)) (by exact rfl) | exact y_load_caj Try.underlying3 rfl (by exact rfl) (by repeat (first | exact .head _ | refine .tail _ ?_)) (by assumption) (by exact rfl) | exact y_load_ca0 Try.underlying3 rfl (by exact rfl) (by repeat (first | exact .head _ | refine .tail _ ?_)) (by assumption) (by exact rfl))) rfl ?_
              refine qq_y (OpY.s (y_gtr (by exact rfl) (by exact rfl))) rfl ?_
              refine qq_nil ?_
              refine sx_then ?_
              first | refine sc_if (by exact rfl) (fun hc9 => ?_) (fun hc9 => ?_) | refine sc_ifn (by exact rfl) (fun hc9 => ?_) (fun hc9 => ?_) | refine sc_cond (by exact rfl) (fun hc9 => ?_) (fun hc9 => ?_)
              ·
                have hC : rkT fin j k + 1 = rkT fin (j + 1) k := by rw [rkT_succ, if_pos hc9]
                refine sc_region ?_
                refine sq_y (OpY.s (y_move (by exact rfl))) rfl ?_
                refine sq_y (OpY.s (y_add (by exact rfl) (by exact rfl) (by omega))) rfl ?_
                refine sq_y (OpY.s (y_assign (by exact rfl))) rfl ?_
                refine sq_nil ?_
                refine sx_blk ?_
                refine sx_then ?_
                refine sc_region ?_
                refine sq_y (OpY.s (y_add (by exact rfl) (by exact rfl) (by omega))) rfl ?_
                refine sq_y (OpY.s (y_move (by exact rfl))) rfl ?_
                refine sq_nil ?_
                refine sx_round (j + 1) ?_ ?_ (by repeat (first | exact SubL.nil | refine SubL.cons (by first | exact rfl | exact lk_int rfl hS | exact lk_int rfl hC | exact lk_int rfl (by omega)) ?_)) (by repeat (first | exact Sel.refl _ | exact Sel.nil | refine Sel.cons (by repeat (first | exact Rem.here | apply Rem.there)) ?_ | refine Sel.skip ?_))
                · omega
                · omega
              ·
                have hC : rkT fin j k = rkT fin (j + 1) k := by rw [rkT_succ, if_neg hc9]; omega
                refine sc_skip ?_
                refine sx_blk ?_
                refine sx_then ?_
                refine sc_region ?_
                refine sq_y (OpY.s (y_add (by exact rfl) (by exact rfl) (by omega))) rfl ?_
                refine sq_y (OpY.s (y_move (by exact rfl))) rfl ?_
                refine sq_nil ?_
                refine sx_round (j + 1) ?_ ?_ (by repeat (first | exact SubL.nil | refine SubL.cons (by first | exact rfl | exact lk_int rfl hS | exact lk_int rfl hC | exact lk_int rfl (by omega)) ?_)) (by repeat (first | exact Sel.refl _ | exact Sel.nil | refine Sel.cons (by repeat (first | exact Rem.here | apply Rem.there)) ?_ | refine Sel.skip ?_))
                · omega
                · omega
            ·
              have hS : rkT now j k = rkT now (j + 1) k := by rw [rkT_succ, if_neg hc8]; omega
              refine sc_skip ?_
              refine sx_then ?_
              refine sc_seq ?_
              refine sc_draw rfl (by kernel_rfl) (by kernel_rfl) ?_
              refine qq_y (OpY.s (y_move (by exact rfl))) rfl ?_
              refine qq_y (OpY.s (y_move (by exact rfl))) rfl ?_
              refine qq_y (OpY.s (y_ia_own (i := j) Try.underlying51 Try.sizeOf3 (by exact rfl) (by repeat (first | exact .head _ | refine .tail _ ?_)) (by exact rfl) (by omega))) rfl ?_
              refine qq_y (OpY.s (by first | exact y_load_own0 (i := j) Try.underlying3 rfl (by exact rfl) (by repeat (first | exact .head _ | refine .tail _ ?_)) (by omega) (intC_get' (by omega)) | exact y_load_blk Try.underlying3 rfl (by exact rfl) (by repeat (first | exact .head _ | refine .tail _ ?_)) (by exact rfl) | exact y_load_caj Try.underlying3 rfl (by exact rfl) (by repeat (first | exact .head _ | refine .tail _ ?_)) (by assumption) (by exact rfl) | exact y_load_ca0 Try.underlying3 rfl (by exact rfl) (by repeat (first | exact .head _ | refine .tail _ ?_)) (by assumption) (by exact rfl))) rfl ?_
              refine qq_y (OpY.s (y_move (by exact rfl))) rfl ?_
              refine qq_y (OpY.s (y_move (by exact rfl))) rfl ?_
              refine qq_y (OpY.s (y_ia_own (i := k) Try.underlying51 Try.sizeOf3 (by exact rfl) (by repeat (first | exact .head _ | refine .tail _ ?_)) (by exact rfl) (by omega))) rfl ?_
              refine qq_y (OpY.s (by first | exact y_load_own0 (i := k) Try.underlying3 rfl (by exact rfl) (by repeat (first | exact .head _ | refine .tail _ ?_)) (by omega) (intC_get' (by omega)) | exact y_load_blk Try.underlying3 rfl (by exact rfl) (by repeat (first | exact .head _ | refine .tail _ ?_)) (by exact rfl) | exact y_load_caj Try.underlying3 rfl (by exact rfl) (by repeat (first | exact .head _ | refine .tail _ ?_)) (by assumption) (by exact rfl) | exact y_load_ca0 Try.underlying3 rfl (by exact rfl) (by repeat (first | exact .head _ | refine .tail _ ?_)) (by assumption) (by exact rfl))) rfl ?_
              refine qq_y (OpY.s (y_gtr (by exact rfl) (by exact rfl))) rfl ?_
              refine qq_nil ?_
              refine sx_then ?_
              first | refine sc_if (by exact rfl) (fun hc9 => ?_) (fun hc9 => ?_) | refine sc_ifn (by exact rfl) (fun hc9 => ?_) (fun hc9 => ?_) | refine sc_cond (by exact rfl) (fun hc9 => ?_) (fun hc9 => ?_)
              ·
                have hC : rkT fin j k + 1 = rkT fin (j + 1) k := by rw [rkT_succ, if_pos hc9]
                refine sc_region ?_
                refine sq_y (OpY.s (y_move (by exact rfl))) rfl ?_
                refine sq_y (OpY.s (y_add (by exact rfl) (by exact rfl) (by omega))) rfl ?_
                refine sq_y (OpY.s (y_assign (by exact rfl))) rfl ?_
                refine sq_nil ?_
                refine sx_blk ?_
                refine sx_then ?_
                refine sc_region ?_
                refine sq_y (OpY.s (y_add (by exact rfl) (by exact rfl) (by omega))) rfl ?_
                refine sq_y (OpY.s (y_move (by exact rfl))) rfl ?_
                refine sq_nil ?_
                refine sx_round (j + 1) ?_ ?_ (by repeat (first | exact SubL.nil | refine SubL.cons (by first | exact rfl | exact lk_int rfl hS | exact lk_int rfl hC | exact lk_int rfl (by omega)) ?_)) (by repeat (first | exact Sel.refl _ | exact Sel.nil | refine Sel.cons (by repeat (first | exact Rem.here | apply Rem.there)) ?_ | refine Sel.skip ?_))
                · omega
                · omega
              ·
                have hC : rkT fin j k = rkT fin (j + 1) k := by rw [rkT_succ, if_neg hc9]; omega
                refine sc_skip ?_
                refine sx_blk ?_
                refine sx_then ?_
                refine sc_region ?_
                refine sq_y (OpY.s (y_add (by exact rfl) (by exact rfl) (by omega))) rfl ?_
                refine sq_y (OpY.s (y_move (by exact rfl))) rfl ?_
                refine sq_nil ?_
                refine sx_round (j + 1) ?_ ?_ (by repeat (first | exact SubL.nil | refine SubL.cons (by first | exact rfl | exact lk_int rfl hS | exact lk_int rfl hC | exact lk_int rfl (by omega)) ?_)) (by repeat (first | exact Sel.refl _ | exact Sel.nil | refine Sel.cons (by repeat (first | exact Rem.here | apply Rem.there)) ?_ | refine Sel.skip ?_))
                · omega
                · omega
          ·
            have hjn : j = r.teams.length := by omega
            subst hjn
            refine sc_exit ?_
            refine sx_then_exit ?_
            refine sx_round_exit ?_
            refine sx_blk_hit ?_
            refine sx_then ?_
            refine sc_seq ?_
            refine sc_region ?_
            refine sq_y (OpY.s (y_move (by exact rfl))) rfl ?_
            refine sq_y (OpY.s (y_move (by exact rfl))) rfl ?_
            refine sq_y (OpY.s (y_move (by exact rfl))) rfl ?_
            refine sq_y (OpY.s (by first | exact y_ia_blk Try.underlying36 Try.sizeOf32 (by exact rfl) (by exact rfl) (by omega) | exact y_ia_el Try.underlying36 Try.sizeOf32 (by exact rfl) (by exact rfl) (by omega) (by first | assumption | simp))) rfl ?_
            refine sq_y (OpY.s (by first | exact y_fab Try.underlying32 (by exact rfl) (by exact Try.sizeOf3) (by exact rfl) rfl | exact y_fa Try.underlying32 (by exact rfl) (by exact Try.sizeOf3) (by exact rfl) rfl)) rfl ?_
            refine sq_y (OpY.s (by first | exact y_load_caj Try.underlying3 rfl (by exact rfl) (by repeat (first | exact .head _ | refine .tail _ ?_)) hcx rfl | exact y_load_blk Try.underlying3 rfl (by exact rfl) (by repeat (first | exact .head _ | refine .tail _ ?_)) (by exact rfl) | exact y_load_caj Try.underlying3 rfl (by exact rfl) (by repeat (first | exact .head _ | refine .tail _ ?_)) (by assumption) (by exact rfl) | exact y_load_ca0 Try.underlying3 rfl (by exact rfl) (by repeat (first | exact .head _ | refine .tail _ ?_)) (by assumption) (by exact rfl))) rfl ?_
            refine sq_y (OpY.s (y_lss (by exact rfl) (by exact rfl))) rfl ?_
            refine sq_y (OpY.s (y_move (by exact rfl))) rfl ?_
            refine sq_known (tt := 254) (b' := false) (by exact rfl) (decide_eq_false (by omega)) ?_
            refine sq_gt (by exact rfl) (by exact rfl) (OpY.s (y_move (by exact rfl))) rfl ?_
            refine sq_gt (by exact rfl) (by exact rfl) (OpY.s (y_move (by exact rfl))) rfl ?_
            refine sq_gt (by exact rfl) (by exact rfl) (OpY.s (y_move (by exact rfl))) rfl ?_
            refine sq_gt (by exact rfl) (by exact rfl) (OpY.s (by first | exact y_ia_blk Try.underlying36 Try.sizeOf32 (by exact rfl) (by exact rfl) (by omega) | exact y_ia_el Try.underlying36 Try.sizeOf32 (by exact rfl) (by exact rfl) (by omega) (by first | assumption | simp))) rfl ?_
            refine sq_gt (by exact rfl) (by exact rfl) (OpY.s (by first | exact y_fab Try.underlying32 (by exact rfl) (by exact Try.sizeOf3) (by exact rfl) rfl | exact y_fa Try.underlying32 (by exact rfl) (by exact Try.sizeOf3) (by exact rfl) rfl)) rfl ?_
            refine sq_gt (by exact rfl) (by exact rfl) (OpY.s (by first | exact y_load_caj Try.underlying3 rfl (by exact rfl) (by repeat (first | exact .head _ | refine .tail _ ?_)) hcx rfl | exact y_load_blk Try.underlying3 rfl (by exact rfl) (by repeat (first | exact .head _ | refine .tail _ ?_)) (by exact rfl) | exact y_load_caj Try.underlying3 rfl (by exact rfl) (by repeat (first | exact .head _ | refine .tail _ ?_)) (by assumption) (by exact rfl) | exact y_load_ca0 Try.underlying3 rfl (by exact rfl) (by repeat (first | exact .head _ | refine .tail _ ?_)) (by assumption) (by exact rfl))) rfl ?_
            refine sq_gt (by exact rfl) (by exact rfl) (OpY.s (y_gtr (by exact rfl) (by exact rfl))) rfl ?_
            refine sq_y (OpY.s (y_pick_f (by exact rfl) (by exact rfl))) rfl ?_
            refine sq_y (OpY.s (y_move (by exact rfl))) rfl ?_
            refine sq_known (tt := 263) (b' := false) (by exact rfl) (decide_eq_false (by omega)) ?_
            refine sq_gt (by exact rfl) (by exact rfl) (OpY.s (y_move (by exact rfl))) rfl ?_
            refine sq_gt (by exact rfl) (by exact rfl) (OpY.s (y_eql (by exact rfl) (by exact rfl))) rfl ?_
            refine sq_gt (by exact rfl) (by exact rfl) (OpY.s (y_move (by exact rfl))) rfl ?_
            first | refine sq_splitd (tt := 266) (by exact rfl) (fun hg42_19 => ?_) (fun hg42_19 => ?_) | refine sq_splitn (tt := 266) (by exact rfl) (fun hg42_19 => ?_) (fun hg42_19 => ?_) | refine sq_split (tt := 266) (by exact rfl) (fun hg42_19 => ?_) (fun hg42_19 => ?_)
            ·
              refine sq_gt (by exact rfl) (by exact rfl) (OpY.s (y_move (by exact rfl))) rfl ?_
              refine sq_gt (by exact rfl) (by exact rfl) (OpY.s (y_move (by exact rfl))) rfl ?_
              refine sq_gt (by exact rfl) (by exact rfl) (OpY.s (y_shr (by exact rfl) (by exact rfl) (by simp [IntKind.bits]; omega))) rfl ?_
              refine sq_gt (by exact rfl) (by exact rfl) (OpY.s (y_and (by exact rfl) (by exact rfl) (shr_bd hcb k) (by omega))) rfl ?_
              refine sq_gt (by exact rfl) (by exact rfl) (OpY.s (y_eql (by exact rfl) (by exact rfl))) rfl ?_
              rw [bit_zero]
              refine sq_gt (by exact rfl) (by exact rfl) (OpY.s (y_pick_t (by exact rfl) (by exact rfl))) rfl ?_
              refine sq_y (OpY.s (y_pick_f (by exact rfl) (by exact rfl))) rfl ?_
              refine sq_y (OpY.s (y_move (by exact rfl))) rfl ?_
              refine sq_known (tt := 274) (b' := false) (by exact rfl) (by first | rfl | simp [last_can hgF hk' hg42_19]) ?_
              refine sq_gt (by exact rfl) (by exact rfl) (OpY.s (y_move (by exact rfl))) rfl ?_
              refine sq_gt (by exact rfl) (by exact rfl) (OpY.s (y_gtr (by exact rfl) (by exact rfl))) rfl ?_
              refine sq_gt (by exact rfl) (by exact rfl) (OpY.s (y_move (by exact rfl))) rfl ?_
              first | refine sq_splitd (tt := 277) (by exact rfl) (fun hg42_30 => ?_) (fun hg42_30 => ?_) | refine sq_splitn (tt := 277) (by exact rfl) (fun hg42_30 => ?_) (fun hg42_30 => ?_) | refine sq_split (tt := 277) (by exact rfl) (fun hg42_30 => ?_) (fun hg42_30 => ?_)
              ·
                refine sq_gt (by exact rfl) (by exact rfl) (OpY.s (y_move (by exact rfl))) rfl ?_
                refine sq_gt (by exact rfl) (by exact rfl) (OpY.s (y_move (by exact rfl))) rfl ?_
                refine sq_gt (by exact rfl) (by exact rfl) (OpY.s (y_shr (by exact rfl) (by exact rfl) (by simp [IntKind.bits]; omega))) rfl ?_
                refine sq_gt (by exact rfl) (by exact rfl) (OpY.s (y_and (by exact rfl) (by exact rfl) (shr_bd hsb k) (by omega))) rfl ?_
                refine sq_gt (by exact rfl) (by exact rfl) (OpY.s (y_eql (by exact rfl) (by exact rfl))) rfl ?_
                rw [bit_one]
                refine sq_gt (by exact rfl) (by exact rfl) (OpY.s (y_pick_t (by exact rfl) (by exact rfl))) rfl ?_
                refine sq_y (OpY.s (y_pick_f (by exact rfl) (by exact rfl))) rfl ?_
                refine sq_nil ?_
                refine sx_then ?_
                refine sc_f (lk_bool rfl (by first | rfl | simp [last_sure hgF hk' hg42_30])) ?_
                refine sc_skip ?_
                refine sx_blk ?_
                refine sx_then ?_
                refine sc_region ?_
                refine sq_y (OpY.s (y_add (by exact rfl) (by exact rfl) (by omega))) rfl ?_
                refine sq_y (OpY.s (y_move (by exact rfl))) rfl ?_
                refine sq_nil ?_
                refine sx_round (k + 1) ?_ ?_ (by repeat (first | exact SubL.nil | refine SubL.cons (by first | exact rfl | exact lk_int rfl (by omega) | exact lk_eq rfl (by simp)) ?_)) (by repeat (first | exact Sel.refl _ | exact Sel.nil | refine Sel.cons (by repeat (first | exact Rem.here | apply Rem.there)) ?_ | refine Sel.skip ?_))
                · omega
                · omega
              ·
                refine sq_gf (by exact rfl) (by exact rfl) (by exact rfl) rfl ?_
                refine sq_gf (by exact rfl) (by exact rfl) (by exact rfl) rfl ?_
                refine sq_gf (by exact rfl) (by exact rfl) (by exact rfl) rfl ?_
                refine sq_gf (by exact rfl) (by exact rfl) (by exact rfl) rfl ?_
                refine sq_gf (by exact rfl) (by exact rfl) (by exact rfl) rfl ?_
                refine sq_gt (by exact rfl) (by exact rfl) (OpY.s (y_pick_f (by exact rfl) (by exact rfl))) rfl ?_
                refine sq_y (OpY.s (y_pick_f (by exact rfl) (by exact rfl))) rfl ?_
                refine sq_nil ?_
                refine sx_then ?_
                refine sc_f (by exact rfl) ?_
                refine sc_skip ?_
                refine sx_blk ?_
                refine sx_then ?_
                refine sc_region ?_
                refine sq_y (OpY.s (y_add (by exact rfl) (by exact rfl) (by omega))) rfl ?_
                refine sq_y (OpY.s (y_move (by exact rfl))) rfl ?_
                refine sq_nil ?_
                refine sx_round (k + 1) ?_ ?_ (by repeat (first | exact SubL.nil | refine SubL.cons (by first | exact rfl | exact lk_int rfl (by omega) | exact lk_eq rfl (by simp)) ?_)) (by repeat (first | exact Sel.refl _ | exact Sel.nil | refine Sel.cons (by repeat (first | exact Rem.here | apply Rem.there)) ?_ | refine Sel.skip ?_))
                · omega
                · omega
            ·
              refine sq_gf (by exact rfl) (by exact rfl) (by exact rfl) rfl ?_
              refine sq_gf (by exact rfl) (by exact rfl) (by exact rfl) rfl ?_
              refine sq_gf (by exact rfl) (by exact rfl) (by exact rfl) rfl ?_
              refine sq_gf (by exact rfl) (by exact rfl) (by exact rfl) rfl ?_
              refine sq_gf (by exact rfl) (by exact rfl) (by exact rfl) rfl ?_
              refine sq_gt (by exact rfl) (by exact rfl) (OpY.s (y_pick_f (by exact rfl) (by exact rfl))) rfl ?_
              refine sq_y (OpY.s (y_pick_f (by exact rfl) (by exact rfl))) rfl ?_
              refine sq_y (OpY.s (y_move (by exact rfl))) rfl ?_
              refine sq_gt (by exact rfl) (by exact rfl) (OpY.s (y_move (by exact rfl))) rfl ?_
              refine sq_gt (by exact rfl) (by exact rfl) (OpY.s (y_gtr (by exact rfl) (by exact rfl))) rfl ?_
              refine sq_gt (by exact rfl) (by exact rfl) (OpY.s (y_move (by exact rfl))) rfl ?_
              first | refine sq_splitd (tt := 277) (by exact rfl) (fun hg42_30 => ?_) (fun hg42_30 => ?_) | refine sq_splitn (tt := 277) (by exact rfl) (fun hg42_30 => ?_) (fun hg42_30 => ?_) | refine sq_split (tt := 277) (by exact rfl) (fun hg42_30 => ?_) (fun hg42_30 => ?_)
              ·
                refine sq_gt (by exact rfl) (by exact rfl) (OpY.s (y_move (by exact rfl))) rfl ?_
                refine sq_gt (by exact rfl) (by exact rfl) (OpY.s (y_move (by exact rfl))) rfl ?_
                refine sq_gt (by exact rfl) (by exact rfl) (OpY.s (y_shr (by exact rfl) (by exact rfl) (by simp [IntKind.bits]; omega))) rfl ?_
                refine sq_gt (by exact rfl) (by exact rfl) (OpY.s (y_and (by exact rfl) (by exact rfl) (shr_bd hsb k) (by omega))) rfl ?_
                refine sq_gt (by exact rfl) (by exact rfl) (OpY.s (y_eql (by exact rfl) (by exact rfl))) rfl ?_
                rw [bit_one]
                refine sq_gt (by exact rfl) (by exact rfl) (OpY.s (y_pick_t (by exact rfl) (by exact rfl))) rfl ?_
                refine sq_y (OpY.s (y_pick_f (by exact rfl) (by exact rfl))) rfl ?_
                refine sq_nil ?_
                refine sx_then ?_
                refine sc_f (lk_bool rfl (by first | rfl | simp [last_sure hgF hk' hg42_30])) ?_
                refine sc_skip ?_
                refine sx_blk ?_
                refine sx_then ?_
                refine sc_region ?_
                refine sq_y (OpY.s (y_add (by exact rfl) (by exact rfl) (by omega))) rfl ?_
                refine sq_y (OpY.s (y_move (by exact rfl))) rfl ?_
                refine sq_nil ?_
                refine sx_round (k + 1) ?_ ?_ (by repeat (first | exact SubL.nil | refine SubL.cons (by first | exact rfl | exact lk_int rfl (by omega) | exact lk_eq rfl (by simp)) ?_)) (by repeat (first | exact Sel.refl _ | exact Sel.nil | refine Sel.cons (by repeat (first | exact Rem.here | apply Rem.there)) ?_ | refine Sel.skip ?_))
                · omega
                · omega
              ·
                refine sq_gf (by exact rfl) (by exact rfl) (by exact rfl) rfl ?_
                refine sq_gf (by exact rfl) (by exact rfl) (by exact rfl) rfl ?_
                refine sq_gf (by exact rfl) (by exact rfl) (by exact rfl) rfl ?_
                refine sq_gf (by exact rfl) (by exact rfl) (by exact rfl) rfl ?_
                refine sq_gf (by exact rfl) (by exact rfl) (by exact rfl) rfl ?_
                refine sq_gt (by exact rfl) (by exact rfl) (OpY.s (y_pick_f (by exact rfl) (by exact rfl))) rfl ?_
                refine sq_y (OpY.s (y_pick_f (by exact rfl) (by exact rfl))) rfl ?_
                refine sq_nil ?_
                refine sx_then ?_
                refine sc_f (by exact rfl) ?_
                refine sc_skip ?_
                refine sx_blk ?_
                refine sx_then ?_
                refine sc_region ?_
                refine sq_y (OpY.s (y_add (by exact rfl) (by exact rfl) (by omega))) rfl ?_
                refine sq_y (OpY.s (y_move (by exact rfl))) rfl ?_
                refine sq_nil ?_
                refine sx_round (k + 1) ?_ ?_ (by repeat (first | exact SubL.nil | refine SubL.cons (by first | exact rfl | exact lk_int rfl (by omega) | exact lk_eq rfl (by simp)) ?_)) (by repeat (first | exact Sel.refl _ | exact Sel.nil | refine Sel.cons (by repeat (first | exact Rem.here | apply Rem.there)) ?_ | refine Sel.skip ?_))
                · omega
                · omega
        ·
          refine sc_exit ?_
          refine sx_then_exit ?_
          refine sx_round_exit ?_
          refine sx_blk_hit ?_
          refine sx_then ?_
          refine sc_seq ?_
          refine sc_region ?_
          refine sq_y (y_call (first := []) (caps := []) (by exact rfl) Try.call14 EvL.nil (fun w1 _ => alive14 w1)) rfl ?_
          refine sq_y (OpY.s (y_assign (by exact rfl))) rfl ?_
          refine sq_nil ?_
          refine sx_then ?_
          refine sc_ret ?_
          refine sx_ret1 (.inl rfl) rfl Try.results6 (by exact rfl) ?_
          intro w' hw'
          exact ⟨rfl, hw'.below (by repeat (first | exact .head _ | refine .tail _ ?_))⟩
theorem true6 (w : World) (r : Rc) (a : Option Addr) (c : Nat) (f : Nat → Option Addr) (cf : Nat → Nat) (ab : Option Addr) (cb : Nat) (bs : List Int) (mz : Int) (hmz : 0 ≤ mz ∧ mz ≤ 65535) (hT : TmsA 0 w a r.teams f cf) (hb : U16A 0 w ab bs) (hbz : ∀ x, x ∈ bs → 0 ≤ x ∧ x ≤ 65535) (i1 : InI r.p) (i2 : InI r.lim) (i3 : InI r.rate) : Calls Try.prog 6 #[.agg (rcVal r a c).toArray, .slice ab bs.length cb, .int .u16 mz] w fun e w' => e = .returned (.bool true) ∧ Below w.heap.size w w' := by
  by_cases hok : rcB r = true
  · by_cases h0 : bs.length = 0
    · exact true6a w r a c f cf ab cb bs mz hT hb i1 i2 i3 (.inl h0)
    · exact true6b w r a c f cf ab cb bs mz hmz hT hb hok ⟨by omega, hbz⟩ i1 i2 i3
  · exact true6a w r a c f cf ab cb bs mz hT hb i1 i2 i3 (.inr (by simpa using hok))
end Go.Proofs.Ytegdfpilhlcplaa
