/- The walks of Count, Points, Ranks. -/
import Derived.Test.YtegdfpilhlcplaaWalk10
namespace Go.Proofs.Ytegdfpilhlcplaa
open Go Go.Eng Go.RowKit Go.Proofs
set_option maxRecDepth 100000

theorem find44 (w : World) (r : Rc) (a : Option Addr) (c : Nat) (f : Nat → Option Addr) (cf : Nat → Nat) (al : Option Addr) (cl : Nat) (ls : List Wd) (tz mz : Int) (g : FuncId) (F : Nat → Nat → Sp) (hT : TmsA 0 w a r.teams f cf) (hl : WdsA 0 w al ls) (i1 : InI r.p) (i2 : InI r.lim) (i3 : InI r.rate) (hcg : ∀ args w, (callFunc g args).run Try.prog w = .ok (.enter g args) w)
    (hg : rcB r = true → ∀ w1 p t (m : Nat), t < r.teams.length → m ≤ 1000 → CoA 0 w1 p r t (allW r t ls) → Calls Try.prog g #[.pointer (some p), .int .i64 m] w1 fun e w' => e = .returned (.agg (spRow (F t m)).toArray) ∧ Below w1.heap.size w1 w') :
    Calls Try.prog 44 #[.agg (rcVal r a c).toArray, .slice al ls.length cl, .int .i64 tz, .int .i64 mz, .func (.func g) #[] #[]] w fun e w' => e = .returned (spanAns (findE r ls tz mz) (F tz.toNat (wrk r tz.toNat mz.toNat))) ∧ Below w.heap.size w w' := by
  have hlen := hT.len
  refine calls_of_SC (args := [.agg (rcVal r a c).toArray, .slice al ls.length cl, .int .i64 tz, .int .i64 mz, .func (.func g) #[] #[]]) Try.func44 rfl Try.ntmps44 rfl ?_
  simp only [argL, Nat.reduceAdd, Nat.zero_add]
  refine sc_seq ?_
  refine sc_region ?_
  refine sq_box (by exact rfl) rfl (fun b5 => ?_)
  refine sq_box (by exact rfl) rfl (fun b7 => ?_)
  refine sq_box (by exact rfl) rfl (fun b8 => ?_)
  refine sq_alloc Try.zeroValue32 rfl (fun b10 => ?_)
  refine sq_y (OpY.s (y_assign (by exact rfl))) rfl ?_
  refine sq_nil ?_
  refine sx_then ?_
  refine sc_seq ?_
  refine sc_region ?_
  refine sq_y (OpY.s (by first | exact y_load_all Try.underlying24 rfl Try.sizeOf24 (by exact rfl) (by repeat (first | exact .head _ | refine .tail _ ?_)) (by exact rfl) | exact y_load_ca Try.underlying24 rfl Try.sizeOf24 (by exact rfl) (by repeat (first | exact .head _ | refine .tail _ ?_)) (by assumption) (by exact rfl))) rfl ?_
  refine sq_y (OpY.s (y_move (by exact rfl))) rfl ?_
  refine sq_y (OpY.s (y_makeFunc EvL.nil (EvL.cons (by exact rfl) (EvL.cons (by exact rfl) (EvL.cons (by exact rfl) EvL.nil))))) rfl ?_
  refine sq_call_new (first := []) (caps := []) (Z := Value) (fun z => .tuple #[z, .int .i64 (findE r ls tz mz)]) (fun lo w' z => w.heap.size ≤ lo ∧ (findE r ls tz mz = 0 → Opened lo w' r a c ls z)) (by exact rfl) Try.call52 (EvL.cons (by exact rfl) (EvL.cons (by exact rfl) (EvL.cons (by exact rfl) EvL.nil))) (fun w1 hw1 => (open52 w1 r a c f cf al cl ls 68 [.pointer (some ⟨b7, 0, none⟩), .pointer (some ⟨b5, 0, none⟩), .pointer (some ⟨b8, 0, none⟩)] (tmzB r tz mz) (hT.at hw1 (by repeat (first | exact .head _ | refine .tail _ ?_))) (hl.at hw1 (by repeat (first | exact .head _ | refine .tail _ ?_))) i1 i2 i3 Try.call68 (fun w2 hb => valid68 w2 ⟨b7, 0, none⟩ ⟨b5, 0, none⟩ ⟨b8, 0, none⟩ r a c tz mz hlen (CA.below (CA.blk (vs := [.int .i64 tz]) hw1 (by repeat (first | exact .head _ | refine .tail _ ?_))) hb) (CA.below (CA.blk (vs := rcVal r a c) hw1 (by repeat (first | exact .head _ | refine .tail _ ?_))) hb) (CA.below (CA.blk (vs := [.int .i64 mz]) hw1 (by repeat (first | exact .head _ | refine .tail _ ?_))) hb))).mono (fun e w' ⟨z, he, hb, hz⟩ => ⟨z, he, hb, hw1.size, hz⟩)) rfl (fun lo52 w52 m52 h52 => ?_)
  refine sq_y (OpY.s (y_move (by exact rfl))) rfl ?_
  refine sq_y (OpY.s (y_extract (by exact rfl) (by exact rfl))) rfl ?_
  refine sq_y (OpY.s (y_extract (by exact rfl) (by exact rfl))) rfl ?_
  refine sq_y (OpY.s (y_assign (by exact rfl))) rfl ?_
  refine sq_y (OpY.s (y_assign (by exact rfl))) rfl ?_
  refine sq_nil ?_
  refine sx_then ?_
  refine sc_seq ?_
  refine sc_seq ?_
  refine sc_region ?_
  refine sq_y (OpY.s (y_move (by exact rfl))) rfl ?_
  refine sq_y (OpY.s (y_neq (by exact rfl) (by exact rfl))) rfl ?_
  refine sq_nil ?_
  refine sx_then ?_
  first | refine sc_if (by exact rfl) (fun hc0 => ?_) (fun hc0 => ?_) | refine sc_ifn (by exact rfl) (fun hc0 => ?_) (fun hc0 => ?_) | refine sc_cond (by exact rfl) (fun hc0 => ?_) (fun hc0 => ?_)
  ·
    refine sc_seq ?_
    refine sc_region ?_
    refine sq_y (OpY.s (y_build bt32 EvP.nil (by exact rfl))) rfl ?_
    refine sq_y (OpY.s (y_move (by exact rfl))) rfl ?_
    refine sq_store_all Try.sizeOf32 (by exact rfl) (by exact rfl) rfl (by repeat (first | exact Rem.here | apply Rem.there)) rfl rfl ?_
    refine sq_y (OpY.s (y_assign (by exact rfl))) rfl ?_
    refine sq_nil ?_
    refine sx_then ?_
    refine sc_ret ?_
    refine sx_then_ret ?_
    refine sx_retct (.inl rfl) rfl Try.results44 Try.underlying32 rfl Try.sizeOf32 (by exact rfl) (by repeat (first | exact .head _ | refine .tail _ ?_)) rfl (by exact rfl) ?_
    intro w' hw'
    refine ⟨?_, hw'.below (by repeat (first | exact .head _ | refine .tail _ ?_))⟩
    unfold spanAns; rw [if_neg hc0]; rfl
  ·
    refine sc_skip ?_
    refine sx_then ?_
    refine sc_seq ?_
    have hE : findE r ls tz mz = 0 := hc0
    obtain ⟨hz1, hz2, hz3⟩ := openE_zero hE
    obtain ⟨hok, hll, hwd⟩ := chk_zero hz1
    obtain ⟨t, m, rfl, rfl, ht, hm⟩ := tmzB_parts hz2
    obtain ⟨hlo52, hop⟩ := h52
    obtain ⟨bm, ps, rfl, hbm, hmap, hpl, hps⟩ := hop hE
    obtain ⟨p, hp, hco⟩ := hps t ht
    have hlim := rcB_nums hok
    have hwk := wrk_le r t m (by omega)
    refine sc_drawX ([.reg lo52 w52, .blk b8 (.cells [Value.int .i64 m].toArray 3 (0, 0)), .blk b7 (.cells [Value.int .i64 t].toArray 3 (0, 0)), .blk b5 (.cells (rcVal r a c).toArray 24 (0, 0)), .reg 0 w]) (by kernel_rfl) ?_
    refine xj_s 0 (by exact rfl) (by kernel_rfl) (by repeat (first | exact Sel.nil | refine Sel.cons (by repeat (first | exact Rem.here | apply Rem.there)) ?_)) (y_move (by exact rfl)) rfl ?_
    refine xj_s 1 (by exact rfl) (by kernel_rfl) (by repeat (first | exact Sel.nil | refine Sel.cons (by repeat (first | exact Rem.here | apply Rem.there)) ?_)) (y_move (by exact rfl)) rfl ?_
    refine xj_s 2 (by exact rfl) (by kernel_rfl) (by repeat (first | exact Sel.nil | refine Sel.cons (by repeat (first | exact Rem.here | apply Rem.there)) ?_)) (by first | exact y_load_blk Try.underlying3 rfl (by exact rfl) (by repeat (first | exact .head _ | refine .tail _ ?_)) (by exact rfl) | exact y_load_caj Try.underlying3 rfl (by exact rfl) (by repeat (first | exact .head _ | refine .tail _ ?_)) (by assumption) (by exact rfl) | exact y_load_ca0 Try.underlying3 rfl (by exact rfl) (by repeat (first | exact .head _ | refine .tail _ ?_)) (by assumption) (by exact rfl)) rfl ?_
    refine xj_s 3 (by exact rfl) (by kernel_rfl) (by repeat (first | exact Sel.nil | refine Sel.cons (by repeat (first | exact Rem.here | apply Rem.there)) ?_)) (y_lookup Try.underlying80 Try.underlying3 (by exact rfl) (fun _ hw => heap_reg hw (by repeat (first | exact .head _ | refine .tail _ ?_)) hbm hmap) (by exact rfl) hp) rfl ?_
    refine xj_s 4 (by exact rfl) (by kernel_rfl) (by repeat (first | exact Sel.nil | refine Sel.cons (by repeat (first | exact Rem.here | apply Rem.there)) ?_)) (by first | exact y_load_all Try.underlying24 rfl Try.sizeOf24 (by exact rfl) (by repeat (first | exact .head _ | refine .tail _ ?_)) (by exact rfl) | exact y_load_ca Try.underlying24 rfl Try.sizeOf24 (by exact rfl) (by repeat (first | exact .head _ | refine .tail _ ?_)) (by assumption) (by exact rfl)) rfl ?_
    refine xj_s 5 (by exact rfl) (by kernel_rfl) (by repeat (first | exact Sel.nil | refine Sel.cons (by repeat (first | exact Rem.here | apply Rem.there)) ?_)) (by first | exact y_load_blk Try.underlying3 rfl (by exact rfl) (by repeat (first | exact .head _ | refine .tail _ ?_)) (by exact rfl) | exact y_load_caj Try.underlying3 rfl (by exact rfl) (by repeat (first | exact .head _ | refine .tail _ ?_)) (by assumption) (by exact rfl) | exact y_load_ca0 Try.underlying3 rfl (by exact rfl) (by repeat (first | exact .head _ | refine .tail _ ?_)) (by assumption) (by exact rfl)) rfl ?_
    refine xj_s 6 (by exact rfl) (by kernel_rfl) (by repeat (first | exact Sel.nil | refine Sel.cons (by repeat (first | exact Rem.here | apply Rem.there)) ?_)) (by first | exact y_load_blk Try.underlying3 rfl (by exact rfl) (by repeat (first | exact .head _ | refine .tail _ ?_)) (by exact rfl) | exact y_load_caj Try.underlying3 rfl (by exact rfl) (by repeat (first | exact .head _ | refine .tail _ ?_)) (by assumption) (by exact rfl) | exact y_load_ca0 Try.underlying3 rfl (by exact rfl) (by repeat (first | exact .head _ | refine .tail _ ?_)) (by assumption) (by exact rfl)) rfl ?_
    refine xj_one 7 (by exact rfl) (by kernel_rfl) ?_
    refine sq_y (y_call (first := []) (caps := []) (by exact rfl) Try.call41 (EvL.cons (by exact rfl) (EvL.cons (by exact rfl) (EvL.cons (by exact rfl) EvL.nil))) (fun w1 hw1 => worked41 w1 _ r t m ((hT.at hw1 (by repeat (first | exact .head _ | refine .tail _ ?_))).rc i1 i2 i3) hok ht hm)) rfl ?_
    refine sq_nil ?_
    refine sx_xp (by repeat (first | exact Sel.nil | refine Sel.cons (by repeat (first | exact Rem.here | apply Rem.there)) ?_)) ?_
    refine xj_one 8 (by exact rfl) (by kernel_rfl) ?_
    refine sq_y (y_call (first := []) (caps := []) (by exact rfl) hcg (EvL.cons (by exact rfl) (EvL.cons (by exact rfl) EvL.nil)) (fun w1 hw1 => hg hok w1 p t _ ht (by omega) (((hco.keep hw1 (by repeat (first | exact .head _ | refine .tail _ ?_))).low (Nat.zero_le _)).co (hT.at hw1 (by repeat (first | exact .head _ | refine .tail _ ?_))) (allW_ok hok hwd) (allW_len hll)))) rfl ?_
    refine sq_nil ?_
    refine sx_xp (by repeat (first | exact Sel.nil | refine Sel.cons (by repeat (first | exact Rem.here | apply Rem.there)) ?_)) ?_
    refine xj_one 9 (by exact rfl) (by kernel_rfl) ?_
    refine sq_store_all Try.sizeOf32 (by exact rfl) (by exact rfl) rfl (by repeat (first | exact Rem.here | apply Rem.there)) rfl rfl ?_
    refine sq_nil ?_
    refine sx_xp (by repeat (first | exact Sel.nil | refine Sel.cons (by repeat (first | exact Rem.here | apply Rem.there)) ?_)) ?_
    refine xj_s 10 (by exact rfl) (by kernel_rfl) (by repeat (first | exact Sel.nil | refine Sel.cons (by repeat (first | exact Rem.here | apply Rem.there)) ?_)) (y_assign (by exact rfl)) rfl ?_
    refine xj_done (by kernel_rfl) ?_
    refine sx_then ?_
    refine sc_ret ?_
    refine sx_retct (.inl rfl) rfl Try.results44 Try.underlying32 rfl Try.sizeOf32 (by exact rfl) (by repeat (first | exact .head _ | refine .tail _ ?_)) rfl (by exact rfl) ?_
    intro w' hw'
    refine ⟨?_, hw'.below (by repeat (first | exact .head _ | refine .tail _ ?_))⟩
    unfold spanAns; rw [if_pos hE]; rfl
theorem count17 (w : World) (r : Rc) (a : Option Addr) (c : Nat) (f : Nat → Option Addr) (cf : Nat → Nat) (al : Option Addr) (cl : Nat) (ls : List Wd) (tz mz : Int) (hT : TmsA 0 w a r.teams f cf) (hl : WdsA 0 w al ls) (i1 : InI r.p) (i2 : InI r.lim) (i3 : InI r.rate) : Calls Try.prog 17 #[.agg (rcVal r a c).toArray, .slice al ls.length cl, .int .i64 tz, .int .i64 mz] w fun e w' => e = .returned (countAns r ls tz mz) ∧ Below w.heap.size w w' := by
  have hA : ∃ x : Sp, countAns r ls tz mz = .tuple #[.agg (spRow x).toArray, .int .i64 (findE r ls tz mz)] := by
    unfold countAns spanAns
    by_cases h : findE r ls tz mz = 0
    · rw [if_pos h]; exact ⟨_, by rw [h]⟩
    · rw [if_neg h]; exact ⟨_, rfl⟩
  obtain ⟨x, hx⟩ := hA
  refine calls_of_SC (args := [.agg (rcVal r a c).toArray, .slice al ls.length cl, .int .i64 tz, .int .i64 mz]) Try.func17 rfl Try.ntmps17 rfl ?_
  simp only [argL, Nat.reduceAdd, Nat.zero_add]
  refine sc_seq ?_
  refine sc_region ?_
  refine sq_box (by exact rfl) rfl (fun b4 => ?_)
  refine sq_alloc Try.zeroValue32 rfl (fun b8 => ?_)
  refine sq_y (OpY.s (y_assign (by exact rfl))) rfl ?_
  refine sq_nil ?_
  refine sx_then ?_
  refine sc_seq ?_
  refine sc_region ?_
  refine sq_y (OpY.s (by first | exact y_load_all Try.underlying24 rfl Try.sizeOf24 (by exact rfl) (by repeat (first | exact .head _ | refine .tail _ ?_)) (by exact rfl) | exact y_load_ca Try.underlying24 rfl Try.sizeOf24 (by exact rfl) (by repeat (first | exact .head _ | refine .tail _ ?_)) (by assumption) (by exact rfl))) rfl ?_
  refine sq_y (OpY.s (y_move (by exact rfl))) rfl ?_
  refine sq_y (OpY.s (y_move (by exact rfl))) rfl ?_
  refine sq_y (OpY.s (y_move (by exact rfl))) rfl ?_
  refine sq_y (y_call (first := []) (caps := []) (by exact rfl) Try.call44 (EvL.cons (by exact rfl) (EvL.cons (by exact rfl) (EvL.cons (by exact rfl) (EvL.cons (by exact rfl) (EvL.cons (by exact rfl) EvL.nil))))) (fun w1 hw1 => (find44 w1 r a c f cf al cl ls tz mz 45 (cntP r ls) (hT.at hw1 (by repeat (first | exact .head _ | refine .tail _ ?_))) (hl.at hw1 (by repeat (first | exact .head _ | refine .tail _ ?_))) i1 i2 i3 Try.call45 (fun hok w1 p t m ht hm hco => count45 w1 p r t (allW r t ls) m hco hok (by omega))).mono (fun e w' h => ⟨h.1.trans (congrArg Ending.returned hx), h.2⟩))) rfl ?_
  refine sq_y (OpY.s (y_extract (by exact rfl) (by exact rfl))) rfl ?_
  refine sq_y (OpY.s (y_extract (by exact rfl) (by exact rfl))) rfl ?_
  refine sq_store_all Try.sizeOf32 (by exact rfl) (by exact rfl) rfl (by repeat (first | exact Rem.here | apply Rem.there)) rfl rfl ?_
  refine sq_y (OpY.s (y_assign (by exact rfl))) rfl ?_
  refine sq_nil ?_
  refine sx_then ?_
  refine sc_ret ?_
  refine sx_retct (.inl rfl) rfl Try.results17 Try.underlying32 rfl Try.sizeOf32 (by exact rfl) (by repeat (first | exact .head _ | refine .tail _ ?_)) rfl (by exact rfl) ?_
  intro w' hw'
  refine ⟨?_, hw'.below (by repeat (first | exact .head _ | refine .tail _ ?_))⟩
  rw [hx]; rfl
theorem points19 (w : World) (r : Rc) (a : Option Addr) (c : Nat) (f : Nat → Option Addr) (cf : Nat → Nat) (al : Option Addr) (cl : Nat) (ls : List Wd) (tz mz : Int) (hT : TmsA 0 w a r.teams f cf) (hl : WdsA 0 w al ls) (i1 : InI r.p) (i2 : InI r.lim) (i3 : InI r.rate) : Calls Try.prog 19 #[.agg (rcVal r a c).toArray, .slice al ls.length cl, .int .i64 tz, .int .i64 mz] w fun e w' => e = .returned (pointsAns r ls tz mz) ∧ Below w.heap.size w w' := by
  have hA : ∃ x : Sp, pointsAns r ls tz mz = .tuple #[.agg (spRow x).toArray, .int .i64 (findE r ls tz mz)] := by
    unfold pointsAns spanAns
    by_cases h : findE r ls tz mz = 0
    · rw [if_pos h]; exact ⟨_, by rw [h]⟩
    · rw [if_neg h]; exact ⟨_, rfl⟩
  obtain ⟨x, hx⟩ := hA
  refine calls_of_SC (args := [.agg (rcVal r a c).toArray, .slice al ls.length cl, .int .i64 tz, .int .i64 mz]) Try.func19 rfl Try.ntmps19 rfl ?_
  simp only [argL, Nat.reduceAdd, Nat.zero_add]
  refine sc_seq ?_
  refine sc_region ?_
  refine sq_box (by exact rfl) rfl (fun b4 => ?_)
  refine sq_alloc Try.zeroValue32 rfl (fun b8 => ?_)
  refine sq_y (OpY.s (y_assign (by exact rfl))) rfl ?_
  refine sq_nil ?_
  refine sx_then ?_
  refine sc_seq ?_
  refine sc_region ?_
  refine sq_y (OpY.s (by first | exact y_load_all Try.underlying24 rfl Try.sizeOf24 (by exact rfl) (by repeat (first | exact .head _ | refine .tail _ ?_)) (by exact rfl) | exact y_load_ca Try.underlying24 rfl Try.sizeOf24 (by exact rfl) (by repeat (first | exact .head _ | refine .tail _ ?_)) (by assumption) (by exact rfl))) rfl ?_
  refine sq_y (OpY.s (y_move (by exact rfl))) rfl ?_
  refine sq_y (OpY.s (y_move (by exact rfl))) rfl ?_
  refine sq_y (OpY.s (y_move (by exact rfl))) rfl ?_
  refine sq_y (y_call (first := []) (caps := []) (by exact rfl) Try.call44 (EvL.cons (by exact rfl) (EvL.cons (by exact rfl) (EvL.cons (by exact rfl) (EvL.cons (by exact rfl) (EvL.cons (by exact rfl) EvL.nil))))) (fun w1 hw1 => (find44 w1 r a c f cf al cl ls tz mz 50 (ptsP r ls) (hT.at hw1 (by repeat (first | exact .head _ | refine .tail _ ?_))) (hl.at hw1 (by repeat (first | exact .head _ | refine .tail _ ?_))) i1 i2 i3 Try.call50 (fun hok w1 p t m ht hm hco => span50 w1 p r t (allW r t ls) m hm ht hco hok)).mono (fun e w' h => ⟨h.1.trans (congrArg Ending.returned hx), h.2⟩))) rfl ?_
  refine sq_y (OpY.s (y_extract (by exact rfl) (by exact rfl))) rfl ?_
  refine sq_y (OpY.s (y_extract (by exact rfl) (by exact rfl))) rfl ?_
  refine sq_store_all Try.sizeOf32 (by exact rfl) (by exact rfl) rfl (by repeat (first | exact Rem.here | apply Rem.there)) rfl rfl ?_
  refine sq_y (OpY.s (y_assign (by exact rfl))) rfl ?_
  refine sq_nil ?_
  refine sx_then ?_
  refine sc_ret ?_
  refine sx_retct (.inl rfl) rfl Try.results19 Try.underlying32 rfl Try.sizeOf32 (by exact rfl) (by repeat (first | exact .head _ | refine .tail _ ?_)) rfl (by exact rfl) ?_
  intro w' hw'
  refine ⟨?_, hw'.below (by repeat (first | exact .head _ | refine .tail _ ?_))⟩
  rw [hx]; rfl
end Go.Proofs.Ytegdfpilhlcplaa
