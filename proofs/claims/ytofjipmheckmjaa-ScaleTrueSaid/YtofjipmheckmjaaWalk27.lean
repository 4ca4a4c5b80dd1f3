/- The walk of the law ScaleTrue. -/
import Derived.Test.YtofjipmheckmjaaWalk26
import Derived.Test.YtofjipmheckmjaaLaw1
namespace Go.Proofs.Ytofjipmheckmjaa
open Go Go.Eng Go.RowKit Go.Proofs
set_option maxRecDepth 100000
theorem readAns_ok {b : Bx} {L : List Int} {t : Te} (hok : bxB b = true) (ht : teB b t = true) (hc : canV b L = true) : readAns b L t = .tuple #[.agg (spRow (readV b t L)).toArray, .int .i64 0] := by
  unfold readAns; rw [if_pos ⟨hok, ht⟩, if_pos hc]
theorem judge16v (w : World) (b : Bx) (a : Option Addr) (c : Nat) (hB : RowsA kdRow 3 0 w a b.kinds) (v : Value) (R : List Rd) (hv : w.ownsRow 0 54 8 v R.length (R.flatMap rdRow)) (hb : R.length ≤ 100000) {n e : Int} (hj : judgeAns b R = .tuple #[.int .i64 n, .int .i64 e]) : Calls Try.prog 16 #[.agg (bxRow b a c).toArray, v] w fun e' w' => e' = .returned (.tuple #[.int .i64 n, .int .i64 e]) ∧ Below w.heap.size w w' := by
  obtain ⟨a2, c2, rfl, _, hr⟩ := own_rowsA (row := rdRow) (fun _ => rfl) hv rfl (by omega)
  exact judge16x w b a c hB a2 c2 R hr hj
theorem left18v (w : World) (b : Bx) (a : Option Addr) (c : Nat) (hB : RowsA kdRow 3 0 w a b.kinds) (v : Value) (R : List Rd) (hv : w.ownsRow 0 54 8 v R.length (R.flatMap rdRow)) (hb : R.length ≤ 100000) (ho : openE b R [] = 0) {n : Nat} (hn : n = b.kinds.length) : Calls Try.prog 18 #[.agg (bxRow b a c).toArray, v] w fun e w' => ∃ z : Option Addr × Nat, e = .returned (.tuple #[.slice z.1 n z.2, .int .i64 0]) ∧ Below w.heap.size w w' ∧ RowsA spRow 2 w.heap.size w' z.1 (leftS n (fitL b R)) := by
  obtain ⟨a2, c2, rfl, _, hr⟩ := own_rowsA (row := rdRow) (fun _ => rfl) hv rfl (by omega)
  refine (left18s w b a c hB a2 c2 R hr).mono fun e w' ⟨z, he, hb, hr⟩ => ?_
  have hl : leftR b R = leftS n (fitL b R) := by unfold leftR; rw [if_pos ho, hn]
  rw [hl, ho, leftS_len] at he
  rw [hl] at hr
  exact ⟨z, he, hb, hr⟩
/-- all that was read is within what the tests let pass -/
def allP (R : List Rd) : Bool := R.all fun r => decide (r.test.pass.lo ≤ r.got) && decide (r.got ≤ r.test.pass.hi)
theorem allP_add (R : List Rd) (r : Rd) : allP (R ++ [r]) = (allP R && (decide (r.test.pass.lo ≤ r.got) && decide (r.got ≤ r.test.pass.hi))) := by unfold allP; simp
/-- readings of the first tests, as a list truly is -/
structure RdOk (b : Bx) (ts : List Te) (L : List Int) (R : List Rd) : Prop where
  len : R.length ≤ ts.length
  el : ∀ i r, R[i]? = some r → r.test = ts.getD i te0 ∧ teB b r.test = true ∧ (readV b r.test L).lo ≤ r.got ∧ r.got ≤ (readV b r.test L).hi
theorem RdOk.nil {b : Bx} {ts : List Te} {L : List Int} : RdOk b ts L [] := ⟨Nat.zero_le _, fun i r h => by simp at h⟩
theorem RdOk.add {b : Bx} {ts : List Te} {L : List Int} {R : List Rd} {n : Int} (h : RdOk b ts L R) (hk : R.length < ts.length) (ht : teB b (ts.getD R.length te0) = true) (hn : (readV b (ts.getD R.length te0) L).lo ≤ n ∧ n ≤ (readV b (ts.getD R.length te0) L).hi) : RdOk b ts L (R ++ [⟨ts.getD R.length te0, n⟩]) := by
  refine ⟨by simp; omega, fun i r hi => ?_⟩
  rcases Nat.lt_or_ge i R.length with h1 | h1
  · rw [List.getElem?_append_left h1] at hi; exact h.el i r hi
  · have : i = R.length := by have := (List.getElem?_eq_some_iff.1 hi).1; simp at this; omega
    subst this
    simp at hi; subst hi; exact ⟨rfl, ht, hn⟩
theorem RdOk.fit {b : Bx} {ts : List Te} {L : List Int} {R : List Rd} (h : RdOk b ts L R) (hok : bxB b = true) (hL : canV b L = true) : L ∈ fitL b R := fit_mem hok hL fun r hr => by
  obtain ⟨i, hi⟩ := List.getElem?_of_mem hr
  exact (h.el i r hi).2.2
theorem RdOk.chk {b : Bx} {ts : List Te} {L : List Int} {R : List Rd} (h : RdOk b ts L R) (hok : bxB b = true) (h4 : ts.length ≤ 16) : chk b R [] = 0 := chk_ok hok (by have := h.len; omega) fun r hr => by
  obtain ⟨i, hi⟩ := List.getElem?_of_mem hr
  exact (h.el i r hi).2.1
theorem RdOk.pass {b : Bx} {ts : List Te} {L : List Int} {R : List Rd} (h : RdOk b ts L R) (hl : R.length = ts.length) (hp : allP R = true) (t : Te) (ht : t ∈ ts) : passV b t L = true := by
  obtain ⟨i, hi⟩ := List.getElem?_of_mem ht
  have hlt : i < R.length := by rw [hl]; exact (List.getElem?_eq_some_iff.1 hi).1
  have hr := h.el i _ (List.getElem?_eq_getElem hlt)
  have hq := List.all_eq_true.1 hp _ (List.getElem_mem hlt)
  rw [Bool.and_eq_true, decide_eq_true_eq, decide_eq_true_eq] at hq
  have he : R[i].test = t := by rw [hr.1, getD_of hi]
  unfold passV meetsV
  rw [he] at hr hq
  exact decide_eq_true (by omega)

theorem true6 (w : World) (b : Bx) (a : Option Addr) (c : Nat) (hB : RowsA kdRow 3 0 w a b.kinds) (at_ : Option Addr) (ct : Nat) (ts : List Te) (ht : RowsA teRow 7 0 w at_ ts) (ay : Option Addr) (cy : Nat) (bys : List Int) (hy : RowsA uRow 1 0 w ay bys) (hu : ∀ x, x ∈ bys → isU x) : Calls Try.prog 6 #[.agg (bxRow b a c).toArray, .slice at_ ts.length ct, .slice ay bys.length cy] w fun e w' => e = .returned (.bool true) ∧ Below w.heap.size w w' := by
  have htlen := ht.len
  refine calls_of_SC (args := [.agg (bxRow b a c).toArray, .slice at_ ts.length ct, .slice ay bys.length cy]) Try.func6 rfl Try.ntmps6 rfl ?_
  simp only [argL, Nat.reduceAdd, Nat.zero_add]
  refine sc_seq ?_
  refine sc_region ?_
  refine sq_box RF rfl (fun b3 => ?_)
  refine qs (y_assign RF) ?_
  refine sq_nil ?_
  refine sx_then ?_
  refine sc_seq ?_
  refine sc_seq ?_
  refine sc_region ?_
  refine qs LD26 ?_
  refine qs (y_move RF) ?_
  refine qy (yc Try.call12 E4 (fun w1 hw1 => great12 w1 b a c (hB.at hw1 MM) 3 none 0 0 at_ ct ts.length)) ?_
  refine qs (y_move RF) ?_
  refine spb 27 (fun hg1_3 => ?_) (fun hg1_3 => ?_)
  ·
    refine qf ?_
    refine qf ?_
    refine qf ?_
    refine qs (y_pick_t RF RF) ?_
    refine qs (y_move RF) ?_
    refine qf ?_
    refine qf ?_
    refine qf ?_
    refine qs (y_pick_t RF RF) ?_
    refine qs (y_move RF) ?_
    refine qf ?_
    refine qf ?_
    refine qf ?_
    refine qs (y_pick_t RF RF) ?_
    refine sq_nil ?_
    refine sx_then ?_
    refine sc_t RF ?_
    refine sc_seq ?_
    refine sc_region ?_
    refine qy (yc Try.call13 E0 (fun w1 _ => alive13 w1)) ?_
    refine qs (y_assign RF) ?_
    refine sq_nil ?_
    refine sx_then ?_
    refine sc_ret ?_
    refine sx_then_ret ?_
    refine sx_ret1 (.inl rfl) rfl Try.results6 RF ?_
    intro w' hw'
    exact ⟨rfl, hw'.below MM⟩
  ·
    refine qg (y_move RF) ?_
    refine qg (y_len Try.underlying43 RF) ?_
    refine qg (y_gtr RF RF) ?_
    refine qs (y_pick_f RF RF) ?_
    refine qs (y_move RF) ?_
    refine sp 32 (fun hg1_8 => ?_) (fun hg1_8 => ?_)
    ·
      refine qf ?_
      refine qf ?_
      refine qf ?_
      refine qs (y_pick_t RF RF) ?_
      refine qs (y_move RF) ?_
      refine qf ?_
      refine qf ?_
      refine qf ?_
      refine qs (y_pick_t RF RF) ?_
      refine sq_nil ?_
      refine sx_then ?_
      refine sc_t RF ?_
      refine sc_seq ?_
      refine sc_region ?_
      refine qy (yc Try.call13 E0 (fun w1 _ => alive13 w1)) ?_
      refine qs (y_assign RF) ?_
      refine sq_nil ?_
      refine sx_then ?_
      refine sc_ret ?_
      refine sx_then_ret ?_
      refine sx_ret1 (.inl rfl) rfl Try.results6 RF ?_
      intro w' hw'
      exact ⟨rfl, hw'.below MM⟩
    ·
      refine qg (y_move RF) ?_
      refine qg (y_len Try.underlying56 RF) ?_
      refine qg (y_eql RF RF) ?_
      refine qs (y_pick_f RF RF) ?_
      refine qs (y_move RF) ?_
      refine sp 37 (fun hg1_13 => ?_) (fun hg1_13 => ?_)
      ·
        refine qf ?_
        refine qf ?_
        refine qf ?_
        refine qs (y_pick_t RF RF) ?_
        refine sq_nil ?_
        refine sx_then ?_
        refine sc_t RF ?_
        refine sc_seq ?_
        refine sc_region ?_
        refine qy (yc Try.call13 E0 (fun w1 _ => alive13 w1)) ?_
        refine qs (y_assign RF) ?_
        refine sq_nil ?_
        refine sx_then ?_
        refine sc_ret ?_
        refine sx_then_ret ?_
        refine sx_ret1 (.inl rfl) rfl Try.results6 RF ?_
        intro w' hw'
        exact ⟨rfl, hw'.below MM⟩
      ·
        refine qg LD26 ?_
        refine sq_gt RF RF (y_call (first := []) (caps := []) RF Try.call32 (EvL.cons RF EvL.nil) (fun w1 hw1 => box32 w1 b a c (hB.at hw1 MM))) rfl ?_
        refine qg (y_not RF) ?_
        refine qs (y_pick_f RF RF) ?_
        refine sq_nil ?_
        refine sx_then ?_
        refine scp (fun hc0 => ?_) (fun hc0 => ?_)
        ·
          refine sc_seq ?_
          refine sc_region ?_
          refine qy (yc Try.call13 E0 (fun w1 _ => alive13 w1)) ?_
          refine qs (y_assign RF) ?_
          refine sq_nil ?_
          refine sx_then ?_
          refine sc_ret ?_
          refine sx_then_ret ?_
          refine sx_ret1 (.inl rfl) rfl Try.results6 RF ?_
          intro w' hw'
          exact ⟨rfl, hw'.below MM⟩
        ·
          refine sc_skip ?_
          refine sx_then ?_
          refine sc_seq ?_
          have hok : bxB b = true := by simpa using hc0
          have h0 : 0 < bys.length := by omega
          have h4 : ts.length ≤ 4 := by omega
          have hbp := bxB_parts hok
          refine sc_region ?_
          refine qs LD26 ?_
          refine qs (y_move RF) ?_
          refine sq_call_new (first := []) (caps := []) (Z := Option Addr × Nat × List Int) (fun z => .slice z.1 z.2.2.length z.2.1) (fun lo w' z => w.heap.size ≤ lo ∧ RowsA iRow 1 lo w' z.1 z.2.2 ∧ canV b z.2.2 = true) RF Try.call33 (EvL.cons RF (EvL.cons RF EvL.nil)) (fun w1 hw1 => (has33 w1 b a c (hB.at hw1 MM) hok ay cy bys (hy.at hw1 MM) hu h0).mono (fun e w' ⟨z, he, hb, hr, hc⟩ => ⟨z, he, hb, hw1.size, hr, hc⟩)) rfl (fun lo wr zh hzh => ?_)
          obtain ⟨ah, ch, L⟩ := zh
          obtain ⟨hlow, hL, hcan⟩ := hzh
          dsimp only at hlow hL hcan ⊢
          have hh : HasOk b L := allL_ok hok L ((mem_allL hok L).2 hcan)
          have hhl := hh.len
          refine qs (y_assign RF) ?_
          refine sq_nil ?_
          refine sx_then ?_
          refine sc_seq ?_
          refine sc_region ?_
          refine qs (y_assign RF) ?_
          refine sq_nil ?_
          refine sx_then ?_
          refine sc_seq ?_
          refine sc_region ?_
          refine qs (y_assign RF) ?_
          refine sq_nil ?_
          refine sx_then ?_
          refine sc_seq ?_
          refine sc_seq ?_
          refine sc_nil_own 54 8 ?_
          refine sc_region ?_
          refine qs (y_move RF) ?_
          refine qs (y_len Try.underlying43 RF) ?_
          refine qs (y_move RF) ?_
          refine sq_nil ?_
          refine sx_then ?_
          refine sc_block ?_
          refine sc_loop (σ := List Rd × Bool × Value)
            (fun s => [(1, .slice at_ ts.length ct), (2, .slice ay bys.length cy), (3, .pointer (some ⟨b3, 0, none⟩)), (7, .slice ah L.length ch), (8, s.2.2), (9, .bool s.2.1), (46, .slice at_ ts.length ct), (47, .int .i64 ts.length), (48, .int .i64 s.1.length)])
            (fun s => [.own s.2.2 54 8 s.1.length (s.1.flatMap rdRow), .reg lo wr, .blk b3 (.cells (bxRow b a c).toArray 26 (0, 0)), .reg 0 w])
            (fun s => RdOk b ts L s.1 ∧ s.2.1 = allP s.1 ∧ s.2.2.oneCell' = true)
            (fun s => ts.length - s.1.length)
            (([], true, .slice none 0 0)) ?_ SU SR ?_
          · exact ⟨RdOk.nil, rfl, rfl⟩
          rintro ⟨R, p, v⟩ ⟨hR, hp, hv⟩
          dsimp only at hR hp hv ⊢
          have hRn := hR.len
          refine sc_seq ?_
          refine sc_region ?_
          refine qs (y_lss RF RF) ?_
          refine sq_nil ?_
          refine sx_then ?_
          refine sc_seq ?_
          refine scp (fun hc1 => ?_) (fun hc1 => ?_)
          ·
            have hk' : R.length < ts.length := by omega
            have hsm := (ht.get te0 hk').1
            have hca := (ht.get te0 hk').2
            refine sc_skip ?_
            refine sx_then ?_
            refine sc_seq ?_
            refine sc_block ?_
            refine sc_seq ?_
            refine sc_region ?_
            refine qs (y_move RF) ?_
            refine qs IA43 ?_
            refine qs (by first | exact y_load_ca Try.underlying29 rfl Try.sizeOf29 RF MM hca rfl | exact LD29) ?_
            refine sq_alloc Try.zeroValue29 rfl (fun b11 => ?_)
            refine qs (y_assign RF) ?_
            refine sq_store_all Try.sizeOf29 RF RF rfl RM rfl rfl ?_
            refine sq_nil ?_
            refine sx_then ?_
            refine sc_seq ?_
            refine sc_seq ?_
            refine sc_region ?_
            refine qs LD26 ?_
            refine qs LD29 ?_
            refine qy (yc Try.call34 E2 (fun w1 _ => test34 w1 b a c hbp.1.2 (ts.getD R.length te0))) ?_
            refine qs (y_not RF) ?_
            refine sq_nil ?_
            refine sx_then ?_
            refine scp (fun hc2 => ?_) (fun hc2 => ?_)
            ·
              refine sc_seq ?_
              refine sc_region ?_
              refine qy (yc Try.call13 E0 (fun w1 _ => alive13 w1)) ?_
              refine qs (y_assign RF) ?_
              refine sq_nil ?_
              refine sx_then ?_
              refine sc_ret ?_
              refine sx_then_ret ?_
              refine sx_blk_ret ?_
              refine sx_then_ret ?_
              refine sx_round_ret ?_
              refine sx_blk_ret ?_
              refine sx_then_ret ?_
              refine sx_ret1 (.inl rfl) rfl Try.results6 RF ?_
              intro w' hw'
              exact ⟨rfl, hw'.below MM⟩
            ·
              refine sc_skip ?_
              refine sx_then ?_
              refine sc_seq ?_
              have htv : teB b (ts.getD R.length te0) = true := by simpa using hc2
              refine sc_region ?_
              refine qs LD26 ?_
              refine qs (y_move RF) ?_
              refine qs LD29 ?_
              refine qs (y_move RF) ?_
              refine qs (y_move RF) ?_
              refine sq_call_new (first := []) (caps := []) (Z := Int) (fun z => .int .i64 z) (fun _ _ z => (readV b (ts.getD R.length te0) L).lo ≤ z ∧ z ≤ (readV b (ts.getD R.length te0) L).hi) RF Try.call35 (EvL.cons RF (EvL.cons RF (EvL.cons RF (EvL.cons RF (EvL.cons RF EvL.nil))))) (fun w1 hw1 => (truly35 w1 b a c (hB.at hw1 MM) hok ah ch L (hL.at hw1 MM) hh (ts.getD R.length te0) htv ay cy bys (hy.at hw1 MM) hu h0 R.length (by omega)).mono (fun e w' ⟨⟨n, he, hn⟩, hb⟩ => ⟨n, he, hb, hn⟩)) rfl (fun lo1 wr1 n hn => ?_)
              refine qs (y_assign RF) ?_
              refine sq_nil ?_
              refine sx_then ?_
              refine sc_seq ?_
              refine sc_region ?_
              refine qs LD26 ?_
              refine qs (y_move RF) ?_
              refine qs LD29 ?_
              refine qy (yc Try.call14 E3 (fun w1 hw1 => reads14x w1 b a c (hB.at hw1 MM) ah ch L (hL.at hw1 MM) (ts.getD R.length te0) (readAns_ok hok htv hcan))) ?_
              refine qs (y_move RF) ?_
              refine qs (y_extract RF RF) ?_
              refine qs (y_extract RF RF) ?_
              refine sq_alloc Try.zeroValue24 rfl (fun b13 => ?_)
              refine sq_store_all Try.sizeOf24 RF RF rfl RM rfl rfl ?_
              refine qs (y_assign RF) ?_
              refine sq_nil ?_
              refine sx_then ?_
              refine sc_seq ?_
              refine sc_seq ?_
              refine sc_region ?_
              refine qs (y_move RF) ?_
              refine qs (y_neq RF RF) ?_
              refine qs (y_move RF) ?_
              refine sq_known (tt := 73) (b' := false) RF (by simp) ?_
              refine qg (y_move RF) ?_
              refine qg FA24_3 ?_
              refine qg LD3 ?_
              refine qg (y_lss RF RF) ?_
              refine qs (y_pick_f RF RF) ?_
              refine qs (y_move RF) ?_
              refine sq_known (tt := 79) (b' := false) RF (decide_eq_false (by omega)) ?_
              refine qg (y_move RF) ?_
              refine qg FA24_3 ?_
              refine qg LD3 ?_
              refine qg (y_gtr RF RF) ?_
              refine qs (y_pick_f RF RF) ?_
              refine sq_nil ?_
              refine sx_then ?_
              refine sc_f (lk_bool rfl (decide_eq_false (by omega))) ?_
              refine sc_skip ?_
              refine sx_then ?_
              refine sc_seq ?_
              refine sc_region ?_
              refine qs (y_move RF) ?_
              refine qs LD29 ?_
              refine qs (y_move RF) ?_
              refine qs (y_build (cells := (rdRow ⟨(ts.getD R.length te0), n⟩).toArray) bt54 (EvP.cons RF (EvP.cons RF EvP.nil)) (by kernel_rfl)) ?_
              refine sq_bs Try.underlying30 ei54 (EvI.cons RF EvI.nil) (by first | (simp [Value.cells]; done) | (simp [Value.cells]; rfl) | (simp [Value.cells]; and_intros <;> rfl)) rfl rfl rfl (fun b89 => ?_)
              refine sq_append (news := rdRow ⟨(ts.getD R.length te0), n⟩) Try.underlying30 ei54 rfl (by decide) RF RM RF rfl (fun _ hw => news_blk hw MM) (by simp [rdRow, Value.oneCell']) (by omega) rfl (fun v90 ho90 => ?_)
              rw [show R.flatMap rdRow ++ rdRow ⟨(ts.getD R.length te0), n⟩ = (R ++ [(⟨(ts.getD R.length te0), n⟩ : Rd)]).flatMap rdRow from by simp, show R.length + 1 = (R ++ [(⟨(ts.getD R.length te0), n⟩ : Rd)]).length from by simp]
              refine qs (y_assign RF) ?_
              refine sq_nil ?_
              refine sx_then ?_
              refine sc_region ?_
              refine qs (y_move RF) ?_
              refine qs (y_move RF) ?_
              refine sp 92 (fun hg16_1 => ?_) (fun hg16_1 => ?_)
              ·
                refine qg (y_move RF) ?_
                refine qg FA29_24 ?_
                refine qg FA24_3 ?_
                refine qg LD3 ?_
                refine qg (y_geq RF RF) ?_
                refine qs (y_pick_t RF RF) ?_
                refine qs (y_move RF) ?_
                refine sp 99 (fun hg16_8 => ?_) (fun hg16_8 => ?_)
                ·
                  refine qg (y_move RF) ?_
                  refine qg FA29_24 ?_
                  refine qg FA24_3 ?_
                  refine qg LD3 ?_
                  refine qg (y_leq RF RF) ?_
                  refine qs (y_pick_t RF RF) ?_
                  refine qs (y_assign RF) ?_
                  refine sq_nil ?_
                  refine sx_blk ?_
                  refine sx_then ?_
                  refine sc_region ?_
                  refine qs (y_add RF RF (by omega)) ?_
                  refine qs (y_move RF) ?_
                  refine sq_nil ?_
                  refine sx_round (((R ++ [(⟨(ts.getD R.length te0), n⟩ : Rd)]), decide (n ≤ (ts.getD R.length te0).pass.hi), v90)) ?_ ?_ (by repeat (first | exact SubL.nil | refine SubL.cons (by first | exact rfl | exact lk_int rfl (by simp) | exact lk_int rfl (by omega)) ?_)) SR
                  · refine ⟨hR.add hk' htv hn, ?_, ho90⟩
                    dsimp only
                    rw [allP_add, ← hp]
                    rw [hg16_1, decide_eq_true hg16_8]; simp
                  · show ts.length - (R ++ [(⟨(ts.getD R.length te0), n⟩ : Rd)]).length < _; rw [List.length_append, List.length_singleton]; dsimp only; omega
                ·
                  refine qf ?_
                  refine qf ?_
                  refine qf ?_
                  refine qf ?_
                  refine qf ?_
                  refine qs (y_pick_f RF RF) ?_
                  refine qs (y_assign RF) ?_
                  refine sq_nil ?_
                  refine sx_blk ?_
                  refine sx_then ?_
                  refine sc_region ?_
                  refine qs (y_add RF RF (by omega)) ?_
                  refine qs (y_move RF) ?_
                  refine sq_nil ?_
                  refine sx_round (((R ++ [(⟨(ts.getD R.length te0), n⟩ : Rd)]), false, v90)) ?_ ?_ (by repeat (first | exact SubL.nil | refine SubL.cons (by first | exact rfl | exact lk_int rfl (by simp) | exact lk_int rfl (by omega)) ?_)) SR
                  · refine ⟨hR.add hk' htv hn, ?_, ho90⟩
                    dsimp only
                    rw [allP_add, ← hp]
                    rw [decide_eq_false hg16_8]; simp
                  · show ts.length - (R ++ [(⟨(ts.getD R.length te0), n⟩ : Rd)]).length < _; rw [List.length_append, List.length_singleton]; dsimp only; omega
              ·
                refine qf ?_
                refine qf ?_
                refine qf ?_
                refine qf ?_
                refine qf ?_
                refine qs (y_pick_f RF RF) ?_
                refine qs (y_move RF) ?_
                refine qf ?_
                refine qf ?_
                refine qf ?_
                refine qf ?_
                refine qf ?_
                refine qs (y_pick_f RF RF) ?_
                refine qs (y_assign RF) ?_
                refine sq_nil ?_
                refine sx_blk ?_
                refine sx_then ?_
                refine sc_region ?_
                refine qs (y_add RF RF (by omega)) ?_
                refine qs (y_move RF) ?_
                refine sq_nil ?_
                refine sx_round (((R ++ [(⟨(ts.getD R.length te0), n⟩ : Rd)]), false, v90)) ?_ ?_ (by repeat (first | exact SubL.nil | refine SubL.cons (by first | exact rfl | exact lk_int rfl (by simp) | exact lk_int rfl (by omega)) ?_)) SR
                · refine ⟨hR.add hk' htv hn, ?_, ho90⟩
                  dsimp only
                  rw [allP_add, ← hp]
                  rw [hg16_1]; rfl
                · show ts.length - (R ++ [(⟨(ts.getD R.length te0), n⟩ : Rd)]).length < _; rw [List.length_append, List.length_singleton]; dsimp only; omega
          ·
            have hRl : R.length = ts.length := by omega
            refine sc_exit ?_
            refine sx_then_exit ?_
            refine sx_round_exit ?_
            refine sx_blk_hit ?_
            refine sx_then ?_
            refine sc_seq ?_
            have hfit := hR.fit hok hcan
            have hop := open_ok (hR.chk hok (by omega)) hfit
            have hja : judgeAns b R = .tuple #[.int .i64 (judgeV (fitL b R)), .int .i64 0] := by unfold judgeAns; rw [if_pos hop]
            have hjb := judge_bd (fitL b R)
            refine sc_region ?_
            refine qs LD26 ?_
            refine qs (y_move RF) ?_
            refine qy (yc Try.call16 E2 (fun w1 hw1 => judge16v w1 b a c (hB.at hw1 MM) v R (hw1.ok (Res.own v 54 8 R.length (R.flatMap rdRow)) MM) (by omega) hja)) ?_
            refine qs (y_move RF) ?_
            refine qs (y_extract RF RF) ?_
            refine qs (y_extract RF RF) ?_
            refine qs (y_assign RF) ?_
            refine qs (y_assign RF) ?_
            refine sq_nil ?_
            refine sx_then ?_
            refine sc_seq ?_
            refine sc_region ?_
            refine qs LD26 ?_
            refine qs (y_move RF) ?_
            refine sq_call_new (first := []) (caps := []) (Z := Option Addr × Nat) (fun z => .tuple #[.slice z.1 L.length z.2, .int .i64 0]) (fun lo w' z => RowsA spRow 2 lo w' z.1 (leftS L.length (fitL b R))) RF Try.call18 (EvL.cons RF (EvL.cons RF EvL.nil)) (fun w1 hw1 => left18v w1 b a c (hB.at hw1 MM) v R (hw1.ok (Res.own v 54 8 R.length (R.flatMap rdRow)) MM) (by omega) hop hh.len) rfl (fun lo2 wr2 zl hzl => ?_)
            refine qs (y_move RF) ?_
            refine qs (y_extract RF RF) ?_
            refine qs (y_extract RF RF) ?_
            refine qs (y_assign RF) ?_
            refine qs (y_assign RF) ?_
            refine sq_nil ?_
            refine sx_then ?_
            refine sc_seq ?_
            refine sc_region ?_
            refine qs (y_move RF) ?_
            refine qy (yc Try.call36 E1 (fun w1 hw1 => whole36 w1 ah ch L (hL.at hw1 MM))) ?_
            refine qs (y_assign RF) ?_
            refine sq_nil ?_
            refine sx_then ?_
            refine sc_seq ?_
            refine sc_seq ?_
            refine sc_midE (Z := Unit) (fun _ => [(1, .slice at_ ts.length ct), (3, .pointer (some ⟨b3, 0, none⟩)), (7, .slice ah L.length ch), (9, .bool p), (17, .slice zl.1 L.length zl.2), (19, .bool (wholeV L)), (156, .bool (decide (2 < judgeV (fitL b R))))]) (fun _ => [.reg lo2 wr2, .reg lo wr, .blk b3 (.cells (bxRow b a c).toArray 26 (0, 0)), .reg 0 w]) ?_ ?_
            ·
              refine sc_region ?_
              refine qs (y_move RF) ?_
              refine qs (y_neq RF RF) ?_
              refine qs (y_move RF) ?_
              refine sq_known (tt := 123) (b' := false) RF (by simp) ?_
              refine qg (y_move RF) ?_
              refine qg (y_neq RF RF) ?_
              refine qs (y_pick_f RF RF) ?_
              refine qs (y_move RF) ?_
              refine sq_known (tt := 127) (b' := false) RF (by simp) ?_
              refine qg (y_move RF) ?_
              refine qg (y_len Try.underlying38 RF) ?_
              refine qg (y_move RF) ?_
              refine qg (y_len Try.underlying27 RF) ?_
              refine qg (y_neq RF RF) ?_
              refine qs (y_pick_f RF RF) ?_
              refine qs (y_move RF) ?_
              refine sq_known (tt := 134) (b' := false) RF (by simp) ?_
              refine qg (y_move RF) ?_
              refine qg (y_eql RF RF) ?_
              refine qg (y_move RF) ?_
              refine sp 137 (fun hg21_16 => ?_) (fun hg21_16 => ?_)
              ·
                refine qg (y_move RF) ?_
                refine qg (y_not RF) ?_
                refine qg (y_pick_t RF RF) ?_
                refine qs (y_pick_f RF RF) ?_
                refine qs (y_move RF) ?_
                refine sq_known (tt := 142) (b' := false) RF (by rw [judge_two hg21_16 hfit]; rfl) ?_
                refine qg (y_move RF) ?_
                refine qg (y_eql RF RF) ?_
                refine qg (y_move RF) ?_
                refine sp 145 (fun hg21_24 => ?_) (fun hg21_24 => ?_)
                ·
                  refine qg (y_move RF) ?_
                  refine qg (y_pick_t RF RF) ?_
                  refine qs (y_pick_f RF RF) ?_
                  refine qs (y_move RF) ?_
                  refine sq_known (tt := 149) (b' := false) RF (judge_zero hg21_24 hfit) ?_
                  refine qg (y_move RF) ?_
                  refine qg (y_lss RF RF) ?_
                  refine qs (y_pick_f RF RF) ?_
                  refine qs (y_move RF) ?_
                  refine sq_known (tt := 153) (b' := false) RF (decide_eq_false (by omega)) ?_
                  refine qg (y_move RF) ?_
                  refine qg (y_gtr RF RF) ?_
                  refine qs (y_pick_f RF RF) ?_
                  refine sq_nil ?_
                  exact sx_midE (()) SU SR
                ·
                  refine qf ?_
                  refine qg (y_pick_f RF RF) ?_
                  refine qs (y_pick_f RF RF) ?_
                  refine qs (y_move RF) ?_
                  refine qg (y_move RF) ?_
                  refine qg (y_lss RF RF) ?_
                  refine qs (y_pick_f RF RF) ?_
                  refine qs (y_move RF) ?_
                  refine sq_known (tt := 153) (b' := false) RF (decide_eq_false (by omega)) ?_
                  refine qg (y_move RF) ?_
                  refine qg (y_gtr RF RF) ?_
                  refine qs (y_pick_f RF RF) ?_
                  refine sq_nil ?_
                  exact sx_midE (()) SU SR
              ·
                refine qf ?_
                refine qf ?_
                refine qg (y_pick_f RF RF) ?_
                refine qs (y_pick_f RF RF) ?_
                refine qs (y_move RF) ?_
                refine qg (y_move RF) ?_
                refine qg (y_eql RF RF) ?_
                refine qg (y_move RF) ?_
                refine sp 145 (fun hg21_24 => ?_) (fun hg21_24 => ?_)
                ·
                  refine qg (y_move RF) ?_
                  refine qg (y_pick_t RF RF) ?_
                  refine qs (y_pick_f RF RF) ?_
                  refine qs (y_move RF) ?_
                  refine sq_known (tt := 149) (b' := false) RF (judge_zero hg21_24 hfit) ?_
                  refine qg (y_move RF) ?_
                  refine qg (y_lss RF RF) ?_
                  refine qs (y_pick_f RF RF) ?_
                  refine qs (y_move RF) ?_
                  refine sq_known (tt := 153) (b' := false) RF (decide_eq_false (by omega)) ?_
                  refine qg (y_move RF) ?_
                  refine qg (y_gtr RF RF) ?_
                  refine qs (y_pick_f RF RF) ?_
                  refine sq_nil ?_
                  exact sx_midE (()) SU SR
                ·
                  refine qf ?_
                  refine qg (y_pick_f RF RF) ?_
                  refine qs (y_pick_f RF RF) ?_
                  refine qs (y_move RF) ?_
                  refine qg (y_move RF) ?_
                  refine qg (y_lss RF RF) ?_
                  refine qs (y_pick_f RF RF) ?_
                  refine qs (y_move RF) ?_
                  refine sq_known (tt := 153) (b' := false) RF (decide_eq_false (by omega)) ?_
                  refine qg (y_move RF) ?_
                  refine qg (y_gtr RF RF) ?_
                  refine qs (y_pick_f RF RF) ?_
                  refine sq_nil ?_
                  exact sx_midE (()) SU SR
            rintro ⟨⟩
            try dsimp only
            refine sx_then ?_
            refine sc_f (lk_bool rfl (decide_eq_false (by omega))) ?_
            refine sc_skip ?_
            refine sx_then ?_
            refine sc_seq ?_
            refine sc_seq ?_
            refine sc_region ?_
            refine qs (y_move RF) ?_
            refine qs (y_len Try.underlying38 RF) ?_
            refine qs (y_move RF) ?_
            refine sq_nil ?_
            refine sx_then ?_
            refine sc_block ?_
            refine sc_loop (σ := Nat)
              (fun s => [(1, .slice at_ ts.length ct), (3, .pointer (some ⟨b3, 0, none⟩)), (7, .slice ah L.length ch), (9, .bool p), (17, .slice zl.1 L.length zl.2), (19, .bool (wholeV L)), (157, .slice zl.1 L.length zl.2), (158, .int .i64 L.length), (159, .int .i64 s)])
              (fun s => [.reg lo2 wr2, .reg lo wr, .blk b3 (.cells (bxRow b a c).toArray 26 (0, 0)), .reg 0 w])
              (fun s => s ≤ L.length)
              (fun s => L.length - s)
              (0) ?_ SU SR ?_
            · exact Nat.zero_le _
            rintro k hk
            refine sc_seq ?_
            refine sc_region ?_
            refine qs (y_lss RF RF) ?_
            refine sq_nil ?_
            refine sx_then ?_
            refine sc_seq ?_
            refine scp (fun hc5 => ?_) (fun hc5 => ?_)
            ·
              have hk' : k < L.length := by omega
              have hsg := leftS_get L.length (fitL b R) hk'
              have hss := (hzl.el k _ hsg).1
              have hcs := (hzl.el k _ hsg).2
              have hbd := leftK_bd hfit k
              have hsl := (hL.get 0 hk').1
              have hcl := (hL.get 0 hk').2
              refine sc_skip ?_
              refine sx_then ?_
              refine sc_seq ?_
              refine sc_block ?_
              refine sc_seq ?_
              refine sc_region ?_
              refine qs (y_move RF) ?_
              refine qs IA38 ?_
              refine qs (by first | exact y_load_ca Try.underlying24 rfl Try.sizeOf24 RF MM hcs rfl | exact LD24) ?_
              refine sq_alloc Try.zeroValue24 rfl (fun b21 => ?_)
              refine qs (y_assign RF) ?_
              refine sq_store_all Try.sizeOf24 RF RF rfl RM rfl rfl ?_
              refine sq_nil ?_
              refine sx_then ?_
              refine sc_seq ?_
              refine sc_draw rfl (by kernel_rfl) (by kernel_rfl) ?_
              refine qq_y (OpY.s (y_move RF)) rfl ?_
              refine qq_y (OpY.s (y_move RF)) rfl ?_
              refine qq_y (OpY.s IA27) rfl ?_
              refine qq_y (OpY.s (by first | exact y_load_ca0 Try.underlying3 rfl RF MM hcl rfl | exact LD3)) rfl ?_
              refine qq_y (OpY.s FA24_3) rfl ?_
              refine qq_y (OpY.s LD3) rfl ?_
              refine qq_y (OpY.s (y_lss RF RF)) rfl ?_
              refine qq_y (OpY.s (y_move RF)) rfl ?_
              refine qq_known (tt := 171) (b' := false) RF (decide_eq_false (by omega)) ?_
              refine qq_gt RF RF (OpY.s (y_move RF)) rfl ?_
              refine qq_gt RF RF (OpY.s (y_move RF)) rfl ?_
              refine qq_gt RF RF (OpY.s IA27) rfl ?_
              refine qq_gt RF RF (OpY.s (by first | exact y_load_ca0 Try.underlying3 rfl RF MM hcl rfl | exact LD3)) rfl ?_
              refine qq_gt RF RF (OpY.s FA24_3) rfl ?_
              refine qq_gt RF RF (OpY.s LD3) rfl ?_
              refine qq_gt RF RF (OpY.s (y_gtr RF RF)) rfl ?_
              refine qq_y (OpY.s (y_pick_f RF RF)) rfl ?_
              refine qq_nil ?_
              refine sx_then ?_
              refine sc_f (lk_bool rfl (decide_eq_false (by omega))) ?_
              refine sc_skip ?_
              refine sx_blk ?_
              refine sx_then ?_
              refine sc_region ?_
              refine qs (y_add RF RF (by omega)) ?_
              refine qs (y_move RF) ?_
              refine sq_nil ?_
              refine sx_round (k + 1) ?_ ?_ SU SR
              · omega
              · omega
            ·
              refine sc_exit ?_
              refine sx_then_exit ?_
              refine sx_round_exit ?_
              refine sx_blk_hit ?_
              refine sx_then ?_
              refine sc_seq ?_
              refine sc_region ?_
              refine qs LD26 ?_
              refine qs (y_move RF) ?_
              refine sq_call_new (first := []) (caps := []) (Z := Option Addr × Nat) (fun z => .tuple #[.slice z.1 (slipR b ts).1.length z.2, .int .i64 (slipR b ts).2]) (fun _ _ _ => True) RF Try.call21 (EvL.cons RF (EvL.cons RF EvL.nil)) (fun w1 hw1 => (slips21 w1 b a c (hB.at hw1 MM) at_ ct ts (ht.at hw1 MM)).mono (fun e w' ⟨z, he, hb, _⟩ => ⟨z, he, hb, trivial⟩)) rfl (fun lo3 wr3 zs _ => ?_)
              refine qs (y_move RF) ?_
              refine qs (y_extract RF RF) ?_
              refine qs (y_extract RF RF) ?_
              refine qs (y_assign RF) ?_
              refine qs (y_assign RF) ?_
              refine sq_nil ?_
              refine sx_then ?_
              refine sc_seq ?_
              refine sc_region ?_
              refine qs (y_move RF) ?_
              refine qs (y_neq RF RF) ?_
              refine qs (y_move RF) ?_
              refine sp 189 (fun hg30_2 => ?_) (fun hg30_2 => ?_)
              ·
                refine qf ?_
                refine qf ?_
                refine qs (y_pick_t RF RF) ?_
                refine qs (y_move RF) ?_
                refine qf ?_
                refine qs (y_pick_t RF RF) ?_
                refine qs (y_move RF) ?_
                refine sq_gt RF RF (y_call (first := []) (caps := []) RF Try.call13 EvL.nil (fun w1 _ => alive13 w1)) rfl ?_
                refine qs (y_pick_t RF RF) ?_
                refine qs (y_assign RF) ?_
                refine sq_nil ?_
                refine sx_then ?_
                refine sc_ret ?_
                refine sx_ret1 (.inl rfl) rfl Try.results6 RF ?_
                intro w' hw'
                exact ⟨rfl, hw'.below MM⟩
              ·
                refine qg (y_move RF) ?_
                refine qg (y_not RF) ?_
                refine qs (y_pick_f RF RF) ?_
                refine qs (y_move RF) ?_
                refine sp 193 (fun hg30_6 => ?_) (fun hg30_6 => ?_)
                ·
                  refine qf ?_
                  refine qs (y_pick_t RF RF) ?_
                  refine qs (y_move RF) ?_
                  refine sq_gt RF RF (y_call (first := []) (caps := []) RF Try.call13 EvL.nil (fun w1 _ => alive13 w1)) rfl ?_
                  refine qs (y_pick_t RF RF) ?_
                  refine qs (y_assign RF) ?_
                  refine sq_nil ?_
                  refine sx_then ?_
                  refine sc_ret ?_
                  refine sx_ret1 (.inl rfl) rfl Try.results6 RF ?_
                  intro w' hw'
                  exact ⟨rfl, hw'.below MM⟩
                ·
                  refine qg (y_move RF) ?_
                  refine qs (y_pick_f RF RF) ?_
                  refine qs (y_move RF) ?_
                  refine sq_known (tt := 196) (b' := true) RF (slip_whole hok hcan hg30_2 (hR.pass hRl (by rw [← hp]; simpa using hg30_6))) ?_
                  refine sq_gt RF RF (y_call (first := []) (caps := []) RF Try.call13 EvL.nil (fun w1 _ => alive13 w1)) rfl ?_
                  refine qs (y_pick_t RF RF) ?_
                  refine qs (y_assign RF) ?_
                  refine sq_nil ?_
                  refine sx_then ?_
                  refine sc_ret ?_
                  refine sx_ret1 (.inl rfl) rfl Try.results6 RF ?_
                  intro w' hw'
                  exact ⟨rfl, hw'.below MM⟩
end Go.Proofs.Ytofjipmheckmjaa
