/- The walk of the best order. -/
import Derived.Test.YtjlbpmcacopbpaaLawC
import Derived.Test.YtjlbpmcacopbpaaEng18
namespace Go.Proofs.Ytjlbpmcacopbpaa
open Go Go.Eng Go.RowKit Go.Proofs
set_option maxRecDepth 100000
theorem size3 : (Try.prog.info? 3).map (·.size) = some 1 := by kernel_rfl
theorem own_src {w0 w : World} {rs : List Res} {b n c sz m : Nat} {e : TypeId} {xs : List Value} (h : Hp w0 rs w) (hm : Res.own (.slice (some ⟨b, 0, none⟩) n c) e sz m xs ∈ rs) : ∀ j u, xs[j]? = some u → w.cell? ((⟨b, 0, none⟩ : Addr).add j) = some u := own_news h hm
theorem iflat_one (l : List Int) : ∀ v, v ∈ l.flatMap iRow → v.oneCell' = true := fun v hv => by
  obtain ⟨x, _, hx⟩ := List.mem_flatMap.1 hv
  rw [List.mem_singleton.1 hx]; rfl
theorem copy_all {xs cs : List Value} (h : xs.length = cs.length) : (xs.toArray.toList.take 0 ++ cs ++ xs.toArray.toList.drop (0 + cs.length)) = cs := by simp [h]
theorem iflat_len (l : List Int) : (l.flatMap iRow).length = l.length := by rw [flat_len iRow_len, Nat.mul_one]

/-- all orders, ranged over by a body that may break out of it -/
theorem ordersB {w0 w wr : World} {lo n : Nat} {p : Addr} {rs : List Res} {fn : FuncId} {tm : Array Value} {l D pp : Nat} {c cd : Code} (hw : Hp w0 (.blk l (.loop (LP fn tm [pp] c cd D)) :: .blk D (.deferred (some [])) :: rs) w) (h7 : n ≤ 7) (hp : CA lo wr p [.int .i64 n]) (id : Nat) {Z : Type} (FR : Z → List Res) (Inv : (List Nat → Prop) → Z → Prop) (Stp : Z → Prop)
    (hcong : ∀ H H' z, (∀ q, q.Perm (List.range n) → (H q ↔ H' q)) → Inv H z → Inv H' z) (z : Z) (hz : Inv (fun _ => False) z) (hsel : Sel (.reg lo wr :: .reg 0 w0 :: FR z) rs)
    (hround : ∀ (c' cd' : Code) z cur b, cur.Perm (List.range n) → Inv (befL cur) z → ∀ F w, Hp w0 (OL b n cur :: .blk l (.loop (LP fn tm [pp] c' cd' D)) :: .blk D (.deferred (some [])) :: (FR z ++ F)) w → RoundIn (FW none) 0 Try.prog l fn (tm.setIfInBounds pp (.slice (some ⟨b, 0, none⟩) n n)) c cd w fun e w' =>
      (∃ z', Inv (fun q => befL cur q ∨ q = cur) z' ∧ e = .returned (.bool true) ∧ Hp w0 (OL b n cur :: .blk l (.loop (LP fn tm [pp] c' cd' D)) :: .blk D (.deferred (some [])) :: (FR z' ++ F)) w') ∨ ∃ z', Stp z' ∧ e = .returned (.bool false) ∧ Hp w0 (OL b n cur :: .blk l (.loop (LB id fn tm [pp] c' cd' D)) :: .blk D (.deferred (some [])) :: (FR z' ++ F)) w') :
    Calls Try.prog 74 #[.func (.yield l) #[] #[], .pointer (some p)] w fun e w' => (∃ v, e = .returned v) ∧ ((∃ z, Inv (fun _ => True) z ∧ Hp w0 (.blk l (.loop (LP fn tm [pp] c cd D)) :: .blk D (.deferred (some [])) :: .reg lo wr :: .reg 0 w0 :: FR z) w') ∨ ∃ z, Stp z ∧ Hp w0 (.blk l (.loop (LB id fn tm [pp] c cd D)) :: .blk D (.deferred (some [])) :: .reg lo wr :: .reg 0 w0 :: FR z) w') := by
  have hw2 : Hp w0 (.reg lo wr :: .reg 0 w0 :: .blk l (.loop (LP fn tm [pp] c cd D)) :: .blk D (.deferred (some [])) :: FR z) w := (hw.sel (Sel.cons .here (Sel.cons .here hsel))).sel (Sel.cons (.there (.there .here)) (Sel.cons (.there (.there .here)) (Sel.refl _)))
  refine (orders74 (w0 := w0) (lo := lo) (wr := wr) (lp := LP fn tm [pp] c cd D) h7 hp (fun (y : Bool × Z) => .blk l (.loop (LZB id y.1 fn tm [pp] c cd D)) :: .blk D (.deferred (some [])) :: FR y.2) (fun H y => y.1 = true ∧ Inv H y.2) (fun y => y.1 = false ∧ Stp y.2)
    (fun H H' y h hy => ⟨hy.1, hcong H H' _ h hy.2⟩) (fun H y hy => by obtain ⟨g, z⟩ := y; obtain rfl : g = true := hy.1; exact .head _) rfl ?_ (true, z) ⟨rfl, hz⟩ hw2).mono ?_
  · rintro ⟨g, z⟩ cur b hcur ⟨hg, hz⟩ F w2 hw2
    obtain rfl : g = true := hg
    rw [fold1]
    refine (hround _ _ z cur b hcur hz F w2 hw2).mono ?_
    rintro e w' (⟨z', h1, h2, h3⟩ | ⟨z', h1, h2, h3⟩)
    · exact ⟨(true, z'), true, by rw [if_pos rfl]; exact ⟨rfl, h1⟩, h2, h3⟩
    · exact ⟨(false, z'), false, by rw [if_neg (by simp)]; exact ⟨rfl, h1⟩, h2, h3⟩
  · rintro e w' ⟨hv, ⟨g, z'⟩, go, h1, h2⟩
    refine ⟨hv, ?_⟩
    by_cases hgo : go = true
    · rw [if_pos hgo] at h1
      obtain ⟨rfl, h1⟩ : g = true ∧ _ := h1
      exact .inl ⟨z', h1, h2.sel (Sel.cons (.there (.there .here)) (Sel.cons (.there (.there .here)) (Sel.refl _)))⟩
    · rw [if_neg hgo] at h1
      obtain ⟨rfl, h1⟩ : g = false ∧ _ := h1
      exact .inr ⟨z', h1, h2.sel (Sel.cons (.there (.there .here)) (Sel.cons (.there (.there .here)) (Sel.refl _)))⟩

def FRb (b2 b3 b5 b6 n : Nat) (ts : List Tm) (tv : Value) (z : Option (List Nat) × Value) : List Res := [.blk b2 (.cells [z.2].toArray 35 (0, 0)), .blk b3 (.cells [Value.int .i64 (hourZ ts z.1)].toArray 3 (0, 0)), .blk b5 (.cells [tv].toArray 85 (0, 0)), .blk b6 (.cells [Value.bool z.1.isSome].toArray 4 (0, 0)), .own z.2 3 1 (ordZ z.1).length ((ordZ z.1).flatMap iRow), .own tv 92 2 n (ts.flatMap tmRow)]
theorem best27 (w : World) (a : Option Addr) (c : Nat) (l : List Jb) (hl : RowsA jbRow 5 0 w a l) : Calls Try.prog 27 #[.slice a l.length c] w fun e w' => ∃ v, e = .returned (.tuple #[v, .int .i64 (bestR l).2.1, .int .i64 (bestR l).2.2]) ∧ Below w.heap.size w w' ∧ w'.ownsRow w.heap.size 3 1 v (bestR l).1.length ((bestR l).1.flatMap iRow) := by
  have hlen := hl.len
  refine calls_of_SCm (args := [.slice a l.length c]) Try.func27 rfl Try.ntmps27 rfl ?_
  simp only [argL]
  refine sc_seq ?_
  refine sc_region ?_
  refine sq_alloc Try.zeroValue35 rfl (fun b2 => ?_)
  refine sq_alloc Try.zeroValue3 rfl (fun b3 => ?_)
  refine qs (y_assign RF) ?_
  refine sq_nil ?_
  refine sx_then ?_
  refine sc_scope ?_
  refine sc_seq ?_
  refine sc_seq ?_
  refine sc_region ?_
  refine qs (y_move RF) ?_
  refine qy (yc Try.call63 E1 (fun w1 hw1 => areJobs63 w1 a c l (hl.at hw1 MM))) ?_
  refine qs (y_not RF) ?_
  refine sq_nil ?_
  refine sx_then ?_
  refine scp (fun hc0 => ?_) (fun hc0 => ?_)
  ·
    refine sc_seq ?_
    refine sc_nil_own 3 1 ?_
    refine sc_region ?_
    refine sq_store Try.sizeOf35 RF RF (by first | rfl | assumption) RM (by first | exact Nat.le_of_ble_eq_true rfl | simp | omega) ?_
    refine sq_store Try.sizeOf3 RF RF (by first | rfl | assumption) RM (by first | exact Nat.le_of_ble_eq_true rfl | simp | omega) ?_
    refine qs (y_assign RF) ?_
    refine sq_nil ?_
    refine sx_then ?_
    refine sc_ret ?_
    refine sx_then_ret ?_
    refine sx_scope_ret ?_
    refine sx_retM0 (.inl rfl) rfl _ (res_cct Try.results27 Try.underlying35 rfl Try.underlying3 rfl RF MM RF MM RF) ?_
    intro w' hw'
    have hj : jobsB l = false := by simpa using hc0
    have hbr : bestR l = ([], 0, 1) := by unfold bestR; rw [if_pos hj]
    rw [hbr]
    exact ⟨_, rfl, hw'.below MM, own_new_mem hw' MM MM⟩
  ·
    refine sc_skip ?_
    refine sx_then ?_
    refine sc_seq ?_
    have hj : jobsB l = true := by simpa using hc0
    have h7 := (jobsB_parts hj).1
    obtain ⟨ts, hts⟩ : ∃ ts, ts = l.map (timeV true) := ⟨_, rfl⟩
    have hsm : ∀ t, t ∈ ts → smT t := by rw [hts]; exact tm_smT hj true
    have htl : ts.length = l.length := by rw [hts, List.length_map]
    refine sc_nil_own 3 1 ?_
    refine sc_region ?_
    refine qs (y_move RF) ?_
    refine qs (y_build (cells := #[]) bt89 EvP.nil (by kernel_rfl)) ?_
    refine qs (y_makeIface Try.underlying89 (fun _ h => by cases h) RF) ?_
    refine sq_call_own (first := []) (caps := []) (Z := Value) (e := 92) (sz := 2) (n := l.length) (fun z => z) (fun z => z) (fun _ => ts.flatMap tmRow) (fun z => z.oneCell' = true) RF Try.call59 (EvL.cons RF (EvL.cons RF EvL.nil)) (fun w1 hw1 => (timesOf59 w1 a c l (hl.at hw1 MM) h7 true).mono (fun e w' ⟨v, h1, h2, h3, h4⟩ => ⟨v, h1, h2, h3, by rw [hts]; exact h4⟩)) rfl (fun v17 hv17 => ?_)
    refine sq_alloc Try.zeroValue85 rfl (fun b5 => ?_)
    refine sq_store Try.sizeOf85 RF RF (by first | rfl | assumption) RM (by first | exact Nat.le_of_ble_eq_true rfl | simp | omega) ?_
    refine sq_nil ?_
    refine sx_then ?_
    refine sc_seq ?_
    refine sc_region ?_
    refine sq_alloc Try.zeroValue4 rfl (fun b6 => ?_)
    refine sq_store Try.sizeOf4 RF RF (by first | rfl | assumption) RM (by first | exact Nat.le_of_ble_eq_true rfl | simp | omega) ?_
    refine sq_nil ?_
    refine sx_then ?_
    refine sc_seq ?_
    refine sc_label ?_
    refine sx_then ?_
    refine sc_seq ?_
    refine sc_seq ?_
    refine sc_region ?_
    refine qs (y_move RF) ?_
    refine qs (y_len Try.underlying34 RF) ?_
    refine sq_call_new (first := []) (caps := []) (Z := Addr) (fun z => .func (.func 74) #[] #[.pointer (some z)]) (fun lo w' z => CA lo w' z [.int .i64 l.length]) RF Try.call64 (EvL.cons RF EvL.nil) (fun w1 hw1 => orders64 w1 l.length) rfl (fun lo20 wr20 p20 hp20 => ?_)
    refine sq_nil ?_
    refine sx_then ?_
    refine sc_block ?_
    refine sc_rangeFuncB (id := 0) (Z := Option (List Nat) × Value) (Z' := Value) (ps := [21]) (lb := [.pointer (some p20)]) (fun z => .reg lo20 wr20 :: .reg 0 w :: [.blk b2 (.cells [z.2].toArray 35 (0, 0)), .blk b3 (.cells [Value.int .i64 (hourZ ts z.1)].toArray 3 (0, 0)), .blk b5 (.cells [v17].toArray 85 (0, 0)), .blk b6 (.cells [Value.bool z.1.isSome].toArray 4 (0, 0)), .own z.2 3 1 (ordZ z.1).length ((ordZ z.1).flatMap iRow), .own v17 92 2 l.length (ts.flatMap tmRow)]) (fun z => InvB ts l.length (fun _ => True) z.1 ∧ z.2.oneCell' = true) (fun v => .reg lo20 wr20 :: .reg 0 w :: [.blk b2 (.cells [((none, v) : Option (List Nat) × Value).2].toArray 35 (0, 0)), .blk b3 (.cells [Value.int .i64 (hourZ ts ((none, v) : Option (List Nat) × Value).1)].toArray 3 (0, 0)), .blk b5 (.cells [v17].toArray 85 (0, 0)), .blk b6 (.cells [Value.bool ((none, v) : Option (List Nat) × Value).1.isSome].toArray 4 (0, 0)), .own ((none, v) : Option (List Nat) × Value).2 3 1 (ordZ ((none, v) : Option (List Nat) × Value).1).length ((ordZ ((none, v) : Option (List Nat) × Value).1).flatMap iRow), .own v17 92 2 l.length (ts.flatMap tmRow)]) (fun v => l.length = 0 ∧ v.oneCell' = true) rfl RF Try.call74 ?_ ?_ ?_
    ·
      intro fn tm l' D hts' htL w1 hw1
      refine (ordersB hw1 h7 hp20 0 (fun (z : Option (List Nat) × Value) => [.blk b2 (.cells [z.2].toArray 35 (0, 0)), .blk b3 (.cells [Value.int .i64 (hourZ ts z.1)].toArray 3 (0, 0)), .blk b5 (.cells [v17].toArray 85 (0, 0)), .blk b6 (.cells [Value.bool z.1.isSome].toArray 4 (0, 0)), .own z.2 3 1 (ordZ z.1).length ((ordZ z.1).flatMap iRow), .own v17 92 2 l.length (ts.flatMap tmRow)]) (fun H z => InvB ts l.length H z.1 ∧ z.2.oneCell' = true) (fun z => (l.length = 0 ∧ z.2.oneCell' = true) ∧ z.1 = none) (fun H H' z h hz => ⟨invB_cong h hz.1, hz.2⟩) (none, .slice none 0 0) ⟨fun q _ h => h.elim, rfl⟩ SR ?_).mono ?_
      rotate_left
      · rintro e w' ⟨hv, ⟨z, h1, h2⟩ | ⟨⟨zo, zv⟩, ⟨h1, h3⟩, h2⟩⟩
        · exact ⟨hv, .inl ⟨z, h1, h2⟩⟩
        · obtain rfl : zo = none := h3
          exact ⟨hv, .inr ⟨zv, h1, h2⟩⟩
      rintro c' cd' ⟨zo, zv⟩ cur b hcur ⟨hz, hzv⟩ F w2 hw2
      dsimp only at hz hzv hw2
      have hzv' : (#[zv] : Array Value)[0].oneCell' = true := hzv
      have hcl : cur.length = l.length := by rw [hcur.length_eq, List.length_range]
      have hin : (nI cur).length = l.length := (nI_len cur).trans hcl
      obtain ⟨hs2, hL2⟩ := one_param (p := 21) (u := .slice (some ⟨b, 0, none⟩) l.length l.length) hts' htL (Nat.le_of_ble_eq_true rfl)
      refine round_of_SC (N := 50) hs2 hL2 hw2 ?_
      dsimp only [List.cons_append, List.nil_append, OL]
      refine sc_region ?_
      refine qs (y_assign RF) ?_
      refine sq_nil ?_
      refine sx_begin rfl RM rfl ?_
      refine sc_block ?_
      refine sc_seq ?_
      refine sc_region ?_
      refine sq_alloc Try.zeroValue98 rfl (fun b8 => ?_)
      refine sq_nil ?_
      refine sx_then ?_
      refine sc_seq ?_
      refine sc_seq ?_
      refine sc_region ?_
      refine qs (y_move RF) ?_
      refine qs (y_len Try.underlying35 RF) ?_
      refine qs (y_move RF) ?_
      refine sq_nil ?_
      refine sx_then ?_
      refine sc_block ?_
      refine sc_loop (σ := Nat)
        (fun s => [(7, .slice (some ⟨b, 0, none⟩) l.length l.length), (2, .pointer (some ⟨b2, 0, none⟩)), (3, .pointer (some ⟨b3, 0, none⟩)), (5, .pointer (some ⟨b5, 0, none⟩)), (6, .pointer (some ⟨b6, 0, none⟩)), (8, .pointer (some ⟨b8, 0, none⟩)), (22, .slice (some ⟨b, 0, none⟩) l.length l.length), (23, .int .i64 l.length), (24, .int .i64 s)])
        (fun s => .own (.slice (some ⟨b, 0, none⟩) l.length l.length) 3 1 l.length ((nI cur).flatMap iRow) :: .blk b8 (.cells [Value.int .i64 (runL (ordT ts ((nI cur).take s)) (0, 0)).1, .int .i64 (runL (ordT ts ((nI cur).take s)) (0, 0)).2].toArray 98 (0, 0)) :: .blk l' (.loop { LP fn tm [21] c' cd' D with state := .busy }) :: .blk D (.deferred (some [])) :: .blk b2 (.cells [zv].toArray 35 (0, 0)) :: .blk b3 (.cells [Value.int .i64 (hourZ ts zo)].toArray 3 (0, 0)) :: .blk b5 (.cells [v17].toArray 85 (0, 0)) :: .blk b6 (.cells [Value.bool zo.isSome].toArray 4 (0, 0)) :: .own zv 3 1 (ordZ zo).length ((ordZ zo).flatMap iRow) :: .own v17 92 2 l.length (ts.flatMap tmRow) :: F)
        (fun s => s ≤ l.length ∧ (0 < s → zo.isSome = true → (runL (ordT ts ((nI cur).take s)) (0, 0)).2 < hourZ ts zo))
        (fun s => l.length - s)
        (0) ?_ SU SR ?_
      · exact ⟨Nat.zero_le _, fun h => absurd h (Nat.lt_irrefl 0)⟩
      rintro k ⟨hk, hbef⟩
      refine sc_seq ?_
      refine sc_region ?_
      refine qs (y_lss RF RF) ?_
      refine sq_nil ?_
      refine sx_then ?_
      refine sc_seq ?_
      refine scp (fun hc1 => ?_) (fun hc1 => ?_)
      ·
        have hk' : k < l.length := by omega
        have hKn : cur.getD k 0 < l.length := perm_lt hcur _ (List.mem_of_getElem? (get_of_lt 0 (by omega)))
        have hbw := run_big (ts := ts) hsm (o := (nI cur).take k) (by rw [List.length_take]; omega)
        have hst := hsm _ (List.mem_of_getElem? (get_of_lt (0, 0) (show cur.getD k 0 < ts.length by omega)))
        have hstep := take_ord ts (o := nI cur) (k := k) (by omega)
        rw [getD_of (nI_get (by omega)), Int.toNat_natCast] at hstep
        refine sc_skip ?_
        refine sx_then ?_
        refine sc_seq ?_
        refine sc_block ?_
        refine sc_seq ?_
        refine sc_region ?_
        refine qs (y_ia_own Try.underlying35 Try.sizeOf3 RF MM RF hk') ?_
        refine qs (by first | exact y_load_own0 (v := .slice (some ⟨b, 0, none⟩) l.length l.length) (u := .int .i64 ((cur.getD k 0 : Nat) : Int)) Try.underlying3 rfl RF MM hk' (flat_iget (nI_get (by omega))) | exact LD3) ?_
        refine qs (y_assign RF) ?_
        refine sq_nil ?_
        refine sx_then ?_
        refine sc_seq ?_
        refine sc_drawX ([.blk b3 (.cells [Value.int .i64 (hourZ ts zo)].toArray 3 (0, 0)), .blk b5 (.cells [v17].toArray 85 (0, 0)), .blk b6 (.cells [Value.bool zo.isSome].toArray 4 (0, 0)), .own v17 92 2 l.length (ts.flatMap tmRow)]) (by kernel_rfl) ?_
        refine xj_s 0 RF (by kernel_rfl) SR LD85 rfl ?_
        refine xj_s 1 RF (by kernel_rfl) SR (y_move RF) rfl ?_
        refine xj_s 2 RF (by kernel_rfl) SR (y_ia_own Try.underlying85 Try.sizeOf92 RF MM RF (by omega)) rfl ?_
        refine xj_s 3 RF (by kernel_rfl) SR (by first | exact y_load_own (row := tmRow (ts.getD (cur.getD k 0) (0, 0))) Try.underlying92 rfl Try.sizeOf92 RF MM hKn (fun j u hj => flat_get tmRow_len _ _ _ (get_of_lt (0, 0) (by omega)) j u hj) rfl | exact LD92) rfl ?_
        refine xj_s 5 RF (by kernel_rfl) SR LD3 rfl ?_
        refine xj_one 4 RF (by kernel_rfl) ?_
        refine sq_call_fr (first := []) (caps := []) (vs := [.pointer (some ⟨b8, 0, none⟩), .agg (tmRow (ts.getD (cur.getD k 0) (0, 0))).toArray]) (rs1 := [.blk b8 (.cells [Value.int .i64 (runL (ordT ts ((nI cur).take k)) (0, 0)).1, .int .i64 (runL (ordT ts ((nI cur).take k)) (0, 0)).2].toArray 98 (0, 0))]) (Z := Unit) (fun _ => .int .i64 (runL (ordT ts ((nI cur).take (k + 1))) (0, 0)).2) (fun _ => [.blk b8 (.cells [Value.int .i64 (runL (ordT ts ((nI cur).take (k + 1))) (0, 0)).1, .int .i64 (runL (ordT ts ((nI cur).take (k + 1))) (0, 0)).2].toArray 98 (0, 0))]) (fun _ => True) RF Try.call65 E2 (by repeat (first | exact Rems.nil | apply Rems.cons (by repeat (first | exact Rem.here | apply Rem.there)))) (fun w1 hw1 => (take65 w w1 _ b8 (runL (ordT ts ((nI cur).take k)) (0, 0)) (ts.getD (cur.getD k 0) (0, 0)) hbw hst hw1).mono (fun e w' h => ⟨(), trivial, by rw [hstep]; exact h.1, by rw [hstep]; exact h.2⟩)) rfl (fun _ _ => ?_)
        refine sq_nil ?_
        refine sx_xp SR ?_
        refine xj_s 6 RF (by kernel_rfl) SR (y_geq RF RF) rfl ?_
        refine xj_s 7 RF (by kernel_rfl) SR (y_move RF) rfl ?_
        first | refine xj_splitd (tt := 35) RF (fun hg11_7 => ?_) (fun hg11_7 => ?_) | refine xj_splitn (tt := 35) RF (fun hg11_7 => ?_) (fun hg11_7 => ?_) | refine xj_split (tt := 35) RF (fun hg11_7 => ?_) (fun hg11_7 => ?_)
        ·
          refine xj_gt 8 RF RF RF (by kernel_rfl) SR LD4 rfl ?_
          refine xj_s 9 RF (by kernel_rfl) SR (y_pick_t RF RF) rfl ?_
          refine xj_done (by kernel_rfl) ?_
          refine sx_then ?_
          refine scp (fun hc2 => ?_) (fun hc2 => ?_)
          ·
            refine sc_exit ?_
            refine sx_blk_miss rfl ?_
            refine sx_then_exit ?_
            refine sx_round_exit ?_
            refine sx_blk_miss rfl ?_
            refine sx_then_exit ?_
            refine sx_blk_hit ?_
            refine sx_endround RM ?_
            intro w' hw'
            exact .inl ⟨(zo, zv), ⟨invB_skip hz hc2 (Int.le_trans hg11_7 (run_le_done hsm cur (k + 1))), hzv⟩, rfl, hw'.sel (by dsimp only [List.cons_append, List.nil_append, OL]; exact SR)⟩
          ·
            refine sc_skip ?_
            refine sx_blk ?_
            refine sx_then ?_
            refine sc_region ?_
            refine qs (y_add RF RF (by omega)) ?_
            refine qs (y_move RF) ?_
            refine sq_nil ?_
            refine sx_round (k + 1) ?_ ?_ SU SR
            · exact ⟨by omega, fun _ h => by rw [hc2] at h; cases h⟩
            · omega
        ·
          refine xj_gf 8 RF RF RF rfl (by kernel_rfl) SR rfl ?_
          refine xj_s 9 RF (by kernel_rfl) SR (y_pick_f RF RF) rfl ?_
          refine xj_done (by kernel_rfl) ?_
          refine sx_then ?_
          refine sc_f RF ?_
          refine sc_skip ?_
          refine sx_blk ?_
          refine sx_then ?_
          refine sc_region ?_
          refine qs (y_add RF RF (by omega)) ?_
          refine qs (y_move RF) ?_
          refine sq_nil ?_
          refine sx_round (k + 1) ?_ ?_ SU SR
          · exact ⟨by omega, fun _ _ => by omega⟩
          · omega
      ·
        have hkn : k = l.length := by omega
        subst hkn
        have htk : (nI cur).take l.length = nI cur := List.take_of_length_le (by omega)
        rw [htk]
        rw [htk] at hbef
        refine sc_exit ?_
        refine sx_then_exit ?_
        refine sx_round_exit ?_
        refine sx_blk_hit ?_
        refine sx_then ?_
        refine sc_seq ?_
        refine sc_seq ?_
        refine sc_region ?_
        refine qs (y_move RF) ?_
        refine qs (y_len Try.underlying35 RF) ?_
        refine sq_make Try.underlying35 ei3 (show ev _ _ = some (Value.int .i64 (((nI cur).length : Nat) : Int)) from by rw [hin]; exact rfl) (show ev _ _ = some (Value.int .i64 (((nI cur).length : Nat) : Int)) from by rw [hin]; exact rfl) (by omega) (by omega) (by omega) rfl (fun b41 => ?_)
        rw [irep]
        refine sq_store Try.sizeOf35 RF RF (by first | rfl | assumption) RM (by first | exact Nat.le_of_ble_eq_true rfl | simp | omega) ?_
        refine sq_nil ?_
        refine sx_then ?_
        refine sc_seq ?_
        refine sc_region ?_
        refine qs LD35 ?_
        refine qs (y_move RF) ?_
        refine sq_copy (cs := (nI cur).flatMap iRow) Try.underlying35 size3 RF RF RM (by rw [iflat_len]; omega) (fun w1 hw1 => own_src hw1 MM) (by rw [iflat_len]; simp only [List.size_toArray, iflat_len, List.length_replicate]; omega) (iflat_one _) rfl ?_
        rw [copy_all (by rw [iflat_len, iflat_len, List.length_replicate]), iflat_len]
        refine sq_blk_own (n := (nI cur).length) (sz := 1) (xs := (nI cur).flatMap iRow) RM (by rw [iflat_len, Nat.mul_one]) (by unfold maxLen; omega) ?_
        refine qs (y_eql RF RF) ?_
        refine sq_nil ?_
        refine sx_then ?_
        refine scp (fun hc3 => ?_) (fun hc3 => ?_)
        ·
          have hn0 : l.length = 0 := by omega
          obtain rfl : zo = none := by
            cases zo with
            | none => rfl
            | some o => exact absurd hz.1 (by omega)
          obtain rfl : cur = [] := List.eq_nil_of_length_eq_zero (by omega)
          refine sc_exit ?_
          refine sx_then_exit ?_
          refine sx_blk_miss rfl ?_
          refine sx_endround_exit RM ?_
          intro w' hw'
          exact .inr ⟨(none, _), ⟨⟨hn0, rfl⟩, rfl⟩, rfl, hw'.sel (by dsimp only [List.cons_append, List.nil_append, OL]; exact SR)⟩
        ·
          have hn0 : 0 < l.length := by omega
          refine sc_skip ?_
          refine sx_then ?_
          refine sc_region ?_
          refine qs (y_ia_arr Try.underlying98 Try.sizeOf3 RF (show _ = some (Value.int .i64 ((1 : Nat) : Int)) from rfl) (by omega)) ?_
          refine qs LD3 ?_
          refine sq_store Try.sizeOf3 RF RF (by first | rfl | assumption) RM (by first | exact Nat.le_of_ble_eq_true rfl | simp | omega) ?_
          refine sq_store Try.sizeOf4 RF RF (by first | rfl | assumption) RM (by first | exact Nat.le_of_ble_eq_true rfl | simp | omega) ?_
          refine sq_nil ?_
          refine sx_blk ?_
          refine sx_endround RM ?_
          intro w' hw'
          exact .inl ⟨(some cur, _), ⟨invB_take hz hn0 hcur (fun h => hbef hn0 h), rfl⟩, rfl, hw'.sel (by dsimp only [List.cons_append, List.nil_append, OL]; exact SR)⟩
    ·
      rintro D ⟨zo, zv⟩ ⟨hz, hzv⟩
      dsimp only at hz hzv ⊢
      have hzv' : (#[zv] : Array Value)[0].oneCell' = true := hzv
      refine sx_blk ?_
      refine sx_then ?_
      refine sc_seq ?_
      refine sc_drawR (by kernel_rfl) ?_
      refine xj_s 0 RF (by kernel_rfl) SR LD35 rfl ?_
      refine xj_s 1 RF (by kernel_rfl) SR LD3 rfl ?_
      refine xj_one 2 RF (by kernel_rfl) ?_
      refine sq_store Try.sizeOf35 RF RF (by first | rfl | assumption) RM (by first | exact Nat.le_of_ble_eq_true rfl | simp | omega) ?_
      refine sq_nil ?_
      refine sx_xp SR ?_
      refine xj_one 3 RF (by kernel_rfl) ?_
      refine sq_store Try.sizeOf3 RF RF (by first | rfl | assumption) RM (by first | exact Nat.le_of_ble_eq_true rfl | simp | omega) ?_
      refine sq_nil ?_
      refine sx_xp SR ?_
      refine xj_s 4 RF (by kernel_rfl) SR (y_assign RF) rfl ?_
      refine xj_done (by kernel_rfl) ?_
      refine sx_then ?_
      refine sc_ret ?_
      refine sx_scope_ret ?_
      refine sx_retM (.inl rfl) rfl RM _ (res_cct Try.results27 Try.underlying35 rfl Try.underlying3 rfl RF MM RF MM RF) ?_
      intro w' hw'
      obtain ⟨hB, hh, _⟩ := invB_best htl h7 hsm hz
      have hbr := bestR_of hj (b := ordZ zo) (by rw [← hts]; exact hB)
      rw [← hts, ← hh] at hbr
      rw [hbr]
      exact ⟨_, rfl, hw'.below MM, own_new_mem hw' MM MM⟩
    ·
      rintro D zv ⟨hn0, hzv⟩
      dsimp only at hn0 ⊢
      have hzv' : (#[zv] : Array Value)[0].oneCell' = true := hzv
      refine sx_blk_hit ?_
      refine sx_then ?_
      refine sc_seq ?_
      refine sc_drawR (by kernel_rfl) ?_
      refine xj_s 0 RF (by kernel_rfl) SR LD35 rfl ?_
      refine xj_s 1 RF (by kernel_rfl) SR LD3 rfl ?_
      refine xj_one 2 RF (by kernel_rfl) ?_
      refine sq_store Try.sizeOf35 RF RF (by first | rfl | assumption) RM (by first | exact Nat.le_of_ble_eq_true rfl | simp | omega) ?_
      refine sq_nil ?_
      refine sx_xp SR ?_
      refine xj_one 3 RF (by kernel_rfl) ?_
      refine sq_store Try.sizeOf3 RF RF (by first | rfl | assumption) RM (by first | exact Nat.le_of_ble_eq_true rfl | simp | omega) ?_
      refine sq_nil ?_
      refine sx_xp SR ?_
      refine xj_s 4 RF (by kernel_rfl) SR (y_assign RF) rfl ?_
      refine xj_done (by kernel_rfl) ?_
      refine sx_then ?_
      refine sc_ret ?_
      refine sx_scope_ret ?_
      refine sx_retM (.inl rfl) rfl RM _ (res_cct Try.results27 Try.underlying35 rfl Try.underlying3 rfl RF MM RF MM RF) ?_
      intro w' hw'
      have hB : BestO ts l.length [] := by rw [hn0]; exact (best_nil (by omega)).1
      have hbr := bestR_of hj (b := []) (by rw [← hts]; exact hB)
      rw [← hts, (best_nil (by omega)).2] at hbr
      rw [hbr]
      exact ⟨_, rfl, hw'.below MM, own_new_mem hw' MM MM⟩
end Go.Proofs.Ytjlbpmcacopbpaa
