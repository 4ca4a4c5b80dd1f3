/- The walk of all lists: the recursion, whoever ranges over them. -/
import Derived.Test.YtfceajkofpafpaaSW3
namespace Go.Proofs.Ytfceajkofpafpaa.Sc
open Go Go.Eng Go.RowKit Go.Proofs
set_option maxRecDepth 100000
/-- who ranges over all lists: what he holds, and what is so after some of them -/
structure Usr (w0 : World) (l : Nat) (lp : Loop) (b : Bx) where
  Z : Type
  M : Nat
  UR : Z → List Res
  Inv : List (List Int) → Z → Prop
  Stp : Z → Prop
  loop : ∀ ds z, Inv ds z → Res.blk l (.loop lp) ∈ UR z
  one : lp.params.size = 1
  round : ∀ ds z h, Inv ds z → HasOk b h → h ∈ allL b → ds.length < M → ∀ F w v, Hp w0 (.own v 3 1 h.length (h.flatMap iRow) :: .reg 0 w0 :: (UR z ++ F)) w →
    RoundIn (FW none) 0 Try.prog l lp.fn ((lp.params.zip #[v]).foldl (fun tmps (t, a) => tmps.setIfInBounds t a) lp.tmps) lp.assign lp.body w fun e w' => ∃ z' go, (if go = true then Inv (ds ++ [h]) z' else Stp z') ∧ e = .returned (.bool go) ∧ Hp w0 (.own v 3 1 h.length (h.flatMap iRow) :: .reg 0 w0 :: (UR z' ++ F)) w'
/-- a list as far as it goes -/
structure HasP (b : Bx) (done : List Int) : Prop where
  len : done.length ≤ b.kinds.length
  bd : ∀ i, i < done.length → 0 ≤ (b.kinds.getD i kd0).many + done.getD i 0 ∧ (b.kinds.getD i kd0).many + done.getD i 0 ≤ 2003
theorem HasP.ok {b : Bx} {done : List Int} (h : HasP b done) (hl : done.length = b.kinds.length) : HasOk b done := ⟨hl, h.bd⟩
theorem getD_append_lt {l : List Int} {n d : Int} {i : Nat} (h : i < l.length) : (l ++ [n]).getD i d = l.getD i d := by
  rw [List.getD_eq_getElem?_getD, List.getD_eq_getElem?_getD, List.getElem?_append_left h]
theorem getD_append_eq {l : List Int} {n d : Int} : (l ++ [n]).getD l.length d = n := by
  rw [List.getD_eq_getElem?_getD, List.getElem?_append_right (Nat.le_refl _)]; simp
theorem HasP.add {b : Bx} {done : List Int} (h : HasP b done) (hl : done.length < b.kinds.length) {n : Int} (hn : 0 ≤ (b.kinds.getD done.length kd0).many + n ∧ (b.kinds.getD done.length kd0).many + n ≤ 2003) : HasP b (done ++ [n]) :=
  ⟨by simp; omega, fun i hi => by
    simp only [List.length_append, List.length_cons, List.length_nil] at hi
    rcases Nat.lt_succ_iff_lt_or_eq.1 hi with h1 | rfl
    · rw [getD_append_lt h1]; exact h.bd i h1
    · rw [getD_append_eq]; exact hn⟩
theorem HasP.nil (b : Bx) : HasP b [] := ⟨Nat.zero_le _, fun i hi => absurd hi (Nat.not_lt_zero i)⟩
theorem flat_add (done : List Int) (n : Int) : (done ++ [n]).flatMap iRow = done.flatMap iRow ++ [.int .i64 n] := by simp [iRow]
theorem flat_ilen (done : List Int) : (done.flatMap iRow).length = done.length := by
  have := flat_len (row := iRow) (sz := 1) (fun _ => rfl) done; omega
/-- the lists that begin so, of the first j numbers -/
def genJ (ks : List Kd) (lo lost extra : Int) (j : Nat) : List (List Int) := (List.range j).flatMap fun i => (genL ks (lost - max 0 (-(lo + (i : Nat)))) (extra - max 0 (lo + (i : Nat)))).map ((lo + (i : Nat)) :: ·)
theorem genJ_succ (ks : List Kd) (lo lost extra : Int) (j : Nat) : genJ ks lo lost extra (j + 1) = genJ ks lo lost extra j ++ (genL ks (lost - max 0 (-(lo + (j : Nat)))) (extra - max 0 (lo + (j : Nat)))).map ((lo + (j : Nat)) :: ·) := by
  unfold genJ; rw [List.range_succ, List.flatMap_append]; simp
theorem genJ_le (ks : List Kd) (lo lost extra : Int) {j m : Nat} (h : j + 1 ≤ m) : (genJ ks lo lost extra (j + 1)).length ≤ (genJ ks lo lost extra m).length := by
  induction m with
  | zero => omega
  | succ m ih =>
    rcases Nat.lt_or_ge j m with h1 | h1
    · have := ih h1
      rw [genJ_succ ks lo lost extra m, List.length_append]; omega
    · have : j = m := by omega
      subst this; exact Nat.le_refl _
theorem genL_cons (k : Kd) (ks : List Kd) (lost extra : Int) : genL (k :: ks) lost extra = genJ ks (-min lost k.many) lost extra (extra + 1 - (-min lost k.many)).toNat := by
  unfold genL genJ fromTo; rw [List.flatMap_map]
def FR (w0 wr : World) (lo bh by_ bs l : Nat) (pb : Addr) (v : Value) (done : List Int) : List Res :=
  [.own v 3 1 done.length (done.flatMap iRow), .blk bh (.cells #[v] 111 (0, 0)), .blk by_ (.cells #[.func (.yield l) #[] #[]] 155 (0, 0)), .blk bs (.cells #[.func (.func 66) #[] #[.pointer (some ⟨bh, 0, none⟩), .pointer (some pb), .pointer (some ⟨by_, 0, none⟩), .pointer (some ⟨bs, 0, none⟩)]] 152 (0, 0)), .reg lo wr, .reg 0 w0]
def FY (wr : World) (lo bh by_ bs l : Nat) (pb : Addr) (v : Value) : List Res :=
  [.blk bh (.cells #[v] 111 (0, 0)), .blk by_ (.cells #[.func (.yield l) #[] #[]] 155 (0, 0)), .blk bs (.cells #[.func (.func 66) #[] #[.pointer (some ⟨bh, 0, none⟩), .pointer (some pb), .pointer (some ⟨by_, 0, none⟩), .pointer (some ⟨bs, 0, none⟩)]] 152 (0, 0)), .reg lo wr]

theorem lists71 {w0 wr : World} {lo l : Nat} {lp : Loop} {b : Bx} {a : Option Addr} {c : Nat} (hB : RowsA kdRow 3 0 w0 a b.kinds) (hok : bxB b = true) (pb : Addr) (hpb : CA lo wr pb (bxRow b a c)) (U : Usr w0 l lp b) (bh by_ bs : Nat) : ∀ (ks : List Kd) (done : List Int), b.kinds.drop done.length = ks → HasP b done → ∀ lost extra : Int, 0 ≤ lost ∧ lost ≤ 4 → 0 ≤ extra ∧ extra ≤ 3 → (∀ h, h ∈ genL ks lost extra → done ++ h ∈ allL b) → ∀ ds z v w, v.oneCell' = true → ds.length + (genL ks lost extra).length ≤ U.M → U.Inv ds z → Hp w0 (FR w0 wr lo bh by_ bs l pb v done ++ U.UR z) w →
    Calls Try.prog 66 #[.int .i64 lost, .int .i64 extra, .pointer (some ⟨bh, 0, none⟩), .pointer (some pb), .pointer (some ⟨by_, 0, none⟩), .pointer (some ⟨bs, 0, none⟩)] w fun e w' => ∃ y : U.Z × Bool × Value, (if y.2.1 = true then U.Inv (ds ++ (genL ks lost extra).map (done ++ ·)) y.1 else U.Stp y.1) ∧ e = .returned (.bool y.2.1) ∧ y.2.2.oneCell' = true ∧ Hp w0 (FR w0 wr lo bh by_ bs l pb y.2.2 done ++ U.UR y.1) w' := by
  have hbp := bxB_parts hok
  have hblen := hB.len
  intro ks
  induction ks with
  | nil =>
    intro done hks hdn lost extra hlo hex hsub ds z v w hv1 hM hinv hw
    have hdl : done.length = b.kinds.length := by have := List.drop_eq_nil_iff.1 hks; have := hdn.len; omega
    have hgen : (genL [] lost extra).map (done ++ ·) = [done] := by simp [genL]
    rw [hgen]
    unfold FR at hw
    simp only [List.cons_append, List.nil_append] at hw
    refine calls_of_SCr (args := [.int .i64 lost, .int .i64 extra, .pointer (some ⟨bh, 0, none⟩), .pointer (some pb), .pointer (some ⟨by_, 0, none⟩), .pointer (some ⟨bs, 0, none⟩)]) Try.func66 rfl Try.ntmps66 rfl hw ?_
    simp only [argL, Nat.reduceAdd, Nat.zero_add]
    refine sc_seq ?_
    refine sc_region ?_
    refine qs (y_assign RF) ?_
    refine sq_nil ?_
    refine sx_then ?_
    refine sc_seq ?_
    refine sc_seq ?_
    refine sc_region ?_
    refine qs LD79 ?_
    refine qs (y_len_own Try.underlying111 RF MM) ?_
    refine qs FA26_22 ?_
    refine qs (by first | exact y_load_ca0 Try.underlying32 rfl RF MM hpb rfl | exact y_load_caj (j := 0) Try.underlying32 rfl RF MM hpb rfl | exact y_load_caj (j := 3) Try.underlying32 rfl RF MM hpb rfl | exact LD22) ?_
    refine qs (y_len Try.underlying32 RF) ?_
    refine qs (y_eql RF RF) ?_
    refine sq_nil ?_
    refine sx_then ?_
    refine scp (fun hc0 => ?_) (fun hc0 => ?_)
    ·
      refine sc_seq ?_
      refine sc_region ?_
      refine qs LD111 ?_
      refine qs LD79 ?_
      refine sq_yield (rs' := (.own v 3 1 done.length (done.flatMap iRow) :: .blk bh (.cells #[v] 111 (0, 0)) :: .blk by_ (.cells #[.func (.yield l) #[] #[]] 155 (0, 0)) :: .blk bs (.cells #[.func (.func 66) #[] [.pointer (some ⟨bh, 0, none⟩), .pointer (some pb), .pointer (some ⟨by_, 0, none⟩), .pointer (some ⟨bs, 0, none⟩)].toArray] 152 (0, 0)) :: .reg lo wr :: .reg 0 w0 :: U.UR z)) (Z := U.Z × Bool) (fun y => .bool y.2) (fun y => FR w0 wr lo bh by_ bs l pb v done ++ U.UR y.1) (fun y => if y.2 = true then U.Inv (ds ++ [done]) y.1 else U.Stp y.1) RF (EvL.cons RF EvL.nil) (.tail _ (.tail _ (.tail _ (.tail _ (.tail _ (.tail _ (U.loop ds z hinv))))))) SR (by simpa using U.one.symm) (fun w1 hw1 => (U.round ds z done hinv (hdn.ok hdl) (by simpa using hsub [] (by simp [genL])) (by simp only [genL, List.length_cons, List.length_nil] at hM; omega) (FY wr lo bh by_ bs l pb v) w1 v (hw1.sel (Sel.cons .here (Sel.cons (.there (.there (.there (.there .here)))) (Sel.comm (FY wr lo bh by_ bs l pb v) _))))).mono (fun e w' ⟨z', go, h1, h2, h3⟩ => ⟨(z', go), h1, h2, (h3.sel (Sel.cons .here (Sel.cons .here (Sel.comm _ (FY wr lo bh by_ bs l pb v))))).sel (Sel.cons .here (Sel.cons (.there .here) (Sel.cons (.there .here) (Sel.cons (.there .here) (Sel.cons (.there .here) (Sel.cons .here (Sel.refl _)))))))⟩)) rfl (fun y hy => ?_)
      refine qs (y_assign RF) ?_
      refine sq_nil ?_
      refine sx_then ?_
      refine sc_ret ?_
      refine sx_then_ret ?_
      refine sx_ret1 (.inl rfl) rfl Try.results66 RF ?_
      intro w' hw'
      exact ⟨(y.1, y.2, v), hy, rfl, hv1, hw'⟩
    ·
      omega
  | cons kd ks ih =>
    intro done hks hdn lost extra hlo hex hsub ds z v w hv1 hM hinv hw
    have hkk : done.length < b.kinds.length := by
      rcases Nat.lt_or_ge done.length b.kinds.length with h | h
      · exact h
      · rw [List.drop_eq_nil_of_le h] at hks; cases hks
    have hkd : b.kinds.getD done.length kd0 = kd ∧ b.kinds.drop (done.length + 1) = ks := by
      rw [List.drop_eq_getElem_cons hkk] at hks
      injection hks with h1 h2
      exact ⟨by rw [List.getD_eq_getElem?_getD, List.getElem?_eq_getElem hkk]; exact h1, h2⟩
    have hbd := kd_bd hok hkk
    have hsmk := (hB.get kd0 hkk).1
    have hcak := (hB.get kd0 hkk).2
    rw [hkd.1] at hbd hcak
    rw [genL_cons] at hM ⊢
    unfold FR at hw
    simp only [List.cons_append, List.nil_append] at hw
    refine calls_of_SCr (args := [.int .i64 lost, .int .i64 extra, .pointer (some ⟨bh, 0, none⟩), .pointer (some pb), .pointer (some ⟨by_, 0, none⟩), .pointer (some ⟨bs, 0, none⟩)]) Try.func66 rfl Try.ntmps66 rfl hw ?_
    simp only [argL, Nat.reduceAdd, Nat.zero_add]
    refine sc_seq ?_
    refine sc_region ?_
    refine qs (y_assign RF) ?_
    refine sq_nil ?_
    refine sx_then ?_
    refine sc_seq ?_
    refine sc_seq ?_
    refine sc_region ?_
    refine qs LD79 ?_
    refine qs (y_len_own Try.underlying111 RF MM) ?_
    refine qs FA26_22 ?_
    refine qs (by first | exact y_load_ca0 Try.underlying32 rfl RF MM hpb rfl | exact y_load_caj (j := 0) Try.underlying32 rfl RF MM hpb rfl | exact y_load_caj (j := 3) Try.underlying32 rfl RF MM hpb rfl | exact LD22) ?_
    refine qs (y_len Try.underlying32 RF) ?_
    refine qs (y_eql RF RF) ?_
    refine sq_nil ?_
    refine sx_then ?_
    refine scp (fun hc0 => ?_) (fun hc0 => ?_)
    ·
      omega
    ·
      refine sc_skip ?_
      refine sx_then ?_
      refine sc_seq ?_
      refine sc_seq ?_
      refine sc_region ?_
      refine qs (y_move RF) ?_
      refine qs FA26_22 ?_
      refine qs (by first | exact y_load_ca0 Try.underlying32 rfl RF MM hpb rfl | exact y_load_caj (j := 0) Try.underlying32 rfl RF MM hpb rfl | exact y_load_caj (j := 3) Try.underlying32 rfl RF MM hpb rfl | exact LD22) ?_
      refine qs LD79 ?_
      refine qs (y_len_own Try.underlying111 RF MM) ?_
      refine qs IA22 ?_
      refine qs FA74_3 ?_
      refine qs (by first | exact y_load_ca0 Try.underlying3 rfl RF MM hcak rfl | exact y_load_caj (j := 0) Try.underlying3 rfl RF MM hcak rfl | exact y_load_caj (j := 3) Try.underlying3 rfl RF MM hcak rfl | exact LD3) ?_
      refine qs (y_min RF RF) ?_
      refine qs (y_neg RF (by omega)) ?_
      refine qs (y_assign RF) ?_
      refine sq_nil ?_
      refine sx_then ?_
      refine sc_block ?_
      refine sc_loop (σ := Nat × Value × U.Z)
        (fun s => [(0, .int .i64 lost), (1, .int .i64 extra), (2, .pointer (some ⟨bh, 0, none⟩)), (3, .pointer (some pb)), (4, .pointer (some ⟨by_, 0, none⟩)), (5, .pointer (some ⟨bs, 0, none⟩)), (9, .int .i64 ((-min lost kd.many) + (s.1 : Nat)))])
        (fun s => FR w0 wr lo bh by_ bs l pb s.2.1 done ++ U.UR s.2.2)
        (fun s => s.1 ≤ (extra + 1 - (-min lost kd.many)).toNat ∧ s.2.1.oneCell' = true ∧ U.Inv (ds ++ (genJ ks (-min lost kd.many) lost extra s.1).map (done ++ ·)) s.2.2)
        (fun s => (extra + 1 - (-min lost kd.many)).toNat - s.1)
        ((0, v, z)) ?_ SU SR ?_
      · exact ⟨Nat.zero_le _, hv1, by simpa [genJ] using hinv⟩
      rintro ⟨j, v, z⟩ ⟨hj, hv1, hinv⟩
      dsimp only at hj hv1 hinv ⊢
      unfold FR
      simp only [List.cons_append, List.nil_append]
      refine sc_seq ?_
      refine sc_seq ?_
      refine sc_region ?_
      refine qs (y_move RF) ?_
      refine qs (y_move RF) ?_
      refine qs (y_leq RF RF) ?_
      refine sq_nil ?_
      refine sx_then ?_
      refine scp (fun hc1 => ?_) (fun hc1 => ?_)
      ·
        have hj' : j < (extra + 1 - (-min lost kd.many)).toNat := by omega
        obtain ⟨n, hn⟩ : ∃ n : Int, n = (-min lost kd.many) + (j : Nat) := ⟨_, rfl⟩
        rw [← hn]
        refine sc_skip ?_
        refine sx_then ?_
        refine sc_seq ?_
        refine sc_block ?_
        refine sc_seq ?_
        refine sc_region ?_
        refine qs LD79 ?_
        refine qs (y_move RF) ?_
        refine sq_bs Try.underlying111 ei3 (EvI.cons RF EvI.nil) (by first | (simp [Value.cells]; done) | (simp [Value.cells]; rfl) | (simp [Value.cells]; and_intros <;> rfl)) rfl rfl rfl (fun b37 => ?_)
        refine sq_append (news := [Value.int .i64 n]) Try.underlying111 ei3 rfl (by decide) RF RM RF rfl (fun _ hw => news_blk hw MM) (by simp [Value.oneCell']) (by omega) rfl (fun v38 ho38 => ?_)
        refine sq_store Try.sizeOf111 RF RF (by first | rfl | assumption) RM (by first | exact Nat.le_of_ble_eq_true rfl | simp | omega) ?_
        refine sq_nil ?_
        refine sx_then ?_
        refine sc_seq ?_
        refine sc_region ?_
        refine qs LD102 ?_
        refine qs (y_move RF) ?_
        refine qs (y_move RF) ?_
        refine qs (y_neg RF (by omega)) ?_
        refine qs (y_max RF RF) ?_
        refine qs (y_sub RF RF (by omega)) ?_
        refine qs (y_move RF) ?_
        refine qs (y_move RF) ?_
        refine qs (y_max RF RF) ?_
        refine qs (y_sub RF RF (by omega)) ?_
        refine sq_call (first := []) (caps := [.pointer (some ⟨bh, 0, none⟩), .pointer (some pb), .pointer (some ⟨by_, 0, none⟩), .pointer (some ⟨bs, 0, none⟩)]) (Z := U.Z × Bool × Value) (fun y => .bool y.2.1) (fun y => .own y.2.2 3 1 (done.length + 1) (done.flatMap iRow ++ [.int .i64 n]) :: .blk bh (.cells #[y.2.2] 111 (0, 0)) :: .blk by_ (.cells #[.func (.yield l) #[] #[]] 155 (0, 0)) :: .blk bs (.cells #[.func (.func 66) #[] [.pointer (some ⟨bh, 0, none⟩), .pointer (some pb), .pointer (some ⟨by_, 0, none⟩), .pointer (some ⟨bs, 0, none⟩)].toArray] 152 (0, 0)) :: .reg lo wr :: .reg 0 w0 :: U.UR y.1) (fun y => (if y.2.1 = true then U.Inv ((ds ++ (genJ ks (-min lost kd.many) lost extra j).map (done ++ ·)) ++ (genL ks (lost - max 0 (-n)) (extra - max 0 n)).map ((done ++ [n]) ++ ·)) y.1 else U.Stp y.1) ∧ y.2.2.oneCell' = true) RF Try.call66 (EvL.cons RF (EvL.cons RF EvL.nil)) (fun w1 hw1 => (ih (done ++ [n]) (by rw [List.length_append]; exact hkd.2) (hdn.add hkk (by rw [hkd.1]; omega)) (lost - max 0 (-n)) (extra - max 0 n) (by omega) (by omega) (fun h' hh' => by rw [List.append_assoc]; exact hsub _ (by unfold genL; exact List.mem_flatMap.2 ⟨n, List.mem_map.2 ⟨j, List.mem_range.2 hj', hn.symm⟩, List.mem_map.2 ⟨h', hh', rfl⟩⟩)) _ z v38 w1 ho38 (by have := genJ_le ks (-min lost kd.many) lost extra hj'; rw [genJ_succ, ← hn] at this; simp only [List.length_append, List.length_map] at this ⊢; omega) hinv (by simp only [FR, flat_add, List.length_append, List.length_cons, List.length_nil, Nat.zero_add, List.cons_append, List.nil_append]; exact hw1.sel SR)).mono (fun e w' ⟨y, h1, h2, h3, h4⟩ => ⟨y, ⟨h1, h3⟩, h2, by simpa only [FR, flat_add, List.length_append, List.length_cons, List.length_nil, Nat.zero_add, List.cons_append, List.nil_append] using h4⟩)) rfl (fun yz hyz => ?_)
        obtain ⟨z2, go, v2⟩ := yz
        obtain ⟨hy, hv2⟩ := hyz
        dsimp only at hy hv2 ⊢
        refine qs (y_assign RF) ?_
        refine sq_nil ?_
        refine sx_then ?_
        refine sc_seq ?_
        refine sc_region ?_
        refine qs LD79 ?_
        refine qs LD79 ?_
        refine qs (y_len_own Try.underlying111 RF MM) ?_
        refine qs (y_sub RF RF (by omega)) ?_
        refine sq_slice_own (h := done.length) Try.underlying111 Try.sizeOf3 RF RM (lk_int rfl (by omega)) (by omega) rfl (fun v54 ho54 => ?_)
        rw [show (done.flatMap iRow ++ [Value.int .i64 n]).take (done.length * 1) = done.flatMap iRow from by rw [Nat.mul_one, List.take_append_of_le_length (by rw [flat_ilen]; omega), List.take_of_length_le (by rw [flat_ilen]; omega)]]
        refine sq_store Try.sizeOf111 RF RF (by first | rfl | assumption) RM (by first | exact Nat.le_of_ble_eq_true rfl | simp | omega) ?_
        refine sq_nil ?_
        refine sx_then ?_
        refine sc_seq ?_
        refine sc_region ?_
        refine qs (y_move RF) ?_
        refine qs (y_not RF) ?_
        refine sq_nil ?_
        refine sx_then ?_
        refine scp (fun hc2 => ?_) (fun hc2 => ?_)
        ·
          have hgo : go = false := by simpa using hc2
          subst hgo
          refine sc_seq ?_
          refine sc_region ?_
          refine qs (y_assign RF) ?_
          refine sq_nil ?_
          refine sx_then ?_
          refine sc_ret ?_
          refine sx_blk_ret ?_
          refine sx_then_ret ?_
          refine sx_round_ret ?_
          refine sx_blk_ret ?_
          refine sx_then_ret ?_
          refine sx_ret1 (.inl rfl) rfl Try.results66 RF ?_
          intro w' hw'
          exact ⟨(z2, false, v54), by simpa using hy, rfl, ho54, hw'.sel SR⟩
        ·
          have hgo : go = true := by simpa using hc2
          subst hgo
          refine sc_skip ?_
          refine sx_blk ?_
          refine sx_then ?_
          refine sc_region ?_
          refine qs (y_move RF) ?_
          refine qs (y_add RF RF (by omega)) ?_
          refine qs (y_assign RF) ?_
          refine sq_nil ?_
          refine sx_round ((j + 1, v54, z2)) ?_ ?_ SU SR
          · refine ⟨by omega, ho54, ?_⟩
            rw [genJ_succ, List.map_append, ← List.append_assoc, List.map_map, ← hn]
            simpa [Function.comp_def] using hy
          · omega
      ·
        refine sc_exit ?_
        refine sx_then_exit ?_
        refine sx_round_exit ?_
        refine sx_blk_hit ?_
        refine sx_then ?_
        refine sc_seq ?_
        refine sc_region ?_
        refine qs (y_assign RF) ?_
        refine sq_nil ?_
        refine sx_then ?_
        refine sc_ret ?_
        refine sx_ret1 (.inl rfl) rfl Try.results66 RF ?_
        intro w' hw'
        have hjk : j = (extra + 1 - (-min lost kd.many)).toNat := by omega
        subst hjk
        exact ⟨(z, true, v), hinv, rfl, hv1, hw'.sel SR⟩
/-- all lists, handed to who ranges over them -/
theorem lists70 {w0 wr : World} {lo l : Nat} {lp : Loop} {b : Bx} {a : Option Addr} {c : Nat} (hB : RowsA kdRow 3 0 w0 a b.kinds) (hok : bxB b = true) (pb : Addr) (hpb : CA lo wr pb (bxRow b a c)) (U : Usr w0 l lp b) (hM : (allL b).length ≤ U.M) (z : U.Z) (hinv : U.Inv [] z) (w : World) (hw : Hp w0 (.reg lo wr :: .reg 0 w0 :: U.UR z) w) :
    Calls Try.prog 65 #[.func (.yield l) #[] #[], .pointer (some pb)] w fun e w' => (∃ v, e = .returned v) ∧ ∃ y : U.Z × Bool, (if y.2 = true then U.Inv (allL b) y.1 else U.Stp y.1) ∧ Hp w0 (.reg lo wr :: .reg 0 w0 :: U.UR y.1) w' := by
  have hbp := bxB_parts hok
  have hblen := hB.len
  refine calls_of_SCr (args := [.func (.yield l) #[] #[], .pointer (some pb)]) Try.func65 rfl Try.ntmps65 rfl hw ?_
  simp only [argL, Nat.zero_add]
  refine sc_seq ?_
  refine sc_region ?_
  refine sq_box RF rfl (fun b2 => ?_)
  refine sq_nil ?_
  refine sx_then ?_
  refine sc_seq ?_
  refine sc_region ?_
  refine qs FA26_22 ?_
  refine qs (by first | exact y_load_ca0 Try.underlying32 rfl RF MM hpb rfl | exact y_load_caj (j := 0) Try.underlying32 rfl RF MM hpb rfl | exact y_load_caj (j := 3) Try.underlying32 rfl RF MM hpb rfl | exact LD22) ?_
  refine qs (y_len Try.underlying32 RF) ?_
  refine sq_make (l := 0) (c := b.kinds.length) Try.underlying111 ei3 RF RF (Nat.zero_le _) (by omega) (by omega) rfl (fun b8 => ?_)
  refine sq_blk_own0 (sz := 1) (c := b.kinds.length) RM (size_madeCells _ _) (by unfold maxLen; omega) ?_
  refine sq_alloc Try.zeroValue111 rfl (fun b3 => ?_)
  refine sq_store Try.sizeOf111 RF RF (by first | rfl | assumption) RM (by first | exact Nat.le_of_ble_eq_true rfl | simp | omega) ?_
  refine sq_nil ?_
  refine sx_then ?_
  refine sc_seq ?_
  refine sc_region ?_
  refine sq_alloc Try.zeroValue152 rfl (fun b4 => ?_)
  refine sq_nil ?_
  refine sx_then ?_
  refine sc_seq ?_
  refine sc_region ?_
  refine qs (y_makeFunc EvL.nil (EvL.cons RF (EvL.cons RF (EvL.cons RF (EvL.cons RF EvL.nil))))) ?_
  refine sq_store Try.sizeOf152 RF RF (by first | rfl | assumption) RM (by first | exact Nat.le_of_ble_eq_true rfl | simp | omega) ?_
  refine sq_nil ?_
  refine sx_then ?_
  refine sc_region ?_
  refine qs LD102 ?_
  refine qs FA26_3 ?_
  refine qs (by first | exact y_load_ca0 Try.underlying3 rfl RF MM hpb rfl | exact y_load_caj (j := 0) Try.underlying3 rfl RF MM hpb rfl | exact y_load_caj (j := 3) Try.underlying3 rfl RF MM hpb rfl | exact LD3) ?_
  refine qs FA26_3 ?_
  refine qs (by first | exact y_load_caj (j := 4) Try.underlying3 rfl RF MM hpb rfl | exact LD3) ?_
  refine sq_call (first := []) (caps := [.pointer (some ⟨b3, 0, none⟩), .pointer (some pb), .pointer (some ⟨b2, 0, none⟩), .pointer (some ⟨b4, 0, none⟩)]) (Z := U.Z × Bool × Value) (fun y => .bool y.2.1) (fun y => FR w0 wr lo b3 b2 b4 l pb y.2.2 [] ++ U.UR y.1) (fun y => if y.2.1 = true then U.Inv (allL b) y.1 else U.Stp y.1) RF Try.call66 (EvL.cons RF (EvL.cons RF EvL.nil)) (fun w1 hw1 => (lists71 hB hok pb hpb U b3 b2 b4 b.kinds [] rfl (HasP.nil b) b.lost b.extra hbp.2.1 hbp.2.2.1 (fun h hh => by simpa [allL] using hh) [] z _ w1 rfl (by simpa [allL] using hM) hinv (hw1.sel SR)).mono (fun e w' ⟨y, h1, h2, _, h4⟩ => ⟨y, by simpa [allL] using h1, h2, h4⟩)) rfl (fun y hy => ?_)
  refine sq_nil ?_
  refine sx_ret0 (.inr rfl) rfl Try.results65 ?_
  intro w' hw'
  unfold FR at hw'
  exact ⟨⟨_, rfl⟩, (y.1, y.2.1), hy, hw'.sel SR⟩
theorem genL_le : ∀ (ks : List Kd) (lost extra : Int), 0 ≤ lost ∧ lost ≤ 4 → 0 ≤ extra ∧ extra ≤ 3 → (∀ k, k ∈ ks → 0 ≤ k.many) → (genL ks lost extra).length ≤ 8 ^ ks.length
  | [], _, _, _, _, _ => by simp [genL]
  | k :: ks, lost, extra, h1, h2, h3 => by
    rw [genL_cons]
    have hk := h3 k (List.mem_cons_self ..)
    have key : ∀ j : Nat, -min lost k.many + j ≤ extra + 1 → (genJ ks (-min lost k.many) lost extra j).length ≤ j * 8 ^ ks.length := by
      intro j
      induction j with
      | zero => intro _; simp [genJ]
      | succ j ih =>
        intro hj
        rw [genJ_succ, List.length_append, List.length_map]
        have h4 := ih (by omega)
        have h5 := genL_le ks (lost - max 0 (-(-min lost k.many + (j : Nat)))) (extra - max 0 (-min lost k.many + (j : Nat))) (by omega) (by omega) (fun k' hk' => h3 k' (List.mem_cons_of_mem _ hk'))
        rw [Nat.add_mul, Nat.one_mul]; exact Nat.add_le_add h4 h5
    have h6 := key (extra + 1 - -min lost k.many).toNat (by omega)
    refine Nat.le_trans h6 ?_
    rw [List.length_cons, Nat.pow_succ, Nat.mul_comm]
    exact Nat.mul_le_mul_left _ (by omega)
theorem allL_le {b : Bx} (h : bxB b = true) : (allL b).length ≤ 4096 := by
  have hp := bxB_parts h
  refine Nat.le_trans (genL_le b.kinds b.lost b.extra hp.2.1 hp.2.2.1 (fun k hk => (hp.2.2.2.2 k hk).1.1)) ?_
  exact Nat.le_trans (Nat.pow_le_pow_right (n := 8) (by omega) hp.1.2) (by decide)
theorem lists45 (w : World) (b : Bx) (a : Option Addr) (c : Nat) : Calls Try.prog 35 #[.agg (bxRow b a c).toArray] w fun e w' => ∃ p, e = .returned (.func (.func 65) #[] #[.pointer (some p)]) ∧ Below w.heap.size w w' ∧ CA w.heap.size w' p (bxRow b a c) := by
  refine calls_of_SC (args := [.agg (bxRow b a c).toArray]) Try.func35 rfl Try.ntmps35 rfl ?_
  simp only [argL]
  refine sc_seq ?_
  refine sc_region ?_
  refine sq_box RF rfl (fun b1 => ?_)
  refine qs (y_assign RF) ?_
  refine sq_nil ?_
  refine sx_then ?_
  refine sc_seq ?_
  refine sc_region ?_
  refine qs (y_makeFunc EvL.nil (EvL.cons RF EvL.nil)) ?_
  refine qs (y_assign RF) ?_
  refine sq_nil ?_
  refine sx_then ?_
  refine sc_ret ?_
  refine sx_ret1 (.inl rfl) rfl Try.results35 RF ?_
  intro w' hw'
  exact ⟨⟨b1, 0, none⟩, rfl, hw'.below MM, ⟨blk_new hw' RM MM, (CA.blk (vs := bxRow b a c) hw' MM).2⟩⟩
end Go.Proofs.Ytfceajkofpafpaa.Sc
