/- The reference's lists are all lists; what fits, of the reference. -/
import Derived.Test.YtofjipmheckmjaaWalk6
namespace Go.Proofs.Ytofjipmheckmjaa
open Go Go.Eng Go.RowKit Go.Proofs
set_option maxRecDepth 100000
theorem lostK_add (done : List Int) (n : Int) : ∀ k, k ≤ done.length → lostK (done ++ [n]) k = lostK done k
  | 0, _ => rfl
  | k + 1, h => by unfold lostK; rw [lostK_add done n k (by omega), getD_append_lt (by omega)]
theorem extraK_add (done : List Int) (n : Int) : ∀ k, k ≤ done.length → extraK (done ++ [n]) k = extraK done k
  | 0, _ => rfl
  | k + 1, h => by unfold extraK; rw [extraK_add done n k (by omega), getD_append_lt (by omega)]
theorem lostK_snoc (done : List Int) (n : Int) : lostK (done ++ [n]) (done.length + 1) = lostK done done.length + max 0 (-n) := by
  unfold lostK; rw [lostK_add done n _ (Nat.le_refl _), getD_append_eq]
  cases done <;> rfl
theorem extraK_snoc (done : List Int) (n : Int) : extraK (done ++ [n]) (done.length + 1) = extraK done done.length + max 0 n := by
  unfold extraK; rw [extraK_add done n _ (Nat.le_refl _), getD_append_eq]
  cases done <;> rfl
theorem okC_add (b : Bx) (done : List Int) (n : Int) {i : Nat} (h : i < done.length) : okC b (done ++ [n]) i = okC b done i := by unfold okC; rw [getD_append_lt h]
def Bad (b : Bx) (p : List Int) : Prop := (∃ i, i < p.length ∧ okC b p i = false) ∨ b.lost < lostK p p.length ∨ b.extra < extraK p p.length
theorem Bad.add {b : Bx} {p : List Int} (h : Bad b p) (n : Int) : Bad b (p ++ [n]) := by
  have hl : (p ++ [n]).length = p.length + 1 := by simp
  rcases h with ⟨i, hi, h⟩ | h | h
  · exact .inl ⟨i, by omega, by rw [okC_add b p n hi]; exact h⟩
  · refine .inr (.inl ?_); rw [hl, lostK_snoc]; omega
  · refine .inr (.inr ?_); rw [hl, extraK_snoc]; omega
theorem refL_bad {b : Bx} : ∀ (k : Nat) {p : List Int}, Bad b p → refL b k p = []
  | 0, p, h => by
    unfold refL
    rw [if_neg]
    intro hc
    simp only [canV, Bool.and_eq_true, decide_eq_true_eq, List.all_eq_true, List.mem_range] at hc
    rcases h with ⟨i, hi, h⟩ | h | h
    · rw [hc.1.2 i hi] at h; cases h
    · omega
    · omega
  | k + 1, p, h => by
    unfold refL
    rw [List.flatMap_eq_nil_iff]
    intro i _
    exact refL_bad k (h.add _)
theorem range8_flat {α : Type} (G : Int → List α) {lo hi : Int} (h1 : -4 ≤ lo ∧ lo ≤ 0) (h2 : 0 ≤ hi ∧ hi ≤ 3) : ((List.range 8).flatMap fun i => if lo ≤ ((i : Nat) : Int) - 4 ∧ ((i : Nat) : Int) - 4 ≤ hi then G (((i : Nat) : Int) - 4) else []) = (fromTo lo hi).flatMap G := by
  have a : lo = -4 ∨ lo = -3 ∨ lo = -2 ∨ lo = -1 ∨ lo = 0 := by omega
  have b : hi = 0 ∨ hi = 1 ∨ hi = 2 ∨ hi = 3 := by omega
  rcases a with rfl | rfl | rfl | rfl | rfl <;> rcases b with rfl | rfl | rfl | rfl <;> rfl
theorem flatMap_congr {α β : Type} {l : List α} {f g : α → List β} (h : ∀ x, x ∈ l → f x = g x) : l.flatMap f = l.flatMap g := by
  induction l with
  | nil => rfl
  | cons a l ih => rw [List.flatMap_cons, List.flatMap_cons, h a (List.mem_cons_self ..), ih fun x hx => h x (List.mem_cons_of_mem _ hx)]
theorem refL_gen {b : Bx} (hok : bxB b = true) : ∀ (ks : List Kd) (done : List Int), b.kinds.drop done.length = ks → done.length ≤ b.kinds.length → (∀ i, i < done.length → okC b done i = true) → (0 ≤ lostK done done.length ∧ lostK done done.length ≤ b.lost) → (0 ≤ extraK done done.length ∧ extraK done done.length ≤ b.extra) →
    refL b ks.length done = (genL ks (b.lost - lostK done done.length) (b.extra - extraK done done.length)).map (done ++ ·) := by
  have hbp := bxB_parts hok
  intro ks
  induction ks with
  | nil =>
    intro done hks hdl hall hl he
    have hdl2 : done.length = b.kinds.length := by have := List.drop_eq_nil_iff.1 hks; omega
    have hc : canV b done = true := by
      simp only [canV, Bool.and_eq_true, decide_eq_true_eq, List.all_eq_true, List.mem_range]
      exact ⟨⟨hdl2, hall⟩, hl.2, he.2⟩
    show refL b 0 done = _
    unfold refL
    rw [if_pos hc]; simp [genL]
  | cons kd ks ih =>
    intro done hks hdl hall hl he
    have hkk : done.length < b.kinds.length := by
      rcases Nat.lt_or_ge done.length b.kinds.length with h | h
      · exact h
      · rw [List.drop_eq_nil_of_le h] at hks; cases hks
    have hkd : b.kinds.getD done.length kd0 = kd ∧ b.kinds.drop (done.length + 1) = ks := by
      rw [List.drop_eq_getElem_cons hkk] at hks
      injection hks with h1 h2
      exact ⟨by rw [List.getD_eq_getElem?_getD, List.getElem?_eq_getElem hkk]; exact h1, h2⟩
    have hbd := kd_bd hok hkk
    rw [hkd.1] at hbd
    show ((List.range 8).flatMap fun i => refL b ks.length (done ++ [((i : Nat) : Int) - 4])) = _
    unfold genL
    rw [List.map_flatMap, ← range8_flat _ (by omega) (by omega)]
    refine flatMap_congr fun i hi => ?_
    have hi8 := List.mem_range.1 hi
    generalize hn : ((i : Nat) : Int) - 4 = n
    have hlen : (done ++ [n]).length = done.length + 1 := by simp
    split
    · have hok2 : okC b (done ++ [n]) done.length = true := by unfold okC; rw [hkd.1, getD_append_eq]; exact decide_eq_true (by omega)
      have h := ih (done ++ [n]) (by rw [hlen]; exact hkd.2) (by omega) (fun i hi => by
        rcases Nat.lt_succ_iff_lt_or_eq.1 (by rw [hlen] at hi; exact hi) with h | rfl
        · rw [okC_add b done n h]; exact hall i h
        · exact hok2) (by rw [hlen, lostK_snoc]; omega) (by rw [hlen, extraK_snoc]; omega)
      rw [h, hlen, lostK_snoc, extraK_snoc, List.map_map]
      have e1 : b.lost - (lostK done done.length + max 0 (-n)) = b.lost - lostK done done.length - max 0 (-n) := by omega
      have e2 : b.extra - (extraK done done.length + max 0 n) = b.extra - extraK done done.length - max 0 n := by omega
      rw [e1, e2]
      refine List.map_congr_left fun x _ => ?_
      simp
    · refine refL_bad _ ?_
      rename_i hno
      by_cases h1 : okC b (done ++ [n]) done.length = true
      · unfold okC at h1
        rw [hkd.1, getD_append_eq] at h1
        have h1 := of_decide_eq_true h1
        by_cases h2 : b.lost < lostK done done.length + max 0 (-n)
        · exact .inr (.inl (by rw [hlen, lostK_snoc]; exact h2))
        · exact .inr (.inr (by rw [hlen, extraK_snoc]; omega))
      · exact .inl ⟨done.length, by omega, by simpa using h1⟩
theorem refL_all {b : Bx} (hok : bxB b = true) : refL b b.kinds.length [] = allL b := by
  have hbp := bxB_parts hok
  have := refL_gen hok b.kinds [] rfl (Nat.zero_le _) (fun i hi => absurd hi (Nat.not_lt_zero i)) ⟨Int.le_refl _, hbp.2.1.1⟩ ⟨Int.le_refl _, hbp.2.2.1.1⟩
  rw [this]
  show List.map (fun x => [] ++ x) (genL b.kinds (b.lost - 0) (b.extra - 0)) = allL b
  simp [allL]

theorem all_range_get {α : Type} (l : List α) (d : α) (p : α → Bool) : (List.range l.length).all (fun i => p (l.getD i d)) = l.all p := by
  have h := any_range_get l d (fun x => !p x)
  have e1 : ((List.range l.length).any fun i => !p (l.getD i d)) = !(List.range l.length).all fun i => p (l.getD i d) := all_not_any _ _
  rw [e1, all_not_any] at h
  exact Bool.not_inj h
theorem genL_ok {b : Bx} (hok : bxB b = true) : ∀ (ks : List Kd) (done : List Int), b.kinds.drop done.length = ks → HasP b done → ∀ lost extra : Int, 0 ≤ lost ∧ lost ≤ 4 → 0 ≤ extra ∧ extra ≤ 3 → ∀ h, h ∈ genL ks lost extra → HasOk b (done ++ h)
  | [], done, hks, hd, _, _, _, _, h, hh => by
    simp only [genL, List.mem_singleton] at hh
    subst hh
    rw [List.append_nil]
    exact hd.ok (by have := List.drop_eq_nil_iff.1 hks; have := hd.len; omega)
  | kd :: ks, done, hks, hd, lost, extra, hlo, hex, h, hh => by
    have hkk : done.length < b.kinds.length := by
      rcases Nat.lt_or_ge done.length b.kinds.length with h | h
      · exact h
      · rw [List.drop_eq_nil_of_le h] at hks; cases hks
    have hkd : b.kinds.getD done.length kd0 = kd ∧ b.kinds.drop (done.length + 1) = ks := by
      rw [List.drop_eq_getElem_cons hkk] at hks
      injection hks with h1 h2
      exact ⟨by rw [List.getD_eq_getElem?_getD, List.getElem?_eq_getElem hkk]; exact h1, h2⟩
    have hbd := kd_bd hok hkk
    rw [hkd.1] at hbd
    unfold genL at hh
    obtain ⟨n, hn, h2⟩ := List.mem_flatMap.1 hh
    obtain ⟨h3, h4, rfl⟩ := List.mem_map.1 h2
    obtain ⟨i, hi, rfl⟩ := List.mem_map.1 hn
    have hi := List.mem_range.1 hi
    have := genL_ok hok ks (done ++ [-min lost kd.many + (i : Nat)]) (by rw [List.length_append]; exact hkd.2) (hd.add hkk (by rw [hkd.1]; omega)) _ _ (by omega) (by omega) h3 h4
    rwa [List.append_assoc] at this
theorem allL_ok {b : Bx} (hok : bxB b = true) (h : List Int) (hh : h ∈ allL b) : HasOk b h := by
  have hbp := bxB_parts hok
  have := genL_ok hok b.kinds [] rfl (HasP.nil b) b.lost b.extra hbp.2.1 hbp.2.2.1 h hh
  rwa [List.nil_append] at this
/-- lists of an own slice, whose rows lie in new memory -/
theorem lists_of {w0 w wr : World} {rs : List Res} (hw : Hp w0 rs w) {lo : Nat} {e : TypeId} {vo : Value} {st : List (Value × List Int)} (ho : Res.own vo e 1 st.length (st.map (·.1)) ∈ rs) (hm : Res.reg 0 w0 ∈ rs) (hr : Res.reg lo wr ∈ rs) (hlo : w0.heap.size ≤ lo) (hst : ∀ p, p ∈ st → ∃ a c, p.1 = .slice a p.2.length c ∧ RowsA iRow 1 lo wr a p.2) (hb : st.length ≤ 100000) :
    ∃ a f c cf, vo = .slice a st.length c ∧ LLA w0.heap.size w a f cf (st.map (·.2)) := by
  have h1 := own_new_mem hw ho hm
  rw [← flat_v (st.map (·.1))] at h1
  obtain ⟨a, c, hv, _, hrr⟩ := own_rowsA (row := vRow) (fun _ => rfl) h1 (by simp) (by omega)
  refine ⟨a, fun i => baseA ((st.map (·.1)).getD i (.slice none 0 0)), c, fun i => capA ((st.map (·.1)).getD i (.slice none 0 0)), hv, ⟨fun i h hih => ?_, by simp; omega⟩⟩
  obtain ⟨p, hp, rfl⟩ : ∃ p, st[i]? = some p ∧ p.2 = h := by
    rw [List.getElem?_map] at hih
    cases hp : st[i]? with
    | none => rw [hp] at hih; cases hih
    | some p => rw [hp] at hih; simp at hih; exact ⟨p, rfl, hih⟩
  have hg : (st.map (·.1))[i]? = some p.1 := by rw [List.getElem?_map, hp]; rfl
  obtain ⟨a2, c2, hv2, hr2⟩ := hst p (List.mem_of_getElem? hp)
  have h3 := hrr.el i p.1 hg
  have hgd : (st.map (·.1)).getD i (.slice none 0 0) = p.1 := by rw [List.getD_eq_getElem?_getD, hg]; rfl
  refine ⟨h3.1, ?_, ?_⟩
  · rw [hgd, hv2]; have := h3.2; rw [hv2] at this; exact this
  · rw [hgd, hv2]
    exact RowsA.low ⟨fun i x hi => ⟨(hr2.el i x hi).1, CA.keep (hr2.el i x hi).2 hw hr⟩, hr2.len⟩ hlo
theorem all65 (w : World) (b : Bx) (a : Option Addr) (c : Nat) (hB : RowsA kdRow 3 0 w a b.kinds) (hok : bxB b = true) : Calls Try.prog 65 #[.agg (bxRow b a c).toArray] w fun e w' => ∃ a2 f c2 cf, e = .returned (.slice a2 (allL b).length c2) ∧ Below w.heap.size w w' ∧ LLA w.heap.size w' a2 f cf (allL b) := by
  have hbp := bxB_parts hok
  have hall := allL_le hok
  have href := refL_all hok
  refine calls_of_SC (args := [.agg (bxRow b a c).toArray]) Try.func65 rfl Try.ntmps65 rfl ?_
  simp only [argL]
  refine sc_seq ?_
  refine sc_region ?_
  refine sq_box RF rfl (fun b1 => ?_)
  refine qs (y_assign RF) ?_
  refine sq_nil ?_
  refine sx_then ?_
  refine sc_seq ?_
  refine sc_region ?_
  refine qs LD26 ?_
  refine sq_nil_own 27 1 ?_
  refine sq_nil_own 3 1 ?_
  refine sq_call (first := []) (caps := []) (Z := Value × List (Value × List Int)) (fun y => y.1) (fun y => .own y.1 27 1 y.2.length (y.2.reverse.map (·.1)) :: .reg 0 w :: ([] ++ inner y.2)) (fun y => y.1.oneCell' = true ∧ y.2.reverse.map (·.2) = allL b) RF Try.call90 (EvL.cons RF (EvL.cons RF (EvL.cons RF EvL.nil))) (fun w1 hw1 => (lists90 hok hB b.kinds.length [] (by simp) [] [] _ _ w1 rfl rfl (by rw [href]; simp only [List.length_nil]; omega) (hw1.sel SR)).mono (fun e w' ⟨y, h1, h2, h3, h4⟩ => ⟨y, ⟨h2, by rw [h3, href]; simp⟩, h1, h4⟩)) rfl (fun y hy => ?_)
  refine qs (y_assign RF) ?_
  refine sq_nil ?_
  refine sx_then ?_
  refine sc_ret ?_
  refine sx_ret1 (.inl rfl) rfl Try.results65 RF ?_
  intro w' hw'
  obtain ⟨a2, f, c2, cf, hv, hLL⟩ := lists_new hw' MM (fun r hr => .tail _ (.tail _ hr)) MM (fun p hp => by have := (allL_ok hok p.2 (by rw [← hy.2]; exact List.mem_map.2 ⟨p, List.mem_reverse.2 hp, rfl⟩)).len; omega) (by have := congrArg List.length hy.2; simp at this; omega)
  rw [hy.2] at hLL
  exact ⟨a2, f, c2, cf, by rw [hv]; have := congrArg List.length hy.2; simp at this; rw [this], hw'.below MM, hLL⟩
theorem fitting40 (w : World) (b : Bx) (a : Option Addr) (c : Nat) (hB : RowsA kdRow 3 0 w a b.kinds) (hok : bxB b = true) (al : Option Addr) (cl : Nat) (ls : List Rd) (hl : RowsA rdRow 8 0 w al ls) (hte : ∀ r, r ∈ ls → teB b r.test = true) : Calls Try.prog 40 #[.agg (bxRow b a c).toArray, .slice al ls.length cl] w fun e w' => ∃ a2 f c2 cf, e = .returned (.slice a2 (fitL b ls).length c2) ∧ Below w.heap.size w w' ∧ LLA w.heap.size w' a2 f cf (fitL b ls) := by
  have hbp := bxB_parts hok
  have hlen := hl.len
  have hall := allL_le hok
  have hin := allL_ok hok
  refine calls_of_SC (args := [.agg (bxRow b a c).toArray, .slice al ls.length cl]) Try.func40 rfl Try.ntmps40 rfl ?_
  simp only [argL, Nat.zero_add]
  refine sc_seq ?_
  refine sc_region ?_
  refine sq_box RF rfl (fun b2 => ?_)
  refine qs (y_assign RF) ?_
  refine sq_nil ?_
  refine sx_then ?_
  refine sc_seq ?_
  refine sc_region ?_
  refine qs LD26 ?_
  refine sq_call_new (first := []) (caps := []) (Z := Option Addr × (Nat → Option Addr) × Nat × (Nat → Nat)) (fun z => .slice z.1 (allL b).length z.2.2.1) (fun lo w' z => w.heap.size ≤ lo ∧ LLA lo w' z.1 z.2.1 z.2.2.2 (allL b)) RF Try.call65 (EvL.cons RF EvL.nil) (fun w1 hw1 => (all65 w1 b a c (hB.at hw1 MM) hok).mono (fun e w' ⟨a2, f, c2, cf, he, hb, hL⟩ => ⟨(a2, f, c2, cf), he, hb, hw1.size, hL⟩)) rfl (fun lo wr za hza => ?_)
  refine qs (y_assign RF) ?_
  refine sq_nil ?_
  refine sx_then ?_
  refine sc_seq ?_
  refine sc_nil_own 27 1 ?_
  refine sc_region ?_
  refine qs (y_assign RF) ?_
  refine sq_nil ?_
  refine sx_then ?_
  refine sc_seq ?_
  refine sc_seq ?_
  refine sc_region ?_
  refine qs (y_assign RF) ?_
  refine sq_nil ?_
  refine sx_then ?_
  refine sc_block ?_
  refine sc_loop (σ := Nat × Value × List (Value × List Int))
    (fun s => [(1, .slice al ls.length cl), (2, .pointer (some ⟨b2, 0, none⟩)), (5, .slice za.1 (allL b).length za.2.2.1), (6, s.2.1), (7, .int .i64 s.1)])
    (fun s => .own s.2.1 27 1 s.2.2.length (s.2.2.map (·.1)) :: .reg lo wr :: .blk b2 (.cells (bxRow b a c).toArray 26 (0, 0)) :: [.reg 0 w])
    (fun s => s.1 ≤ (allL b).length ∧ s.2.1.oneCell' = true ∧ s.2.2.map (·.2) = ((allL b).take s.1).filter (fitV b ls) ∧ ∀ p, p ∈ s.2.2 → ∃ a c, p.1 = .slice a p.2.length c ∧ RowsA iRow 1 lo wr a p.2)
    (fun s => (allL b).length - s.1)
    ((0, .slice none 0 0, [])) ?_ SU SR ?_
  · exact ⟨Nat.zero_le _, rfl, rfl, fun p hp => by cases hp⟩
  rintro ⟨i, v6, st⟩ ⟨hi, hv6, hst, hsp⟩
  dsimp only at hi hv6 hst hsp ⊢
  refine sc_seq ?_
  refine sc_seq ?_
  refine sc_region ?_
  refine qs (y_move RF) ?_
  refine qs (y_move RF) ?_
  refine qs (y_len Try.underlying68 RF) ?_
  refine qs (y_lss RF RF) ?_
  refine sq_nil ?_
  refine sx_then ?_
  refine scp (fun hc0 => ?_) (fun hc0 => ?_)
  ·
    have hi' : i < (allL b).length := by omega
    obtain ⟨h, hih⟩ : ∃ h, (allL b)[i]? = some h := ⟨_, List.getElem?_eq_getElem hi'⟩
    have hh := hin h (List.mem_of_getElem? hih)
    have hsmi := (hza.2.el i h hih).1
    have hcai := (hza.2.el i h hih).2.1
    have hstl : st.length ≤ 4096 := by
      have := congrArg List.length hst
      rw [List.length_map] at this
      rw [this]; refine Nat.le_trans (List.length_filter_le _ _) ?_
      rw [List.length_take]; omega
    refine sc_skip ?_
    refine sx_then ?_
    refine sc_seq ?_
    refine sc_block ?_
    refine sc_seq ?_
    refine sc_region ?_
    refine qs (y_assign RF) ?_
    refine sq_nil ?_
    refine sx_then ?_
    refine sc_seq ?_
    refine sc_seq ?_
    refine sc_region ?_
    refine qs (y_assign RF) ?_
    refine sq_nil ?_
    refine sx_then ?_
    refine sc_block ?_
    refine sc_loop (σ := Nat × Bool)
      (fun s => [(1, .slice al ls.length cl), (2, .pointer (some ⟨b2, 0, none⟩)), (5, .slice za.1 (allL b).length za.2.2.1), (6, v6), (7, .int .i64 i), (8, .bool s.2), (9, .int .i64 s.1)])
      (fun s => .own v6 27 1 st.length (st.map (·.1)) :: .reg lo wr :: .blk b2 (.cells (bxRow b a c).toArray 26 (0, 0)) :: [.reg 0 w])
      (fun s => s.1 ≤ ls.length ∧ s.2 = (List.range s.1).all fun j => meetsV (readV b (ls.getD j rd0).test h) ⟨(ls.getD j rd0).got, (ls.getD j rd0).got⟩)
      (fun s => ls.length - s.1)
      ((0, true)) ?_ SU SR ?_
    · exact ⟨Nat.zero_le _, rfl⟩
    rintro ⟨k, g⟩ ⟨hk, hg⟩
    dsimp only at hk hg ⊢
    refine sc_seq ?_
    refine sc_seq ?_
    refine sc_region ?_
    refine qs (y_move RF) ?_
    refine qs (y_move RF) ?_
    refine qs (y_len Try.underlying30 RF) ?_
    refine qs (y_lss RF RF) ?_
    refine sq_nil ?_
    refine sx_then ?_
    refine scp (fun hc1 => ?_) (fun hc1 => ?_)
    ·
      have hk' : k < ls.length := by omega
      have hsm := (hl.get rd0 hk').1
      have hca := (hl.get rd0 hk').2
      refine sc_skip ?_
      refine sx_then ?_
      refine sc_seq ?_
      refine sc_block ?_
      refine sc_seq ?_
      refine sc_drawX ([.reg lo wr, .blk b2 (.cells (bxRow b a c).toArray 26 (0, 0)), .reg 0 w]) (by kernel_rfl) ?_
      refine xj_s 0 RF (by kernel_rfl) SR LD26 rfl ?_
      refine xj_s 1 RF (by kernel_rfl) SR (y_move RF) rfl ?_
      refine xj_s 2 RF (by kernel_rfl) SR (y_move RF) rfl ?_
      refine xj_s 3 RF (by kernel_rfl) SR IA68 rfl ?_
      refine xj_s 4 RF (by kernel_rfl) SR (by first | exact y_load_ca0 Try.underlying27 rfl RF MM hcai rfl | exact LD27) rfl ?_
      refine xj_s 5 RF (by kernel_rfl) SR (y_move RF) rfl ?_
      refine xj_s 6 RF (by kernel_rfl) SR (y_move RF) rfl ?_
      refine xj_s 7 RF (by kernel_rfl) SR IA30 rfl ?_
      refine xj_s 8 RF (by kernel_rfl) SR FA54_29 rfl ?_
      refine xj_s 9 RF (by kernel_rfl) SR (by first | exact y_load_part Try.underlying29 rfl Try.sizeOf29 RF MM RF rfl | exact y_load_capart Try.underlying29 rfl Try.sizeOf29 RF MM hca rfl | exact LD29) rfl ?_
      refine xj_all (l := [10, 11]) (by kernel_rfl) (by simp) (Each.cons ⟨_, rfl, ?_⟩ (Each.cons ⟨_, rfl, ?_⟩ Each.nil))
      ·
        refine qy (yc Try.call48 E3 (fun w1 hw1 => read48 w1 b a c (hB.at hw1 MM) hok _ _ h ((hza.2.el i h hih).2.2.at hw1 MM) hh (ls.getD k rd0).test (hte _ (List.mem_of_getElem? (get_of_lt rd0 hk'))))) ?_
        refine sq_nil ?_
        refine sx_xp SR ?_
        refine xj_one 11 RF (by kernel_rfl) ?_
        refine sq_alloc Try.zeroValue24 rfl (fun b10 => ?_)
        refine sq_nil ?_
        refine sx_xp SR ?_
        refine xj_one 12 RF (by kernel_rfl) ?_
        refine sq_store_all Try.sizeOf24 RF RF rfl RM rfl rfl ?_
        refine sq_nil ?_
        refine sx_xpl (by kernel_rfl) ?_
        refine xj_done (by kernel_rfl) ?_
        refine sx_then ?_
        refine sc_drawR (by kernel_rfl) ?_
        refine xj_s 0 RF (by kernel_rfl) SR (y_move RF) rfl ?_
        refine xj_s 1 RF (by kernel_rfl) SR (y_move RF) rfl ?_
        first | refine xj_splitd (tt := 37) RF (fun hg11_1 => ?_) (fun hg11_1 => ?_) | refine xj_splitn (tt := 37) RF (fun hg11_1 => ?_) (fun hg11_1 => ?_) | refine xj_split (tt := 37) RF (fun hg11_1 => ?_) (fun hg11_1 => ?_)
        ·
          refine xj_gt 2 RF RF RF (by kernel_rfl) SR (y_move RF) rfl ?_
          refine xj_gt 3 RF RF RF (by kernel_rfl) SR (y_move RF) rfl ?_
          refine xj_gt 4 RF RF RF (by kernel_rfl) SR IA30 rfl ?_
          refine xj_gt 5 RF RF RF (by kernel_rfl) SR FA54_3 rfl ?_
          refine xj_gt 6 RF RF RF (by kernel_rfl) SR (by first | exact y_load_caj (j := 7) Try.underlying3 rfl RF MM hca rfl | exact LD3) rfl ?_
          refine xj_gt 7 RF RF RF (by kernel_rfl) SR FA24_3 rfl ?_
          refine xj_gt 8 RF RF RF (by kernel_rfl) SR LD3 rfl ?_
          refine xj_gt 9 RF RF RF (by kernel_rfl) SR FA24_3 rfl ?_
          refine xj_gt 10 RF RF RF (by kernel_rfl) SR LD3 rfl ?_
          refine xj_one 11 RF (by kernel_rfl) ?_
          refine sq_gt RF RF (y_call (first := []) (caps := []) RF Try.call62 (EvL.cons RF (EvL.cons RF (EvL.cons RF EvL.nil))) (fun w1 _ => in62 (ls.getD k rd0).got _ _ w1)) rfl ?_
          refine sq_nil ?_
          refine sx_xp SR ?_
          refine xj_s 12 RF (by kernel_rfl) SR (y_pick_t RF RF) rfl ?_
          refine xj_s 13 RF (by kernel_rfl) SR (y_assign RF) rfl ?_
          refine xj_done (by kernel_rfl) ?_
          refine sx_blk ?_
          refine sx_then ?_
          refine sc_region ?_
          refine qs (y_move RF) ?_
          refine qs (y_add RF RF (by omega)) ?_
          refine qs (y_assign RF) ?_
          refine sq_nil ?_
          refine sx_round ((k + 1, decide ((readV b (ls.getD k rd0).test h).lo ≤ (ls.getD k rd0).got ∧ (ls.getD k rd0).got ≤ (readV b (ls.getD k rd0).test h).hi))) ?_ ?_ SU SR
          · refine ⟨by omega, ?_⟩
            rw [List.range_succ, List.all_append, ← hg]; simp [hg11_1, meetsV]
          · omega
        ·
          refine xj_gf 2 RF RF RF rfl (by kernel_rfl) SR rfl ?_
          refine xj_gf 3 RF RF RF rfl (by kernel_rfl) SR rfl ?_
          refine xj_gf 4 RF RF RF rfl (by kernel_rfl) SR rfl ?_
          refine xj_gf 5 RF RF RF rfl (by kernel_rfl) SR rfl ?_
          refine xj_gf 6 RF RF RF rfl (by kernel_rfl) SR rfl ?_
          refine xj_gf 7 RF RF RF rfl (by kernel_rfl) SR rfl ?_
          refine xj_gf 8 RF RF RF rfl (by kernel_rfl) SR rfl ?_
          refine xj_gf 9 RF RF RF rfl (by kernel_rfl) SR rfl ?_
          refine xj_gf 10 RF RF RF rfl (by kernel_rfl) SR rfl ?_
          refine xj_gf 11 RF RF RF rfl (by kernel_rfl) SR rfl ?_
          refine xj_s 12 RF (by kernel_rfl) SR (y_pick_f RF RF) rfl ?_
          refine xj_s 13 RF (by kernel_rfl) SR (y_assign RF) rfl ?_
          refine xj_done (by kernel_rfl) ?_
          refine sx_blk ?_
          refine sx_then ?_
          refine sc_region ?_
          refine qs (y_move RF) ?_
          refine qs (y_add RF RF (by omega)) ?_
          refine qs (y_assign RF) ?_
          refine sq_nil ?_
          refine sx_round ((k + 1, false)) ?_ ?_ SU SR
          · refine ⟨by omega, ?_⟩
            rw [List.range_succ, List.all_append, ← hg]; simp [hg11_1]
          · omega
      ·
        refine sq_alloc Try.zeroValue24 rfl (fun b10 => ?_)
        refine sq_nil ?_
        refine sx_xp SR ?_
        refine xj_one 10 RF (by kernel_rfl) ?_
        refine qy (yc Try.call48 E3 (fun w1 hw1 => read48 w1 b a c (hB.at hw1 MM) hok _ _ h ((hza.2.el i h hih).2.2.at hw1 MM) hh (ls.getD k rd0).test (hte _ (List.mem_of_getElem? (get_of_lt rd0 hk'))))) ?_
        refine sq_nil ?_
        refine sx_xp SR ?_
        refine xj_one 12 RF (by kernel_rfl) ?_
        refine sq_store_all Try.sizeOf24 RF RF rfl RM rfl rfl ?_
        refine sq_nil ?_
        refine sx_xpl (by kernel_rfl) ?_
        refine xj_done (by kernel_rfl) ?_
        refine sx_then ?_
        refine sc_drawR (by kernel_rfl) ?_
        refine xj_s 0 RF (by kernel_rfl) SR (y_move RF) rfl ?_
        refine xj_s 1 RF (by kernel_rfl) SR (y_move RF) rfl ?_
        first | refine xj_splitd (tt := 37) RF (fun hg11_1 => ?_) (fun hg11_1 => ?_) | refine xj_splitn (tt := 37) RF (fun hg11_1 => ?_) (fun hg11_1 => ?_) | refine xj_split (tt := 37) RF (fun hg11_1 => ?_) (fun hg11_1 => ?_)
        ·
          refine xj_gt 2 RF RF RF (by kernel_rfl) SR (y_move RF) rfl ?_
          refine xj_gt 3 RF RF RF (by kernel_rfl) SR (y_move RF) rfl ?_
          refine xj_gt 4 RF RF RF (by kernel_rfl) SR IA30 rfl ?_
          refine xj_gt 5 RF RF RF (by kernel_rfl) SR FA54_3 rfl ?_
          refine xj_gt 6 RF RF RF (by kernel_rfl) SR (by first | exact y_load_caj (j := 7) Try.underlying3 rfl RF MM hca rfl | exact LD3) rfl ?_
          refine xj_gt 7 RF RF RF (by kernel_rfl) SR FA24_3 rfl ?_
          refine xj_gt 8 RF RF RF (by kernel_rfl) SR LD3 rfl ?_
          refine xj_gt 9 RF RF RF (by kernel_rfl) SR FA24_3 rfl ?_
          refine xj_gt 10 RF RF RF (by kernel_rfl) SR LD3 rfl ?_
          refine xj_one 11 RF (by kernel_rfl) ?_
          refine sq_gt RF RF (y_call (first := []) (caps := []) RF Try.call62 (EvL.cons RF (EvL.cons RF (EvL.cons RF EvL.nil))) (fun w1 _ => in62 (ls.getD k rd0).got _ _ w1)) rfl ?_
          refine sq_nil ?_
          refine sx_xp SR ?_
          refine xj_s 12 RF (by kernel_rfl) SR (y_pick_t RF RF) rfl ?_
          refine xj_s 13 RF (by kernel_rfl) SR (y_assign RF) rfl ?_
          refine xj_done (by kernel_rfl) ?_
          refine sx_blk ?_
          refine sx_then ?_
          refine sc_region ?_
          refine qs (y_move RF) ?_
          refine qs (y_add RF RF (by omega)) ?_
          refine qs (y_assign RF) ?_
          refine sq_nil ?_
          refine sx_round ((k + 1, decide ((readV b (ls.getD k rd0).test h).lo ≤ (ls.getD k rd0).got ∧ (ls.getD k rd0).got ≤ (readV b (ls.getD k rd0).test h).hi))) ?_ ?_ SU SR
          · refine ⟨by omega, ?_⟩
            rw [List.range_succ, List.all_append, ← hg]; simp [hg11_1, meetsV]
          · omega
        ·
          refine xj_gf 2 RF RF RF rfl (by kernel_rfl) SR rfl ?_
          refine xj_gf 3 RF RF RF rfl (by kernel_rfl) SR rfl ?_
          refine xj_gf 4 RF RF RF rfl (by kernel_rfl) SR rfl ?_
          refine xj_gf 5 RF RF RF rfl (by kernel_rfl) SR rfl ?_
          refine xj_gf 6 RF RF RF rfl (by kernel_rfl) SR rfl ?_
          refine xj_gf 7 RF RF RF rfl (by kernel_rfl) SR rfl ?_
          refine xj_gf 8 RF RF RF rfl (by kernel_rfl) SR rfl ?_
          refine xj_gf 9 RF RF RF rfl (by kernel_rfl) SR rfl ?_
          refine xj_gf 10 RF RF RF rfl (by kernel_rfl) SR rfl ?_
          refine xj_gf 11 RF RF RF rfl (by kernel_rfl) SR rfl ?_
          refine xj_s 12 RF (by kernel_rfl) SR (y_pick_f RF RF) rfl ?_
          refine xj_s 13 RF (by kernel_rfl) SR (y_assign RF) rfl ?_
          refine xj_done (by kernel_rfl) ?_
          refine sx_blk ?_
          refine sx_then ?_
          refine sc_region ?_
          refine qs (y_move RF) ?_
          refine qs (y_add RF RF (by omega)) ?_
          refine qs (y_assign RF) ?_
          refine sq_nil ?_
          refine sx_round ((k + 1, false)) ?_ ?_ SU SR
          · refine ⟨by omega, ?_⟩
            rw [List.range_succ, List.all_append, ← hg]; simp [hg11_1]
          · omega
    ·
      have hkn : k = ls.length := by omega
      subst hkn
      have hgf : fitV b ls h = g := by
        rw [hg]; unfold fitV
        exact (all_range_get ls rd0 (fun r => meetsV (readV b r.test h) ⟨r.got, r.got⟩)).symm
      refine sc_exit ?_
      refine sx_then_exit ?_
      refine sx_round_exit ?_
      refine sx_blk_hit ?_
      refine sx_then ?_
      refine sc_seq ?_
      refine sc_region ?_
      refine qs (y_move RF) ?_
      refine sq_nil ?_
      refine sx_then ?_
      refine scp (fun hc2 => ?_) (fun hc2 => ?_)
      ·
        subst hc2
        refine sc_region ?_
        refine qs (y_move RF) ?_
        refine qs (y_move RF) ?_
        refine qs (y_move RF) ?_
        refine qs IA68 ?_
        refine qs (by first | exact y_load_ca0 Try.underlying27 rfl RF MM hcai rfl | exact LD27) ?_
        refine sq_bsv Try.underlying68 ei27 RF rfl rfl (fun b55 => ?_)
        refine sq_append (news := [.slice (za.2.1 i) h.length (za.2.2.2 i)]) Try.underlying68 ei27 rfl (by decide) RF RM RF rfl (fun _ hw => news_blk hw MM) (by simp [Value.oneCell']) (by omega) rfl (fun v56 ho56 => ?_)
        rw [show st.map (·.1) ++ [Value.slice (za.2.1 i) h.length (za.2.2.2 i)] = (st ++ [(Value.slice (za.2.1 i) h.length (za.2.2.2 i), h)]).map (·.1) from by simp, show st.length + 1 = (st ++ [(Value.slice (za.2.1 i) h.length (za.2.2.2 i), h)]).length from by simp]
        refine qs (y_assign RF) ?_
        refine sq_nil ?_
        refine sx_blk ?_
        refine sx_then ?_
        refine sc_region ?_
        refine qs (y_move RF) ?_
        refine qs (y_add RF RF (by omega)) ?_
        refine qs (y_assign RF) ?_
        refine sq_nil ?_
        refine sx_round ((i + 1, v56, st ++ [(.slice (za.2.1 i) h.length (za.2.2.2 i), h)])) ?_ ?_ SU SR
        · refine ⟨by omega, ho56, ?_, fun p hp => ?_⟩
          · rw [List.take_add_one, hih, List.filter_append, List.map_append, hst]; simp [hgf]
          · rcases List.mem_append.1 hp with hp | hp
            · exact hsp p hp
            · rw [List.mem_singleton.1 hp]; exact ⟨_, _, rfl, (hza.2.el i h hih).2.2⟩
        · omega
      ·
        have hc2 : g = false := by simpa using hc2
        subst hc2
        refine sc_skip ?_
        refine sx_blk ?_
        refine sx_then ?_
        refine sc_region ?_
        refine qs (y_move RF) ?_
        refine qs (y_add RF RF (by omega)) ?_
        refine qs (y_assign RF) ?_
        refine sq_nil ?_
        refine sx_round ((i + 1, v6, st)) ?_ ?_ SU SR
        · refine ⟨by omega, hv6, ?_, hsp⟩
          dsimp only
          rw [List.take_add_one, hih, List.filter_append, hst]; simp [hgf]
        · omega
  ·
    refine sc_exit ?_
    refine sx_then_exit ?_
    refine sx_round_exit ?_
    refine sx_blk_hit ?_
    refine sx_then ?_
    refine sc_seq ?_
    refine sc_region ?_
    refine qs (y_move RF) ?_
    refine qs (y_assign RF) ?_
    refine sq_nil ?_
    refine sx_then ?_
    refine sc_ret ?_
    refine sx_ret1 (.inl rfl) rfl Try.results40 RF ?_
    intro w' hw'
    have hin2 : i = (allL b).length := by omega
    subst hin2
    rw [List.take_length] at hst
    have hL : st.length = (fitL b ls).length := by rw [← show st.map (·.2) = fitL b ls from hst, List.length_map]
    obtain ⟨a2, f, c2, cf, hv, hLL⟩ := lists_of hw' MM MM MM hza.1 hsp (by rw [hL]; exact Nat.le_trans (List.length_filter_le _ _) (by omega))
    rw [show st.map (·.2) = fitL b ls from hst] at hLL
    exact ⟨a2, f, c2, cf, by rw [hv, hL], hw'.below MM, hLL⟩
end Go.Proofs.Ytofjipmheckmjaa
