/- The walk of what fits. -/
import Derived.Test.YtfceajkofpafpaaSW4
namespace Go.Proofs.Ytfceajkofpafpaa.Sc
open Go Go.Eng Go.RowKit Go.Proofs
set_option maxRecDepth 100000
theorem flat_ione (l : List Int) : ∀ u ∈ l.flatMap iRow, u.oneCell' = true := flat_one (fun _ u hu => by simp [iRow] at hu; subst hu; rfl) l
theorem reads47v (w : World) (b : Bx) (a : Option Addr) (c : Nat) (hB : RowsA kdRow 3 0 w a b.kinds) (hok : bxB b = true) (v : Value) (l : List Int) (hv : w.ownsRow 0 3 1 v l.length (l.flatMap iRow)) (hh : HasOk b l) (t : Te) (ht : teB b t = true) : Calls Try.prog 37 #[.agg (bxRow b a c).toArray, v, .agg (teRow t).toArray] w fun e w' => e = .returned (.agg (spRow (readV b t l)).toArray) ∧ Below w.heap.size w w' := by
  have hl : l.length ≤ 9223372036854775807 := by have := hh.len; have := hB.len; omega
  obtain ⟨al, cl, rfl, _, hr⟩ := own_rowsA (row := iRow) (fun _ => rfl) hv rfl hl
  exact reads47 w b a c hB hok al cl l hr hh t ht
/-- lists, in memory -/
structure LLA (lo : Nat) (wr : World) (a : Option Addr) (f : Nat → Option Addr) (cf : Nat → Nat) (ll : List (List Int)) : Prop where
  el : ∀ i h, ll[i]? = some h → a.isSome = true ∧ CA lo wr (elt a i 1) [.slice (f i) h.length (cf i)] ∧ RowsA iRow 1 lo wr (f i) h
  len : ll.length ≤ 9223372036854775807
theorem LLA.at {w0 rs w lo wr a f cf ll} (h : LLA lo wr a f cf ll) (hw : Hp w0 rs w) (hm : Res.reg lo wr ∈ rs) : LLA 0 w a f cf ll := ⟨fun i x hi => ⟨(h.el i x hi).1, CA.at (h.el i x hi).2.1 hw hm, (h.el i x hi).2.2.at hw hm⟩, h.len⟩
theorem LLA.low {w lo lo' a f cf ll} (h : LLA lo w a f cf ll) (hl : lo' ≤ lo) : LLA lo' w a f cf ll := ⟨fun i x hi => ⟨(h.el i x hi).1, (h.el i x hi).2.1.low hl, (h.el i x hi).2.2.low hl⟩, h.len⟩
theorem lists70q {w0 wr w : World} {lo l : Nat} {lp : Loop} {rs : List Res} (_ : Hp w0 rs w) (_ : Res.blk l (.loop lp) ∈ rs) {b : Bx} {a : Option Addr} {c : Nat} (hB : RowsA kdRow 3 0 w0 a b.kinds) (hok : bxB b = true) (pb : Addr) (hpb : CA lo wr pb (bxRow b a c)) (U : Usr w0 l lp b) (hM : (allL b).length ≤ U.M) (z : U.Z) (hinv : U.Inv [] z) (hw : Hp w0 (.reg lo wr :: .reg 0 w0 :: U.UR z) w) {R : Ending → World → Prop}
    (h : ∀ e w', (∃ v, e = .returned v) → ∀ (y : U.Z) (go : Bool), (if go = true then U.Inv (allL b) y else U.Stp y) → Hp w0 (.reg lo wr :: .reg 0 w0 :: U.UR y) w' → R e w') : Calls Try.prog 65 #[.func (.yield l) #[] #[], .pointer (some pb)] w R :=
  (lists70 hB hok pb hpb U hM z hinv w hw).mono fun e w' ⟨hv, y, h1, h2⟩ => h e w' hv y.1 y.2 h1 h2
def inner (iv : List (Value × List Int)) : List Res := iv.map fun p => .own p.1 3 1 p.2.length (p.2.flatMap iRow)
def vRow (v : Value) : List Value := [v]
def capA : Value → Nat
  | .slice _ _ c => c
  | _ => 0
theorem flat_v (l : List Value) : l.flatMap vRow = l := by induction l with | nil => rfl | cons a l ih => rw [List.flatMap_cons, ih]; rfl
theorem lists_new {w0 w : World} {rs : List Res} (hw : Hp w0 rs w) {e : TypeId} {vo : Value} {iv : List (Value × List Int)} (ho : Res.own vo e 1 iv.length (iv.reverse.map (·.1)) ∈ rs) (hi : ∀ r, r ∈ inner iv → r ∈ rs) (hm : Res.reg 0 w0 ∈ rs) (hlen : ∀ p, p ∈ iv → p.2.length ≤ 100000) (hb : iv.length ≤ 100000) :
    ∃ a f c cf, vo = .slice a iv.length c ∧ LLA w0.heap.size w a f cf (iv.reverse.map (·.2)) := by
  have h1 := own_new_mem hw ho hm
  rw [← flat_v (iv.reverse.map (·.1))] at h1
  obtain ⟨a, c, hv, _, hr⟩ := own_rowsA (row := vRow) (fun _ => rfl) h1 (by simp) (by omega)
  refine ⟨a, fun i => baseA ((iv.reverse.map (·.1)).getD i (.slice none 0 0)), c, fun i => capA ((iv.reverse.map (·.1)).getD i (.slice none 0 0)), hv, ⟨fun i h hih => ?_, by simp; omega⟩⟩
  obtain ⟨p, hp, rfl⟩ : ∃ p, iv.reverse[i]? = some p ∧ p.2 = h := by
    rw [List.getElem?_map] at hih
    cases hp : iv.reverse[i]? with
    | none => rw [hp] at hih; cases hih
    | some p => rw [hp] at hih; simp at hih; exact ⟨p, rfl, hih⟩
  have hpm : p ∈ iv := List.mem_reverse.1 (List.mem_of_getElem? hp)
  have hg : (iv.reverse.map (·.1))[i]? = some p.1 := by rw [List.getElem?_map, hp]; rfl
  have h2 := own_new_mem hw (hi _ (List.mem_map.2 ⟨p, hpm, rfl⟩)) hm
  obtain ⟨a2, c2, hv2, _, hr2⟩ := own_rowsA (row := iRow) (fun _ => rfl) h2 rfl (by have := hlen p hpm; omega)
  have h3 := hr.el i p.1 hg
  have hgd : (iv.reverse.map (·.1)).getD i (.slice none 0 0) = p.1 := by rw [List.getD_eq_getElem?_getD, hg]; rfl
  refine ⟨h3.1, ?_, ?_⟩
  · rw [hgd, hv2]; have := h3.2; rw [hv2] at this; exact this
  · rw [hgd, hv2]; exact hr2

theorem clone85 (w : World) (ad : Addr) (cl : Nat) (l : List Int) (hl : RowsA iRow 1 0 w (some ad) l) (hb : l.length ≤ 100000) : Calls Try.prog 102 #[.slice (some ad) l.length cl] w fun e w' => ∃ v, e = .returned v ∧ Below w.heap.size w w' ∧ v.oneCell' = true ∧ w'.ownsRow w.heap.size 3 1 v l.length (l.flatMap iRow) := by
  refine calls_of_SC (args := [.slice (some ad) l.length cl]) Try.func102 rfl Try.ntmps102 rfl ?_
  simp only [argL]
  refine sc_seq ?_
  refine sc_region ?_
  refine qs (y_assign RF) ?_
  refine sq_nil ?_
  refine sx_then ?_
  refine sc_seq ?_
  refine sc_seq ?_
  refine sc_region ?_
  refine qs (y_move RF) ?_
  refine qs (y_eqlnil Try.underlying111 RF RF) ?_
  refine sq_nil ?_
  refine sx_then ?_
  refine sc_f (lk_bool rfl (rfl)) ?_
  refine sc_skip ?_
  refine sx_then ?_
  refine sc_seq ?_
  refine sc_region ?_
  refine sq_bs Try.underlying111 ei3 (EvI.nil) (by simp) rfl rfl rfl (fun b5 => ?_)
  refine sq_blk_own0 (sz := 1) (c := 0) RM rfl (Nat.zero_le _) ?_
  refine qs (y_move RF) ?_
  refine sq_append (news := l.flatMap iRow) Try.underlying111 ei3 rfl (by decide) RF RM RF (by rw [Nat.mul_one]; exact flat_ilen l) (fun w1 hw1 => ((hl.at hw1 MM).cells (fun _ => rfl) (by decide))) (flat_ione l) (by omega) rfl (fun v7 ho7 => ?_)
  refine qs (y_assign RF) ?_
  refine sq_nil ?_
  refine sx_then ?_
  refine sc_ret ?_
  refine sx_ret1 (.inl rfl) rfl Try.results102 RF ?_
  intro w' hw'
  have := own_new_mem hw' (.head _) MM
  rw [Nat.zero_add] at this
  exact ⟨v7, rfl, hw'.below MM, ho7, this⟩
theorem clone85v (w : World) (v : Value) (l : List Int) (hv : w.ownsRow 0 3 1 v l.length (l.flatMap iRow)) (h1 : 1 ≤ l.length) (hb : l.length ≤ 100000) : Calls Try.prog 102 #[v] w fun e w' => ∃ v, e = .returned v ∧ Below w.heap.size w w' ∧ v.oneCell' = true ∧ w'.ownsRow w.heap.size 3 1 v l.length (l.flatMap iRow) := by
  obtain ⟨al, cl, rfl, _, hr⟩ := own_rowsA (row := iRow) (fun _ => rfl) hv rfl (by omega)
  cases al with
  | none => have := hr.noa rfl; omega
  | some ad => exact clone85 w ad cl l hr hb
theorem fitting76 (w : World) (b : Bx) (a : Option Addr) (c : Nat) (hB : RowsA kdRow 3 0 w a b.kinds) (hok : bxB b = true) (al : Option Addr) (cl : Nat) (ls : List Rd) (hl : RowsA rdRow 8 0 w al ls) (hte : ∀ r, r ∈ ls → teB b r.test = true) : Calls Try.prog 72 #[.agg (bxRow b a c).toArray, .slice al ls.length cl] w fun e w' => ∃ a2 f c2 cf, e = .returned (.slice a2 (fitL b ls).length c2) ∧ Below w.heap.size w w' ∧ LLA w.heap.size w' a2 f cf (fitL b ls) := by
  have hbp := bxB_parts hok
  have hlen := hl.len
  have hall := allL_le hok
  refine calls_of_SCm (args := [.agg (bxRow b a c).toArray, .slice al ls.length cl]) Try.func72 rfl Try.ntmps72 rfl ?_
  simp only [argL, Nat.zero_add]
  refine sc_seq ?_
  refine sc_region ?_
  refine sq_box RF rfl (fun b2 => ?_)
  refine sq_box RF rfl (fun b3 => ?_)
  refine sq_alloc Try.zeroValue115 rfl (fun b4 => ?_)
  refine sq_nil ?_
  refine sx_then ?_
  refine sc_scope ?_
  refine sc_seq ?_
  refine sc_label ?_
  refine sx_then ?_
  refine sc_seq ?_
  refine sc_seq ?_
  refine sc_nil_own 111 1 ?_
  refine sc_region ?_
  refine qs LD26 ?_
  refine sq_call_new (first := []) (caps := []) (Z := Addr) (fun p => .func (.func 65) #[] #[.pointer (some p)]) (fun lo w' p => w.heap.size ≤ lo ∧ CA lo w' p (bxRow b a c)) RF Try.call35 (EvL.cons RF EvL.nil) (fun w1 hw1 => (lists45 w1 b a c).mono (fun e w' ⟨p, he, hb, hc⟩ => ⟨p, he, hb, hw1.size, hc⟩)) rfl (fun lo wr pb hpb => ?_)
  refine sq_nil ?_
  refine sx_then ?_
  refine sc_block ?_
  refine sc_rangeFunc (Z := Value × List (Value × List Int)) (ps := [10]) (lb := [.pointer (some pb)]) (fun z => .reg lo wr :: .reg 0 w :: .own z.1 111 1 z.2.length (z.2.reverse.map (·.1)) :: .blk b4 (.cells #[z.1] 115 (0, 0)) :: .blk b3 (.cells [.slice al ls.length cl].toArray 53 (0, 0)) :: .blk b2 (.cells (bxRow b a c).toArray 45 (0, 0)) ::  inner z.2) (fun z => z.1.oneCell' = true ∧ z.2.reverse.map (·.2) = fitL b ls ∧ ∀ p, p ∈ z.2 → p.2.length ≤ 4) rfl RF Try.call65 ?_ ?_
  ·
    intro fn tm l D hts htL w1 hw1
    refine lists70q hw1 (.head _) hB hok pb hpb.2 { Z := Value × List (Value × List Int), M := 4096, UR := (fun z => .blk l (.loop (LP fn tm [10] _ _ D)) :: .blk D (.deferred (some [])) :: .own z.1 111 1 z.2.length (z.2.reverse.map (·.1)) :: .blk b4 (.cells #[z.1] 115 (0, 0)) :: .blk b3 (.cells [.slice al ls.length cl].toArray 53 (0, 0)) :: .blk b2 (.cells (bxRow b a c).toArray 45 (0, 0)) ::  inner z.2), Inv := (fun ds z => z.1.oneCell' = true ∧ z.2.reverse.map (·.2) = ds.filter (fitV b ls) ∧ ∀ p, p ∈ z.2 → p.2.length ≤ 4), Stp := fun _ => False, loop := (fun _ _ _ => .head _), one := rfl, round := ?_ } hall (.slice none 0 0, []) ⟨rfl, rfl, fun p hp => by cases hp⟩ (hw1.sel SR) ?_
    rotate_left
    · intro e w' hv y go h1 h2
      by_cases hgo : go = true
      · rw [if_pos hgo] at h1
        exact ⟨y, h1, hv, h2.sel SR⟩
      · rw [if_neg hgo] at h1; exact h1.elim
    rintro ds z h ⟨hz1, hz, hz4⟩ hh _ hds F w2 v hw2
    have hzl : z.2.length ≤ ds.length := by
      have := congrArg List.length hz
      rw [List.length_map, List.length_reverse] at this
      rw [this]; exact List.length_filter_le _ _
    rw [fold1]
    obtain ⟨hs2, hL2⟩ := one_param (p := 10) (u := v) hts htL (Nat.le_of_ble_eq_true rfl)
    refine round_of_SC (N := 36) hs2 hL2 hw2 ?_
    dsimp only [List.cons_append]
    refine sc_region ?_
    refine qs (y_assign RF) ?_
    refine sq_nil ?_
    refine sx_begin rfl RM rfl ?_
    refine sc_block ?_
    refine sc_seq ?_
    refine sc_seq ?_
    refine sc_region ?_
    refine qs LD30 ?_
    refine qs (y_len Try.underlying53 RF) ?_
    refine qs (y_move RF) ?_
    refine sq_nil ?_
    refine sx_then ?_
    refine sc_block ?_
    refine sc_loop (σ := Nat)
      (fun s => [(2, .pointer (some ⟨b2, 0, none⟩)), (3, .pointer (some ⟨b3, 0, none⟩)), (4, .pointer (some ⟨b4, 0, none⟩)), (5, v), (11, .slice al ls.length cl), (12, .int .i64 ls.length), (13, .int .i64 s)])
      (fun s => .own v 3 1 h.length (h.flatMap iRow) :: .reg 0 w :: .blk l (.loop { LP fn tm [10] _ _ D with state := .busy }) :: .blk D (.deferred (some [])) :: .own z.1 111 1 z.2.length (z.2.reverse.map (·.1)) :: .blk b4 (.cells #[z.1] 115 (0, 0)) :: .blk b3 (.cells [.slice al ls.length cl].toArray 53 (0, 0)) :: .blk b2 (.cells (bxRow b a c).toArray 45 (0, 0)) ::  (inner z.2 ++ F))
      (fun s => s ≤ ls.length ∧ ∀ j, j < s → meetsV (readV b (ls.getD j rd0).test h) ⟨(ls.getD j rd0).got, (ls.getD j rd0).got⟩ = true)
      (fun s => ls.length - s)
      (0) ?_ SU SR ?_
    · exact ⟨Nat.zero_le _, fun j hj => absurd hj (Nat.not_lt_zero j)⟩
    rintro k ⟨hk, hno⟩
    dsimp only [List.map]
    refine sc_seq ?_
    refine sc_region ?_
    refine qs (y_lss RF RF) ?_
    refine sq_nil ?_
    refine sx_then ?_
    refine sc_seq ?_
    refine scp (fun hc0 => ?_) (fun hc0 => ?_)
    ·
      have hk' : k < ls.length := by omega
      have hsm := (hl.get rd0 hk').1
      have hca := (hl.get rd0 hk').2
      refine sc_skip ?_
      refine sx_then ?_
      refine sc_seq ?_
      refine sc_block ?_
      refine sc_seq ?_
      refine sc_region ?_
      refine qs IA30 ?_
      refine qs (by first | exact y_load_ca Try.underlying52 rfl Try.sizeOf52 RF MM hca rfl | exact LD54) ?_
      refine sq_alloc Try.zeroValue52 rfl (fun b7 => ?_)
      refine sq_store_all Try.sizeOf52 RF RF rfl RM rfl rfl ?_
      refine sq_nil ?_
      refine sx_then ?_
      refine sc_seq ?_
      refine sc_drawR (by kernel_rfl) ?_
      refine xj_s 0 RF (by kernel_rfl) SR LD26 rfl ?_
      refine xj_s 1 RF (by kernel_rfl) SR (y_move RF) rfl ?_
      refine xj_s 2 RF (by kernel_rfl) SR FA54_29 rfl ?_
      refine xj_s 3 RF (by kernel_rfl) SR LD29 rfl ?_
      refine xj_s 5 RF (by kernel_rfl) SR FA54_3 rfl ?_
      refine xj_s 6 RF (by kernel_rfl) SR LD3 rfl ?_
      refine xj_s 7 RF (by kernel_rfl) SR FA54_3 rfl ?_
      refine xj_s 8 RF (by kernel_rfl) SR LD3 rfl ?_
      refine xj_s 9 RF (by kernel_rfl) SR (y_build bt81 (EvP.cons RF (EvP.cons RF EvP.nil)) RF) rfl ?_
      refine xj_one 4 RF (by kernel_rfl) ?_
      refine qy (yc Try.call37 E3 (fun w1 hw1 => reads47v w1 b a c (hB.at hw1 MM) hok v h (hw1.ok (Res.own v 3 1 h.length (h.flatMap iRow)) MM) hh (ls.getD k rd0).test (hte _ (List.mem_of_getElem? (get_of_lt rd0 hk'))))) ?_
      refine sq_nil ?_
      refine sx_xp SR ?_
      refine xj_one 10 RF (by kernel_rfl) ?_
      refine qy (yc Try.call101 E2 (fun w1 hw1 => meets84 w1 (readV b (ls.getD k rd0).test h) ⟨(ls.getD k rd0).got, (ls.getD k rd0).got⟩)) ?_
      refine sq_nil ?_
      refine sx_xp SR ?_
      refine xj_s 11 RF (by kernel_rfl) SR (y_not RF) rfl ?_
      refine xj_done (by kernel_rfl) ?_
      refine sx_then ?_
      refine scp (fun hc1 => ?_) (fun hc1 => ?_)
      ·
        refine sc_exit ?_
        refine sx_blk_miss rfl ?_
        refine sx_then_exit ?_
        refine sx_round_exit ?_
        refine sx_blk_miss rfl ?_
        refine sx_then_exit ?_
        refine sx_blk_hit ?_
        refine sx_endround RM ?_
        intro w' hw'
        exact ⟨z, true, by rw [if_pos rfl]; exact ⟨hz1, by rw [List.filter_append, hz]; simp [show fitV b ls h = false from List.all_eq_false.2 ⟨ls.getD k rd0, List.mem_of_getElem? (get_of_lt rd0 hk'), by simpa [meetsV] using hc1⟩], hz4⟩, rfl, hw'.sel SR⟩
      ·
        refine sc_skip ?_
        refine sx_blk ?_
        refine sx_then ?_
        refine sc_region ?_
        refine qs (y_add RF RF (by omega)) ?_
        refine qs (y_move RF) ?_
        refine sq_nil ?_
        refine sx_round (k + 1) ?_ ?_ SU SR
        · refine ⟨by omega, fun j hj => ?_⟩
          rcases Nat.lt_succ_iff_lt_or_eq.1 hj with h9 | rfl
          · exact hno j h9
          · simpa [meetsV] using hc1
        · omega
    ·
      refine sc_exit ?_
      refine sx_then_exit ?_
      refine sx_round_exit ?_
      refine sx_blk_hit ?_
      refine sx_then ?_
      refine sc_drawX ([.blk b4 (.cells #[z.1] 115 (0, 0)), .reg 0 w]) (by kernel_rfl) ?_
      refine xj_s 0 RF (by kernel_rfl) SR LD84 rfl ?_
      refine xj_s 1 RF (by kernel_rfl) SR (y_move RF) rfl ?_
      refine xj_one 2 RF (by kernel_rfl) ?_
      refine sq_call_own (first := []) (caps := []) (e := 3) (sz := 1) (n := h.length) (Z := Value) (fun x => x) (fun x => x) (fun _ => h.flatMap iRow) (fun x => x.oneCell' = true) RF Try.call102 (EvL.cons RF EvL.nil) (fun w1 hw1 => (clone85v w1 v h (hw1.ok (Res.own v 3 1 h.length (h.flatMap iRow)) MM) (by have := hh.len; omega) (by have := hh.len; omega)).mono (fun e w' ⟨x, h1, h2, h3, h4⟩ => ⟨x, h1, h2, h3, h4⟩)) rfl (fun vn hvn => ?_)
      refine sq_nil ?_
      refine sx_xp SR ?_
      refine xj_one 3 RF (by kernel_rfl) ?_
      refine sq_bsv Try.underlying115 ei79 RF hvn rfl (fun b33 => ?_)
      refine sq_nil ?_
      refine sx_xp SR ?_
      refine xj_one 4 RF (by kernel_rfl) ?_
      refine sq_append (news := [vn]) Try.underlying115 ei79 rfl (by decide) RF RM RF rfl (fun _ hw => news_blk hw MM) (by simpa using hvn) (by omega) rfl (fun v34 ho34 => ?_)
      refine sq_nil ?_
      refine sx_xp SR ?_
      rw [show z.2.reverse.map (·.1) ++ [vn] = ((vn, h) :: z.2).reverse.map (·.1) from by simp]
      refine xj_one 5 RF (by kernel_rfl) ?_
      refine sq_store Try.sizeOf115 RF RF (by first | rfl | assumption) RM (by first | exact Nat.le_of_ble_eq_true rfl | simp | omega) ?_
      refine sq_nil ?_
      refine sx_xpl (by kernel_rfl) ?_
      refine xj_done (by kernel_rfl) ?_
      refine sx_blk ?_
      refine sx_endround RM ?_
      intro w' hw'
      exact ⟨(v34, (vn, h) :: z.2), true, by rw [if_pos rfl]; exact ⟨ho34, by rw [List.reverse_cons, List.map_append, hz, List.filter_append]; simp [show fitV b ls h = true from all_getD ls rd0 _ (fun j hj => hno j (by omega))], fun p hp => (List.mem_cons.1 hp).elim (fun e => by rw [e]; dsimp only; have := hh.len; omega) (hz4 p)⟩, rfl, hw'.sel SR⟩
  ·
    rintro D ⟨vo, iv⟩ ⟨hz1, hz, hz4⟩
    dsimp only at hz1 hz hz4 ⊢
    refine sx_blk ?_
    refine sx_then ?_
    refine sc_seq ?_
    refine sc_region ?_
    refine qs LD84 ?_
    refine sq_store Try.sizeOf115 RF RF (by first | rfl | assumption) RM (by first | exact Nat.le_of_ble_eq_true rfl | simp | omega) ?_
    refine sq_nil ?_
    refine sx_then ?_
    refine sc_ret ?_
    refine sx_scope_ret ?_
    refine sx_retcM (.inl rfl) rfl RM Try.results72 Try.underlying115 rfl RF MM ?_
    intro w' hw'
    have hL : iv.length = (fitL b ls).length := by rw [← hz, List.length_map, List.length_reverse]
    obtain ⟨a2, f, c2, cf, hv, hLL⟩ := lists_new hw' MM (fun r hr => by repeat (first | exact hr | refine .tail _ ?_)) MM (fun p hp => by have := hz4 p hp; omega) (by rw [hL]; exact Nat.le_trans (List.length_filter_le _ _) (by omega))
    rw [hz] at hLL
    exact ⟨a2, f, c2, cf, by rw [hv, hL]; rfl, hw'.below MM, hLL⟩
end Go.Proofs.Ytfceajkofpafpaa.Sc
