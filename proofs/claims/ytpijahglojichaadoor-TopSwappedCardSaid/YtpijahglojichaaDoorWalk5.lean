/- The walks of what looks whether a list is an exchange; the library's sort by its contract. -/
import Derived.Sort.OwnSortedInts
import Derived.Test.YtpijahglojichaaDoorWalk4
import Derived.Test.YtpijahglojichaaDoorSortL
namespace Go.Proofs.YtpijahglojichaaDoor
open Go Go.Eng Go.RowKit Go.Proofs
set_option maxRecDepth 100000
theorem flat_map (l : List Int) : l.flatMap iRow = l.map (Value.int .i64) := by
  induction l with
  | nil => rfl
  | cons a l ih => rw [List.flatMap_cons, ih]; rfl
/-- an own list, sorted in place -/
theorem sort101 {w0 w : World} {rest : List Res} {v : Value} {l : List Int} (hl : l.length ≤ 1000) (hw : Hp w0 (.own v 3 1 l.length (l.flatMap iRow) :: rest) w) : Calls Tryd.prog 101 #[v] w fun e w' => e = .returned (.tuple #[]) ∧ Hp w0 (.own v 3 1 (sortI l).length ((sortI l).flatMap iRow) :: rest) w' := by
  have hlen : (sortI l).length = l.length := (sortI_perm l).length_eq
  have ho : w.ownsRow 0 3 1 v l.length (l.flatMap iRow) := hw.ok (Res.own v 3 1 l.length (l.flatMap iRow)) (.head _)
  rcases ho.2 with ⟨hv, h0⟩ | ⟨g, cap, cur, hv, hb, hg, h1, h2, h3, h4⟩
  · subst hv
    have hl0 : l = [] := List.eq_nil_of_length_eq_zero h0
    subst hl0
    exact (Any.slices_Sort_int_none Tryd.lays189 none 0 w).mono fun e w' ⟨he, hw'⟩ => ⟨he, by subst hw'; rw [show sortI [] = [] from by unfold sortI; simp]; exact hw⟩
  · subst hv
    have ht : cur.toList.take l.length = l.map (Value.int .i64) := by rw [← flat_map, ← h4, Nat.mul_one]
    refine (Any.slices_Sort_int Tryd.lays189 g 0 cap l w (Go.holds_of_blockI hg ht) (Array.getElem?_eq_some_iff.1 hg).1 (by omega)).mono fun e w' ⟨he, n, os, hw'⟩ => ⟨he, ?_⟩
    subst hw'
    refine hp_own hw .here ?_ (Go.grownBy_sortedI _) (fun k hk => .inl hk)
    rw [hlen, flat_map]
    exact Go.ownsRow_sortedI hlen (Nat.zero_le _) hg h1 h2 h3

theorem values102 {w0 w : World} {p : Addr} {a : Option Addr} {c : Nat} (o : List Int) (hp : CA 0 w0 p [.slice a o.length c]) (ho : RowsA iRow 1 0 w0 a o) {l : Nat} {lp : Loop} {Z : Type} (UR : Z → List Res) (Inv : Nat → Z → Prop) (hloop : ∀ k z, Inv k z → Res.blk l (.loop lp) ∈ UR z) (hone : lp.params.size = 1)
    (hround : ∀ k z, k < o.length → Inv k z → ∀ F w, Hp w0 (UR z ++ F) w → RoundIn (FW none) 0 Tryd.prog l lp.fn ((lp.params.zip #[.int .i64 (o.getD k 0)]).foldl (fun tmps (t, a) => tmps.setIfInBounds t a) lp.tmps) lp.assign lp.body w fun e w' => ∃ z', Inv (k + 1) z' ∧ e = .returned (.bool true) ∧ Hp w0 (UR z' ++ F) w')
    (z : Z) (hz : Inv 0 z) (hw : Hp w0 (.reg 0 w0 :: UR z) w) : Calls Tryd.prog 102 #[.func (.yield l) #[] #[], .pointer (some p)] w fun e w' => (∃ v, e = .returned v) ∧ ∃ z', Inv o.length z' ∧ Hp w0 (.reg 0 w0 :: UR z') w' := by
  have hlen := ho.len
  refine calls_of_SCr (args := [.func (.yield l) #[] #[], .pointer (some p)]) Tryd.func102 rfl Tryd.ntmps102 rfl hw ?_
  simp only [argL, Nat.zero_add]
  refine sc_seq ?_
  refine sc_region ?_
  refine qs (by first | exact y_load_ca0 Tryd.underlying25 rfl RF MM hp rfl | exact LD25) ?_
  refine qs (y_len Tryd.underlying25 RF) ?_
  refine qs (y_move RF) ?_
  refine sq_nil ?_
  refine sx_then ?_
  refine sc_block ?_
  refine sc_loop (σ := Nat × Z)
    (fun s => [(0, .func (.yield l) #[] #[]), (5, .slice a o.length c), (6, .int .i64 o.length), (7, .int .i64 s.1)])
    (fun s => (.reg 0 w0 :: UR s.2))
    (fun s => s.1 ≤ o.length ∧ Inv s.1 s.2)
    (fun s => o.length - s.1)
    ((0, z)) ?_ SU SR ?_
  · exact ⟨Nat.zero_le _, hz⟩
  rintro ⟨k, z⟩ ⟨hk, hz⟩
  dsimp only at hk hz ⊢
  refine sc_seq ?_
  refine sc_region ?_
  refine qs (y_lss RF RF) ?_
  refine sq_nil ?_
  refine sx_then ?_
  refine sc_seq ?_
  refine scp (fun hc0 => ?_) (fun hc0 => ?_)
  ·
    have hk' : k < o.length := by omega
    have hsm := (ho.get 0 hk').1
    have hca := (ho.get 0 hk').2
    refine sc_skip ?_
    refine sx_then ?_
    refine sc_seq ?_
    refine sc_block ?_
    refine sc_seq ?_
    refine sc_region ?_
    refine qs IA25 ?_
    refine qs (by first | exact y_load_ca0 Tryd.underlying3 rfl RF MM hca rfl | exact LD3) ?_
    refine qs (y_assign RF) ?_
    refine sq_nil ?_
    refine sx_then ?_
    refine sc_seq ?_
    refine sc_region ?_
    refine qs (y_move RF) ?_
    refine qs (y_move RF) ?_
    refine sq_yield (rs' := .reg 0 w0 :: UR z) (Z := Z) (fun _ => .bool true) (fun y => .reg 0 w0 :: UR y) (fun y => Inv (k + 1) y) RF E1 (.tail _ (hloop k z hz)) (Sel.refl _) (by simpa using hone.symm) (fun w1 hw1 => (hround k z hk' hz [.reg 0 w0] w1 (hw1.sel (Sel.comm [.reg 0 w0] (UR z)))).mono (fun e w' ⟨z', h1, h2, h3⟩ => ⟨z', h1, h2, h3.sel (Sel.comm (UR z') [.reg 0 w0])⟩)) rfl (fun y hy => ?_)
    refine qs (y_not RF) ?_
    refine sq_nil ?_
    refine sx_then ?_
    refine sc_f (lk_bool rfl (rfl)) ?_
    refine sc_skip ?_
    refine sx_blk ?_
    refine sx_then ?_
    refine sc_region ?_
    refine qs (y_add RF RF (by omega)) ?_
    refine qs (y_move RF) ?_
    refine sq_nil ?_
    refine sx_round ((k + 1, y)) ?_ ?_ SU SR
    · exact ⟨by dsimp only; omega, hy⟩
    · dsimp only; omega
  ·
    have hkn : k = o.length := by omega
    subst hkn
    refine sc_exit ?_
    refine sx_then_exit ?_
    refine sx_round_exit ?_
    refine sx_blk_hit ?_
    refine sx_ret0 (.inr rfl) rfl Tryd.results102 ?_
    intro w' hw'
    exact ⟨⟨_, rfl⟩, z, hz, hw'⟩
theorem append107 (w : World) (p : Addr) (a : Option Addr) (c : Nat) (o : List Int) (hp : CA 0 w p [.slice a o.length c]) (ho : RowsA iRow 1 0 w a o) (h1000 : o.length ≤ 1000) : Calls Tryd.prog 107 #[.slice none 0 0, .func (.func 102) #[] #[.pointer (some p)]] w fun e w' => ∃ v, e = .returned v ∧ Below w.heap.size w w' ∧ v.oneCell' = true ∧ w'.ownsRow w.heap.size 3 1 v o.length (o.flatMap iRow) := by
  have hlen := ho.len
  refine calls_of_SCm (args := [.slice none 0 0, .func (.func 102) #[] #[.pointer (some p)]]) Tryd.func107 rfl Tryd.ntmps107 rfl ?_
  simp only [argL, Nat.zero_add]
  refine sc_seq ?_
  refine sc_region ?_
  refine sq_box RF rfl (fun b2 => ?_)
  refine qs (y_assign RF) ?_
  refine sq_nil ?_
  refine sx_then ?_
  refine sc_seq ?_
  refine sc_seq ?_
  refine sc_nil_own 3 1 ?_
  refine sc_region ?_
  refine qs (y_move RF) ?_
  refine sq_nil ?_
  refine sx_then ?_
  refine sc_block ?_
  refine sc_rangeFunc (Z := Nat × Value) (ps := [7]) (lb := [.pointer (some p)]) (fun z => .reg 0 w :: .own z.2 3 1 z.1 ((o.take z.1).flatMap iRow) :: .blk b2 (.cells #[z.2] 25 (0, 0)) ::  []) (fun z => z.1 = o.length ∧ z.2.oneCell' = true) rfl RF Tryd.call102 ?_ ?_
  ·
    intro fn tm l D hts htL w1 hw1
    refine (values102 (w0 := w) o hp ho (l := l) (lp := LP fn tm [7] _ _ D) (Z := Nat × Value) (fun z => .blk l (.loop (LP fn tm [7] _ _ D)) :: .blk D (.deferred (some [])) :: .own z.2 3 1 z.1 ((o.take z.1).flatMap iRow) :: .blk b2 (.cells #[z.2] 25 (0, 0)) ::  []) (fun k z => z.1 = k ∧ k ≤ o.length ∧ z.2.oneCell' = true) (fun _ _ _ => .head _) rfl ?_ (0, .slice none 0 0) ⟨rfl, Nat.zero_le _, rfl⟩ (hw1.sel SR)).mono ?_
    rotate_left
    · rintro e w' ⟨hv, ⟨k, v⟩, ⟨hk, _, hv1⟩, h2⟩
      exact ⟨(k, v), ⟨hk, hv1⟩, hv, h2.sel SR⟩
    rintro k ⟨k', v⟩ hk ⟨rfl, hkl, hv1⟩ F w2 hw2
    dsimp only at hk hv1 hw2
    rw [fold1]
    obtain ⟨hs2, hL2⟩ := one_param (p := 7) (u := Value.int .i64 (o.getD k' 0)) hts htL (Nat.le_of_ble_eq_true rfl)
    refine round_of_SC (N := 13) hs2 hL2 hw2 ?_
    dsimp only [List.cons_append]
    refine sc_region ?_
    refine qs (y_assign RF) ?_
    refine sq_nil ?_
    refine sx_begin rfl RM rfl ?_
    refine sc_block ?_
    refine sc_region ?_
    refine qs LD25 ?_
    refine qs (y_move RF) ?_
    refine sq_bs Tryd.underlying25 ei3 (EvI.cons RF EvI.nil) (by first | (simp [Value.cells]; done) | (simp [Value.cells]; rfl) | (simp [Value.cells]; and_intros <;> rfl)) rfl rfl rfl (fun b10 => ?_)
    refine sq_append (news := [.int .i64 (o.getD k' 0)]) Tryd.underlying25 ei3 rfl (by decide) RF RM RF rfl (fun _ hw => news_blk hw MM) (by simp [Value.oneCell']) (by omega) rfl (fun v11 ho11 => ?_)
    rw [show (o.take k').flatMap iRow ++ [.int .i64 (o.getD k' 0)] = (o.take (k' + 1)).flatMap iRow from by rw [List.take_add_one, get_of_lt 0 hk]; simp [iRow]]
    refine sq_store Tryd.sizeOf25 RF RF (by first | rfl | assumption) RM (by first | exact Nat.le_of_ble_eq_true rfl | simp | omega) ?_
    refine sq_nil ?_
    refine sx_blk ?_
    refine sx_endround RM ?_
    intro w' hw'
    exact ⟨(k' + 1, v11), ⟨rfl, by omega, ho11⟩, rfl, hw'.sel SR⟩
  ·
    rintro D ⟨k, v⟩ ⟨hk, hv1⟩
    dsimp only at hk hv1 ⊢
    subst hk
    refine sx_blk ?_
    refine sx_then ?_
    refine sc_seq ?_
    refine sc_region ?_
    refine qs LD25 ?_
    refine qs (y_assign RF) ?_
    refine sq_nil ?_
    refine sx_then ?_
    refine sc_ret ?_
    refine sx_ret1m (.inl rfl) rfl RM Tryd.results107 RF ?_
    intro w' hw'
    have := own_new_mem hw' (.tail _ (.head _)) MM
    rw [List.take_length] at this
    exact ⟨v, rfl, hw'.below MM, hv1, this⟩
theorem collect100 (w : World) (p : Addr) (a : Option Addr) (c : Nat) (o : List Int) (hp : CA 0 w p [.slice a o.length c]) (ho : RowsA iRow 1 0 w a o) (h1000 : o.length ≤ 1000) : Calls Tryd.prog 100 #[.func (.func 102) #[] #[.pointer (some p)]] w fun e w' => ∃ v, e = .returned v ∧ Below w.heap.size w w' ∧ v.oneCell' = true ∧ w'.ownsRow w.heap.size 3 1 v o.length (o.flatMap iRow) := by
  refine calls_of_SC (args := [.func (.func 102) #[] #[.pointer (some p)]]) Tryd.func100 rfl Tryd.ntmps100 rfl ?_
  simp only [argL]
  refine sc_seq ?_
  refine sc_region ?_
  refine qs (y_assign RF) ?_
  refine sq_nil ?_
  refine sx_then ?_
  refine sc_seq ?_
  refine sc_region ?_
  refine qs (y_move RF) ?_
  refine sq_call_own (first := []) (caps := []) (e := 3) (sz := 1) (n := o.length) (Z := Value) (fun x => x) (fun x => x) (fun _ => o.flatMap iRow) (fun x => x.oneCell' = true) RF Tryd.call107 E2 (fun w1 hw1 => (append107 w1 p a c o (hp.at hw1 MM) (ho.at hw1 MM) h1000).mono (fun e w' ⟨x, h1, h2, h3, h4⟩ => ⟨x, h1, h2, h3, h4⟩)) rfl (fun v4 ho4 => ?_)
  refine qs (y_assign RF) ?_
  refine sq_nil ?_
  refine sx_then ?_
  refine sc_ret ?_
  refine sx_ret1 (.inl rfl) rfl Tryd.results100 RF ?_
  intro w' hw'
  have := own_new_mem hw' (.head _) MM
  exact ⟨v4, rfl, hw'.below MM, ho4, this⟩
theorem sorted76 (w : World) (p : Addr) (a : Option Addr) (c : Nat) (o : List Int) (hp : CA 0 w p [.slice a o.length c]) (ho : RowsA iRow 1 0 w a o) (h1000 : o.length ≤ 1000) : Calls Tryd.prog 76 #[.func (.func 102) #[] #[.pointer (some p)]] w fun e w' => ∃ v, e = .returned v ∧ Below w.heap.size w w' ∧ v.oneCell' = true ∧ w'.ownsRow w.heap.size 3 1 v (sortI o).length ((sortI o).flatMap iRow) := by
  refine calls_of_SC (args := [.func (.func 102) #[] #[.pointer (some p)]]) Tryd.func76 rfl Tryd.ntmps76 rfl ?_
  simp only [argL]
  refine sc_seq ?_
  refine sc_region ?_
  refine qs (y_assign RF) ?_
  refine sq_nil ?_
  refine sx_then ?_
  refine sc_seq ?_
  refine sc_region ?_
  refine qs (y_move RF) ?_
  refine sq_call_own (first := []) (caps := []) (e := 3) (sz := 1) (n := o.length) (Z := Value) (fun x => x) (fun x => x) (fun _ => o.flatMap iRow) (fun x => x.oneCell' = true) RF Tryd.call100 E1 (fun w1 hw1 => (collect100 w1 p a c o (hp.at hw1 MM) (ho.at hw1 MM) h1000).mono (fun e w' ⟨x, h1, h2, h3, h4⟩ => ⟨x, h1, h2, h3, h4⟩)) rfl (fun v5 ho5 => ?_)
  refine qs (y_assign RF) ?_
  refine sq_nil ?_
  refine sx_then ?_
  refine sc_seq ?_
  refine sc_region ?_
  refine qs (y_move RF) ?_
  refine sq_call_fr (first := []) (caps := []) (vs := [v5]) (rs1 := [.own v5 3 1 o.length (o.flatMap iRow)]) (Z := Unit) (fun _ => .tuple #[]) (fun _ => [.own v5 3 1 (sortI o).length ((sortI o).flatMap iRow)]) (fun _ => True) RF Tryd.call101 E1 (by repeat (first | exact Rems.nil | apply Rems.cons (by repeat (first | exact Rem.here | apply Rem.there)))) (fun w1 hw1 => (sort101 h1000 hw1).mono (fun e w' h => ⟨(), trivial, h.1, h.2⟩)) rfl (fun _ _ => ?_)
  refine sq_nil ?_
  refine sx_then ?_
  refine sc_seq ?_
  refine sc_region ?_
  refine qs (y_move RF) ?_
  refine qs (y_assign RF) ?_
  refine sq_nil ?_
  refine sx_then ?_
  refine sc_ret ?_
  refine sx_ret1 (.inl rfl) rfl Tryd.results76 RF ?_
  intro w' hw'
  have := own_new_mem hw' (.head _) MM
  exact ⟨v5, rfl, hw'.below MM, ho5, this⟩
theorem values77 (w : World) (a : Option Addr) (n c : Nat) : Calls Tryd.prog 77 #[.slice a n c] w fun e w' => ∃ p, e = .returned (.func (.func 102) #[] #[.pointer (some p)]) ∧ Below w.heap.size w w' ∧ CA w.heap.size w' p [.slice a n c] := by
  refine calls_of_SC (args := [.slice a n c]) Tryd.func77 rfl Tryd.ntmps77 rfl ?_
  simp only [argL]
  refine sc_seq ?_
  refine sc_region ?_
  refine sq_box RF rfl (fun b1 => ?_)
  refine qs (y_assign RF) ?_
  refine sq_nil ?_
  refine sx_then ?_
  refine sc_seq ?_
  refine sc_region ?_
  refine qs (y_makeFunc EvL.nil (EvL.cons RF EvL.nil)) ?_
  refine qs (y_assign RF) ?_
  refine sq_nil ?_
  refine sx_then ?_
  refine sc_ret ?_
  refine sx_ret1 (.inl rfl) rfl Tryd.results77 RF ?_
  intro w' hw'
  exact ⟨⟨b1, 0, none⟩, rfl, hw'.below MM, ⟨blk_new hw' RM MM, (CA.blk (vs := [Value.slice a n c]) hw' MM).2⟩⟩
theorem isExchange42 (w : World) (a : Option Addr) (c : Nat) (o : List Int) (ho : RowsA iRow 1 0 w a o) (h1000 : o.length ≤ 1000) (n : Nat) : Calls Tryd.prog 42 #[.slice a o.length c, .int .i64 n] w fun e w' => e = .returned (.bool (ordB o n)) ∧ Below w.heap.size w w' := by
  have hlen := ho.len
  have hsl : (sortI o).length = o.length := (sortI_perm o).length_eq
  refine calls_of_SC (args := [.slice a o.length c, .int .i64 n]) Tryd.func42 rfl Tryd.ntmps42 rfl ?_
  simp only [argL, Nat.zero_add]
  refine sc_seq ?_
  refine sc_region ?_
  refine qs (y_assign RF) ?_
  refine sq_nil ?_
  refine sx_then ?_
  refine sc_seq ?_
  refine sc_region ?_
  refine qs (y_move RF) ?_
  refine sq_call_new (first := []) (caps := []) (Z := Addr) (fun p => .func (.func 102) #[] #[.pointer (some p)]) (fun lo w' p => CA lo w' p [.slice a o.length c]) RF Tryd.call77 (EvL.cons RF EvL.nil) (fun w1 hw1 => values77 w1 a o.length c) rfl (fun lo wr pb hpb => ?_)
  refine sq_call_own (first := []) (caps := []) (e := 3) (sz := 1) (n := (sortI o).length) (Z := Value) (fun x => x) (fun x => x) (fun _ => (sortI o).flatMap iRow) (fun x => x.oneCell' = true) RF Tryd.call76 E1 (fun w1 hw1 => (sorted76 w1 pb a c o (hpb.at hw1 MM) (ho.at hw1 MM) h1000).mono (fun e w' ⟨x, h1, h2, h3, h4⟩ => ⟨x, h1, h2, h3, h4⟩)) rfl (fun v10 ho10 => ?_)
  refine qs (y_assign RF) ?_
  refine sq_nil ?_
  refine sx_then ?_
  refine sc_seq ?_
  refine sc_seq ?_
  refine sc_region ?_
  refine qs (y_move RF) ?_
  refine qs (y_len_own Tryd.underlying25 RF MM) ?_
  refine qs (y_move RF) ?_
  refine sq_nil ?_
  refine sx_then ?_
  refine sc_block ?_
  refine sc_loop (σ := Nat)
    (fun s => [(1, .int .i64 n), (5, v10), (11, v10), (12, .int .i64 (sortI o).length), (13, .int .i64 s)])
    (fun s => [.own v10 3 1 (sortI o).length ((sortI o).flatMap iRow), .reg 0 w])
    (fun s => s ≤ (sortI o).length ∧ ∀ i, i < s → (sortI o).getD i 0 = (i : Int))
    (fun s => (sortI o).length - s)
    (0) ?_ SU SR ?_
  · exact ⟨Nat.zero_le _, fun i hi => absurd hi (Nat.not_lt_zero i)⟩
  rintro k ⟨hk, hone⟩
  refine sc_seq ?_
  refine sc_region ?_
  refine qs (y_lss RF RF) ?_
  refine sq_nil ?_
  refine sx_then ?_
  refine sc_seq ?_
  refine scp (fun hc0 => ?_) (fun hc0 => ?_)
  ·
    have hk' : k < (sortI o).length := by omega
    refine sc_skip ?_
    refine sx_then ?_
    refine sc_seq ?_
    refine sc_block ?_
    refine sc_seq ?_
    refine sc_region ?_
    refine qs (y_move RF) ?_
    refine qs (y_ia_own Tryd.underlying25 Tryd.sizeOf3 RF MM RF hk') ?_
    refine qs (by first | exact y_load_own0 (u := .int .i64 ((sortI o).getD k 0)) Tryd.underlying3 rfl RF MM hk' (flat_iget (get_of_lt 0 (by omega))) | exact LD3) ?_
    refine qs (y_assign RF) ?_
    refine qs (y_assign RF) ?_
    refine sq_nil ?_
    refine sx_then ?_
    refine sc_seq ?_
    refine sc_region ?_
    refine qs (y_move RF) ?_
    refine qs (y_move RF) ?_
    refine qs (y_neq RF RF) ?_
    refine sq_nil ?_
    refine sx_then ?_
    refine scp (fun hc1 => ?_) (fun hc1 => ?_)
    ·
      refine sc_seq ?_
      refine sc_region ?_
      refine qs (y_assign RF) ?_
      refine sq_nil ?_
      refine sx_then ?_
      refine sc_ret ?_
      refine sx_blk_ret ?_
      refine sx_then_ret ?_
      refine sx_round_ret ?_
      refine sx_blk_ret ?_
      refine sx_then_ret ?_
      refine sx_ret1 (.inl rfl) rfl Tryd.results42 RF ?_
      intro w' hw'
      refine ⟨?_, hw'.below MM⟩
      rw [ordB_no2 (k := k) (by omega) (by omega)]
    ·
      refine sc_skip ?_
      refine sx_blk ?_
      refine sx_then ?_
      refine sc_region ?_
      refine qs (y_add RF RF (by omega)) ?_
      refine qs (y_move RF) ?_
      refine sq_nil ?_
      refine sx_round (k + 1) ?_ ?_ SU SR
      · refine ⟨by omega, fun i hi => ?_⟩
        rcases Nat.lt_succ_iff_lt_or_eq.1 hi with h | rfl
        · exact hone i h
        · omega
      · omega
  ·
    refine sc_exit ?_
    refine sx_then_exit ?_
    refine sx_round_exit ?_
    refine sx_blk_hit ?_
    refine sx_then ?_
    refine sc_seq ?_
    refine sc_region ?_
    refine qs (y_move RF) ?_
    refine qs (y_len_own Tryd.underlying25 RF MM) ?_
    refine qs (y_move RF) ?_
    refine qs (y_eql RF RF) ?_
    refine qs (y_assign RF) ?_
    refine sq_nil ?_
    refine sx_then ?_
    refine sc_ret ?_
    refine sx_ret1 (.inl rfl) rfl Tryd.results42 RF ?_
    intro w' hw'
    refine ⟨?_, hw'.below MM⟩
    have hkn : k = (sortI o).length := by omega
    subst hkn
    rw [ordB_yes2 (fun i hi => hone i (by omega)), hsl]
theorem exchange31 (w : World) (ao : Option Addr) (co : Nat) (o : List Int) (ho : RowsA iRow 1 0 w ao o) (n : Nat) (hn : n ≤ 1000) : Calls Tryd.prog 31 #[.slice ao o.length co, .int .i64 n] w fun e w' => e = .returned (.bool (ordB o n)) ∧ Below w.heap.size w w' := by
  have hlen := ho.len
  refine calls_of_SC (args := [.slice ao o.length co, .int .i64 n]) Tryd.func31 rfl Tryd.ntmps31 rfl ?_
  simp only [argL, Nat.zero_add]
  refine sc_seq ?_
  refine sc_region ?_
  refine qs (y_assign RF) ?_
  refine sq_nil ?_
  refine sx_then ?_
  refine sc_seq ?_
  refine sc_seq ?_
  refine sc_region ?_
  refine qs (y_assign RF) ?_
  refine sq_nil ?_
  refine sx_then ?_
  refine sc_block ?_
  refine sc_loop (σ := Nat)
    (fun s => [(0, .slice ao o.length co), (1, .int .i64 n), (5, .int .i64 s)])
    (fun s => [.reg 0 w])
    (fun s => s ≤ n ∧ ∀ i, i < s → cntK o i o.length = 1)
    (fun s => n - s)
    (0) ?_ SU SR ?_
  · exact ⟨Nat.zero_le _, fun i hi => absurd hi (Nat.not_lt_zero i)⟩
  rintro k ⟨hk, hone⟩
  refine sc_seq ?_
  refine sc_seq ?_
  refine sc_region ?_
  refine qs (y_move RF) ?_
  refine qs (y_move RF) ?_
  refine qs (y_lss RF RF) ?_
  refine sq_nil ?_
  refine sx_then ?_
  refine scp (fun hc0 => ?_) (fun hc0 => ?_)
  ·
    refine sc_skip ?_
    refine sx_then ?_
    refine sc_seq ?_
    refine sc_block ?_
    refine sc_seq ?_
    refine sc_region ?_
    refine qs (y_assign RF) ?_
    refine sq_nil ?_
    refine sx_then ?_
    refine sc_seq ?_
    refine sc_seq ?_
    refine sc_region ?_
    refine qs (y_assign RF) ?_
    refine sq_nil ?_
    refine sx_then ?_
    refine sc_block ?_
    refine sc_loop (σ := Nat)
      (fun s => [(0, .slice ao o.length co), (1, .int .i64 n), (5, .int .i64 k), (6, .int .i64 (cntK o k s)), (7, .int .i64 s)])
      (fun s => [.reg 0 w])
      (fun s => s ≤ o.length)
      (fun s => o.length - s)
      (0) ?_ SU SR ?_
    · exact Nat.zero_le _
    rintro i hi
    refine sc_seq ?_
    refine sc_seq ?_
    refine sc_region ?_
    refine qs (y_move RF) ?_
    refine qs (y_move RF) ?_
    refine qs (y_len Tryd.underlying25 RF) ?_
    refine qs (y_lss RF RF) ?_
    refine sq_nil ?_
    refine sx_then ?_
    refine scp (fun hc1 => ?_) (fun hc1 => ?_)
    ·
      have hi' : i < o.length := by omega
      have hsi := (ho.get 0 hi').1
      have hci := (ho.get 0 hi').2
      have hcl := cntK_le o k i
      refine sc_skip ?_
      refine sx_then ?_
      refine sc_seq ?_
      refine sc_block ?_
      refine sc_seq ?_
      refine sc_region ?_
      refine qs (y_move RF) ?_
      refine qs (y_move RF) ?_
      refine qs IA25 ?_
      refine qs (by first | exact y_load_ca0 Tryd.underlying3 rfl RF MM hci rfl | exact LD3) ?_
      refine qs (y_move RF) ?_
      refine qs (y_eql RF RF) ?_
      refine sq_nil ?_
      refine sx_then ?_
      refine scp (fun hc2 => ?_) (fun hc2 => ?_)
      ·
        have hce : ((cntK o k (i + 1) : Nat) : Int) = (cntK o k i : Int) + 1 := by conv => { lhs; unfold cntK }; rw [if_pos hc2]; rfl
        refine sc_region ?_
        refine qs (y_move RF) ?_
        refine qs (y_add RF RF (by omega)) ?_
        rw [← hce]
        refine qs (y_assign RF) ?_
        refine sq_nil ?_
        refine sx_blk ?_
        refine sx_then ?_
        refine sc_region ?_
        refine qs (y_move RF) ?_
        refine qs (y_add RF RF (by omega)) ?_
        refine qs (y_assign RF) ?_
        refine sq_nil ?_
        refine sx_round (i + 1) ?_ ?_ SU SR
        · omega
        · omega
      ·
        rw [show cntK o k i = cntK o k (i + 1) from by conv => { rhs; unfold cntK }; rw [if_neg hc2]]
        refine sc_skip ?_
        refine sx_blk ?_
        refine sx_then ?_
        refine sc_region ?_
        refine qs (y_move RF) ?_
        refine qs (y_add RF RF (by omega)) ?_
        refine qs (y_assign RF) ?_
        refine sq_nil ?_
        refine sx_round (i + 1) ?_ ?_ SU SR
        · omega
        · omega
    ·
      have hin : i = o.length := by omega
      subst hin
      refine sc_exit ?_
      refine sx_then_exit ?_
      refine sx_round_exit ?_
      refine sx_blk_hit ?_
      refine sx_then ?_
      refine sc_seq ?_
      refine sc_region ?_
      refine qs (y_move RF) ?_
      refine qs (y_neq RF RF) ?_
      refine sq_nil ?_
      refine sx_then ?_
      refine scp (fun hc3 => ?_) (fun hc3 => ?_)
      ·
        refine sc_seq ?_
        refine sc_region ?_
        refine qs (y_assign RF) ?_
        refine sq_nil ?_
        refine sx_then ?_
        refine sc_ret ?_
        refine sx_blk_ret ?_
        refine sx_then_ret ?_
        refine sx_round_ret ?_
        refine sx_blk_ret ?_
        refine sx_then_ret ?_
        refine sx_ret1 (.inl rfl) rfl Tryd.results31 RF ?_
        intro w' hw'
        refine ⟨?_, hw'.below MM⟩
        rw [ordB_no (k := k) (by omega) (by omega)]
      ·
        refine sc_skip ?_
        refine sx_blk ?_
        refine sx_then ?_
        refine sc_region ?_
        refine qs (y_move RF) ?_
        refine qs (y_add RF RF (by omega)) ?_
        refine qs (y_assign RF) ?_
        refine sq_nil ?_
        refine sx_round (k + 1) ?_ ?_ SU SR
        · refine ⟨by omega, fun i hi => ?_⟩
          rcases Nat.lt_succ_iff_lt_or_eq.1 hi with h | rfl
          · exact hone i h
          · omega
        · omega
  ·
    refine sc_exit ?_
    refine sx_then_exit ?_
    refine sx_round_exit ?_
    refine sx_blk_hit ?_
    refine sx_then ?_
    refine sc_seq ?_
    refine sc_region ?_
    refine qs (y_move RF) ?_
    refine qs (y_len Tryd.underlying25 RF) ?_
    refine qs (y_move RF) ?_
    refine qs (y_eql RF RF) ?_
    refine qs (y_assign RF) ?_
    refine sq_nil ?_
    refine sx_then ?_
    refine sc_ret ?_
    refine sx_ret1 (.inl rfl) rfl Tryd.results31 RF ?_
    intro w' hw'
    refine ⟨?_, hw'.below MM⟩
    have hkn : k = n := by omega
    subst hkn
    rw [ordB_yes hone]
end Go.Proofs.YtpijahglojichaaDoor
