/- The walk of RaceOwns. -/
import Derived.Test.YtegdfpilhlcplaaWalk27
import Derived.Test.YtegdfpilhlcplaaEng11
namespace Go.Proofs.Ytegdfpilhlcplaa
open Go Go.Eng Go.RowKit Go.Proofs
set_option maxRecDepth 100000
theorem flatS_cells' {w : World} {ad : Addr} {l : List Sp} (h : SpsA 0 w (some ad) l) : ∀ j u, (flatS l)[j]? = some u → w.cell? (ad.add j) = some u := rows_cells spRow_len (by decide) fun i x hx => (h.el i x hx).2
theorem flatS_one' (l : List Sp) : ∀ u ∈ flatS l, u.oneCell' = true := by
  intro u hu
  obtain ⟨i, _, h⟩ := List.mem_flatMap.1 hu
  simp [spRow] at h
  rcases h with rfl | rfl <;> rfl
theorem SpsA.noa' {lo : Nat} {wr : World} {a : Option Addr} {l : List Sp} (h : SpsA lo wr a l) (ha : a = none) : l.length = 0 := by
  rcases Nat.eq_zero_or_pos l.length with h0 | h0
  · exact h0
  · have := (h.row 0 h0).1; rw [ha] at this; cases this
theorem ei36r : EI Try.prog 36 (.slice none 0 0) 1 24 := ei36
/-- the breaks of the teams, copied -/
def inner (iv : List (Value × List Sp)) : List Res := iv.map fun p => .own p.1 32 2 p.2.length (flatS p.2)
structure InB (r : Rc) (k : Nat) (iv : List (Value × List Sp)) : Prop where
  len : iv.length = k
  brk : ∀ i p, iv.reverse[i]? = some p → p.2 = (r.teams.getD i tm0).brk
theorem InB.step {r : Rc} {k : Nat} {iv : List (Value × List Sp)} (h : InB r k iv) (v : Value) : InB r (k + 1) ((v, (r.teams.getD k tm0).brk) :: iv) := by
  refine ⟨by simp [h.len], fun i p hp => ?_⟩
  rw [List.reverse_cons] at hp
  rcases Nat.lt_or_ge i k with hi | hi
  · rw [List.getElem?_append_left (by simp [h.len, hi])] at hp
    exact h.brk i p hp
  · have hlt := (List.getElem?_eq_some_iff.1 hp).1
    simp [h.len] at hlt
    have : i = k := by omega
    subst this
    rw [List.getElem?_append_right (by simp [h.len])] at hp
    simp [h.len] at hp
    subst hp; rfl
theorem InB.get {r : Rc} {k i : Nat} {iv : List (Value × List Sp)} (h : InB r k iv) (hi : i < k) : ∃ v, (iv.reverse.map (·.1))[i]? = some v ∧ Res.own v 32 2 (r.teams.getD i tm0).brk.length (flatS (r.teams.getD i tm0).brk) ∈ inner iv := by
  obtain ⟨p, hp⟩ : ∃ p, iv.reverse[i]? = some p := ⟨_, List.getElem?_eq_getElem (by simp [h.len, hi])⟩
  refine ⟨p.1, by rw [List.getElem?_map, hp]; rfl, ?_⟩
  have hm : p ∈ iv := List.mem_reverse.1 (List.mem_of_getElem? hp)
  rw [← h.brk i p hp]
  exact List.mem_map.2 ⟨p, hm, rfl⟩
theorem neq57s (d : Wd) : ∀ w, (binOp .neq 57 (.agg (wdRow d).toArray) (.agg (wdRow d).toArray)).run Try.prog w = .ok (.bool false) w := fun w => by
  have h1 := Try.underlying57
  have h2 := Try.underlying3
  have h3 := Try.underlying32
  have hs : Try.prog.stoodInHeld 57 = false := by kernel_rfl
  have hs2 : Try.prog.stoodInHeld 32 = false := by kernel_rfl
  have hf : Try.prog.fieldsOf 57 = #[⟨"Team", 3, 0, false, "", "", 0⟩, ⟨"Minute", 3, 1, false, "", "", 8⟩, ⟨"Got", 32, 2, false, "", "", 16⟩] := by kernel_rfl
  have hf2 : Try.prog.fieldsOf 32 = #[⟨"Lo", 3, 0, false, "", "", 0⟩, ⟨"Hi", 3, 1, false, "", "", 8⟩] := by kernel_rfl
  have h4 : Try.prog.underlying 57 = some (.struct (Try.prog.fieldsOf 57)) := by rw [hf]; exact h1
  have h5 : Try.prog.underlying 32 = some (.struct (Try.prog.fieldsOf 32)) := by rw [hf2]; exact h3
  rw [run_neq_struct, run_equalIn_struct w 9999 57 _ _ h4 hs, hf]
  simp [wdRow, Op.eqFields, part, run_isAgg_scal h2 rfl, run_isAgg_agg h3 rfl, Try.sizeOf32, run_equalIn_int w _ 3 .i64 .i64 _ _ h2, run_equalIn_struct w 9998 32 _ _ h5 hs2, hf2]
theorem minB_len (r : Rc) (ls : List Wd) (mz : Int) (h : r.teams.length ≤ 9223372036854775807) : (ranksL r ls mz).length ≤ 9223372036854775807 := Nat.le_trans (ranksL_len r ls mz) h

theorem owns12 (w : World) (r : Rc) (a : Option Addr) (c : Nat) (f : Nat → Option Addr) (cf : Nat → Nat) (al : Option Addr) (cl : Nat) (ls : List Wd) (mz : Int) (hcl : ls.length ≤ cl) (hT : TmsA 0 w a r.teams f cf) (hl : WdsA 0 w al ls) (i1 : InI r.p) (i2 : InI r.lim) (i3 : InI r.rate) : Calls Try.prog 12 #[.agg (rcVal r a c).toArray, .slice al ls.length cl, .int .i64 mz] w fun e w' => e = .returned (.bool true) ∧ Below w.heap.size w w' := by
  have hlenT := hT.len
  have hlen := hl.len
  obtain ⟨R, hR⟩ : ∃ R, ranksL r ls mz = R := ⟨_, rfl⟩
  have hRl : R.length ≤ r.teams.length := by rw [← hR]; exact ranksL_len r ls mz
  refine calls_of_SC (args := [.agg (rcVal r a c).toArray, .slice al ls.length cl, .int .i64 mz]) Try.func12 rfl Try.ntmps12 rfl ?_
  simp only [argL, Nat.reduceAdd, Nat.zero_add]
  refine sc_seq ?_
  refine sc_region ?_
  refine sq_box (by exact rfl) rfl (fun b3 => ?_)
  refine sq_y (OpY.s (y_assign (by exact rfl))) rfl ?_
  refine sq_nil ?_
  refine sx_then ?_
  refine sc_seq ?_
  refine sc_seq ?_
  refine sc_region ?_
  refine sq_y (OpY.s (by first | exact y_load_all Try.underlying24 rfl Try.sizeOf24 (by exact rfl) (by repeat (first | exact .head _ | refine .tail _ ?_)) (by exact rfl) | exact y_load_ca Try.underlying24 rfl Try.sizeOf24 (by exact rfl) (by repeat (first | exact .head _ | refine .tail _ ?_)) (by assumption) (by exact rfl))) rfl ?_
  refine sq_y (OpY.s (y_move (by exact rfl))) rfl ?_
  refine sq_y (y_call (first := []) (caps := []) (by exact rfl) Try.call13 (EvL.cons (by exact rfl) (EvL.cons (by exact rfl) EvL.nil)) (fun w1 hw1 => great13 w1 r a c f cf al cl ls (hT.at hw1 (by repeat (first | exact .head _ | refine .tail _ ?_))) hl.len)) rfl ?_
  refine sq_nil ?_
  refine sx_then ?_
  first | refine sc_if (by exact rfl) (fun hc0 => ?_) (fun hc0 => ?_) | refine sc_ifn (by exact rfl) (fun hc0 => ?_) (fun hc0 => ?_) | refine sc_cond (by exact rfl) (fun hc0 => ?_) (fun hc0 => ?_)
  ·
    refine sc_seq ?_
    refine sc_region ?_
    refine sq_y (y_call (first := []) (caps := []) (by exact rfl) Try.call14 EvL.nil (fun w1 _ => alive14 w1)) rfl ?_
    refine sq_y (OpY.s (y_assign (by exact rfl))) rfl ?_
    refine sq_nil ?_
    refine sx_then ?_
    refine sc_ret ?_
    refine sx_then_ret ?_
    refine sx_ret1 (.inl rfl) rfl Try.results12 (by exact rfl) ?_
    intro w' hw'
    exact ⟨rfl, hw'.below (by repeat (first | exact .head _ | refine .tail _ ?_))⟩
  ·
    have hbl : ∀ k, k < r.teams.length → (r.teams.getD k tm0).brk.length ≤ 10 := fun k hk => by
      have hg : greatB r ls = false := by simpa using hc0
      simp only [greatB, Bool.or_eq_false_iff] at hg
      have := List.any_eq_false.1 hg.1.1 _ (List.mem_of_getElem? (get_of_lt tm0 hk))
      simpa using this
    have hg2 : r.teams.length ≤ 14 ∧ ls.length ≤ 50 := by
      have hg : greatB r ls = false := by simpa using hc0
      simp only [greatB, Bool.or_eq_false_iff, decide_eq_false_iff_not] at hg
      omega
    refine sc_skip ?_
    refine sx_then ?_
    refine sc_seq ?_
    refine sc_region ?_
    refine sq_y (OpY.s (y_assign (by exact rfl))) rfl ?_
    refine sq_nil ?_
    refine sx_then ?_
    refine sc_seq ?_
    refine sc_region ?_
    refine sq_y (OpY.s (y_assign (by exact rfl))) rfl ?_
    refine sq_nil ?_
    refine sx_then ?_
    refine sc_seq ?_
    refine sc_seq ?_
    refine sc_region ?_
    refine sq_y (OpY.s (by first | exact y_fab Try.underlying24 (by exact rfl) (by exact Try.sizeOf22) (by exact rfl) rfl | exact y_fa Try.underlying24 (by exact rfl) (by exact Try.sizeOf22) (by exact rfl) rfl)) rfl ?_
    refine sq_y (OpY.s (by first | exact y_load_blk Try.underlying22 rfl (by exact rfl) (by repeat (first | exact .head _ | refine .tail _ ?_)) (by exact rfl) | exact y_load_caj Try.underlying22 rfl (by exact rfl) (by repeat (first | exact .head _ | refine .tail _ ?_)) (by assumption) (by exact rfl) | exact y_load_ca0 Try.underlying22 rfl (by exact rfl) (by repeat (first | exact .head _ | refine .tail _ ?_)) (by assumption) (by exact rfl))) rfl ?_
    refine sq_y (OpY.s (y_len Try.underlying22 (by exact rfl))) rfl ?_
    refine sq_y (OpY.s (y_move (by exact rfl))) rfl ?_
    refine sq_nil ?_
    refine sx_then ?_
    refine sc_block ?_
    refine sc_nil_own 3 1 ?_
    refine sc_nil_own 36 1 ?_
    refine sc_loop (σ := Nat × Value × Value × List (Value × List Sp))
      (fun s => [(1, .slice al ls.length cl), (2, .int .i64 mz), (3, .pointer (some ⟨b3, 0, none⟩)), (7, s.2.1), (8, s.2.2.1), (26, .slice a r.teams.length c), (27, .int .i64 r.teams.length), (28, .int .i64 s.1)])
      (fun s => .own s.2.1 36 1 s.1 (s.2.2.2.reverse.map (·.1)) :: .own s.2.2.1 3 1 s.1 ((r.teams.take s.1).map fun t => Value.int .i64 t.pen) :: .blk b3 (.cells (rcVal r a c).toArray 24 (0, 0)) :: .reg 0 w :: inner s.2.2.2)
      (fun s => s.1 ≤ r.teams.length ∧ InB r s.1 s.2.2.2)
      (fun s => r.teams.length - s.1)
      ((0, .slice none 0 0, .slice none 0 0, [])) ?_ (by repeat (first | exact SubL.nil | refine SubL.cons (by first | exact rfl | exact lk_int rfl (by omega) | exact lk_eq rfl (by simp)) ?_)) (by repeat (first | exact Sel.refl _ | exact Sel.nil | refine Sel.cons (by repeat (first | exact Rem.here | apply Rem.there)) ?_ | refine Sel.skip ?_)) ?_
    · exact ⟨Nat.zero_le _, rfl, fun i p h => by simp at h⟩
    rintro ⟨k, vb, vp, iv⟩ ⟨hk, hIn⟩
    dsimp only at hk hIn ⊢
    refine sc_seq ?_
    refine sc_region ?_
    refine sq_y (OpY.s (y_lss (by exact rfl) (by exact rfl))) rfl ?_
    refine sq_nil ?_
    refine sx_then ?_
    refine sc_seq ?_
    first | refine sc_if (by exact rfl) (fun hc1 => ?_) (fun hc1 => ?_) | refine sc_ifn (by exact rfl) (fun hc1 => ?_) (fun hc1 => ?_) | refine sc_cond (by exact rfl) (fun hc1 => ?_) (fun hc1 => ?_)
    ·
      have hk' : k < r.teams.length := by omega
      have hsm := (hT.row k hk').1
      have hca := (hT.row k hk').2.2
      have hbr := hT.br k _ (get_of_lt tm0 hk')
      have hlb := hbr.len
      have hbk := hbl k hk'
      refine sc_skip ?_
      refine sx_then ?_
      refine sc_seq ?_
      refine sc_block ?_
      refine sc_seq ?_
      refine sc_region ?_
      refine sq_y (OpY.s (by first | exact y_ia_blk Try.underlying22 Try.sizeOf66 (by exact rfl) (by exact rfl) (by omega) | exact y_ia_el Try.underlying22 Try.sizeOf66 (by exact rfl) (by exact rfl) (by omega) (by first | assumption | simp))) rfl ?_
      refine sq_y (OpY.s (by first | exact y_load_ca Try.underlying66 rfl Try.sizeOf66 (by exact rfl) (by repeat (first | exact .head _ | refine .tail _ ?_)) hca rfl | exact y_load_all Try.underlying66 rfl Try.sizeOf66 (by exact rfl) (by repeat (first | exact .head _ | refine .tail _ ?_)) (by exact rfl) | exact y_load_2 Try.underlying66 rfl Try.sizeOf66 (by exact rfl) (by repeat (first | exact .head _ | refine .tail _ ?_)) (by exact rfl) (by exact rfl) | exact y_load_ca Try.underlying66 rfl Try.sizeOf66 (by exact rfl) (by repeat (first | exact .head _ | refine .tail _ ?_)) (by assumption) (by exact rfl))) rfl ?_
      refine sq_alloc Try.zeroValue66 rfl (fun b10 => ?_)
      refine sq_store_all Try.sizeOf66 (by exact rfl) (by exact rfl) rfl (by repeat (first | exact Rem.here | apply Rem.there)) rfl rfl ?_
      refine sq_nil ?_
      refine sx_then ?_
      refine sc_midE (Z := Value × Value × Value) (fun z => [(1, .slice al ls.length cl), (2, .int .i64 mz), (3, .pointer (some ⟨b3, 0, none⟩)), (7, z.2.1), (8, z.2.2), (26, .slice a r.teams.length c), (27, .int .i64 r.teams.length), (28, .int .i64 k)]) (fun z => .own z.2.1 36 1 (k + 1) (((z.1, (r.teams.getD k tm0).brk) :: iv).reverse.map (·.1)) :: .own z.2.2 3 1 (k + 1) ((r.teams.take (k + 1)).map fun t => Value.int .i64 t.pen) :: .own z.1 32 2 (r.teams.getD k tm0).brk.length (flatS (r.teams.getD k tm0).brk) :: .blk b3 (.cells (rcVal r a c).toArray 24 (0, 0)) :: .reg 0 w :: inner iv) ?_ ?_
      ·
        refine sc_drawX ([.blk b10 (.cells (tmRow r.teams f cf k).toArray 66 (0, 0)), .reg 0 w]) (by kernel_rfl) ?_
        refine xj_s 0 (by exact rfl) (by kernel_rfl) (by repeat (first | exact Sel.refl _ | exact Sel.nil | refine Sel.cons (by repeat (first | exact Rem.here | apply Rem.there)) ?_ | refine Sel.skip ?_)) (y_move (by exact rfl)) rfl ?_
        refine xj_s 2 (by exact rfl) (by kernel_rfl) (by repeat (first | exact Sel.refl _ | exact Sel.nil | refine Sel.cons (by repeat (first | exact Rem.here | apply Rem.there)) ?_ | refine Sel.skip ?_)) (by first | exact y_fab Try.underlying66 (by exact rfl) (by exact Try.sizeOf36) (by exact rfl) rfl | exact y_fa Try.underlying66 (by exact rfl) (by exact Try.sizeOf36) (by exact rfl) rfl) rfl ?_
        refine xj_s 3 (by exact rfl) (by kernel_rfl) (by repeat (first | exact Sel.refl _ | exact Sel.nil | refine Sel.cons (by repeat (first | exact Rem.here | apply Rem.there)) ?_ | refine Sel.skip ?_)) (by first | exact y_load_blk Try.underlying36 rfl (by exact rfl) (by repeat (first | exact .head _ | refine .tail _ ?_)) (by exact rfl) | exact y_load_caj Try.underlying36 rfl (by exact rfl) (by repeat (first | exact .head _ | refine .tail _ ?_)) (by assumption) (by exact rfl) | exact y_load_ca0 Try.underlying36 rfl (by exact rfl) (by repeat (first | exact .head _ | refine .tail _ ?_)) (by assumption) (by exact rfl)) rfl ?_
        refine xj_s 7 (by exact rfl) (by kernel_rfl) (by repeat (first | exact Sel.refl _ | exact Sel.nil | refine Sel.cons (by repeat (first | exact Rem.here | apply Rem.there)) ?_ | refine Sel.skip ?_)) (y_move (by exact rfl)) rfl ?_
        refine xj_s 8 (by exact rfl) (by kernel_rfl) (by repeat (first | exact Sel.refl _ | exact Sel.nil | refine Sel.cons (by repeat (first | exact Rem.here | apply Rem.there)) ?_ | refine Sel.skip ?_)) (by first | exact y_fab Try.underlying66 (by exact rfl) (by exact Try.sizeOf3) (by exact rfl) rfl | exact y_fa Try.underlying66 (by exact rfl) (by exact Try.sizeOf3) (by exact rfl) rfl) rfl ?_
        refine xj_s 9 (by exact rfl) (by kernel_rfl) (by repeat (first | exact Sel.refl _ | exact Sel.nil | refine Sel.cons (by repeat (first | exact Rem.here | apply Rem.there)) ?_ | refine Sel.skip ?_)) (by first | exact y_load_blk Try.underlying3 rfl (by exact rfl) (by repeat (first | exact .head _ | refine .tail _ ?_)) (by exact rfl) | exact y_load_caj Try.underlying3 rfl (by exact rfl) (by repeat (first | exact .head _ | refine .tail _ ?_)) (by assumption) (by exact rfl) | exact y_load_ca0 Try.underlying3 rfl (by exact rfl) (by repeat (first | exact .head _ | refine .tail _ ?_)) (by assumption) (by exact rfl)) rfl ?_
        refine xj_all (l := [1, 10]) (by kernel_rfl) (by simp) (Each.cons ⟨_, rfl, ?_⟩ (Each.cons ⟨_, rfl, ?_⟩ Each.nil))
        ·
          refine sq_bs Try.underlying36 ei32 EvI.nil (by first | (simp [Value.cells]; done) | (simp [Value.cells]; rfl) | (simp [Value.cells]; and_intros <;> rfl)) rfl rfl rfl (fun b33 => ?_)
          refine sq_nil ?_
          refine sx_xp (by repeat (first | exact Sel.refl _ | exact Sel.nil | refine Sel.cons (by repeat (first | exact Rem.here | apply Rem.there)) ?_ | refine Sel.skip ?_)) ?_
          refine xj_all (l := [4, 10]) (by kernel_rfl) (by simp) (Each.cons ⟨_, rfl, ?_⟩ (Each.cons ⟨_, rfl, ?_⟩ Each.nil))
          ·
            refine sq_blk_own (e := 32) (n := 0) (sz := 2) (xs := []) (by repeat (first | exact Rem.here | apply Rem.there)) rfl (by decide) ?_
            refine sq_append_rows (news := flatS (r.teams.getD k tm0).brk) Try.underlying36 ei32 Try.sizeOf32 rfl (by decide) (by exact rfl) (by repeat (first | exact Rem.here | apply Rem.there)) (by exact rfl) hbr.noa' (flatS_len _) (fun ad had w1 hw1 => flatS_cells' (by rw [← had]; exact hbr.at hw1 (by repeat (first | exact .head _ | refine .tail _ ?_)))) (flatS_one' _) (by omega) rfl (fun v36 ho36 => ?_)
            refine sq_nil ?_
            refine sx_xp (by repeat (first | exact Sel.refl _ | exact Sel.nil | refine Sel.cons (by repeat (first | exact Rem.here | apply Rem.there)) ?_ | refine Sel.skip ?_)) ?_
            rw [List.nil_append, Nat.zero_add (r.teams.getD k tm0).brk.length]
            refine xj_all (l := [5, 10]) (by kernel_rfl) (by simp) (Each.cons ⟨_, rfl, ?_⟩ (Each.cons ⟨_, rfl, ?_⟩ Each.nil))
            ·
              refine sq_bsv Try.underlying68 ei36 (by exact rfl) ho36 rfl (fun b37 => ?_)
              refine sq_nil ?_
              refine sx_xp (by repeat (first | exact Sel.refl _ | exact Sel.nil | refine Sel.cons (by repeat (first | exact Rem.here | apply Rem.there)) ?_ | refine Sel.skip ?_)) ?_
              refine xj_all (l := [6, 10]) (by kernel_rfl) (by simp) (Each.cons ⟨_, rfl, ?_⟩ (Each.cons ⟨_, rfl, ?_⟩ Each.nil))
              ·
                refine sq_append (news := [v36]) Try.underlying68 ei36 rfl (by decide) (by exact rfl) (by repeat (first | exact Rem.here | apply Rem.there)) (by exact rfl) rfl (fun _ hw => news_blk hw (by repeat (first | exact .head _ | refine .tail _ ?_))) (by simpa using ho36) (by omega) rfl (fun v38 ho38 => ?_)
                refine sq_nil ?_
                refine sx_xp (by repeat (first | exact Sel.refl _ | exact Sel.nil | refine Sel.cons (by repeat (first | exact Rem.here | apply Rem.there)) ?_ | refine Sel.skip ?_)) ?_
                rw [show iv.reverse.map (·.1) ++ [v36] = ((v36, (r.teams.getD k tm0).brk) :: iv).reverse.map (·.1) by simp]
                refine xj_one 10 (by exact rfl) (by kernel_rfl) ?_
                refine sq_bs Try.underlying51 ei3 (EvI.cons (by exact rfl) EvI.nil) (by first | (simp [Value.cells]; done) | (simp [Value.cells]; rfl) | (simp [Value.cells]; and_intros <;> rfl)) rfl rfl rfl (fun b42 => ?_)
                refine sq_nil ?_
                refine sx_xp (by repeat (first | exact Sel.refl _ | exact Sel.nil | refine Sel.cons (by repeat (first | exact Rem.here | apply Rem.there)) ?_ | refine Sel.skip ?_)) ?_
                refine xj_one 11 (by exact rfl) (by kernel_rfl) ?_
                refine sq_append (news := [.int .i64 (r.teams.getD k tm0).pen]) Try.underlying51 ei3 rfl (by decide) (by exact rfl) (by repeat (first | exact Rem.here | apply Rem.there)) (by exact rfl) rfl (fun _ hw => news_blk hw (by repeat (first | exact .head _ | refine .tail _ ?_))) (by simp [Value.oneCell']) (by omega) rfl (fun v43 ho43 => ?_)
                refine sq_nil ?_
                refine sx_xp (by repeat (first | exact Sel.refl _ | exact Sel.nil | refine Sel.cons (by repeat (first | exact Rem.here | apply Rem.there)) ?_ | refine Sel.skip ?_)) ?_
                rw [show ((r.teams.take k).map fun t => Value.int .i64 t.pen) ++ [Value.int .i64 (r.teams.getD k tm0).pen] = ((r.teams.take (k + 1)).map fun t => Value.int .i64 t.pen) by rw [List.take_add_one, get_of_lt tm0 hk', List.map_append]; rfl]
                refine xj_s 12 (by exact rfl) (by kernel_rfl) (by repeat (first | exact Sel.refl _ | exact Sel.nil | refine Sel.cons (by repeat (first | exact Rem.here | apply Rem.there)) ?_ | refine Sel.skip ?_)) (y_assign (by exact rfl)) rfl ?_
                refine xj_s 13 (by exact rfl) (by kernel_rfl) (by repeat (first | exact Sel.refl _ | exact Sel.nil | refine Sel.cons (by repeat (first | exact Rem.here | apply Rem.there)) ?_ | refine Sel.skip ?_)) (y_assign (by exact rfl)) rfl ?_
                refine xj_done (by kernel_rfl) ?_
                exact sx_midE ((v36, v38, v43)) (by repeat (first | exact SubL.nil | refine SubL.cons (by first | exact rfl | exact lk_int rfl (by omega) | exact lk_eq rfl (by simp)) ?_)) (by repeat (first | exact Sel.refl _ | exact Sel.nil | refine Sel.cons (by repeat (first | exact Rem.here | apply Rem.there)) ?_ | refine Sel.skip ?_))
              ·
                refine sq_bs Try.underlying51 ei3 (EvI.cons (by exact rfl) EvI.nil) (by first | (simp [Value.cells]; done) | (simp [Value.cells]; rfl) | (simp [Value.cells]; and_intros <;> rfl)) rfl rfl rfl (fun b42 => ?_)
                refine sq_nil ?_
                refine sx_xp (by repeat (first | exact Sel.refl _ | exact Sel.nil | refine Sel.cons (by repeat (first | exact Rem.here | apply Rem.there)) ?_ | refine Sel.skip ?_)) ?_
                refine xj_one 6 (by exact rfl) (by kernel_rfl) ?_
                refine sq_append (news := [v36]) Try.underlying68 ei36 rfl (by decide) (by exact rfl) (by repeat (first | exact Rem.here | apply Rem.there)) (by exact rfl) rfl (fun _ hw => news_blk hw (by repeat (first | exact .head _ | refine .tail _ ?_))) (by simpa using ho36) (by omega) rfl (fun v38 ho38 => ?_)
                refine sq_nil ?_
                refine sx_xp (by repeat (first | exact Sel.refl _ | exact Sel.nil | refine Sel.cons (by repeat (first | exact Rem.here | apply Rem.there)) ?_ | refine Sel.skip ?_)) ?_
                rw [show iv.reverse.map (·.1) ++ [v36] = ((v36, (r.teams.getD k tm0).brk) :: iv).reverse.map (·.1) by simp]
                refine xj_one 11 (by exact rfl) (by kernel_rfl) ?_
                refine sq_append (news := [.int .i64 (r.teams.getD k tm0).pen]) Try.underlying51 ei3 rfl (by decide) (by exact rfl) (by repeat (first | exact Rem.here | apply Rem.there)) (by exact rfl) rfl (fun _ hw => news_blk hw (by repeat (first | exact .head _ | refine .tail _ ?_))) (by simp [Value.oneCell']) (by omega) rfl (fun v43 ho43 => ?_)
                refine sq_nil ?_
                refine sx_xp (by repeat (first | exact Sel.refl _ | exact Sel.nil | refine Sel.cons (by repeat (first | exact Rem.here | apply Rem.there)) ?_ | refine Sel.skip ?_)) ?_
                rw [show ((r.teams.take k).map fun t => Value.int .i64 t.pen) ++ [Value.int .i64 (r.teams.getD k tm0).pen] = ((r.teams.take (k + 1)).map fun t => Value.int .i64 t.pen) by rw [List.take_add_one, get_of_lt tm0 hk', List.map_append]; rfl]
                refine xj_s 12 (by exact rfl) (by kernel_rfl) (by repeat (first | exact Sel.refl _ | exact Sel.nil | refine Sel.cons (by repeat (first | exact Rem.here | apply Rem.there)) ?_ | refine Sel.skip ?_)) (y_assign (by exact rfl)) rfl ?_
                refine xj_s 13 (by exact rfl) (by kernel_rfl) (by repeat (first | exact Sel.refl _ | exact Sel.nil | refine Sel.cons (by repeat (first | exact Rem.here | apply Rem.there)) ?_ | refine Sel.skip ?_)) (y_assign (by exact rfl)) rfl ?_
                refine xj_done (by kernel_rfl) ?_
                exact sx_midE ((v36, v38, v43)) (by repeat (first | exact SubL.nil | refine SubL.cons (by first | exact rfl | exact lk_int rfl (by omega) | exact lk_eq rfl (by simp)) ?_)) (by repeat (first | exact Sel.refl _ | exact Sel.nil | refine Sel.cons (by repeat (first | exact Rem.here | apply Rem.there)) ?_ | refine Sel.skip ?_))
            ·
              refine sq_bs Try.underlying51 ei3 (EvI.cons (by exact rfl) EvI.nil) (by first | (simp [Value.cells]; done) | (simp [Value.cells]; rfl) | (simp [Value.cells]; and_intros <;> rfl)) rfl rfl rfl (fun b42 => ?_)
              refine sq_nil ?_
              refine sx_xp (by repeat (first | exact Sel.refl _ | exact Sel.nil | refine Sel.cons (by repeat (first | exact Rem.here | apply Rem.there)) ?_ | refine Sel.skip ?_)) ?_
              refine xj_one 5 (by exact rfl) (by kernel_rfl) ?_
              refine sq_bsv Try.underlying68 ei36 (by exact rfl) ho36 rfl (fun b37 => ?_)
              refine sq_nil ?_
              refine sx_xp (by repeat (first | exact Sel.refl _ | exact Sel.nil | refine Sel.cons (by repeat (first | exact Rem.here | apply Rem.there)) ?_ | refine Sel.skip ?_)) ?_
              refine xj_one 6 (by exact rfl) (by kernel_rfl) ?_
              refine sq_append (news := [v36]) Try.underlying68 ei36 rfl (by decide) (by exact rfl) (by repeat (first | exact Rem.here | apply Rem.there)) (by exact rfl) rfl (fun _ hw => news_blk hw (by repeat (first | exact .head _ | refine .tail _ ?_))) (by simpa using ho36) (by omega) rfl (fun v38 ho38 => ?_)
              refine sq_nil ?_
              refine sx_xp (by repeat (first | exact Sel.refl _ | exact Sel.nil | refine Sel.cons (by repeat (first | exact Rem.here | apply Rem.there)) ?_ | refine Sel.skip ?_)) ?_
              rw [show iv.reverse.map (·.1) ++ [v36] = ((v36, (r.teams.getD k tm0).brk) :: iv).reverse.map (·.1) by simp]
              refine xj_one 11 (by exact rfl) (by kernel_rfl) ?_
              refine sq_append (news := [.int .i64 (r.teams.getD k tm0).pen]) Try.underlying51 ei3 rfl (by decide) (by exact rfl) (by repeat (first | exact Rem.here | apply Rem.there)) (by exact rfl) rfl (fun _ hw => news_blk hw (by repeat (first | exact .head _ | refine .tail _ ?_))) (by simp [Value.oneCell']) (by omega) rfl (fun v43 ho43 => ?_)
              refine sq_nil ?_
              refine sx_xp (by repeat (first | exact Sel.refl _ | exact Sel.nil | refine Sel.cons (by repeat (first | exact Rem.here | apply Rem.there)) ?_ | refine Sel.skip ?_)) ?_
              rw [show ((r.teams.take k).map fun t => Value.int .i64 t.pen) ++ [Value.int .i64 (r.teams.getD k tm0).pen] = ((r.teams.take (k + 1)).map fun t => Value.int .i64 t.pen) by rw [List.take_add_one, get_of_lt tm0 hk', List.map_append]; rfl]
              refine xj_s 12 (by exact rfl) (by kernel_rfl) (by repeat (first | exact Sel.refl _ | exact Sel.nil | refine Sel.cons (by repeat (first | exact Rem.here | apply Rem.there)) ?_ | refine Sel.skip ?_)) (y_assign (by exact rfl)) rfl ?_
              refine xj_s 13 (by exact rfl) (by kernel_rfl) (by repeat (first | exact Sel.refl _ | exact Sel.nil | refine Sel.cons (by repeat (first | exact Rem.here | apply Rem.there)) ?_ | refine Sel.skip ?_)) (y_assign (by exact rfl)) rfl ?_
              refine xj_done (by kernel_rfl) ?_
              exact sx_midE ((v36, v38, v43)) (by repeat (first | exact SubL.nil | refine SubL.cons (by first | exact rfl | exact lk_int rfl (by omega) | exact lk_eq rfl (by simp)) ?_)) (by repeat (first | exact Sel.refl _ | exact Sel.nil | refine Sel.cons (by repeat (first | exact Rem.here | apply Rem.there)) ?_ | refine Sel.skip ?_))
          ·
            refine sq_bs Try.underlying51 ei3 (EvI.cons (by exact rfl) EvI.nil) (by first | (simp [Value.cells]; done) | (simp [Value.cells]; rfl) | (simp [Value.cells]; and_intros <;> rfl)) rfl rfl rfl (fun b42 => ?_)
            refine sq_nil ?_
            refine sx_xp (by repeat (first | exact Sel.refl _ | exact Sel.nil | refine Sel.cons (by repeat (first | exact Rem.here | apply Rem.there)) ?_ | refine Sel.skip ?_)) ?_
            refine xj_one 4 (by exact rfl) (by kernel_rfl) ?_
            refine sq_blk_own (e := 32) (n := 0) (sz := 2) (xs := []) (by repeat (first | exact Rem.here | apply Rem.there)) rfl (by decide) ?_
            refine sq_append_rows (news := flatS (r.teams.getD k tm0).brk) Try.underlying36 ei32 Try.sizeOf32 rfl (by decide) (by exact rfl) (by repeat (first | exact Rem.here | apply Rem.there)) (by exact rfl) hbr.noa' (flatS_len _) (fun ad had w1 hw1 => flatS_cells' (by rw [← had]; exact hbr.at hw1 (by repeat (first | exact .head _ | refine .tail _ ?_)))) (flatS_one' _) (by omega) rfl (fun v36 ho36 => ?_)
            refine sq_nil ?_
            refine sx_xp (by repeat (first | exact Sel.refl _ | exact Sel.nil | refine Sel.cons (by repeat (first | exact Rem.here | apply Rem.there)) ?_ | refine Sel.skip ?_)) ?_
            rw [List.nil_append, Nat.zero_add (r.teams.getD k tm0).brk.length]
            refine xj_one 5 (by exact rfl) (by kernel_rfl) ?_
            refine sq_bsv Try.underlying68 ei36 (by exact rfl) ho36 rfl (fun b37 => ?_)
            refine sq_nil ?_
            refine sx_xp (by repeat (first | exact Sel.refl _ | exact Sel.nil | refine Sel.cons (by repeat (first | exact Rem.here | apply Rem.there)) ?_ | refine Sel.skip ?_)) ?_
            refine xj_one 6 (by exact rfl) (by kernel_rfl) ?_
            refine sq_append (news := [v36]) Try.underlying68 ei36 rfl (by decide) (by exact rfl) (by repeat (first | exact Rem.here | apply Rem.there)) (by exact rfl) rfl (fun _ hw => news_blk hw (by repeat (first | exact .head _ | refine .tail _ ?_))) (by simpa using ho36) (by omega) rfl (fun v38 ho38 => ?_)
            refine sq_nil ?_
            refine sx_xp (by repeat (first | exact Sel.refl _ | exact Sel.nil | refine Sel.cons (by repeat (first | exact Rem.here | apply Rem.there)) ?_ | refine Sel.skip ?_)) ?_
            rw [show iv.reverse.map (·.1) ++ [v36] = ((v36, (r.teams.getD k tm0).brk) :: iv).reverse.map (·.1) by simp]
            refine xj_one 11 (by exact rfl) (by kernel_rfl) ?_
            refine sq_append (news := [.int .i64 (r.teams.getD k tm0).pen]) Try.underlying51 ei3 rfl (by decide) (by exact rfl) (by repeat (first | exact Rem.here | apply Rem.there)) (by exact rfl) rfl (fun _ hw => news_blk hw (by repeat (first | exact .head _ | refine .tail _ ?_))) (by simp [Value.oneCell']) (by omega) rfl (fun v43 ho43 => ?_)
            refine sq_nil ?_
            refine sx_xp (by repeat (first | exact Sel.refl _ | exact Sel.nil | refine Sel.cons (by repeat (first | exact Rem.here | apply Rem.there)) ?_ | refine Sel.skip ?_)) ?_
            rw [show ((r.teams.take k).map fun t => Value.int .i64 t.pen) ++ [Value.int .i64 (r.teams.getD k tm0).pen] = ((r.teams.take (k + 1)).map fun t => Value.int .i64 t.pen) by rw [List.take_add_one, get_of_lt tm0 hk', List.map_append]; rfl]
            refine xj_s 12 (by exact rfl) (by kernel_rfl) (by repeat (first | exact Sel.refl _ | exact Sel.nil | refine Sel.cons (by repeat (first | exact Rem.here | apply Rem.there)) ?_ | refine Sel.skip ?_)) (y_assign (by exact rfl)) rfl ?_
            refine xj_s 13 (by exact rfl) (by kernel_rfl) (by repeat (first | exact Sel.refl _ | exact Sel.nil | refine Sel.cons (by repeat (first | exact Rem.here | apply Rem.there)) ?_ | refine Sel.skip ?_)) (y_assign (by exact rfl)) rfl ?_
            refine xj_done (by kernel_rfl) ?_
            exact sx_midE ((v36, v38, v43)) (by repeat (first | exact SubL.nil | refine SubL.cons (by first | exact rfl | exact lk_int rfl (by omega) | exact lk_eq rfl (by simp)) ?_)) (by repeat (first | exact Sel.refl _ | exact Sel.nil | refine Sel.cons (by repeat (first | exact Rem.here | apply Rem.there)) ?_ | refine Sel.skip ?_))
        ·
          refine sq_bs Try.underlying51 ei3 (EvI.cons (by exact rfl) EvI.nil) (by first | (simp [Value.cells]; done) | (simp [Value.cells]; rfl) | (simp [Value.cells]; and_intros <;> rfl)) rfl rfl rfl (fun b42 => ?_)
          refine sq_nil ?_
          refine sx_xp (by repeat (first | exact Sel.refl _ | exact Sel.nil | refine Sel.cons (by repeat (first | exact Rem.here | apply Rem.there)) ?_ | refine Sel.skip ?_)) ?_
          refine xj_one 1 (by exact rfl) (by kernel_rfl) ?_
          refine sq_bs Try.underlying36 ei32 EvI.nil (by first | (simp [Value.cells]; done) | (simp [Value.cells]; rfl) | (simp [Value.cells]; and_intros <;> rfl)) rfl rfl rfl (fun b33 => ?_)
          refine sq_nil ?_
          refine sx_xp (by repeat (first | exact Sel.refl _ | exact Sel.nil | refine Sel.cons (by repeat (first | exact Rem.here | apply Rem.there)) ?_ | refine Sel.skip ?_)) ?_
          refine xj_one 4 (by exact rfl) (by kernel_rfl) ?_
          refine sq_blk_own (e := 32) (n := 0) (sz := 2) (xs := []) (by repeat (first | exact Rem.here | apply Rem.there)) rfl (by decide) ?_
          refine sq_append_rows (news := flatS (r.teams.getD k tm0).brk) Try.underlying36 ei32 Try.sizeOf32 rfl (by decide) (by exact rfl) (by repeat (first | exact Rem.here | apply Rem.there)) (by exact rfl) hbr.noa' (flatS_len _) (fun ad had w1 hw1 => flatS_cells' (by rw [← had]; exact hbr.at hw1 (by repeat (first | exact .head _ | refine .tail _ ?_)))) (flatS_one' _) (by omega) rfl (fun v36 ho36 => ?_)
          refine sq_nil ?_
          refine sx_xp (by repeat (first | exact Sel.refl _ | exact Sel.nil | refine Sel.cons (by repeat (first | exact Rem.here | apply Rem.there)) ?_ | refine Sel.skip ?_)) ?_
          rw [List.nil_append, Nat.zero_add (r.teams.getD k tm0).brk.length]
          refine xj_one 5 (by exact rfl) (by kernel_rfl) ?_
          refine sq_bsv Try.underlying68 ei36 (by exact rfl) ho36 rfl (fun b37 => ?_)
          refine sq_nil ?_
          refine sx_xp (by repeat (first | exact Sel.refl _ | exact Sel.nil | refine Sel.cons (by repeat (first | exact Rem.here | apply Rem.there)) ?_ | refine Sel.skip ?_)) ?_
          refine xj_one 6 (by exact rfl) (by kernel_rfl) ?_
          refine sq_append (news := [v36]) Try.underlying68 ei36 rfl (by decide) (by exact rfl) (by repeat (first | exact Rem.here | apply Rem.there)) (by exact rfl) rfl (fun _ hw => news_blk hw (by repeat (first | exact .head _ | refine .tail _ ?_))) (by simpa using ho36) (by omega) rfl (fun v38 ho38 => ?_)
          refine sq_nil ?_
          refine sx_xp (by repeat (first | exact Sel.refl _ | exact Sel.nil | refine Sel.cons (by repeat (first | exact Rem.here | apply Rem.there)) ?_ | refine Sel.skip ?_)) ?_
          rw [show iv.reverse.map (·.1) ++ [v36] = ((v36, (r.teams.getD k tm0).brk) :: iv).reverse.map (·.1) by simp]
          refine xj_one 11 (by exact rfl) (by kernel_rfl) ?_
          refine sq_append (news := [.int .i64 (r.teams.getD k tm0).pen]) Try.underlying51 ei3 rfl (by decide) (by exact rfl) (by repeat (first | exact Rem.here | apply Rem.there)) (by exact rfl) rfl (fun _ hw => news_blk hw (by repeat (first | exact .head _ | refine .tail _ ?_))) (by simp [Value.oneCell']) (by omega) rfl (fun v43 ho43 => ?_)
          refine sq_nil ?_
          refine sx_xp (by repeat (first | exact Sel.refl _ | exact Sel.nil | refine Sel.cons (by repeat (first | exact Rem.here | apply Rem.there)) ?_ | refine Sel.skip ?_)) ?_
          rw [show ((r.teams.take k).map fun t => Value.int .i64 t.pen) ++ [Value.int .i64 (r.teams.getD k tm0).pen] = ((r.teams.take (k + 1)).map fun t => Value.int .i64 t.pen) by rw [List.take_add_one, get_of_lt tm0 hk', List.map_append]; rfl]
          refine xj_s 12 (by exact rfl) (by kernel_rfl) (by repeat (first | exact Sel.refl _ | exact Sel.nil | refine Sel.cons (by repeat (first | exact Rem.here | apply Rem.there)) ?_ | refine Sel.skip ?_)) (y_assign (by exact rfl)) rfl ?_
          refine xj_s 13 (by exact rfl) (by kernel_rfl) (by repeat (first | exact Sel.refl _ | exact Sel.nil | refine Sel.cons (by repeat (first | exact Rem.here | apply Rem.there)) ?_ | refine Sel.skip ?_)) (y_assign (by exact rfl)) rfl ?_
          refine xj_done (by kernel_rfl) ?_
          exact sx_midE ((v36, v38, v43)) (by repeat (first | exact SubL.nil | refine SubL.cons (by first | exact rfl | exact lk_int rfl (by omega) | exact lk_eq rfl (by simp)) ?_)) (by repeat (first | exact Sel.refl _ | exact Sel.nil | refine Sel.cons (by repeat (first | exact Rem.here | apply Rem.there)) ?_ | refine Sel.skip ?_))
      rintro z
      try dsimp only
      refine sx_blk ?_
      refine sx_then ?_
      refine sc_region ?_
      refine sq_y (OpY.s (y_add (by exact rfl) (by exact rfl) (by omega))) rfl ?_
      refine sq_y (OpY.s (y_move (by exact rfl))) rfl ?_
      refine sq_nil ?_
      refine sx_round ((k + 1, z.2.1, z.2.2, (z.1, (r.teams.getD k tm0).brk) :: iv)) ?_ ?_ (by repeat (first | exact SubL.nil | refine SubL.cons (by first | exact rfl | exact lk_int rfl (by omega) | exact lk_eq rfl (by simp)) ?_)) (by repeat (first | exact Sel.refl _ | exact Sel.nil | refine Sel.cons (by repeat (first | exact Rem.here | apply Rem.there)) ?_ | refine Sel.skip ?_))
      · exact ⟨show k + 1 ≤ r.teams.length by omega, hIn.step z.1⟩
      · show r.teams.length - (k + 1) < r.teams.length - k; omega
    ·
      have hkn : k = r.teams.length := by omega
      subst hkn
      rw [List.take_length]
      refine sc_exit ?_
      refine sx_then_exit ?_
      refine sx_round_exit ?_
      refine sx_blk_hit ?_
      refine sx_then ?_
      refine sc_seq ?_
      refine sc_region ?_
      refine sq_bs Try.underlying25 ei57 EvI.nil (by first | (simp [Value.cells]; done) | (simp [Value.cells]; rfl) | (simp [Value.cells]; and_intros <;> rfl)) rfl rfl rfl (fun b45 => ?_)
      refine sq_y (OpY.s (y_move (by exact rfl))) rfl ?_
      refine sq_blk_own (e := 57) (n := 0) (sz := 4) (xs := []) (by repeat (first | exact Rem.here | apply Rem.there)) rfl (by decide) ?_
      refine sq_append_rows (news := ls.flatMap wdRow) Try.underlying25 ei57 Try.sizeOf57 rfl (by decide) (by exact rfl) (by repeat (first | exact Rem.here | apply Rem.there)) (by exact rfl) hl.noa (flat_len wdRow_len ls) (fun ad had w1 hw1 => wds_cells (by rw [← had]; exact hl.at hw1 (by repeat (first | exact .head _ | refine .tail _ ?_)))) (wds_one ls) (by omega) rfl (fun v47 ho47 => ?_)
      rw [List.nil_append, Nat.zero_add ls.length]
      refine sq_y (OpY.s (y_assign (by exact rfl))) rfl ?_
      refine sq_nil ?_
      refine sx_then ?_
      refine sc_seq ?_
      refine sc_region ?_
      refine sq_y (OpY.s (by first | exact y_load_all Try.underlying24 rfl Try.sizeOf24 (by exact rfl) (by repeat (first | exact .head _ | refine .tail _ ?_)) (by exact rfl) | exact y_load_ca Try.underlying24 rfl Try.sizeOf24 (by exact rfl) (by repeat (first | exact .head _ | refine .tail _ ?_)) (by assumption) (by exact rfl))) rfl ?_
      refine sq_y (OpY.s (y_move (by exact rfl))) rfl ?_
      refine sq_y (OpY.s (y_move (by exact rfl))) rfl ?_
      refine sq_call_own (first := []) (caps := []) (e := 32) (sz := 2) (n := R.length) (Z := Option Addr × Nat) (fun z => .tuple #[.slice z.1 R.length z.2, .int .i64 (openE r ls (minB mz))]) (fun z => .slice z.1 R.length z.2) (fun _ => flatS R) (fun z => z.1 = none → R.length = 0) (by exact rfl) Try.call21 (EvL.cons (by exact rfl) (EvL.cons (by exact rfl) (EvL.cons (by exact rfl) EvL.nil))) (fun w1 hw1 => (ranks21 w1 r a c f cf al cl ls mz (hT.at hw1 (by repeat (first | exact .head _ | refine .tail _ ?_))) (hl.at hw1 (by repeat (first | exact .head _ | refine .tail _ ?_))) i1 i2 i3).mono (fun e w' ⟨z, he, hb, ho⟩ => by
          rw [hR] at ho
          obtain ⟨a', c', rfl, hS⟩ := own_sps ho (by omega)
          exact ⟨(a', c'), he, hb, fun h0 => hS.noa' h0, ho⟩)) rfl (fun zr hzr => ?_)
      refine sq_y (OpY.s (y_move (by exact rfl))) rfl ?_
      refine sq_y (OpY.s (y_extract (by exact rfl) (by exact rfl))) rfl ?_
      refine sq_y (OpY.s (y_extract (by exact rfl) (by exact rfl))) rfl ?_
      refine sq_y (OpY.s (y_assign (by exact rfl))) rfl ?_
      refine sq_y (OpY.s (y_assign (by exact rfl))) rfl ?_
      refine sq_nil ?_
      refine sx_then ?_
      refine sc_seq ?_
      refine sc_region ?_
      refine sq_bs Try.underlying36 ei32 EvI.nil (by first | (simp [Value.cells]; done) | (simp [Value.cells]; rfl) | (simp [Value.cells]; and_intros <;> rfl)) rfl rfl rfl (fun b55 => ?_)
      refine sq_y (OpY.s (y_move (by exact rfl))) rfl ?_
      refine sq_blk_own (e := 32) (n := 0) (sz := 2) (xs := []) (by repeat (first | exact Rem.here | apply Rem.there)) rfl (by decide) ?_
      refine sq_append_rows (news := flatS R) Try.underlying36 ei32 Try.sizeOf32 rfl (by decide) (by exact rfl) (by repeat (first | exact Rem.here | apply Rem.there)) (by exact rfl) hzr (flatS_len _) (fun ad had w1 hw1 => own_news (c := zr.2) (n := R.length) (ad := ad) (e := 32) (sz := 2) (m := R.length) hw1 (by rw [← had]; exact (by repeat (first | exact .head _ | refine .tail _ ?_)))) (flatS_one' _) (by omega) rfl (fun v57 ho57 => ?_)
      rw [List.nil_append, Nat.zero_add R.length]
      refine sq_y (OpY.s (y_assign (by exact rfl))) rfl ?_
      refine sq_nil ?_
      refine sx_then ?_
      refine sc_seq ?_
      refine sc_seq ?_
      refine sc_region ?_
      refine sq_y (OpY.s (y_move (by exact rfl))) rfl ?_
      refine sq_y (OpY.s (y_len Try.underlying36 (by exact rfl))) rfl ?_
      refine sq_y (OpY.s (y_move (by exact rfl))) rfl ?_
      refine sq_nil ?_
      refine sx_then ?_
      refine sc_block ?_
      refine sc_loop (σ := Nat × List Value)
        (fun s => [(1, .slice al ls.length cl), (2, .int .i64 mz), (3, .pointer (some ⟨b3, 0, none⟩)), (7, vb), (8, vp), (11, v47), (12, .slice zr.1 R.length zr.2), (13, .int .i64 (openE r ls (minB mz))), (14, v57), (59, .int .i64 R.length), (60, .int .i64 s.1)])
        (fun s => .own (.slice zr.1 R.length zr.2) 32 2 R.length s.2 :: .own v57 32 2 R.length (flatS R) :: .own v47 57 4 ls.length (ls.flatMap wdRow) :: .own vb 36 1 r.teams.length (iv.reverse.map (·.1)) :: .own vp 3 1 r.teams.length (r.teams.map fun t => Value.int .i64 t.pen) :: .blk b3 (.cells (rcVal r a c).toArray 24 (0, 0)) :: .reg 0 w :: inner iv)
        (fun s => s.1 ≤ R.length)
        (fun s => R.length - s.1)
        ((0, flatS R)) ?_ (by repeat (first | exact SubL.nil | refine SubL.cons (by first | exact rfl | exact lk_int rfl (by omega) | exact lk_eq rfl (by simp)) ?_)) (by repeat (first | exact Sel.refl _ | exact Sel.nil | refine Sel.cons (by repeat (first | exact Rem.here | apply Rem.there)) ?_ | refine Sel.skip ?_)) ?_
      · exact Nat.zero_le _
      rintro ⟨k, ys⟩ hk
      dsimp only at hk ⊢
      refine sc_seq ?_
      refine sc_region ?_
      refine sq_y (OpY.s (y_lss (by exact rfl) (by exact rfl))) rfl ?_
      refine sq_nil ?_
      refine sx_then ?_
      refine sc_seq ?_
      first | refine sc_if (by exact rfl) (fun hc2 => ?_) (fun hc2 => ?_) | refine sc_ifn (by exact rfl) (fun hc2 => ?_) (fun hc2 => ?_) | refine sc_cond (by exact rfl) (fun hc2 => ?_) (fun hc2 => ?_)
      ·
        have hk' : k < R.length := by omega
        refine sc_skip ?_
        refine sx_then ?_
        refine sc_seq ?_
        refine sc_block ?_
        refine sc_seq ?_
        refine sc_region ?_
        refine sq_y (OpY.s (y_move (by exact rfl))) rfl ?_
        refine sq_y (OpY.s (y_assign (by exact rfl))) rfl ?_
        refine sq_nil ?_
        refine sx_then ?_
        refine sc_region ?_
        refine sq_y (OpY.s (y_move (by exact rfl))) rfl ?_
        refine sq_y (OpY.s (y_move (by exact rfl))) rfl ?_
        refine sq_y (OpY.s (y_ia_own Try.underlying36 Try.sizeOf32 (by exact rfl) (by repeat (first | exact .head _ | refine .tail _ ?_)) (by exact rfl) hk')) rfl ?_
        refine sq_y (OpY.s (by first | exact y_fab Try.underlying32 (by exact rfl) (by exact Try.sizeOf3) (by exact rfl) rfl | exact y_fa Try.underlying32 (by exact rfl) (by exact Try.sizeOf3) (by exact rfl) rfl)) rfl ?_
        refine sq_store_own (v := .slice zr.1 R.length zr.2) (i := k) (j := 0) (sz := 2) Try.sizeOf3 (by exact rfl) (by exact rfl) rfl (by repeat (first | exact Rem.here | apply Rem.there)) hk' (by decide) ?_
        refine sq_nil ?_
        refine sx_blk ?_
        refine sx_then ?_
        refine sc_region ?_
        refine sq_y (OpY.s (y_add (by exact rfl) (by exact rfl) (by omega))) rfl ?_
        refine sq_y (OpY.s (y_move (by exact rfl))) rfl ?_
        refine sq_nil ?_
        refine sx_round ((k + 1, ys.set (k * 2 + 0) (.int .i64 (-9)))) ?_ ?_ (by repeat (first | exact SubL.nil | refine SubL.cons (by first | exact rfl | exact lk_int rfl (by omega) | exact lk_eq rfl (by simp)) ?_)) (by repeat (first | exact Sel.refl _ | exact Sel.nil | refine Sel.cons (by repeat (first | exact Rem.here | apply Rem.there)) ?_ | refine Sel.skip ?_))
        · show k + 1 ≤ R.length; omega
        · show R.length - (k + 1) < R.length - k; omega
      ·
        refine sc_exit ?_
        refine sx_then_exit ?_
        refine sx_round_exit ?_
        refine sx_blk_hit ?_
        refine sx_then ?_
        refine sc_seq ?_
        refine sc_region ?_
        refine sq_y (OpY.s (by first | exact y_load_all Try.underlying24 rfl Try.sizeOf24 (by exact rfl) (by repeat (first | exact .head _ | refine .tail _ ?_)) (by exact rfl) | exact y_load_ca Try.underlying24 rfl Try.sizeOf24 (by exact rfl) (by repeat (first | exact .head _ | refine .tail _ ?_)) (by assumption) (by exact rfl))) rfl ?_
        refine sq_y (OpY.s (y_move (by exact rfl))) rfl ?_
        refine sq_y (y_call (first := []) (caps := []) (by exact rfl) Try.call15 (EvL.cons (by exact rfl) (EvL.cons (by exact rfl) (EvL.cons (by exact rfl) EvL.nil))) (fun w1 hw1 => worked15 w1 _ r 0 mz ((hT.at hw1 (by repeat (first | exact .head _ | refine .tail _ ?_))).rc i1 i2 i3))) rfl ?_
        refine sq_nil ?_
        refine sx_then ?_
        refine sc_seq ?_
        refine sc_region ?_
        refine sq_y (OpY.s (by first | exact y_load_all Try.underlying24 rfl Try.sizeOf24 (by exact rfl) (by repeat (first | exact .head _ | refine .tail _ ?_)) (by exact rfl) | exact y_load_ca Try.underlying24 rfl Try.sizeOf24 (by exact rfl) (by repeat (first | exact .head _ | refine .tail _ ?_)) (by assumption) (by exact rfl))) rfl ?_
        refine sq_y (OpY.s (y_move (by exact rfl))) rfl ?_
        refine sq_y (OpY.s (y_move (by exact rfl))) rfl ?_
        refine sq_y (y_call (first := []) (caps := []) (by exact rfl) Try.call17 (EvL.cons (by exact rfl) (EvL.cons (by exact rfl) (EvL.cons (by exact rfl) (EvL.cons (by exact rfl) EvL.nil)))) (fun w1 hw1 => count17 w1 r a c f cf al cl ls 0 mz (hT.at hw1 (by repeat (first | exact .head _ | refine .tail _ ?_))) (hl.at hw1 (by repeat (first | exact .head _ | refine .tail _ ?_))) i1 i2 i3)) rfl ?_
        refine sq_nil ?_
        refine sx_then ?_
        refine sc_seq ?_
        refine sc_region ?_
        refine sq_y (OpY.s (by first | exact y_load_all Try.underlying24 rfl Try.sizeOf24 (by exact rfl) (by repeat (first | exact .head _ | refine .tail _ ?_)) (by exact rfl) | exact y_load_ca Try.underlying24 rfl Try.sizeOf24 (by exact rfl) (by repeat (first | exact .head _ | refine .tail _ ?_)) (by assumption) (by exact rfl))) rfl ?_
        refine sq_y (OpY.s (y_move (by exact rfl))) rfl ?_
        refine sq_y (OpY.s (y_move (by exact rfl))) rfl ?_
        refine sq_y (y_call (first := []) (caps := []) (by exact rfl) Try.call19 (EvL.cons (by exact rfl) (EvL.cons (by exact rfl) (EvL.cons (by exact rfl) (EvL.cons (by exact rfl) EvL.nil)))) (fun w1 hw1 => points19 w1 r a c f cf al cl ls 0 mz (hT.at hw1 (by repeat (first | exact .head _ | refine .tail _ ?_))) (hl.at hw1 (by repeat (first | exact .head _ | refine .tail _ ?_))) i1 i2 i3)) rfl ?_
        refine sq_nil ?_
        refine sx_then ?_
        refine sc_seq ?_
        refine sc_region ?_
        refine sq_y (OpY.s (by first | exact y_load_all Try.underlying24 rfl Try.sizeOf24 (by exact rfl) (by repeat (first | exact .head _ | refine .tail _ ?_)) (by exact rfl) | exact y_load_ca Try.underlying24 rfl Try.sizeOf24 (by exact rfl) (by repeat (first | exact .head _ | refine .tail _ ?_)) (by assumption) (by exact rfl))) rfl ?_
        refine sq_y (OpY.s (y_move (by exact rfl))) rfl ?_
        refine sq_y (y_call (first := []) (caps := []) (by exact rfl) Try.call23 (EvL.cons (by exact rfl) (EvL.cons (by exact rfl) EvL.nil)) (fun w1 hw1 => winners23 w1 r a c f cf al cl ls (hT.at hw1 (by repeat (first | exact .head _ | refine .tail _ ?_))) (hl.at hw1 (by repeat (first | exact .head _ | refine .tail _ ?_))) i1 i2 i3)) rfl ?_
        refine sq_nil ?_
        refine sx_then ?_
        refine sc_seq ?_
        refine sc_region ?_
        refine sq_y (OpY.s (by first | exact y_load_all Try.underlying24 rfl Try.sizeOf24 (by exact rfl) (by repeat (first | exact .head _ | refine .tail _ ?_)) (by exact rfl) | exact y_load_ca Try.underlying24 rfl Try.sizeOf24 (by exact rfl) (by repeat (first | exact .head _ | refine .tail _ ?_)) (by assumption) (by exact rfl))) rfl ?_
        refine sq_y (OpY.s (y_move (by exact rfl))) rfl ?_
        refine sq_y (y_call (first := []) (caps := []) (by exact rfl) Try.call25 (EvL.cons (by exact rfl) (EvL.cons (by exact rfl) EvL.nil)) (fun w1 hw1 => clash25 w1 r a c f cf al cl ls hcl (hT.at hw1 (by repeat (first | exact .head _ | refine .tail _ ?_))) (hl.at hw1 (by repeat (first | exact .head _ | refine .tail _ ?_))) i1 i2 i3)) rfl ?_
        refine sq_nil ?_
        refine sx_then ?_
        refine sc_seq ?_
        refine sc_region ?_
        refine sq_y (OpY.s (by first | exact y_load_all Try.underlying24 rfl Try.sizeOf24 (by exact rfl) (by repeat (first | exact .head _ | refine .tail _ ?_)) (by exact rfl) | exact y_load_ca Try.underlying24 rfl Try.sizeOf24 (by exact rfl) (by repeat (first | exact .head _ | refine .tail _ ?_)) (by assumption) (by exact rfl))) rfl ?_
        refine sq_y (OpY.s (y_move (by exact rfl))) rfl ?_
        refine sq_y (OpY.s (y_move (by exact rfl))) rfl ?_
        refine sq_call_new (first := []) (caps := []) (Z := Option Addr × Nat) (fun z => .tuple #[.slice z.1 R.length z.2, .int .i64 (openE r ls (minB mz))]) (fun lo w' z => SpsA lo w' z.1 R) (by exact rfl) Try.call21 (EvL.cons (by exact rfl) (EvL.cons (by exact rfl) (EvL.cons (by exact rfl) EvL.nil))) (fun w1 hw1 => (ranks21p w1 r a c f cf al cl ls mz (hT.at hw1 (by repeat (first | exact .head _ | refine .tail _ ?_))) (hl.at hw1 (by repeat (first | exact .head _ | refine .tail _ ?_))) i1 i2 i3).mono (fun e w' ⟨z, he, hb, hS⟩ => by rw [hR] at he hS; exact ⟨z, he, hb, hS⟩)) rfl (fun lr2 wr2 zr2 hr2 => ?_)
        refine sq_y (OpY.s (y_move (by exact rfl))) rfl ?_
        refine sq_y (OpY.s (y_extract (by exact rfl) (by exact rfl))) rfl ?_
        refine sq_y (OpY.s (y_extract (by exact rfl) (by exact rfl))) rfl ?_
        refine sq_y (OpY.s (y_assign (by exact rfl))) rfl ?_
        refine sq_y (OpY.s (y_assign (by exact rfl))) rfl ?_
        refine sq_nil ?_
        refine sx_then ?_
        refine sc_seq ?_
        refine sc_seq ?_
        refine sc_region ?_
        refine sq_y (OpY.s (by first | exact y_fab Try.underlying24 (by exact rfl) (by exact Try.sizeOf22) (by exact rfl) rfl | exact y_fa Try.underlying24 (by exact rfl) (by exact Try.sizeOf22) (by exact rfl) rfl)) rfl ?_
        refine sq_y (OpY.s (by first | exact y_load_blk Try.underlying22 rfl (by exact rfl) (by repeat (first | exact .head _ | refine .tail _ ?_)) (by exact rfl) | exact y_load_caj Try.underlying22 rfl (by exact rfl) (by repeat (first | exact .head _ | refine .tail _ ?_)) (by assumption) (by exact rfl) | exact y_load_ca0 Try.underlying22 rfl (by exact rfl) (by repeat (first | exact .head _ | refine .tail _ ?_)) (by assumption) (by exact rfl))) rfl ?_
        refine sq_y (OpY.s (y_len Try.underlying22 (by exact rfl))) rfl ?_
        refine sq_y (OpY.s (y_move (by exact rfl))) rfl ?_
        refine sq_nil ?_
        refine sx_then ?_
        refine sc_block ?_
        refine sc_loop (σ := Nat)
          (fun s => [(1, .slice al ls.length cl), (7, vb), (8, vp), (11, v47), (13, .int .i64 (openE r ls (minB mz))), (14, v57), (16, .slice zr2.1 R.length zr2.2), (17, .int .i64 (openE r ls (minB mz))), (93, .slice a r.teams.length c), (94, .int .i64 r.teams.length), (95, .int .i64 s)])
          (fun s => .reg lr2 wr2 :: .own v57 32 2 R.length (flatS R) :: .own v47 57 4 ls.length (ls.flatMap wdRow) :: .own vb 36 1 r.teams.length (iv.reverse.map (·.1)) :: .own vp 3 1 r.teams.length (r.teams.map fun t => Value.int .i64 t.pen) :: .reg 0 w :: inner iv)
          (fun s => s ≤ r.teams.length)
          (fun s => r.teams.length - s)
          (0) ?_ (by repeat (first | exact SubL.nil | refine SubL.cons (by first | exact rfl | exact lk_int rfl (by omega) | exact lk_eq rfl (by simp)) ?_)) (by repeat (first | exact Sel.refl _ | exact Sel.nil | refine Sel.cons (by repeat (first | exact Rem.here | apply Rem.there)) ?_ | refine Sel.skip ?_)) ?_
        · exact Nat.zero_le _
        rintro k hk
        refine sc_seq ?_
        refine sc_region ?_
        refine sq_y (OpY.s (y_lss (by exact rfl) (by exact rfl))) rfl ?_
        refine sq_nil ?_
        refine sx_then ?_
        refine sc_seq ?_
        first | refine sc_if (by exact rfl) (fun hc3 => ?_) (fun hc3 => ?_) | refine sc_ifn (by exact rfl) (fun hc3 => ?_) (fun hc3 => ?_) | refine sc_cond (by exact rfl) (fun hc3 => ?_) (fun hc3 => ?_)
        ·
          have hk' : k < r.teams.length := by omega
          have hsm := (hT.row k hk').1
          have hca := (hT.row k hk').2.2
          have hbr := hT.br k _ (get_of_lt tm0 hk')
          have hlb := hbr.len
          obtain ⟨vk, hvk, hin⟩ := hIn.get hk'
          have hpk : (r.teams.map fun t => Value.int .i64 t.pen)[k]? = some (.int .i64 (r.teams.getD k tm0).pen) := by rw [List.getElem?_map, get_of_lt tm0 hk']; rfl
          refine sc_skip ?_
          refine sx_then ?_
          refine sc_seq ?_
          refine sc_block ?_
          refine sc_seq ?_
          refine sc_region ?_
          refine sq_y (OpY.s (y_move (by exact rfl))) rfl ?_
          refine sq_y (OpY.s (by first | exact y_ia_blk Try.underlying22 Try.sizeOf66 (by exact rfl) (by exact rfl) (by omega) | exact y_ia_el Try.underlying22 Try.sizeOf66 (by exact rfl) (by exact rfl) (by omega) (by first | assumption | simp))) rfl ?_
          refine sq_y (OpY.s (by first | exact y_load_ca Try.underlying66 rfl Try.sizeOf66 (by exact rfl) (by repeat (first | exact .head _ | refine .tail _ ?_)) hca rfl | exact y_load_all Try.underlying66 rfl Try.sizeOf66 (by exact rfl) (by repeat (first | exact .head _ | refine .tail _ ?_)) (by exact rfl) | exact y_load_2 Try.underlying66 rfl Try.sizeOf66 (by exact rfl) (by repeat (first | exact .head _ | refine .tail _ ?_)) (by exact rfl) (by exact rfl) | exact y_load_ca Try.underlying66 rfl Try.sizeOf66 (by exact rfl) (by repeat (first | exact .head _ | refine .tail _ ?_)) (by assumption) (by exact rfl))) rfl ?_
          refine sq_alloc Try.zeroValue66 rfl (fun b19 => ?_)
          refine sq_y (OpY.s (y_assign (by exact rfl))) rfl ?_
          refine sq_store_all Try.sizeOf66 (by exact rfl) (by exact rfl) rfl (by repeat (first | exact Rem.here | apply Rem.there)) rfl rfl ?_
          refine sq_nil ?_
          refine sx_then ?_
          refine sc_seq ?_
          refine sc_draw rfl (by kernel_rfl) (by kernel_rfl) ?_
          refine qq_y (OpY.s (by first | exact y_fab Try.underlying66 (by exact rfl) (by exact Try.sizeOf3) (by exact rfl) rfl | exact y_fa Try.underlying66 (by exact rfl) (by exact Try.sizeOf3) (by exact rfl) rfl)) rfl ?_
          refine qq_y (OpY.s (by first | exact y_load_blk Try.underlying3 rfl (by exact rfl) (by repeat (first | exact .head _ | refine .tail _ ?_)) (by exact rfl) | exact y_load_caj Try.underlying3 rfl (by exact rfl) (by repeat (first | exact .head _ | refine .tail _ ?_)) (by assumption) (by exact rfl) | exact y_load_ca0 Try.underlying3 rfl (by exact rfl) (by repeat (first | exact .head _ | refine .tail _ ?_)) (by assumption) (by exact rfl))) rfl ?_
          refine qq_y (OpY.s (y_move (by exact rfl))) rfl ?_
          refine qq_y (OpY.s (y_move (by exact rfl))) rfl ?_
          refine qq_y (OpY.s (y_ia_own Try.underlying51 Try.sizeOf3 (by exact rfl) (by repeat (first | exact .head _ | refine .tail _ ?_)) (by exact rfl) hk')) rfl ?_
          refine qq_y (OpY.s (by first | exact y_load_own0 Try.underlying3 rfl (by exact rfl) (by repeat (first | exact .head _ | refine .tail _ ?_)) hk' (by rw [Nat.mul_one]; exact hpk) | exact y_load_blk Try.underlying3 rfl (by exact rfl) (by repeat (first | exact .head _ | refine .tail _ ?_)) (by exact rfl) | exact y_load_caj Try.underlying3 rfl (by exact rfl) (by repeat (first | exact .head _ | refine .tail _ ?_)) (by assumption) (by exact rfl) | exact y_load_ca0 Try.underlying3 rfl (by exact rfl) (by repeat (first | exact .head _ | refine .tail _ ?_)) (by assumption) (by exact rfl))) rfl ?_
          refine qq_y (OpY.s (y_neq (by exact rfl) (by exact rfl))) rfl ?_
          refine qq_y (OpY.s (y_move (by exact rfl))) rfl ?_
          refine qq_known (tt := 107) (b' := false) (by exact rfl) (by simp) ?_
          refine qq_gt (by exact rfl) (by exact rfl) (OpY.s (by first | exact y_fab Try.underlying66 (by exact rfl) (by exact Try.sizeOf36) (by exact rfl) rfl | exact y_fa Try.underlying66 (by exact rfl) (by exact Try.sizeOf36) (by exact rfl) rfl)) rfl ?_
          refine qq_gt (by exact rfl) (by exact rfl) (OpY.s (by first | exact y_load_blk Try.underlying36 rfl (by exact rfl) (by repeat (first | exact .head _ | refine .tail _ ?_)) (by exact rfl) | exact y_load_caj Try.underlying36 rfl (by exact rfl) (by repeat (first | exact .head _ | refine .tail _ ?_)) (by assumption) (by exact rfl) | exact y_load_ca0 Try.underlying36 rfl (by exact rfl) (by repeat (first | exact .head _ | refine .tail _ ?_)) (by assumption) (by exact rfl))) rfl ?_
          refine qq_gt (by exact rfl) (by exact rfl) (OpY.s (y_move (by exact rfl))) rfl ?_
          refine qq_gt (by exact rfl) (by exact rfl) (OpY.s (y_move (by exact rfl))) rfl ?_
          refine qq_gt (by exact rfl) (by exact rfl) (OpY.s (y_ia_own Try.underlying68 Try.sizeOf36 (by exact rfl) (by repeat (first | exact .head _ | refine .tail _ ?_)) (by exact rfl) hk')) rfl ?_
          refine qq_gt (by exact rfl) (by exact rfl) (OpY.s (by first | exact y_load_own0 Try.underlying36 rfl (by exact rfl) (by repeat (first | exact .head _ | refine .tail _ ?_)) hk' (by rw [Nat.mul_one]; exact hvk) | exact y_load_blk Try.underlying36 rfl (by exact rfl) (by repeat (first | exact .head _ | refine .tail _ ?_)) (by exact rfl) | exact y_load_caj Try.underlying36 rfl (by exact rfl) (by repeat (first | exact .head _ | refine .tail _ ?_)) (by assumption) (by exact rfl) | exact y_load_ca0 Try.underlying36 rfl (by exact rfl) (by repeat (first | exact .head _ | refine .tail _ ?_)) (by assumption) (by exact rfl))) rfl ?_
          refine qq_gt (by exact rfl) (by exact rfl) (y_call (first := []) (caps := []) (by exact rfl) Try.call27 (EvL.cons (by exact rfl) (EvL.cons (by exact rfl) EvL.nil)) (fun w1 hw1 => by
                obtain ⟨a', c', hv, hS⟩ := own_sps (w := w1) (base := 0) (e := 32) (v := vk) (l := (r.teams.getD k tm0).brk) (hw1.ok (.own vk 32 2 (r.teams.getD k tm0).brk.length (flatS (r.teams.getD k tm0).brk)) (by repeat (first | exact hin | refine List.mem_cons_of_mem _ ?_))) hlb
                rw [hv]
                exact spans27 w1 (f k) a' (cf k) c' _ _ (hbr.at hw1 (by repeat (first | exact .head _ | refine .tail _ ?_))) hS)) rfl ?_
          refine qq_gt (by exact rfl) (by exact rfl) (OpY.s (y_not (by exact rfl))) rfl ?_
          refine qq_y (OpY.s (y_pick_f (by exact rfl) (by exact rfl))) rfl ?_
          refine qq_nil ?_
          refine sx_then ?_
          refine sc_f (lk_bool rfl (by simp)) ?_
          refine sc_skip ?_
          refine sx_blk ?_
          refine sx_then ?_
          refine sc_region ?_
          refine sq_y (OpY.s (y_add (by exact rfl) (by exact rfl) (by omega))) rfl ?_
          refine sq_y (OpY.s (y_move (by exact rfl))) rfl ?_
          refine sq_nil ?_
          refine sx_round (k + 1) ?_ ?_ (by repeat (first | exact SubL.nil | refine SubL.cons (by first | exact rfl | exact lk_int rfl (by omega) | exact lk_eq rfl (by simp)) ?_)) (by repeat (first | exact Sel.refl _ | exact Sel.nil | refine Sel.cons (by repeat (first | exact Rem.here | apply Rem.there)) ?_ | refine Sel.skip ?_))
          · omega
          · omega
        ·
          refine sc_exit ?_
          refine sx_then_exit ?_
          refine sx_round_exit ?_
          refine sx_blk_hit ?_
          refine sx_then ?_
          refine sc_seq ?_
          refine sc_seq ?_
          refine sc_region ?_
          refine sq_y (OpY.s (y_move (by exact rfl))) rfl ?_
          refine sq_y (OpY.s (y_len_own Try.underlying25 (by exact rfl) (by repeat (first | exact .head _ | refine .tail _ ?_)))) rfl ?_
          refine sq_y (OpY.s (y_move (by exact rfl))) rfl ?_
          refine sq_nil ?_
          refine sx_then ?_
          refine sc_block ?_
          refine sc_loop (σ := Nat)
            (fun s => [(1, .slice al ls.length cl), (11, v47), (13, .int .i64 (openE r ls (minB mz))), (14, v57), (16, .slice zr2.1 R.length zr2.2), (17, .int .i64 (openE r ls (minB mz))), (119, .int .i64 ls.length), (120, .int .i64 s)])
            (fun s => [.reg lr2 wr2, .own v57 32 2 R.length (flatS R), .own v47 57 4 ls.length (ls.flatMap wdRow), .reg 0 w])
            (fun s => s ≤ ls.length)
            (fun s => ls.length - s)
            (0) ?_ (by repeat (first | exact SubL.nil | refine SubL.cons (by first | exact rfl | exact lk_int rfl (by omega) | exact lk_eq rfl (by simp)) ?_)) (by repeat (first | exact Sel.refl _ | exact Sel.nil | refine Sel.cons (by repeat (first | exact Rem.here | apply Rem.there)) ?_ | refine Sel.skip ?_)) ?_
          · exact Nat.zero_le _
          rintro k hk
          refine sc_seq ?_
          refine sc_region ?_
          refine sq_y (OpY.s (y_lss (by exact rfl) (by exact rfl))) rfl ?_
          refine sq_nil ?_
          refine sx_then ?_
          refine sc_seq ?_
          first | refine sc_if (by exact rfl) (fun hc5 => ?_) (fun hc5 => ?_) | refine sc_ifn (by exact rfl) (fun hc5 => ?_) (fun hc5 => ?_) | refine sc_cond (by exact rfl) (fun hc5 => ?_) (fun hc5 => ?_)
          ·
            have hk' : k < ls.length := by omega
            obtain ⟨x, hx⟩ : ∃ x, ls[k]? = some x := ⟨_, List.getElem?_eq_getElem hk'⟩
            have hsm := (hl.el k x hx).1
            have hca := (hl.el k x hx).2
            refine sc_skip ?_
            refine sx_then ?_
            refine sc_seq ?_
            refine sc_block ?_
            refine sc_seq ?_
            refine sc_region ?_
            refine sq_y (OpY.s (y_move (by exact rfl))) rfl ?_
            refine sq_y (OpY.s (y_assign (by exact rfl))) rfl ?_
            refine sq_nil ?_
            refine sx_then ?_
            refine sc_seq ?_
            refine sc_draw rfl (by kernel_rfl) (by kernel_rfl) ?_
            refine qq_y (OpY.s (y_move (by exact rfl))) rfl ?_
            refine qq_y (OpY.s (y_move (by exact rfl))) rfl ?_
            refine qq_y (OpY.s (y_ia_own Try.underlying25 Try.sizeOf57 (by exact rfl) (by repeat (first | exact .head _ | refine .tail _ ?_)) (by exact rfl) hk')) rfl ?_
            refine qq_y (OpY.s (by first | exact y_load_own (row := wdRow x) Try.underlying57 rfl Try.sizeOf57 (by exact rfl) (by repeat (first | exact .head _ | refine .tail _ ?_)) hk' (fun j u hj => flat_get wdRow_len _ _ _ hx j u hj) rfl | exact y_load_all Try.underlying57 rfl Try.sizeOf57 (by exact rfl) (by repeat (first | exact .head _ | refine .tail _ ?_)) (by exact rfl) | exact y_load_ca Try.underlying57 rfl Try.sizeOf57 (by exact rfl) (by repeat (first | exact .head _ | refine .tail _ ?_)) (by assumption) (by exact rfl))) rfl ?_
            refine qq_y (OpY.s (y_move (by exact rfl))) rfl ?_
            refine qq_y (OpY.s (y_move (by exact rfl))) rfl ?_
            refine qq_y (OpY.s (by first | exact y_ia_blk Try.underlying25 Try.sizeOf57 (by exact rfl) (by exact rfl) (by omega) | exact y_ia_el Try.underlying25 Try.sizeOf57 (by exact rfl) (by exact rfl) (by omega) (by first | assumption | simp))) rfl ?_
            refine qq_y (OpY.s (by first | exact y_load_ca Try.underlying57 rfl Try.sizeOf57 (by exact rfl) (by repeat (first | exact .head _ | refine .tail _ ?_)) hca rfl | exact y_load_all Try.underlying57 rfl Try.sizeOf57 (by exact rfl) (by repeat (first | exact .head _ | refine .tail _ ?_)) (by exact rfl) | exact y_load_ca Try.underlying57 rfl Try.sizeOf57 (by exact rfl) (by repeat (first | exact .head _ | refine .tail _ ?_)) (by assumption) (by exact rfl))) rfl ?_
            refine qq_y (OpY.s (y_neqs (by kernel_rfl) (by exact rfl) (by exact rfl) (neq57s x))) rfl ?_
            refine qq_nil ?_
            refine sx_then ?_
            refine sc_f (lk_bool rfl (rfl)) ?_
            refine sc_skip ?_
            refine sx_blk ?_
            refine sx_then ?_
            refine sc_region ?_
            refine sq_y (OpY.s (y_add (by exact rfl) (by exact rfl) (by omega))) rfl ?_
            refine sq_y (OpY.s (y_move (by exact rfl))) rfl ?_
            refine sq_nil ?_
            refine sx_round (k + 1) ?_ ?_ (by repeat (first | exact SubL.nil | refine SubL.cons (by first | exact rfl | exact lk_int rfl (by omega) | exact lk_eq rfl (by simp)) ?_)) (by repeat (first | exact Sel.refl _ | exact Sel.nil | refine Sel.cons (by repeat (first | exact Rem.here | apply Rem.there)) ?_ | refine Sel.skip ?_))
            · omega
            · omega
          ·
            refine sc_exit ?_
            refine sx_then_exit ?_
            refine sx_round_exit ?_
            refine sx_blk_hit ?_
            refine sx_then ?_
            refine sc_seq ?_
            refine sc_region ?_
            refine sq_y (OpY.s (y_move (by exact rfl))) rfl ?_
            refine sq_y (OpY.s (y_move (by exact rfl))) rfl ?_
            refine sq_y (y_call (first := []) (caps := []) (by exact rfl) Try.call27 (EvL.cons (by exact rfl) (EvL.cons (by exact rfl) EvL.nil)) (fun w1 hw1 => by
                  obtain ⟨a', c', hv, hS⟩ := own_sps (w := w1) (base := 0) (e := 32) (v := v57) (l := R) (hw1.ok (.own v57 32 2 R.length (flatS R)) (by repeat (first | exact .head _ | refine .tail _ ?_))) (by omega)
                  rw [hv]
                  exact spans27 w1 zr2.1 a' zr2.2 c' _ _ (hr2.at hw1 (by repeat (first | exact .head _ | refine .tail _ ?_))) hS)) rfl ?_
            refine sq_y (OpY.s (y_move (by exact rfl))) rfl ?_
            refine sq_known (tt := 136) (b' := true) (by exact rfl) (by simp) ?_
            refine sq_gt (by exact rfl) (by exact rfl) (OpY.s (y_move (by exact rfl))) rfl ?_
            refine sq_gt (by exact rfl) (by exact rfl) (OpY.s (y_move (by exact rfl))) rfl ?_
            refine sq_gt (by exact rfl) (by exact rfl) (OpY.s (y_eql (by exact rfl) (by exact rfl))) rfl ?_
            refine sq_y (OpY.s (y_pick_t (by exact rfl) (by exact rfl))) rfl ?_
            refine sq_y (OpY.s (y_move (by exact rfl))) rfl ?_
            refine sq_known (tt := 141) (b' := true) (by exact rfl) (by simp) ?_
            refine sq_gt (by exact rfl) (by exact rfl) (y_call (first := []) (caps := []) (by exact rfl) Try.call14 EvL.nil (fun w1 _ => alive14 w1)) rfl ?_
            refine sq_y (OpY.s (y_pick_t (by exact rfl) (by exact rfl))) rfl ?_
            refine sq_y (OpY.s (y_assign (by exact rfl))) rfl ?_
            refine sq_nil ?_
            refine sx_then ?_
            refine sc_ret ?_
            refine sx_ret1 (.inl rfl) rfl Try.results12 (by exact rfl) ?_
            intro w' hw'
            exact ⟨rfl, hw'.below (by repeat (first | exact .head _ | refine .tail _ ?_))⟩
end Go.Proofs.Ytegdfpilhlcplaa
