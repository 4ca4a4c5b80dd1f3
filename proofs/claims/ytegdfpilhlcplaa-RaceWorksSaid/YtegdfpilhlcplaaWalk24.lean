/- The walk of RaceWorks. -/
import Derived.Test.YtegdfpilhlcplaaWalk18
import Derived.Test.YtegdfpilhlcplaaLaw10
import Derived.Test.YtegdfpilhlcplaaEng9
namespace Go.Proofs.Ytegdfpilhlcplaa
open Go Go.Eng Go.RowKit Go.Proofs
set_option maxRecDepth 100000
theorem tmRow_len (ts : List Tm) (f : Nat → Option Addr) (cf : Nat → Nat) (i : Nat) : (tmRow ts f cf i).length = 2 := rfl
def tmFlat (ts : List Tm) (f : Nat → Option Addr) (cf : Nat → Nat) : List Value := (List.range ts.length).flatMap (tmRow ts f cf)
theorem tmFlat_len (ts : List Tm) (f : Nat → Option Addr) (cf : Nat → Nat) : (tmFlat ts f cf).length = ts.length * 2 := by
  unfold tmFlat; rw [flat_len (tmRow_len ts f cf), List.length_range]
theorem tmFlat_cells {w : World} {ad : Addr} {ts : List Tm} {f : Nat → Option Addr} {cf : Nat → Nat} (hT : TmsA 0 w (some ad) ts f cf) : ∀ j u, (tmFlat ts f cf)[j]? = some u → w.cell? (ad.add j) = some u := by
  refine rows_cells (tmRow_len ts f cf) (by decide) fun i x hx => ?_
  have hi : i < ts.length := by have := (List.getElem?_eq_some_iff.1 hx).1; simpa using this
  rw [List.getElem?_range hi] at hx
  cases hx
  exact (hT.row i hi).2.2
theorem tmFlat_one (ts : List Tm) (f : Nat → Option Addr) (cf : Nat → Nat) : ∀ u ∈ tmFlat ts f cf, u.oneCell' = true := by
  intro u hu
  obtain ⟨i, _, h⟩ := List.mem_flatMap.1 hu
  simp [tmRow] at h
  rcases h with rfl | rfl <;> rfl
theorem flatS_cells {w : World} {ad : Addr} {l : List Sp} (h : SpsA 0 w (some ad) l) : ∀ j u, (flatS l)[j]? = some u → w.cell? (ad.add j) = some u := rows_cells spRow_len (by decide) fun i x hx => (h.el i x hx).2
theorem flatS_one (l : List Sp) : ∀ u ∈ flatS l, u.oneCell' = true := by
  intro u hu
  obtain ⟨i, _, h⟩ := List.mem_flatMap.1 hu
  simp [spRow] at h
  rcases h with rfl | rfl <;> rfl
theorem take_get {α : Type} {l xs : List α} {n k : Nat} {v : α} (h : l.take n = xs) (hk : xs[k]? = some v) : l[k]? = some v := by
  rw [← h, List.getElem?_take] at hk
  split at hk
  · exact hk
  · cases hk
theorem SpsA.noa {lo : Nat} {wr : World} {a : Option Addr} {l : List Sp} (h : SpsA lo wr a l) (ha : a = none) : l.length = 0 := by
  rcases Nat.eq_zero_or_pos l.length with h0 | h0
  · exact h0
  · have := (h.row 0 h0).1; rw [ha] at this; cases this
theorem TmsA.noa {lo : Nat} {wr : World} {a : Option Addr} {l : List Tm} {f cf} (h : TmsA lo wr a l f cf) (ha : a = none) : l.length = 0 := by
  rcases Nat.eq_zero_or_pos l.length with h0 | h0
  · exact h0
  · have := (h.row 0 h0).1; rw [ha] at this; cases this
theorem more_tms {w0 w : World} {rs : List Res} (hw : Hp w0 rs w) {g g2 cap2 : Nat} {cur cur2 : Array Value} {r : Rc} {a : Option Addr} {f : Nat → Option Addr} {cf : Nat → Nat} {t : Nat} {s : Sp} {e1 e2 : TypeId} {z1 z2 : Nat × Nat} (ht : t < r.teams.length) (hlb : (brkOf r t).length < 4)
    (h1 : Res.blk g (.cells (cur.setIfInBounds (0 + t * 2 + 1) (.slice (some ⟨g2, 0, none⟩) ((brkOf r t).length + 1) cap2)) e1 z1) ∈ rs) (h2 : Res.blk g2 (.cells cur2 e2 z2) ∈ rs) (hT : TmsA 0 w a r.teams f cf)
    (hc : cur.toList.take (r.teams.length * 2) = tmFlat r.teams f cf) (hc2 : cur2.toList.take (((brkOf r t).length + 1) * 2) = flatS (brkOf r t ++ [s])) :
    TmsA 0 w (some ⟨g, 0, none⟩) (moreR r t s).teams (fun i => if i = t then some ⟨g2, 0, none⟩ else f i) (fun i => if i = t then cap2 else cf i) := by
  have hcell : ∀ i j v, i < r.teams.length → (tmRow r.teams f cf i)[j]? = some v → cur[i * 2 + j]? = some v := fun i j v hi hj => by
    have := take_get hc (flat_get (tmRow_len r.teams f cf) (List.range r.teams.length) i i (List.getElem?_range hi) j v hj)
    simpa using this
  have hsz : r.teams.length * 2 ≤ cur.size := by
    have h3 := congrArg List.length hc
    rw [tmFlat_len, List.length_take] at h3
    simp at h3; omega
  have hbrk : ∀ i x, r.teams[i]? = some x → brkOf r i = x.brk := fun i x hx => by unfold brkOf; rw [getD_of hx]
  refine ⟨fun i x hx => ⟨rfl, ?_⟩, fun i x hx => ?_, by rw [moreR_len]; exact hT.len⟩
  · have hi : i < r.teams.length := by have := (List.getElem?_eq_some_iff.1 hx).1; rwa [moreR_len] at this
    have e : elt (some ⟨g, 0, none⟩) i 2 = (⟨g, i * 2, none⟩ : Addr) := by simp [elt, Addr.add_lit]
    rw [e]
    refine ⟨Nat.zero_le _, fun j v hj => ?_⟩
    rw [Addr.add_lit, cell_blk hw h1, Array.getElem?_setIfInBounds]
    by_cases et : i = t
    · subst et
      rw [moreR_get hi] at hx
      cases hx
      simp only [if_true, List.length_append, List.length_cons, List.length_nil] at hj
      rcases j with _ | _ | j
      · rw [if_neg (by omega)]
        refine hcell i 0 v hi ?_
        simpa [tmRow, penOf, tm0] using hj
      · rw [if_pos (by omega), if_pos (by omega)]
        simpa using hj
      · simp at hj
    · rw [moreR_ne et] at hx
      have hj2 : j < 2 := by have := (List.getElem?_eq_some_iff.1 hj).1; simpa using this
      rw [if_neg (by omega)]
      refine hcell i j v hi ?_
      simp only [if_neg et] at hj
      unfold tmRow; rw [getD_of hx]; exact hj
  · by_cases et : i = t
    · subst et
      rw [moreR_get ht] at hx
      cases hx
      simp only [if_true]
      refine ⟨fun k y hy => ⟨rfl, ?_⟩, by simp; omega⟩
      have e : elt (some ⟨g2, 0, none⟩) k 2 = (⟨g2, k * 2, none⟩ : Addr) := by simp [elt, Addr.add_lit]
      rw [e]
      refine ⟨Nat.zero_le _, fun j v hj => ?_⟩
      rw [Addr.add_lit, cell_blk hw h2]
      have := take_get hc2 (flatS_get _ k y hy j v hj)
      simpa using this
    · rw [moreR_ne et] at hx
      simp only [if_neg et]
      exact hT.br i x hx
theorem worked15w (w : World) (v : Value) (r : Rc) (t m : Nat) (mz : Int) (hmz : mz = m) (hr : RcA 0 w v r) (hok : rcB r = true) (ht : t < r.teams.length) (hm : m ≤ 2000) : Calls Try.prog 15 #[v, .int .i64 t, .int .i64 mz] w fun e w' => e = .returned (.tuple #[.int .i64 (wrk r t m), .int .i64 0]) ∧ Below w.heap.size w w' := by
  subst hmz
  have h := worked15 w v r t m hr
  rw [if_neg (by simp [hok]), if_pos (by omega), Int.toNat_natCast, Int.toNat_natCast] at h
  exact h

theorem works11a (w : World) (r : Rc) (a : Option Addr) (c : Nat) (f : Nat → Option Addr) (cf : Nat → Nat) (tz mz fz lz : Int) (hT : TmsA 0 w a r.teams f cf) (i1 : InI r.p) (i2 : InI r.lim) (i3 : InI r.rate) (E : Int) (hE : E ≠ 0) (hX : (if rcB r = false then Value.tuple #[.int .i64 0, .int .i64 1] else if 0 ≤ tz ∧ tz ≤ (r.teams.length : Int) - 1 ∧ 0 ≤ mz ∧ mz ≤ 2000 then .tuple #[.int .i64 (wrk r tz.toNat mz.toNat), .int .i64 0] else .tuple #[.int .i64 0, .int .i64 2]) = .tuple #[.int .i64 0, .int .i64 E]) : Calls Try.prog 11 #[.agg (rcVal r a c).toArray, .int .i64 tz, .int .i64 mz, .int .u16 fz, .int .u16 lz] w fun e w' => e = .returned (.bool true) ∧ Below w.heap.size w w' := by
  refine calls_of_SC (args := [.agg (rcVal r a c).toArray, .int .i64 tz, .int .i64 mz, .int .u16 fz, .int .u16 lz]) Try.func11 rfl Try.ntmps11 rfl ?_
  simp only [argL, Nat.reduceAdd, Nat.zero_add]
  refine sc_seq ?_
  refine sc_region ?_
  refine sq_box (by exact rfl) rfl (fun b5 => ?_)
  refine sq_y (OpY.s (y_assign (by exact rfl))) rfl ?_
  refine sq_nil ?_
  refine sx_then ?_
  refine sc_seq ?_
  refine sc_seq ?_
  refine sc_region ?_
  refine sq_y (OpY.s (by first | exact y_load_all Try.underlying24 rfl Try.sizeOf24 (by exact rfl) (by repeat (first | exact .head _ | refine .tail _ ?_)) (by exact rfl) | exact y_load_ca Try.underlying24 rfl Try.sizeOf24 (by exact rfl) (by repeat (first | exact .head _ | refine .tail _ ?_)) (by assumption) (by exact rfl))) rfl ?_
  refine sq_y (y_call (first := []) (caps := []) (by exact rfl) Try.call13 (EvL.cons (by exact rfl) (EvL.cons (by exact rfl) EvL.nil)) (fun w1 hw1 => great13 w1 r a c f cf none 0 [] (hT.at hw1 (by repeat (first | exact .head _ | refine .tail _ ?_))) (by decide))) rfl ?_
  refine sq_y (OpY.s (y_move (by exact rfl))) rfl ?_
  first | refine sq_splitd (tt := 25) (by exact rfl) (fun hg1_2 => ?_) (fun hg1_2 => ?_) | refine sq_splitn (tt := 25) (by exact rfl) (fun hg1_2 => ?_) (fun hg1_2 => ?_) | refine sq_split (tt := 25) (by exact rfl) (fun hg1_2 => ?_) (fun hg1_2 => ?_)
  ·
    refine sq_gf (by exact rfl) (by exact rfl) (by exact rfl) rfl ?_
    refine sq_gf (by exact rfl) (by exact rfl) (by exact rfl) rfl ?_
    refine sq_y (OpY.s (y_pick_t (by exact rfl) (by exact rfl))) rfl ?_
    refine sq_nil ?_
    refine sx_then ?_
    refine sc_t (by exact rfl) ?_
    refine sc_seq ?_
    refine sc_region ?_
    refine sq_y (y_call (first := []) (caps := []) (by exact rfl) Try.call14 EvL.nil (fun w1 _ => alive14 w1)) rfl ?_
    refine sq_y (OpY.s (y_assign (by exact rfl))) rfl ?_
    refine sq_nil ?_
    refine sx_then ?_
    refine sc_ret ?_
    refine sx_then_ret ?_
    refine sx_ret1 (.inl rfl) rfl Try.results11 (by exact rfl) ?_
    intro w' hw'
    exact ⟨rfl, hw'.below (by repeat (first | exact .head _ | refine .tail _ ?_))⟩
  ·
    refine sq_gt (by exact rfl) (by exact rfl) (OpY.s (y_move (by exact rfl))) rfl ?_
    refine sq_gt (by exact rfl) (by exact rfl) (OpY.s (y_geq (by exact rfl) (by exact rfl))) rfl ?_
    refine sq_y (OpY.s (y_pick_f (by exact rfl) (by exact rfl))) rfl ?_
    refine sq_nil ?_
    refine sx_then ?_
    first | refine sc_if (by exact rfl) (fun hc0 => ?_) (fun hc0 => ?_) | refine sc_ifn (by exact rfl) (fun hc0 => ?_) (fun hc0 => ?_) | refine sc_cond (by exact rfl) (fun hc0 => ?_) (fun hc0 => ?_)
    ·
      refine sc_seq ?_
      refine sc_region ?_
      refine sq_y (y_call (first := []) (caps := []) (by exact rfl) Try.call14 EvL.nil (fun w1 _ => alive14 w1)) rfl ?_
      refine sq_y (OpY.s (y_assign (by exact rfl))) rfl ?_
      refine sq_nil ?_
      refine sx_then ?_
      refine sc_ret ?_
      refine sx_then_ret ?_
      refine sx_ret1 (.inl rfl) rfl Try.results11 (by exact rfl) ?_
      intro w' hw'
      exact ⟨rfl, hw'.below (by repeat (first | exact .head _ | refine .tail _ ?_))⟩
    ·
      refine sc_skip ?_
      refine sx_then ?_
      refine sc_seq ?_
      refine sc_region ?_
      refine sq_y (OpY.s (by first | exact y_load_all Try.underlying24 rfl Try.sizeOf24 (by exact rfl) (by repeat (first | exact .head _ | refine .tail _ ?_)) (by exact rfl) | exact y_load_ca Try.underlying24 rfl Try.sizeOf24 (by exact rfl) (by repeat (first | exact .head _ | refine .tail _ ?_)) (by assumption) (by exact rfl))) rfl ?_
      refine sq_y (OpY.s (y_move (by exact rfl))) rfl ?_
      refine sq_y (OpY.s (y_move (by exact rfl))) rfl ?_
      refine sq_y (y_call (first := []) (caps := []) (by exact rfl) Try.call15 (EvL.cons (by exact rfl) (EvL.cons (by exact rfl) (EvL.cons (by exact rfl) EvL.nil))) (fun w1 hw1 => (worked15 w1 _ r tz mz ((hT.at hw1 (by repeat (first | exact .head _ | refine .tail _ ?_))).rc i1 i2 i3)).mono (fun e w' h => ⟨h.1.trans (congrArg Ending.returned hX), h.2⟩))) rfl ?_
      refine sq_y (OpY.s (y_move (by exact rfl))) rfl ?_
      refine sq_y (OpY.s (y_extract (by exact rfl) (by exact rfl))) rfl ?_
      refine sq_y (OpY.s (y_extract (by exact rfl) (by exact rfl))) rfl ?_
      refine sq_y (OpY.s (y_assign (by exact rfl))) rfl ?_
      refine sq_y (OpY.s (y_assign (by exact rfl))) rfl ?_
      refine sq_nil ?_
      refine sx_then ?_
      refine sc_seq ?_
      refine sc_seq ?_
      refine sc_region ?_
      refine sq_y (OpY.s (y_move (by exact rfl))) rfl ?_
      refine sq_y (OpY.s (y_neq (by exact rfl) (by exact rfl))) rfl ?_
      refine sq_y (OpY.s (y_move (by exact rfl))) rfl ?_
      refine sq_known (tt := 39) (b' := true) (by exact rfl) (by simp [hE]) ?_
      refine sq_gf (by exact rfl) (by exact rfl) (by exact rfl) rfl ?_
      refine sq_gf (by exact rfl) (by exact rfl) (by exact rfl) rfl ?_
      refine sq_gf (by exact rfl) (by exact rfl) (by exact rfl) rfl ?_
      refine sq_y (OpY.s (y_pick_t (by exact rfl) (by exact rfl))) rfl ?_
      refine sq_nil ?_
      refine sx_then ?_
      refine sc_t (by exact rfl) ?_
      refine sc_seq ?_
      refine sc_region ?_
      refine sq_y (OpY.s (y_move (by exact rfl))) rfl ?_
      refine sq_y (OpY.s (y_eql (by exact rfl) (by exact rfl))) rfl ?_
      refine sq_y (OpY.s (y_move (by exact rfl))) rfl ?_
      refine sq_known (tt := 46) (b' := true) (by exact rfl) (by simp) ?_
      refine sq_gt (by exact rfl) (by exact rfl) (OpY.s (y_move (by exact rfl))) rfl ?_
      refine sq_gt (by exact rfl) (by exact rfl) (OpY.s (y_neq (by exact rfl) (by exact rfl))) rfl ?_
      refine sq_y (OpY.s (y_pick_t (by exact rfl) (by exact rfl))) rfl ?_
      refine sq_y (OpY.s (y_move (by exact rfl))) rfl ?_
      refine sq_known (tt := 50) (b' := true) (by exact rfl) (by simp [hE]) ?_
      refine sq_gt (by exact rfl) (by exact rfl) (y_call (first := []) (caps := []) (by exact rfl) Try.call14 EvL.nil (fun w1 _ => alive14 w1)) rfl ?_
      refine sq_y (OpY.s (y_pick_t (by exact rfl) (by exact rfl))) rfl ?_
      refine sq_y (OpY.s (y_assign (by exact rfl))) rfl ?_
      refine sq_nil ?_
      refine sx_then ?_
      refine sc_ret ?_
      refine sx_then_ret ?_
      refine sx_ret1 (.inl rfl) rfl Try.results11 (by exact rfl) ?_
      intro w' hw'
      exact ⟨rfl, hw'.below (by repeat (first | exact .head _ | refine .tail _ ?_))⟩
theorem works11b (w : World) (r : Rc) (a : Option Addr) (c : Nat) (f : Nat → Option Addr) (cf : Nat → Nat) (t m : Nat) (fz lz : Int) (hT : TmsA 0 w a r.teams f cf) (i1 : InI r.p) (i2 : InI r.lim) (i3 : InI r.rate) (hok : rcB r = true) (ht : t < r.teams.length) (hm : m ≤ 2000) (hfz : 0 ≤ fz ∧ fz ≤ 65535) (hlz : 0 ≤ lz ∧ lz ≤ 65535) : Calls Try.prog 11 #[.agg (rcVal r a c).toArray, .int .i64 t, .int .i64 m, .int .u16 fz, .int .u16 lz] w fun e w' => e = .returned (.bool true) ∧ Below w.heap.size w w' := by
  have hlen := hT.len
  have hlim := rcB_nums hok
  have hwk := wrk_le r t m (by omega)
  obtain ⟨tm, htm⟩ : ∃ tm, r.teams[t]? = some tm := ⟨_, List.getElem?_eq_getElem ht⟩
  have hsomeT := (hT.el t tm htm).1
  have hcaT := (hT.el t tm htm).2
  have hbr := hT.br t tm htm
  have hbrk : brkOf r t = tm.brk := by unfold brkOf; rw [getD_of htm]
  have hlenB := hbr.len
  have hws := wrk_succ r t m
  rw [hbrk] at hws
  have hw0 := wrk_zero r t
  have hgo : ∀ x, a = some x → True := fun _ _ => trivial
  refine calls_of_SC (args := [.agg (rcVal r a c).toArray, .int .i64 t, .int .i64 m, .int .u16 fz, .int .u16 lz]) Try.func11 rfl Try.ntmps11 rfl ?_
  simp only [argL, Nat.reduceAdd, Nat.zero_add]
  refine sc_seq ?_
  refine sc_region ?_
  refine sq_box (by exact rfl) rfl (fun b5 => ?_)
  refine sq_y (OpY.s (y_assign (by exact rfl))) rfl ?_
  refine sq_nil ?_
  refine sx_then ?_
  refine sc_seq ?_
  refine sc_seq ?_
  refine sc_region ?_
  refine sq_y (OpY.s (by first | exact y_load_all Try.underlying24 rfl Try.sizeOf24 (by exact rfl) (by repeat (first | exact .head _ | refine .tail _ ?_)) (by exact rfl) | exact y_load_ca Try.underlying24 rfl Try.sizeOf24 (by exact rfl) (by repeat (first | exact .head _ | refine .tail _ ?_)) (by assumption) (by exact rfl))) rfl ?_
  refine sq_y (y_call (first := []) (caps := []) (by exact rfl) Try.call13 (EvL.cons (by exact rfl) (EvL.cons (by exact rfl) EvL.nil)) (fun w1 hw1 => great13 w1 r a c f cf none 0 [] (hT.at hw1 (by repeat (first | exact .head _ | refine .tail _ ?_))) (by decide))) rfl ?_
  refine sq_y (OpY.s (y_move (by exact rfl))) rfl ?_
  first | refine sq_splitd (tt := 25) (by exact rfl) (fun hg1_2 => ?_) (fun hg1_2 => ?_) | refine sq_splitn (tt := 25) (by exact rfl) (fun hg1_2 => ?_) (fun hg1_2 => ?_) | refine sq_split (tt := 25) (by exact rfl) (fun hg1_2 => ?_) (fun hg1_2 => ?_)
  ·
    refine sq_gf (by exact rfl) (by exact rfl) (by exact rfl) rfl ?_
    refine sq_gf (by exact rfl) (by exact rfl) (by exact rfl) rfl ?_
    refine sq_y (OpY.s (y_pick_t (by exact rfl) (by exact rfl))) rfl ?_
    refine sq_nil ?_
    refine sx_then ?_
    refine sc_t (by exact rfl) ?_
    refine sc_seq ?_
    refine sc_region ?_
    refine sq_y (y_call (first := []) (caps := []) (by exact rfl) Try.call14 EvL.nil (fun w1 _ => alive14 w1)) rfl ?_
    refine sq_y (OpY.s (y_assign (by exact rfl))) rfl ?_
    refine sq_nil ?_
    refine sx_then ?_
    refine sc_ret ?_
    refine sx_then_ret ?_
    refine sx_ret1 (.inl rfl) rfl Try.results11 (by exact rfl) ?_
    intro w' hw'
    exact ⟨rfl, hw'.below (by repeat (first | exact .head _ | refine .tail _ ?_))⟩
  ·
    refine sq_gt (by exact rfl) (by exact rfl) (OpY.s (y_move (by exact rfl))) rfl ?_
    refine sq_gt (by exact rfl) (by exact rfl) (OpY.s (y_geq (by exact rfl) (by exact rfl))) rfl ?_
    refine sq_y (OpY.s (y_pick_f (by exact rfl) (by exact rfl))) rfl ?_
    refine sq_nil ?_
    refine sx_then ?_
    first | refine sc_if (by exact rfl) (fun hc0 => ?_) (fun hc0 => ?_) | refine sc_ifn (by exact rfl) (fun hc0 => ?_) (fun hc0 => ?_) | refine sc_cond (by exact rfl) (fun hc0 => ?_) (fun hc0 => ?_)
    ·
      refine sc_seq ?_
      refine sc_region ?_
      refine sq_y (y_call (first := []) (caps := []) (by exact rfl) Try.call14 EvL.nil (fun w1 _ => alive14 w1)) rfl ?_
      refine sq_y (OpY.s (y_assign (by exact rfl))) rfl ?_
      refine sq_nil ?_
      refine sx_then ?_
      refine sc_ret ?_
      refine sx_then_ret ?_
      refine sx_ret1 (.inl rfl) rfl Try.results11 (by exact rfl) ?_
      intro w' hw'
      exact ⟨rfl, hw'.below (by repeat (first | exact .head _ | refine .tail _ ?_))⟩
    ·
      refine sc_skip ?_
      refine sx_then ?_
      refine sc_seq ?_
      refine sc_region ?_
      refine sq_y (OpY.s (by first | exact y_load_all Try.underlying24 rfl Try.sizeOf24 (by exact rfl) (by repeat (first | exact .head _ | refine .tail _ ?_)) (by exact rfl) | exact y_load_ca Try.underlying24 rfl Try.sizeOf24 (by exact rfl) (by repeat (first | exact .head _ | refine .tail _ ?_)) (by assumption) (by exact rfl))) rfl ?_
      refine sq_y (OpY.s (y_move (by exact rfl))) rfl ?_
      refine sq_y (OpY.s (y_move (by exact rfl))) rfl ?_
      refine sq_y (y_call (first := []) (caps := []) (by exact rfl) Try.call15 (EvL.cons (by exact rfl) (EvL.cons (by exact rfl) (EvL.cons (by exact rfl) EvL.nil))) (fun w1 hw1 => worked15w w1 _ r t (m) m (by omega) ((hT.at hw1 (by repeat (first | exact .head _ | refine .tail _ ?_))).rc i1 i2 i3) hok ht (by omega))) rfl ?_
      refine sq_y (OpY.s (y_move (by exact rfl))) rfl ?_
      refine sq_y (OpY.s (y_extract (by exact rfl) (by exact rfl))) rfl ?_
      refine sq_y (OpY.s (y_extract (by exact rfl) (by exact rfl))) rfl ?_
      refine sq_y (OpY.s (y_assign (by exact rfl))) rfl ?_
      refine sq_y (OpY.s (y_assign (by exact rfl))) rfl ?_
      refine sq_nil ?_
      refine sx_then ?_
      refine sc_seq ?_
      refine sc_seq ?_
      refine sc_region ?_
      refine sq_y (OpY.s (y_move (by exact rfl))) rfl ?_
      refine sq_y (OpY.s (y_neq (by exact rfl) (by exact rfl))) rfl ?_
      refine sq_y (OpY.s (y_move (by exact rfl))) rfl ?_
      refine sq_known (tt := 39) (b' := false) (by exact rfl) (by simp) ?_
      refine sq_gt (by exact rfl) (by exact rfl) (OpY.s (by first | exact y_load_all Try.underlying24 rfl Try.sizeOf24 (by exact rfl) (by repeat (first | exact .head _ | refine .tail _ ?_)) (by exact rfl) | exact y_load_ca Try.underlying24 rfl Try.sizeOf24 (by exact rfl) (by repeat (first | exact .head _ | refine .tail _ ?_)) (by assumption) (by exact rfl))) rfl ?_
      refine sq_gt (by exact rfl) (by exact rfl) (y_call (first := []) (caps := []) (by exact rfl) Try.call31 (EvL.cons (by exact rfl) EvL.nil) (fun w1 hw1 => race31 w1 _ r ((hT.at hw1 (by repeat (first | exact .head _ | refine .tail _ ?_))).rc i1 i2 i3))) rfl ?_
      refine sq_gt (by exact rfl) (by exact rfl) (OpY.s (y_not (by exact rfl))) rfl ?_
      refine sq_y (OpY.s (y_pick_f (by exact rfl) (by exact rfl))) rfl ?_
      refine sq_nil ?_
      refine sx_then ?_
      refine sc_f (lk_bool rfl (by simp [hok])) ?_
      refine sc_skip ?_
      refine sx_then ?_
      refine sc_seq ?_
      refine sc_region ?_
      refine sq_y (OpY.s (by first | exact y_load_all Try.underlying24 rfl Try.sizeOf24 (by exact rfl) (by repeat (first | exact .head _ | refine .tail _ ?_)) (by exact rfl) | exact y_load_ca Try.underlying24 rfl Try.sizeOf24 (by exact rfl) (by repeat (first | exact .head _ | refine .tail _ ?_)) (by assumption) (by exact rfl))) rfl ?_
      refine sq_y (OpY.s (y_move (by exact rfl))) rfl ?_
      refine sq_y (OpY.s (y_move (by exact rfl))) rfl ?_
      refine sq_y (OpY.s (y_add (by exact rfl) (by exact rfl) (by omega))) rfl ?_
      refine sq_y (y_call (first := []) (caps := []) (by exact rfl) Try.call15 (EvL.cons (by exact rfl) (EvL.cons (by exact rfl) (EvL.cons (by exact rfl) EvL.nil))) (fun w1 hw1 => worked15w w1 _ r t (m + 1) _ (by omega) ((hT.at hw1 (by repeat (first | exact .head _ | refine .tail _ ?_))).rc i1 i2 i3) hok ht (by omega))) rfl ?_
      refine sq_y (OpY.s (y_move (by exact rfl))) rfl ?_
      refine sq_y (OpY.s (y_extract (by exact rfl) (by exact rfl))) rfl ?_
      refine sq_y (OpY.s (y_extract (by exact rfl) (by exact rfl))) rfl ?_
      refine sq_y (OpY.s (y_assign (by exact rfl))) rfl ?_
      refine sq_y (OpY.s (y_assign (by exact rfl))) rfl ?_
      refine sq_nil ?_
      refine sx_then ?_
      refine sc_seq ?_
      refine sc_region ?_
      refine sq_y (OpY.s (y_assign (by exact rfl))) rfl ?_
      refine sq_nil ?_
      refine sx_then ?_
      refine sc_seq ?_
      refine sc_seq ?_
      refine sc_region ?_
      refine sq_y (OpY.s (by first | exact y_fab Try.underlying24 (by exact rfl) (by exact Try.sizeOf22) (by exact rfl) rfl | exact y_fa Try.underlying24 (by exact rfl) (by exact Try.sizeOf22) (by exact rfl) rfl)) rfl ?_
      refine sq_y (OpY.s (by first | exact y_load_blk Try.underlying22 rfl (by exact rfl) (by repeat (first | exact .head _ | refine .tail _ ?_)) (by exact rfl) | exact y_load_caj Try.underlying22 rfl (by exact rfl) (by repeat (first | exact .head _ | refine .tail _ ?_)) (by assumption) (by exact rfl) | exact y_load_ca0 Try.underlying22 rfl (by exact rfl) (by repeat (first | exact .head _ | refine .tail _ ?_)) (by assumption) (by exact rfl))) rfl ?_
      refine sq_y (OpY.s (y_move (by exact rfl))) rfl ?_
      refine sq_y (OpY.s (by first | exact y_ia_blk Try.underlying22 Try.sizeOf66 (by exact rfl) (by exact rfl) (by omega) | exact y_ia_el Try.underlying22 Try.sizeOf66 (by exact rfl) (by exact rfl) (by omega) (by first | assumption | simp))) rfl ?_
      refine sq_y (OpY.s (by first | exact y_fab Try.underlying66 (by exact rfl) (by exact Try.sizeOf36) (by exact rfl) rfl | exact y_fa Try.underlying66 (by exact rfl) (by exact Try.sizeOf36) (by exact rfl) rfl)) rfl ?_
      refine sq_y (OpY.s (by first | exact y_load_caj Try.underlying36 rfl (by exact rfl) (by repeat (first | exact .head _ | refine .tail _ ?_)) hcaT rfl | exact y_load_blk Try.underlying36 rfl (by exact rfl) (by repeat (first | exact .head _ | refine .tail _ ?_)) (by exact rfl) | exact y_load_caj Try.underlying36 rfl (by exact rfl) (by repeat (first | exact .head _ | refine .tail _ ?_)) (by assumption) (by exact rfl) | exact y_load_ca0 Try.underlying36 rfl (by exact rfl) (by repeat (first | exact .head _ | refine .tail _ ?_)) (by assumption) (by exact rfl))) rfl ?_
      refine sq_y (OpY.s (y_len Try.underlying36 (by exact rfl))) rfl ?_
      refine sq_y (OpY.s (y_move (by exact rfl))) rfl ?_
      refine sq_nil ?_
      refine sx_then ?_
      refine sc_block ?_
      refine sc_loop (σ := Nat)
        (fun s => [(1, .int .i64 t), (2, .int .i64 m), (3, .int .u16 fz), (4, .int .u16 lz), (5, .pointer (some ⟨b5, 0, none⟩)), (11, .int .i64 (wrk r t m)), (13, .int .i64 (wrk r t (m + 1))), (14, .int .i64 0), (15, .bool (offB (tm.brk.take s) m)), (66, .slice (f t) tm.brk.length (cf t)), (67, .int .i64 tm.brk.length), (68, .int .i64 s)])
        (fun s => [.blk b5 (.cells (rcVal r a c).toArray 24 (0, 0)), .reg 0 w])
        (fun s => s ≤ tm.brk.length)
        (fun s => tm.brk.length - s)
        (0) ?_ (by repeat (first | exact SubL.nil | refine SubL.cons (by first | exact rfl | exact lk_int rfl (by omega) | exact lk_eq rfl (by simp)) ?_)) (by repeat (first | exact Sel.nil | refine Sel.cons (by repeat (first | exact Rem.here | apply Rem.there)) ?_)) ?_
      · exact Nat.zero_le _
      rintro k hk
      refine sc_seq ?_
      refine sc_region ?_
      refine sq_y (OpY.s (y_lss (by exact rfl) (by exact rfl))) rfl ?_
      refine sq_nil ?_
      refine sx_then ?_
      refine sc_seq ?_
      first | refine sc_if (by exact rfl) (fun hc2 => ?_) (fun hc2 => ?_) | refine sc_ifn (by exact rfl) (fun hc2 => ?_) (fun hc2 => ?_) | refine sc_cond (by exact rfl) (fun hc2 => ?_) (fun hc2 => ?_)
      ·
        have hk' : k < tm.brk.length := by omega
        obtain ⟨sp, hs⟩ : ∃ sp, tm.brk[k]? = some sp := ⟨_, List.getElem?_eq_getElem hk'⟩
        have hsm := (hbr.el k sp hs).1
        have hca := (hbr.el k sp hs).2
        refine sc_skip ?_
        refine sx_then ?_
        refine sc_seq ?_
        refine sc_block ?_
        refine sc_seq ?_
        refine sc_region ?_
        refine sq_y (OpY.s (by first | exact y_ia_blk Try.underlying36 Try.sizeOf32 (by exact rfl) (by exact rfl) (by omega) | exact y_ia_el Try.underlying36 Try.sizeOf32 (by exact rfl) (by exact rfl) (by omega) (by first | assumption | simp))) rfl ?_
        refine sq_y (OpY.s (by first | exact y_load_ca Try.underlying32 rfl Try.sizeOf32 (by exact rfl) (by repeat (first | exact .head _ | refine .tail _ ?_)) hca rfl | exact y_load_all Try.underlying32 rfl Try.sizeOf32 (by exact rfl) (by repeat (first | exact .head _ | refine .tail _ ?_)) (by exact rfl) | exact y_load_2 Try.underlying32 rfl Try.sizeOf32 (by exact rfl) (by repeat (first | exact .head _ | refine .tail _ ?_)) (by exact rfl) (by exact rfl) | exact y_load_ca Try.underlying32 rfl Try.sizeOf32 (by exact rfl) (by repeat (first | exact .head _ | refine .tail _ ?_)) (by assumption) (by exact rfl))) rfl ?_
        refine sq_alloc Try.zeroValue32 rfl (fun b17 => ?_)
        refine sq_store_all Try.sizeOf32 (by exact rfl) (by exact rfl) rfl (by repeat (first | exact Rem.here | apply Rem.there)) rfl rfl ?_
        refine sq_nil ?_
        refine sx_then ?_
        refine sc_merge 15 (.bool (offB (tm.brk.take (k + 1)) m)) ?_ ?_
        ·
          refine sc_region ?_
          refine sq_y (OpY.s (y_move (by exact rfl))) rfl ?_
          refine sq_y (OpY.s (y_move (by exact rfl))) rfl ?_
          first | refine sq_splitd (tt := 73) (by exact rfl) (fun hg11_1 => ?_) (fun hg11_1 => ?_) | refine sq_splitn (tt := 73) (by exact rfl) (fun hg11_1 => ?_) (fun hg11_1 => ?_) | refine sq_split (tt := 73) (by exact rfl) (fun hg11_1 => ?_) (fun hg11_1 => ?_)
          ·
            refine sq_gf (by exact rfl) (by exact rfl) (by exact rfl) rfl ?_
            refine sq_gf (by exact rfl) (by exact rfl) (by exact rfl) rfl ?_
            refine sq_gf (by exact rfl) (by exact rfl) (by exact rfl) rfl ?_
            refine sq_gf (by exact rfl) (by exact rfl) (by exact rfl) rfl ?_
            refine sq_gf (by exact rfl) (by exact rfl) (by exact rfl) rfl ?_
            refine sq_gu (by exact rfl) (by exact rfl) rfl ?_
            refine sq_gu (by exact rfl) (by exact rfl) rfl ?_
            refine sq_gu (by exact rfl) (by exact rfl) rfl ?_
            refine sq_gu (by exact rfl) (by exact rfl) rfl ?_
            refine sq_gf (by exact rfl) (by exact rfl) (by exact rfl) rfl ?_
            refine sq_y (OpY.s (y_pick_t (by exact rfl) (by exact rfl))) rfl ?_
            refine sq_y (OpY.s (y_assign (by exact rfl))) rfl ?_
            refine sq_nil ?_
            refine sx_merge ?_ ?_
            · exact lk_bool rfl (by rw [offB_take_succ hs]; simp [*])
            · exact (by repeat (first | exact SubX.refl _ _ | refine SubX.skipT ?_ | refine SubX.skip rfl ?_))
          ·
            refine sq_gt (by exact rfl) (by exact rfl) (OpY.s (y_move (by exact rfl))) rfl ?_
            refine sq_gt (by exact rfl) (by exact rfl) (OpY.s (by first | exact y_fab Try.underlying32 (by exact rfl) (by exact Try.sizeOf3) (by exact rfl) rfl | exact y_fa Try.underlying32 (by exact rfl) (by exact Try.sizeOf3) (by exact rfl) rfl)) rfl ?_
            refine sq_gt (by exact rfl) (by exact rfl) (OpY.s (by first | exact y_load_blk Try.underlying3 rfl (by exact rfl) (by repeat (first | exact .head _ | refine .tail _ ?_)) (by exact rfl) | exact y_load_caj Try.underlying3 rfl (by exact rfl) (by repeat (first | exact .head _ | refine .tail _ ?_)) (by assumption) (by exact rfl) | exact y_load_ca0 Try.underlying3 rfl (by exact rfl) (by repeat (first | exact .head _ | refine .tail _ ?_)) (by assumption) (by exact rfl))) rfl ?_
            refine sq_gt (by exact rfl) (by exact rfl) (OpY.s (y_geq (by exact rfl) (by exact rfl))) rfl ?_
            refine sq_gt (by exact rfl) (by exact rfl) (OpY.s (y_move (by exact rfl))) rfl ?_
            first | refine sq_splitd (tt := 78) (by exact rfl) (fun hg11_6 => ?_) (fun hg11_6 => ?_) | refine sq_splitn (tt := 78) (by exact rfl) (fun hg11_6 => ?_) (fun hg11_6 => ?_) | refine sq_split (tt := 78) (by exact rfl) (fun hg11_6 => ?_) (fun hg11_6 => ?_)
            ·
              refine sq_gt (by exact rfl) (by exact rfl) (OpY.s (y_move (by exact rfl))) rfl ?_
              refine sq_gt (by exact rfl) (by exact rfl) (OpY.s (by first | exact y_fab Try.underlying32 (by exact rfl) (by exact Try.sizeOf3) (by exact rfl) rfl | exact y_fa Try.underlying32 (by exact rfl) (by exact Try.sizeOf3) (by exact rfl) rfl)) rfl ?_
              refine sq_gt (by exact rfl) (by exact rfl) (OpY.s (by first | exact y_load_blk Try.underlying3 rfl (by exact rfl) (by repeat (first | exact .head _ | refine .tail _ ?_)) (by exact rfl) | exact y_load_caj Try.underlying3 rfl (by exact rfl) (by repeat (first | exact .head _ | refine .tail _ ?_)) (by assumption) (by exact rfl) | exact y_load_ca0 Try.underlying3 rfl (by exact rfl) (by repeat (first | exact .head _ | refine .tail _ ?_)) (by assumption) (by exact rfl))) rfl ?_
              refine sq_gt (by exact rfl) (by exact rfl) (OpY.s (y_leq (by exact rfl) (by exact rfl))) rfl ?_
              refine sq_gt (by exact rfl) (by exact rfl) (OpY.s (y_pick_t (by exact rfl) (by exact rfl))) rfl ?_
              refine sq_y (OpY.s (y_pick_f (by exact rfl) (by exact rfl))) rfl ?_
              refine sq_y (OpY.s (y_assign (by exact rfl))) rfl ?_
              refine sq_nil ?_
              refine sx_merge ?_ ?_
              · exact lk_bool rfl (by rw [offB_take_succ hs]; simp [*])
              · exact (by repeat (first | exact SubX.refl _ _ | refine SubX.skipT ?_ | refine SubX.skip rfl ?_))
            ·
              refine sq_gf (by exact rfl) (by exact rfl) (by exact rfl) rfl ?_
              refine sq_gf (by exact rfl) (by exact rfl) (by exact rfl) rfl ?_
              refine sq_gf (by exact rfl) (by exact rfl) (by exact rfl) rfl ?_
              refine sq_gf (by exact rfl) (by exact rfl) (by exact rfl) rfl ?_
              refine sq_gt (by exact rfl) (by exact rfl) (OpY.s (y_pick_f (by exact rfl) (by exact rfl))) rfl ?_
              refine sq_y (OpY.s (y_pick_f (by exact rfl) (by exact rfl))) rfl ?_
              refine sq_y (OpY.s (y_assign (by exact rfl))) rfl ?_
              refine sq_nil ?_
              refine sx_merge ?_ ?_
              · exact lk_bool rfl (by rw [offB_take_succ hs]; simp [*])
              · exact (by repeat (first | exact SubX.refl _ _ | refine SubX.skipT ?_ | refine SubX.skip rfl ?_))
        refine sx_blk ?_
        refine sx_then ?_
        refine sc_region ?_
        refine sq_y (OpY.s (y_add (by exact rfl) (by exact rfl) (by omega))) rfl ?_
        refine sq_y (OpY.s (y_move (by exact rfl))) rfl ?_
        refine sq_nil ?_
        refine sx_round (k + 1) ?_ ?_ (by repeat (first | exact SubL.nil | refine SubL.cons (by first | exact rfl | exact lk_int rfl (by omega) | exact lk_eq rfl (by simp)) ?_)) (by repeat (first | exact Sel.nil | refine Sel.cons (by repeat (first | exact Rem.here | apply Rem.there)) ?_))
        · omega
        · omega
      ·
        have hkn : k = tm.brk.length := by omega
        subst hkn
        rw [List.take_length]
        refine sc_exit ?_
        refine sx_then_exit ?_
        refine sx_round_exit ?_
        refine sx_blk_hit ?_
        refine sx_then ?_
        refine sc_seq ?_
        refine sc_region ?_
        refine sq_y (OpY.s (y_move (by exact rfl))) rfl ?_
        refine sq_y (OpY.s (y_assign (by exact rfl))) rfl ?_
        refine sq_nil ?_
        refine sx_then ?_
        refine sc_seq ?_
        refine sc_seq ?_
        refine sc_region ?_
        refine sq_y (OpY.s (y_move (by exact rfl))) rfl ?_
        refine sq_y (OpY.s (y_not (by exact rfl))) rfl ?_
        refine sq_y (OpY.s (y_move (by exact rfl))) rfl ?_
        first | refine sq_splitd (tt := 89) (by exact rfl) (fun hg14_2 => ?_) (fun hg14_2 => ?_) | refine sq_splitn (tt := 89) (by exact rfl) (fun hg14_2 => ?_) (fun hg14_2 => ?_) | refine sq_split (tt := 89) (by exact rfl) (fun hg14_2 => ?_) (fun hg14_2 => ?_)
        ·
          refine sq_gt (by exact rfl) (by exact rfl) (OpY.s (y_move (by exact rfl))) rfl ?_
          refine sq_gt (by exact rfl) (by exact rfl) (OpY.s (by first | exact y_fab Try.underlying24 (by exact rfl) (by exact Try.sizeOf3) (by exact rfl) rfl | exact y_fa Try.underlying24 (by exact rfl) (by exact Try.sizeOf3) (by exact rfl) rfl)) rfl ?_
          refine sq_gt (by exact rfl) (by exact rfl) (OpY.s (by first | exact y_load_blk Try.underlying3 rfl (by exact rfl) (by repeat (first | exact .head _ | refine .tail _ ?_)) (by exact rfl) | exact y_load_caj Try.underlying3 rfl (by exact rfl) (by repeat (first | exact .head _ | refine .tail _ ?_)) (by assumption) (by exact rfl) | exact y_load_ca0 Try.underlying3 rfl (by exact rfl) (by repeat (first | exact .head _ | refine .tail _ ?_)) (by assumption) (by exact rfl))) rfl ?_
          refine sq_gt (by exact rfl) (by exact rfl) (OpY.s (y_lss (by exact rfl) (by exact rfl))) rfl ?_
          refine sq_y (OpY.s (y_pick_t (by exact rfl) (by exact rfl))) rfl ?_
          refine sq_nil ?_
          refine sx_then ?_
          first | refine sc_if (by exact rfl) (fun hc3 => ?_) (fun hc3 => ?_) | refine sc_ifn (by exact rfl) (fun hc3 => ?_) (fun hc3 => ?_) | refine sc_cond (by exact rfl) (fun hc3 => ?_) (fun hc3 => ?_)
          ·
            refine sc_region ?_
            refine sq_y (OpY.s (y_move (by exact rfl))) rfl ?_
            refine sq_y (OpY.s (y_add (by exact rfl) (by exact rfl) (by omega))) rfl ?_
            refine sq_y (OpY.s (y_assign (by exact rfl))) rfl ?_
            refine sq_nil ?_
            refine sx_then ?_
            refine sc_seq ?_
            refine sc_seq ?_
            refine sc_region ?_
            refine sq_y (OpY.s (y_move (by exact rfl))) rfl ?_
            refine sq_y (OpY.s (y_neq (by exact rfl) (by exact rfl))) rfl ?_
            refine sq_y (OpY.s (y_move (by exact rfl))) rfl ?_
            refine sq_known (tt := 99) (b' := false) (by exact rfl) (by simp) ?_
            refine sq_gt (by exact rfl) (by exact rfl) (OpY.s (y_move (by exact rfl))) rfl ?_
            refine sq_gt (by exact rfl) (by exact rfl) (OpY.s (y_move (by exact rfl))) rfl ?_
            refine sq_gt (by exact rfl) (by exact rfl) (OpY.s (y_neq (by exact rfl) (by exact rfl))) rfl ?_
            refine sq_y (OpY.s (y_pick_f (by exact rfl) (by exact rfl))) rfl ?_
            refine sq_y (OpY.s (y_move (by exact rfl))) rfl ?_
            refine sq_known (tt := 104) (b' := false) (by exact rfl) (by simp_all) ?_
            refine sq_gt (by exact rfl) (by exact rfl) (OpY.s (y_move (by exact rfl))) rfl ?_
            refine sq_gt (by exact rfl) (by exact rfl) (OpY.s (y_eql (by exact rfl) (by exact rfl))) rfl ?_
            refine sq_gt (by exact rfl) (by exact rfl) (OpY.s (y_move (by exact rfl))) rfl ?_
            first | refine sq_splitd (tt := 107) (by exact rfl) (fun hg16_10 => ?_) (fun hg16_10 => ?_) | refine sq_splitn (tt := 107) (by exact rfl) (fun hg16_10 => ?_) (fun hg16_10 => ?_) | refine sq_split (tt := 107) (by exact rfl) (fun hg16_10 => ?_) (fun hg16_10 => ?_)
            ·
              refine sq_gt (by exact rfl) (by exact rfl) (OpY.s (y_move (by exact rfl))) rfl ?_
              refine sq_gt (by exact rfl) (by exact rfl) (OpY.s (y_neq (by exact rfl) (by exact rfl))) rfl ?_
              refine sq_gt (by exact rfl) (by exact rfl) (OpY.s (y_pick_t (by exact rfl) (by exact rfl))) rfl ?_
              refine sq_y (OpY.s (y_pick_f (by exact rfl) (by exact rfl))) rfl ?_
              refine sq_nil ?_
              refine sx_then ?_
              refine sc_f (lk_bool rfl (by simp_all)) ?_
              refine sc_skip ?_
              refine sx_then ?_
              refine sc_seq ?_
              refine sc_seq ?_
              refine sc_region ?_
              refine sq_y (OpY.s (by first | exact y_fab Try.underlying24 (by exact rfl) (by exact Try.sizeOf22) (by exact rfl) rfl | exact y_fa Try.underlying24 (by exact rfl) (by exact Try.sizeOf22) (by exact rfl) rfl)) rfl ?_
              refine sq_y (OpY.s (by first | exact y_load_blk Try.underlying22 rfl (by exact rfl) (by repeat (first | exact .head _ | refine .tail _ ?_)) (by exact rfl) | exact y_load_caj Try.underlying22 rfl (by exact rfl) (by repeat (first | exact .head _ | refine .tail _ ?_)) (by assumption) (by exact rfl) | exact y_load_ca0 Try.underlying22 rfl (by exact rfl) (by repeat (first | exact .head _ | refine .tail _ ?_)) (by assumption) (by exact rfl))) rfl ?_
              refine sq_y (OpY.s (y_move (by exact rfl))) rfl ?_
              refine sq_y (OpY.s (by first | exact y_ia_blk Try.underlying22 Try.sizeOf66 (by exact rfl) (by exact rfl) (by omega) | exact y_ia_el Try.underlying22 Try.sizeOf66 (by exact rfl) (by exact rfl) (by omega) (by first | assumption | simp))) rfl ?_
              refine sq_y (OpY.s (by first | exact y_fab Try.underlying66 (by exact rfl) (by exact Try.sizeOf36) (by exact rfl) rfl | exact y_fa Try.underlying66 (by exact rfl) (by exact Try.sizeOf36) (by exact rfl) rfl)) rfl ?_
              refine sq_y (OpY.s (by first | exact y_load_blk Try.underlying36 rfl (by exact rfl) (by repeat (first | exact .head _ | refine .tail _ ?_)) (by exact rfl) | exact y_load_caj Try.underlying36 rfl (by exact rfl) (by repeat (first | exact .head _ | refine .tail _ ?_)) (by assumption) (by exact rfl) | exact y_load_ca0 Try.underlying36 rfl (by exact rfl) (by repeat (first | exact .head _ | refine .tail _ ?_)) (by assumption) (by exact rfl))) rfl ?_
              refine sq_y (OpY.s (y_len Try.underlying36 (by exact rfl))) rfl ?_
              refine sq_y (OpY.s (y_geq (by exact rfl) (by exact rfl))) rfl ?_
              refine sq_nil ?_
              refine sx_then ?_
              first | refine sc_if (by exact rfl) (fun hc5 => ?_) (fun hc5 => ?_) | refine sc_ifn (by exact rfl) (fun hc5 => ?_) (fun hc5 => ?_) | refine sc_cond (by exact rfl) (fun hc5 => ?_) (fun hc5 => ?_)
              ·
                refine sc_seq ?_
                refine sc_region ?_
                refine sq_y (y_call (first := []) (caps := []) (by exact rfl) Try.call14 EvL.nil (fun w1 _ => alive14 w1)) rfl ?_
                refine sq_y (OpY.s (y_assign (by exact rfl))) rfl ?_
                refine sq_nil ?_
                refine sx_then ?_
                refine sc_ret ?_
                refine sx_then_ret ?_
                refine sx_ret1 (.inl rfl) rfl Try.results11 (by exact rfl) ?_
                intro w' hw'
                exact ⟨rfl, hw'.below (by repeat (first | exact .head _ | refine .tail _ ?_))⟩
              ·
                refine sc_skip ?_
                refine sx_then ?_
                refine sc_seq ?_
                refine sc_region ?_
                refine sq_y (OpY.s (by first | exact y_load_all Try.underlying24 rfl Try.sizeOf24 (by exact rfl) (by repeat (first | exact .head _ | refine .tail _ ?_)) (by exact rfl) | exact y_load_ca Try.underlying24 rfl Try.sizeOf24 (by exact rfl) (by repeat (first | exact .head _ | refine .tail _ ?_)) (by assumption) (by exact rfl))) rfl ?_
                refine sq_alloc Try.zeroValue24 rfl (fun b19 => ?_)
                refine sq_store_all Try.sizeOf24 (by exact rfl) (by exact rfl) rfl (by repeat (first | exact Rem.here | apply Rem.there)) rfl rfl ?_
                refine sq_nil ?_
                refine sx_then ?_
                refine sc_seq ?_
                refine sc_region ?_
                refine sq_bs Try.underlying22 ei66 EvI.nil (by first | (simp [Value.cells]; done) | (simp [Value.cells]; rfl)) rfl rfl rfl (fun b122 => ?_)
                refine sq_y (OpY.s (by first | exact y_fab Try.underlying24 (by exact rfl) (by exact Try.sizeOf22) (by exact rfl) rfl | exact y_fa Try.underlying24 (by exact rfl) (by exact Try.sizeOf22) (by exact rfl) rfl)) rfl ?_
                refine sq_y (OpY.s (by first | exact y_load_blk Try.underlying22 rfl (by exact rfl) (by repeat (first | exact .head _ | refine .tail _ ?_)) (by exact rfl) | exact y_load_caj Try.underlying22 rfl (by exact rfl) (by repeat (first | exact .head _ | refine .tail _ ?_)) (by assumption) (by exact rfl) | exact y_load_ca0 Try.underlying22 rfl (by exact rfl) (by repeat (first | exact .head _ | refine .tail _ ?_)) (by assumption) (by exact rfl))) rfl ?_
                refine sq_blk_own (e := 66) (n := 0) (sz := 2) (xs := []) (by repeat (first | exact Rem.here | apply Rem.there)) rfl (by decide) ?_
                refine sq_append_rows (news := tmFlat r.teams f cf) Try.underlying22 ei66 Try.sizeOf66 rfl (by decide) (by exact rfl) (by repeat (first | exact Rem.here | apply Rem.there)) (by exact rfl) hT.noa (tmFlat_len ..) (fun ad had w1 hw1 => tmFlat_cells (by subst had; exact hT.at hw1 (by repeat (first | exact .head _ | refine .tail _ ?_)))) (tmFlat_one r.teams f cf) (by omega) rfl (fun v125 ho125 => ?_)
                rw [List.nil_append, Nat.zero_add r.teams.length]
                refine sq_y (OpY.s (by first | exact y_fab Try.underlying24 (by exact rfl) (by exact Try.sizeOf22) (by exact rfl) rfl | exact y_fa Try.underlying24 (by exact rfl) (by exact Try.sizeOf22) (by exact rfl) rfl)) rfl ?_
                refine sq_store_eq (cs' := [Value.int .i64 r.p, .int .i64 r.lim, .int .i64 r.rate, v125].toArray) Try.sizeOf22 (by exact rfl) (by exact rfl) ho125 (by repeat (first | exact Rem.here | apply Rem.there)) (Nat.le_of_ble_eq_true rfl) rfl ?_
                refine sq_nil ?_
                refine sx_then ?_
                refine sc_seq ?_
                refine sc_own_blk (e := 66) (sz := 2) (by repeat (first | exact Rem.here | apply Rem.there)) (by omega) (fun g cap cur hv125 hnc hcm hsz htk => ?_)
                subst hv125
                refine sc_region ?_
                refine sq_y (OpY.s (y_move (by exact rfl))) rfl ?_
                refine sq_y (OpY.s (y_conv Try.underlying48 Try.underlying3 (by exact rfl) (wrap64_in (by omega) (by omega)))) rfl ?_
                refine sq_y (OpY.s (y_rem (by exact rfl) (by exact rfl) (by omega) (by omega))) rfl ?_
                refine sq_y (OpY.s (y_assign (by exact rfl))) rfl ?_
                refine sq_nil ?_
                refine sx_then ?_
                refine sc_seq ?_
                refine sc_drawX ([.blk b19 (.cells [Value.int .i64 r.p, .int .i64 r.lim, .int .i64 r.rate, .slice (some ⟨g, 0, none⟩) r.teams.length cap].toArray 24 (0, 0)), .blk g (.cells cur 66 (0, 0)), .blk b5 (.cells (rcVal r a c).toArray 24 (0, 0)), .reg 0 w]) (by kernel_rfl) ?_
                refine xj_s 0 (by exact rfl) (by kernel_rfl) (by repeat (first | exact Sel.nil | refine Sel.cons (by repeat (first | exact Rem.here | apply Rem.there)) ?_)) (by first | exact y_fab Try.underlying24 (by exact rfl) (by exact Try.sizeOf22) (by exact rfl) rfl | exact y_fa Try.underlying24 (by exact rfl) (by exact Try.sizeOf22) (by exact rfl) rfl) rfl ?_
                refine xj_s 1 (by exact rfl) (by kernel_rfl) (by repeat (first | exact Sel.nil | refine Sel.cons (by repeat (first | exact Rem.here | apply Rem.there)) ?_)) (by first | exact y_load_blk Try.underlying22 rfl (by exact rfl) (by repeat (first | exact .head _ | refine .tail _ ?_)) (by exact rfl) | exact y_load_caj Try.underlying22 rfl (by exact rfl) (by repeat (first | exact .head _ | refine .tail _ ?_)) (by assumption) (by exact rfl) | exact y_load_ca0 Try.underlying22 rfl (by exact rfl) (by repeat (first | exact .head _ | refine .tail _ ?_)) (by assumption) (by exact rfl)) rfl ?_
                refine xj_s 2 (by exact rfl) (by kernel_rfl) (by repeat (first | exact Sel.nil | refine Sel.cons (by repeat (first | exact Rem.here | apply Rem.there)) ?_)) (y_move (by exact rfl)) rfl ?_
                refine xj_s 4 (by exact rfl) (by kernel_rfl) (by repeat (first | exact Sel.nil | refine Sel.cons (by repeat (first | exact Rem.here | apply Rem.there)) ?_)) (by first | exact y_fab Try.underlying24 (by exact rfl) (by exact Try.sizeOf22) (by exact rfl) rfl | exact y_fa Try.underlying24 (by exact rfl) (by exact Try.sizeOf22) (by exact rfl) rfl) rfl ?_
                refine xj_s 5 (by exact rfl) (by kernel_rfl) (by repeat (first | exact Sel.nil | refine Sel.cons (by repeat (first | exact Rem.here | apply Rem.there)) ?_)) (by first | exact y_load_blk Try.underlying22 rfl (by exact rfl) (by repeat (first | exact .head _ | refine .tail _ ?_)) (by exact rfl) | exact y_load_caj Try.underlying22 rfl (by exact rfl) (by repeat (first | exact .head _ | refine .tail _ ?_)) (by assumption) (by exact rfl) | exact y_load_ca0 Try.underlying22 rfl (by exact rfl) (by repeat (first | exact .head _ | refine .tail _ ?_)) (by assumption) (by exact rfl)) rfl ?_
                refine xj_s 6 (by exact rfl) (by kernel_rfl) (by repeat (first | exact Sel.nil | refine Sel.cons (by repeat (first | exact Rem.here | apply Rem.there)) ?_)) (y_move (by exact rfl)) rfl ?_
                refine xj_s 7 (by exact rfl) (by kernel_rfl) (by repeat (first | exact Sel.nil | refine Sel.cons (by repeat (first | exact Rem.here | apply Rem.there)) ?_)) (by first | exact y_ia_blk Try.underlying22 Try.sizeOf66 (by exact rfl) (by exact rfl) (by omega) | exact y_ia_el Try.underlying22 Try.sizeOf66 (by exact rfl) (by exact rfl) (by omega) (by first | assumption | simp)) rfl ?_
                refine xj_s 8 (by exact rfl) (by kernel_rfl) (by repeat (first | exact Sel.nil | refine Sel.cons (by repeat (first | exact Rem.here | apply Rem.there)) ?_)) (by first | exact y_fab Try.underlying66 (by exact rfl) (by exact Try.sizeOf36) (by exact rfl) rfl | exact y_fa Try.underlying66 (by exact rfl) (by exact Try.sizeOf36) (by exact rfl) rfl) rfl ?_
                refine xj_s 9 (by exact rfl) (by kernel_rfl) (by repeat (first | exact Sel.nil | refine Sel.cons (by repeat (first | exact Rem.here | apply Rem.there)) ?_)) (by first | exact y_load_blk Try.underlying36 rfl (by exact rfl) (by repeat (first | exact .head _ | refine .tail _ ?_)) (by exact rfl) | exact y_load_caj Try.underlying36 rfl (by exact rfl) (by repeat (first | exact .head _ | refine .tail _ ?_)) (by assumption) (by exact rfl) | exact y_load_ca0 Try.underlying36 rfl (by exact rfl) (by repeat (first | exact .head _ | refine .tail _ ?_)) (by assumption) (by exact rfl)) rfl ?_
                refine xj_s 11 (by exact rfl) (by kernel_rfl) (by repeat (first | exact Sel.nil | refine Sel.cons (by repeat (first | exact Rem.here | apply Rem.there)) ?_)) (y_move (by exact rfl)) rfl ?_
                refine xj_s 12 (by exact rfl) (by kernel_rfl) (by repeat (first | exact Sel.nil | refine Sel.cons (by repeat (first | exact Rem.here | apply Rem.there)) ?_)) (y_move (by exact rfl)) rfl ?_
                refine xj_s 13 (by exact rfl) (by kernel_rfl) (by repeat (first | exact Sel.nil | refine Sel.cons (by repeat (first | exact Rem.here | apply Rem.there)) ?_)) (y_move (by exact rfl)) rfl ?_
                refine xj_s 14 (by exact rfl) (by kernel_rfl) (by repeat (first | exact Sel.nil | refine Sel.cons (by repeat (first | exact Rem.here | apply Rem.there)) ?_)) (y_conv Try.underlying48 Try.underlying3 (by exact rfl) (wrap64_in (by omega) (by omega))) rfl ?_
                refine xj_s 15 (by exact rfl) (by kernel_rfl) (by repeat (first | exact Sel.nil | refine Sel.cons (by repeat (first | exact Rem.here | apply Rem.there)) ?_)) (y_rem (by exact rfl) (by exact rfl) (by omega) (by omega)) rfl ?_
                refine xj_s 16 (by exact rfl) (by kernel_rfl) (by repeat (first | exact Sel.nil | refine Sel.cons (by repeat (first | exact Rem.here | apply Rem.there)) ?_)) (y_add (by exact rfl) (by exact rfl) (by omega)) rfl ?_
                refine xj_s 17 (by exact rfl) (by kernel_rfl) (by repeat (first | exact Sel.nil | refine Sel.cons (by repeat (first | exact Rem.here | apply Rem.there)) ?_)) (y_min (by exact rfl) (by exact rfl)) rfl ?_
                refine xj_one 3 (by exact rfl) (by kernel_rfl) ?_
                refine sq_bs Try.underlying36 ei32 EvI.nil (by first | (simp [Value.cells]; done) | (simp [Value.cells]; rfl)) rfl rfl rfl (fun b133 => ?_)
                refine sq_nil ?_
                refine sx_xp (by repeat (first | exact Sel.nil | refine Sel.cons (by repeat (first | exact Rem.here | apply Rem.there)) ?_)) ?_
                refine xj_one 10 (by exact rfl) (by kernel_rfl) ?_
                refine sq_blk_own (e := 32) (n := 0) (sz := 2) (xs := []) (by repeat (first | exact Rem.here | apply Rem.there)) rfl (by decide) ?_
                refine sq_append_rows (news := flatS tm.brk) Try.underlying36 ei32 Try.sizeOf32 rfl (by decide) (by exact rfl) (by repeat (first | exact Rem.here | apply Rem.there)) (by exact rfl) hbr.noa (flatS_len _) (fun ad had w1 hw1 => flatS_cells (by rw [← had]; exact hbr.at hw1 (by repeat (first | exact .head _ | refine .tail _ ?_)))) (flatS_one _) (by omega) rfl (fun v140 ho140 => ?_)
                refine sq_nil ?_
                refine sx_xp (by repeat (first | exact Sel.nil | refine Sel.cons (by repeat (first | exact Rem.here | apply Rem.there)) ?_)) ?_
                rw [List.nil_append, Nat.zero_add tm.brk.length]
                refine xj_one 18 (by exact rfl) (by kernel_rfl) ?_
                refine sq_y (y_call (first := []) (caps := []) (by exact rfl) Try.call30 (EvL.cons (by exact rfl) (EvL.cons (by exact rfl) EvL.nil)) (fun w1 _ => span30 w1 _ _)) rfl ?_
                refine sq_nil ?_
                refine sx_xp (by repeat (first | exact Sel.nil | refine Sel.cons (by repeat (first | exact Rem.here | apply Rem.there)) ?_)) ?_
                refine xj_one 19 (by exact rfl) (by kernel_rfl) ?_
                refine sq_bs Try.underlying36 ei32 (EvI.cons (by exact rfl) EvI.nil) (by first | (simp [Value.cells]; done) | (simp [Value.cells]; rfl)) rfl rfl rfl (fun b149 => ?_)
                refine sq_nil ?_
                refine sx_xp (by repeat (first | exact Sel.nil | refine Sel.cons (by repeat (first | exact Rem.here | apply Rem.there)) ?_)) ?_
                refine xj_one 20 (by exact rfl) (by kernel_rfl) ?_
                refine sq_append (news := [.int .i64 (fz % 2001), .int .i64 (min 2000 (fz % 2001 + lz % 100))]) Try.underlying36 ei32 rfl (by decide) (by exact rfl) (by repeat (first | exact Rem.here | apply Rem.there)) (by exact rfl) rfl (fun _ hw => news_blk hw (by repeat (first | exact .head _ | refine .tail _ ?_))) (by simp [Value.oneCell']) (by omega) rfl (fun v150 ho150 => ?_)
                refine sq_nil ?_
                refine sx_xp (by repeat (first | exact Sel.nil | refine Sel.cons (by repeat (first | exact Rem.here | apply Rem.there)) ?_)) ?_
                refine xj_s 21 (by exact rfl) (by kernel_rfl) (by repeat (first | exact Sel.nil | refine Sel.cons (by repeat (first | exact Rem.here | apply Rem.there)) ?_)) (by first | exact y_ia_blk Try.underlying22 Try.sizeOf66 (by exact rfl) (by exact rfl) (by omega) | exact y_ia_el Try.underlying22 Try.sizeOf66 (by exact rfl) (by exact rfl) (by omega) (by first | assumption | simp)) rfl ?_
                refine xj_s 22 (by exact rfl) (by kernel_rfl) (by repeat (first | exact Sel.nil | refine Sel.cons (by repeat (first | exact Rem.here | apply Rem.there)) ?_)) (by first | exact y_fab Try.underlying66 (by exact rfl) (by exact Try.sizeOf36) (by exact rfl) rfl | exact y_fa Try.underlying66 (by exact rfl) (by exact Try.sizeOf36) (by exact rfl) rfl) rfl ?_
                refine xj_one 23 (by exact rfl) (by kernel_rfl) ?_
                refine sq_store (o := 0 + t * 2 + 1) Try.sizeOf36 (by exact rfl) (by exact rfl) ho150 (by repeat (first | exact Rem.here | apply Rem.there)) (by omega) ?_
                refine sq_nil ?_
                refine sx_xpl (by kernel_rfl) ?_
                refine xj_done (by kernel_rfl) ?_
                refine sx_then ?_
                refine sc_seq ?_
                refine sc_own_blk (e := 32) (sz := 2) (by repeat (first | exact Rem.here | apply Rem.there)) (by omega) (fun g2 cap2 cur2 hv150 hnc2 hcm2 hsz2 htk2 => ?_)
                subst hv150
                have hmo : rcB (moreR r t ⟨fz % 2001, min 2000 (fz % 2001 + lz % 100)⟩) = true := moreR_ok hok ht (by rw [hbrk]; simp at hc5; omega) (by simp only [spB, decide_eq_true_eq]; omega)
                refine sc_region ?_
                refine sq_y (OpY.s (by first | exact y_load_all Try.underlying24 rfl Try.sizeOf24 (by exact rfl) (by repeat (first | exact .head _ | refine .tail _ ?_)) (by exact rfl) | exact y_load_ca Try.underlying24 rfl Try.sizeOf24 (by exact rfl) (by repeat (first | exact .head _ | refine .tail _ ?_)) (by assumption) (by exact rfl))) rfl ?_
                refine sq_y (OpY.s (y_move (by exact rfl))) rfl ?_
                refine sq_y (OpY.s (y_move (by exact rfl))) rfl ?_
                refine sq_y (y_call (first := []) (caps := []) (by exact rfl) Try.call15 (EvL.cons (by exact rfl) (EvL.cons (by exact rfl) (EvL.cons (by exact rfl) EvL.nil))) (fun w1 hw1 => worked15w w1 _ (moreR r t ⟨fz % 2001, min 2000 (fz % 2001 + lz % 100)⟩) t m m rfl (by
                    have hT' := more_tms (t := t) (s := ⟨fz % 2001, min 2000 (fz % 2001 + lz % 100)⟩) hw1 ht (by rw [hbrk]; simp at hc5; omega) (by rw [hbrk]; exact (by repeat (first | exact .head _ | refine .tail _ ?_))) (by repeat (first | exact .head _ | refine .tail _ ?_)) (hT.at hw1 (by repeat (first | exact .head _ | refine .tail _ ?_))) htk (by rw [hbrk, flatS_snoc]; exact htk2)
                    have h3 := hT'.rc (r := moreR r t ⟨fz % 2001, min 2000 (fz % 2001 + lz % 100)⟩) (c := cap) i1 i2 i3
                    rw [rcVal, moreR_len] at h3; exact h3) hmo (by rw [moreR_len]; exact ht) hm)) rfl ?_
                refine sq_y (OpY.s (y_move (by exact rfl))) rfl ?_
                refine sq_y (OpY.s (y_extract (by exact rfl) (by exact rfl))) rfl ?_
                refine sq_y (OpY.s (y_extract (by exact rfl) (by exact rfl))) rfl ?_
                refine sq_y (OpY.s (y_assign (by exact rfl))) rfl ?_
                refine sq_y (OpY.s (y_assign (by exact rfl))) rfl ?_
                refine sq_nil ?_
                refine sx_then ?_
                refine sc_seq ?_
                refine sc_region ?_
                refine sq_y (OpY.s (y_move (by exact rfl))) rfl ?_
                refine sq_y (OpY.s (y_eql (by exact rfl) (by exact rfl))) rfl ?_
                refine sq_y (OpY.s (y_move (by exact rfl))) rfl ?_
                refine sq_known (tt := 162) (b' := true) (by exact rfl) (by simp) ?_
                refine sq_gt (by exact rfl) (by exact rfl) (OpY.s (y_move (by exact rfl))) rfl ?_
                refine sq_gt (by exact rfl) (by exact rfl) (OpY.s (y_move (by exact rfl))) rfl ?_
                refine sq_gt (by exact rfl) (by exact rfl) (OpY.s (y_leq (by exact rfl) (by exact rfl))) rfl ?_
                refine sq_y (OpY.s (y_pick_t (by exact rfl) (by exact rfl))) rfl ?_
                refine sq_y (OpY.s (y_move (by exact rfl))) rfl ?_
                refine sq_known (tt := 167) (b' := true) (by exact rfl) (decide_eq_true (by have := wrk_more_le (s := ⟨fz % 2001, min 2000 (fz % 2001 + lz % 100)⟩) ht m; omega)) ?_
                refine sq_gt (by exact rfl) (by exact rfl) (OpY.s (y_move (by exact rfl))) rfl ?_
                refine sq_gt (by exact rfl) (by exact rfl) (OpY.s (y_move (by exact rfl))) rfl ?_
                refine sq_gt (by exact rfl) (by exact rfl) (OpY.s (y_lss (by exact rfl) (by exact rfl))) rfl ?_
                refine sq_gt (by exact rfl) (by exact rfl) (OpY.s (y_move (by exact rfl))) rfl ?_
                first | refine sq_splitd (tt := 171) (by exact rfl) (fun hg25_11 => ?_) (fun hg25_11 => ?_) | refine sq_splitn (tt := 171) (by exact rfl) (fun hg25_11 => ?_) (fun hg25_11 => ?_) | refine sq_split (tt := 171) (by exact rfl) (fun hg25_11 => ?_) (fun hg25_11 => ?_)
                ·
                  refine sq_gf (by exact rfl) (by exact rfl) (by exact rfl) rfl ?_
                  refine sq_gf (by exact rfl) (by exact rfl) (by exact rfl) rfl ?_
                  refine sq_gf (by exact rfl) (by exact rfl) (by exact rfl) rfl ?_
                  refine sq_gt (by exact rfl) (by exact rfl) (OpY.s (y_pick_t (by exact rfl) (by exact rfl))) rfl ?_
                  refine sq_y (OpY.s (y_pick_t (by exact rfl) (by exact rfl))) rfl ?_
                  refine sq_y (OpY.s (y_move (by exact rfl))) rfl ?_
                  refine sq_gt (by exact rfl) (by exact rfl) (y_call (first := []) (caps := []) (by exact rfl) Try.call14 EvL.nil (fun w1 _ => alive14 w1)) rfl ?_
                  refine sq_y (OpY.s (y_pick_t (by exact rfl) (by exact rfl))) rfl ?_
                  refine sq_y (OpY.s (y_assign (by exact rfl))) rfl ?_
                  refine sq_nil ?_
                  refine sx_then ?_
                  refine sc_ret ?_
                  refine sx_ret1 (.inl rfl) rfl Try.results11 (by exact rfl) ?_
                  intro w' hw'
                  exact ⟨rfl, hw'.below (by repeat (first | exact .head _ | refine .tail _ ?_))⟩
                ·
                  refine sq_gt (by exact rfl) (by exact rfl) (OpY.s (y_move (by exact rfl))) rfl ?_
                  refine sq_gt (by exact rfl) (by exact rfl) (OpY.s (y_move (by exact rfl))) rfl ?_
                  refine sq_gt (by exact rfl) (by exact rfl) (OpY.s (y_eql (by exact rfl) (by exact rfl))) rfl ?_
                  refine sq_gt (by exact rfl) (by exact rfl) (OpY.s (y_pick_f (by exact rfl) (by exact rfl))) rfl ?_
                  refine sq_y (OpY.s (y_pick_t (by exact rfl) (by exact rfl))) rfl ?_
                  refine sq_y (OpY.s (y_move (by exact rfl))) rfl ?_
                  refine sq_known (tt := 177) (b' := true) (by exact rfl) (by first | rfl | exact decide_eq_true (by rw [wrk_more_eq ht (by simp at hg25_11 ⊢; omega)])) ?_
                  refine sq_gt (by exact rfl) (by exact rfl) (y_call (first := []) (caps := []) (by exact rfl) Try.call14 EvL.nil (fun w1 _ => alive14 w1)) rfl ?_
                  refine sq_y (OpY.s (y_pick_t (by exact rfl) (by exact rfl))) rfl ?_
                  refine sq_y (OpY.s (y_assign (by exact rfl))) rfl ?_
                  refine sq_nil ?_
                  refine sx_then ?_
                  refine sc_ret ?_
                  refine sx_ret1 (.inl rfl) rfl Try.results11 (by exact rfl) ?_
                  intro w' hw'
                  exact ⟨rfl, hw'.below (by repeat (first | exact .head _ | refine .tail _ ?_))⟩
            ·
              refine sq_gf (by exact rfl) (by exact rfl) (by exact rfl) rfl ?_
              refine sq_gf (by exact rfl) (by exact rfl) (by exact rfl) rfl ?_
              refine sq_gt (by exact rfl) (by exact rfl) (OpY.s (y_pick_f (by exact rfl) (by exact rfl))) rfl ?_
              refine sq_y (OpY.s (y_pick_f (by exact rfl) (by exact rfl))) rfl ?_
              refine sq_nil ?_
              refine sx_then ?_
              refine sc_f (by exact rfl) ?_
              refine sc_skip ?_
              refine sx_then ?_
              refine sc_seq ?_
              refine sc_seq ?_
              refine sc_region ?_
              refine sq_y (OpY.s (by first | exact y_fab Try.underlying24 (by exact rfl) (by exact Try.sizeOf22) (by exact rfl) rfl | exact y_fa Try.underlying24 (by exact rfl) (by exact Try.sizeOf22) (by exact rfl) rfl)) rfl ?_
              refine sq_y (OpY.s (by first | exact y_load_blk Try.underlying22 rfl (by exact rfl) (by repeat (first | exact .head _ | refine .tail _ ?_)) (by exact rfl) | exact y_load_caj Try.underlying22 rfl (by exact rfl) (by repeat (first | exact .head _ | refine .tail _ ?_)) (by assumption) (by exact rfl) | exact y_load_ca0 Try.underlying22 rfl (by exact rfl) (by repeat (first | exact .head _ | refine .tail _ ?_)) (by assumption) (by exact rfl))) rfl ?_
              refine sq_y (OpY.s (y_move (by exact rfl))) rfl ?_
              refine sq_y (OpY.s (by first | exact y_ia_blk Try.underlying22 Try.sizeOf66 (by exact rfl) (by exact rfl) (by omega) | exact y_ia_el Try.underlying22 Try.sizeOf66 (by exact rfl) (by exact rfl) (by omega) (by first | assumption | simp))) rfl ?_
              refine sq_y (OpY.s (by first | exact y_fab Try.underlying66 (by exact rfl) (by exact Try.sizeOf36) (by exact rfl) rfl | exact y_fa Try.underlying66 (by exact rfl) (by exact Try.sizeOf36) (by exact rfl) rfl)) rfl ?_
              refine sq_y (OpY.s (by first | exact y_load_blk Try.underlying36 rfl (by exact rfl) (by repeat (first | exact .head _ | refine .tail _ ?_)) (by exact rfl) | exact y_load_caj Try.underlying36 rfl (by exact rfl) (by repeat (first | exact .head _ | refine .tail _ ?_)) (by assumption) (by exact rfl) | exact y_load_ca0 Try.underlying36 rfl (by exact rfl) (by repeat (first | exact .head _ | refine .tail _ ?_)) (by assumption) (by exact rfl))) rfl ?_
              refine sq_y (OpY.s (y_len Try.underlying36 (by exact rfl))) rfl ?_
              refine sq_y (OpY.s (y_geq (by exact rfl) (by exact rfl))) rfl ?_
              refine sq_nil ?_
              refine sx_then ?_
              first | refine sc_if (by exact rfl) (fun hc5 => ?_) (fun hc5 => ?_) | refine sc_ifn (by exact rfl) (fun hc5 => ?_) (fun hc5 => ?_) | refine sc_cond (by exact rfl) (fun hc5 => ?_) (fun hc5 => ?_)
              ·
                refine sc_seq ?_
                refine sc_region ?_
                refine sq_y (y_call (first := []) (caps := []) (by exact rfl) Try.call14 EvL.nil (fun w1 _ => alive14 w1)) rfl ?_
                refine sq_y (OpY.s (y_assign (by exact rfl))) rfl ?_
                refine sq_nil ?_
                refine sx_then ?_
                refine sc_ret ?_
                refine sx_then_ret ?_
                refine sx_ret1 (.inl rfl) rfl Try.results11 (by exact rfl) ?_
                intro w' hw'
                exact ⟨rfl, hw'.below (by repeat (first | exact .head _ | refine .tail _ ?_))⟩
              ·
                refine sc_skip ?_
                refine sx_then ?_
                refine sc_seq ?_
                refine sc_region ?_
                refine sq_y (OpY.s (by first | exact y_load_all Try.underlying24 rfl Try.sizeOf24 (by exact rfl) (by repeat (first | exact .head _ | refine .tail _ ?_)) (by exact rfl) | exact y_load_ca Try.underlying24 rfl Try.sizeOf24 (by exact rfl) (by repeat (first | exact .head _ | refine .tail _ ?_)) (by assumption) (by exact rfl))) rfl ?_
                refine sq_alloc Try.zeroValue24 rfl (fun b19 => ?_)
                refine sq_store_all Try.sizeOf24 (by exact rfl) (by exact rfl) rfl (by repeat (first | exact Rem.here | apply Rem.there)) rfl rfl ?_
                refine sq_nil ?_
                refine sx_then ?_
                refine sc_seq ?_
                refine sc_region ?_
                refine sq_bs Try.underlying22 ei66 EvI.nil (by first | (simp [Value.cells]; done) | (simp [Value.cells]; rfl)) rfl rfl rfl (fun b122 => ?_)
                refine sq_y (OpY.s (by first | exact y_fab Try.underlying24 (by exact rfl) (by exact Try.sizeOf22) (by exact rfl) rfl | exact y_fa Try.underlying24 (by exact rfl) (by exact Try.sizeOf22) (by exact rfl) rfl)) rfl ?_
                refine sq_y (OpY.s (by first | exact y_load_blk Try.underlying22 rfl (by exact rfl) (by repeat (first | exact .head _ | refine .tail _ ?_)) (by exact rfl) | exact y_load_caj Try.underlying22 rfl (by exact rfl) (by repeat (first | exact .head _ | refine .tail _ ?_)) (by assumption) (by exact rfl) | exact y_load_ca0 Try.underlying22 rfl (by exact rfl) (by repeat (first | exact .head _ | refine .tail _ ?_)) (by assumption) (by exact rfl))) rfl ?_
                refine sq_blk_own (e := 66) (n := 0) (sz := 2) (xs := []) (by repeat (first | exact Rem.here | apply Rem.there)) rfl (by decide) ?_
                refine sq_append_rows (news := tmFlat r.teams f cf) Try.underlying22 ei66 Try.sizeOf66 rfl (by decide) (by exact rfl) (by repeat (first | exact Rem.here | apply Rem.there)) (by exact rfl) hT.noa (tmFlat_len ..) (fun ad had w1 hw1 => tmFlat_cells (by subst had; exact hT.at hw1 (by repeat (first | exact .head _ | refine .tail _ ?_)))) (tmFlat_one r.teams f cf) (by omega) rfl (fun v125 ho125 => ?_)
                rw [List.nil_append, Nat.zero_add r.teams.length]
                refine sq_y (OpY.s (by first | exact y_fab Try.underlying24 (by exact rfl) (by exact Try.sizeOf22) (by exact rfl) rfl | exact y_fa Try.underlying24 (by exact rfl) (by exact Try.sizeOf22) (by exact rfl) rfl)) rfl ?_
                refine sq_store_eq (cs' := [Value.int .i64 r.p, .int .i64 r.lim, .int .i64 r.rate, v125].toArray) Try.sizeOf22 (by exact rfl) (by exact rfl) ho125 (by repeat (first | exact Rem.here | apply Rem.there)) (Nat.le_of_ble_eq_true rfl) rfl ?_
                refine sq_nil ?_
                refine sx_then ?_
                refine sc_seq ?_
                refine sc_own_blk (e := 66) (sz := 2) (by repeat (first | exact Rem.here | apply Rem.there)) (by omega) (fun g cap cur hv125 hnc hcm hsz htk => ?_)
                subst hv125
                refine sc_region ?_
                refine sq_y (OpY.s (y_move (by exact rfl))) rfl ?_
                refine sq_y (OpY.s (y_conv Try.underlying48 Try.underlying3 (by exact rfl) (wrap64_in (by omega) (by omega)))) rfl ?_
                refine sq_y (OpY.s (y_rem (by exact rfl) (by exact rfl) (by omega) (by omega))) rfl ?_
                refine sq_y (OpY.s (y_assign (by exact rfl))) rfl ?_
                refine sq_nil ?_
                refine sx_then ?_
                refine sc_seq ?_
                refine sc_drawX ([.blk b19 (.cells [Value.int .i64 r.p, .int .i64 r.lim, .int .i64 r.rate, .slice (some ⟨g, 0, none⟩) r.teams.length cap].toArray 24 (0, 0)), .blk g (.cells cur 66 (0, 0)), .blk b5 (.cells (rcVal r a c).toArray 24 (0, 0)), .reg 0 w]) (by kernel_rfl) ?_
                refine xj_s 0 (by exact rfl) (by kernel_rfl) (by repeat (first | exact Sel.nil | refine Sel.cons (by repeat (first | exact Rem.here | apply Rem.there)) ?_)) (by first | exact y_fab Try.underlying24 (by exact rfl) (by exact Try.sizeOf22) (by exact rfl) rfl | exact y_fa Try.underlying24 (by exact rfl) (by exact Try.sizeOf22) (by exact rfl) rfl) rfl ?_
                refine xj_s 1 (by exact rfl) (by kernel_rfl) (by repeat (first | exact Sel.nil | refine Sel.cons (by repeat (first | exact Rem.here | apply Rem.there)) ?_)) (by first | exact y_load_blk Try.underlying22 rfl (by exact rfl) (by repeat (first | exact .head _ | refine .tail _ ?_)) (by exact rfl) | exact y_load_caj Try.underlying22 rfl (by exact rfl) (by repeat (first | exact .head _ | refine .tail _ ?_)) (by assumption) (by exact rfl) | exact y_load_ca0 Try.underlying22 rfl (by exact rfl) (by repeat (first | exact .head _ | refine .tail _ ?_)) (by assumption) (by exact rfl)) rfl ?_
                refine xj_s 2 (by exact rfl) (by kernel_rfl) (by repeat (first | exact Sel.nil | refine Sel.cons (by repeat (first | exact Rem.here | apply Rem.there)) ?_)) (y_move (by exact rfl)) rfl ?_
                refine xj_s 4 (by exact rfl) (by kernel_rfl) (by repeat (first | exact Sel.nil | refine Sel.cons (by repeat (first | exact Rem.here | apply Rem.there)) ?_)) (by first | exact y_fab Try.underlying24 (by exact rfl) (by exact Try.sizeOf22) (by exact rfl) rfl | exact y_fa Try.underlying24 (by exact rfl) (by exact Try.sizeOf22) (by exact rfl) rfl) rfl ?_
                refine xj_s 5 (by exact rfl) (by kernel_rfl) (by repeat (first | exact Sel.nil | refine Sel.cons (by repeat (first | exact Rem.here | apply Rem.there)) ?_)) (by first | exact y_load_blk Try.underlying22 rfl (by exact rfl) (by repeat (first | exact .head _ | refine .tail _ ?_)) (by exact rfl) | exact y_load_caj Try.underlying22 rfl (by exact rfl) (by repeat (first | exact .head _ | refine .tail _ ?_)) (by assumption) (by exact rfl) | exact y_load_ca0 Try.underlying22 rfl (by exact rfl) (by repeat (first | exact .head _ | refine .tail _ ?_)) (by assumption) (by exact rfl)) rfl ?_
                refine xj_s 6 (by exact rfl) (by kernel_rfl) (by repeat (first | exact Sel.nil | refine Sel.cons (by repeat (first | exact Rem.here | apply Rem.there)) ?_)) (y_move (by exact rfl)) rfl ?_
                refine xj_s 7 (by exact rfl) (by kernel_rfl) (by repeat (first | exact Sel.nil | refine Sel.cons (by repeat (first | exact Rem.here | apply Rem.there)) ?_)) (by first | exact y_ia_blk Try.underlying22 Try.sizeOf66 (by exact rfl) (by exact rfl) (by omega) | exact y_ia_el Try.underlying22 Try.sizeOf66 (by exact rfl) (by exact rfl) (by omega) (by first | assumption | simp)) rfl ?_
                refine xj_s 8 (by exact rfl) (by kernel_rfl) (by repeat (first | exact Sel.nil | refine Sel.cons (by repeat (first | exact Rem.here | apply Rem.there)) ?_)) (by first | exact y_fab Try.underlying66 (by exact rfl) (by exact Try.sizeOf36) (by exact rfl) rfl | exact y_fa Try.underlying66 (by exact rfl) (by exact Try.sizeOf36) (by exact rfl) rfl) rfl ?_
                refine xj_s 9 (by exact rfl) (by kernel_rfl) (by repeat (first | exact Sel.nil | refine Sel.cons (by repeat (first | exact Rem.here | apply Rem.there)) ?_)) (by first | exact y_load_blk Try.underlying36 rfl (by exact rfl) (by repeat (first | exact .head _ | refine .tail _ ?_)) (by exact rfl) | exact y_load_caj Try.underlying36 rfl (by exact rfl) (by repeat (first | exact .head _ | refine .tail _ ?_)) (by assumption) (by exact rfl) | exact y_load_ca0 Try.underlying36 rfl (by exact rfl) (by repeat (first | exact .head _ | refine .tail _ ?_)) (by assumption) (by exact rfl)) rfl ?_
                refine xj_s 11 (by exact rfl) (by kernel_rfl) (by repeat (first | exact Sel.nil | refine Sel.cons (by repeat (first | exact Rem.here | apply Rem.there)) ?_)) (y_move (by exact rfl)) rfl ?_
                refine xj_s 12 (by exact rfl) (by kernel_rfl) (by repeat (first | exact Sel.nil | refine Sel.cons (by repeat (first | exact Rem.here | apply Rem.there)) ?_)) (y_move (by exact rfl)) rfl ?_
                refine xj_s 13 (by exact rfl) (by kernel_rfl) (by repeat (first | exact Sel.nil | refine Sel.cons (by repeat (first | exact Rem.here | apply Rem.there)) ?_)) (y_move (by exact rfl)) rfl ?_
                refine xj_s 14 (by exact rfl) (by kernel_rfl) (by repeat (first | exact Sel.nil | refine Sel.cons (by repeat (first | exact Rem.here | apply Rem.there)) ?_)) (y_conv Try.underlying48 Try.underlying3 (by exact rfl) (wrap64_in (by omega) (by omega))) rfl ?_
                refine xj_s 15 (by exact rfl) (by kernel_rfl) (by repeat (first | exact Sel.nil | refine Sel.cons (by repeat (first | exact Rem.here | apply Rem.there)) ?_)) (y_rem (by exact rfl) (by exact rfl) (by omega) (by omega)) rfl ?_
                refine xj_s 16 (by exact rfl) (by kernel_rfl) (by repeat (first | exact Sel.nil | refine Sel.cons (by repeat (first | exact Rem.here | apply Rem.there)) ?_)) (y_add (by exact rfl) (by exact rfl) (by omega)) rfl ?_
                refine xj_s 17 (by exact rfl) (by kernel_rfl) (by repeat (first | exact Sel.nil | refine Sel.cons (by repeat (first | exact Rem.here | apply Rem.there)) ?_)) (y_min (by exact rfl) (by exact rfl)) rfl ?_
                refine xj_one 3 (by exact rfl) (by kernel_rfl) ?_
                refine sq_bs Try.underlying36 ei32 EvI.nil (by first | (simp [Value.cells]; done) | (simp [Value.cells]; rfl)) rfl rfl rfl (fun b133 => ?_)
                refine sq_nil ?_
                refine sx_xp (by repeat (first | exact Sel.nil | refine Sel.cons (by repeat (first | exact Rem.here | apply Rem.there)) ?_)) ?_
                refine xj_one 10 (by exact rfl) (by kernel_rfl) ?_
                refine sq_blk_own (e := 32) (n := 0) (sz := 2) (xs := []) (by repeat (first | exact Rem.here | apply Rem.there)) rfl (by decide) ?_
                refine sq_append_rows (news := flatS tm.brk) Try.underlying36 ei32 Try.sizeOf32 rfl (by decide) (by exact rfl) (by repeat (first | exact Rem.here | apply Rem.there)) (by exact rfl) hbr.noa (flatS_len _) (fun ad had w1 hw1 => flatS_cells (by rw [← had]; exact hbr.at hw1 (by repeat (first | exact .head _ | refine .tail _ ?_)))) (flatS_one _) (by omega) rfl (fun v140 ho140 => ?_)
                refine sq_nil ?_
                refine sx_xp (by repeat (first | exact Sel.nil | refine Sel.cons (by repeat (first | exact Rem.here | apply Rem.there)) ?_)) ?_
                rw [List.nil_append, Nat.zero_add tm.brk.length]
                refine xj_one 18 (by exact rfl) (by kernel_rfl) ?_
                refine sq_y (y_call (first := []) (caps := []) (by exact rfl) Try.call30 (EvL.cons (by exact rfl) (EvL.cons (by exact rfl) EvL.nil)) (fun w1 _ => span30 w1 _ _)) rfl ?_
                refine sq_nil ?_
                refine sx_xp (by repeat (first | exact Sel.nil | refine Sel.cons (by repeat (first | exact Rem.here | apply Rem.there)) ?_)) ?_
                refine xj_one 19 (by exact rfl) (by kernel_rfl) ?_
                refine sq_bs Try.underlying36 ei32 (EvI.cons (by exact rfl) EvI.nil) (by first | (simp [Value.cells]; done) | (simp [Value.cells]; rfl)) rfl rfl rfl (fun b149 => ?_)
                refine sq_nil ?_
                refine sx_xp (by repeat (first | exact Sel.nil | refine Sel.cons (by repeat (first | exact Rem.here | apply Rem.there)) ?_)) ?_
                refine xj_one 20 (by exact rfl) (by kernel_rfl) ?_
                refine sq_append (news := [.int .i64 (fz % 2001), .int .i64 (min 2000 (fz % 2001 + lz % 100))]) Try.underlying36 ei32 rfl (by decide) (by exact rfl) (by repeat (first | exact Rem.here | apply Rem.there)) (by exact rfl) rfl (fun _ hw => news_blk hw (by repeat (first | exact .head _ | refine .tail _ ?_))) (by simp [Value.oneCell']) (by omega) rfl (fun v150 ho150 => ?_)
                refine sq_nil ?_
                refine sx_xp (by repeat (first | exact Sel.nil | refine Sel.cons (by repeat (first | exact Rem.here | apply Rem.there)) ?_)) ?_
                refine xj_s 21 (by exact rfl) (by kernel_rfl) (by repeat (first | exact Sel.nil | refine Sel.cons (by repeat (first | exact Rem.here | apply Rem.there)) ?_)) (by first | exact y_ia_blk Try.underlying22 Try.sizeOf66 (by exact rfl) (by exact rfl) (by omega) | exact y_ia_el Try.underlying22 Try.sizeOf66 (by exact rfl) (by exact rfl) (by omega) (by first | assumption | simp)) rfl ?_
                refine xj_s 22 (by exact rfl) (by kernel_rfl) (by repeat (first | exact Sel.nil | refine Sel.cons (by repeat (first | exact Rem.here | apply Rem.there)) ?_)) (by first | exact y_fab Try.underlying66 (by exact rfl) (by exact Try.sizeOf36) (by exact rfl) rfl | exact y_fa Try.underlying66 (by exact rfl) (by exact Try.sizeOf36) (by exact rfl) rfl) rfl ?_
                refine xj_one 23 (by exact rfl) (by kernel_rfl) ?_
                refine sq_store (o := 0 + t * 2 + 1) Try.sizeOf36 (by exact rfl) (by exact rfl) ho150 (by repeat (first | exact Rem.here | apply Rem.there)) (by omega) ?_
                refine sq_nil ?_
                refine sx_xpl (by kernel_rfl) ?_
                refine xj_done (by kernel_rfl) ?_
                refine sx_then ?_
                refine sc_seq ?_
                refine sc_own_blk (e := 32) (sz := 2) (by repeat (first | exact Rem.here | apply Rem.there)) (by omega) (fun g2 cap2 cur2 hv150 hnc2 hcm2 hsz2 htk2 => ?_)
                subst hv150
                have hmo : rcB (moreR r t ⟨fz % 2001, min 2000 (fz % 2001 + lz % 100)⟩) = true := moreR_ok hok ht (by rw [hbrk]; simp at hc5; omega) (by simp only [spB, decide_eq_true_eq]; omega)
                refine sc_region ?_
                refine sq_y (OpY.s (by first | exact y_load_all Try.underlying24 rfl Try.sizeOf24 (by exact rfl) (by repeat (first | exact .head _ | refine .tail _ ?_)) (by exact rfl) | exact y_load_ca Try.underlying24 rfl Try.sizeOf24 (by exact rfl) (by repeat (first | exact .head _ | refine .tail _ ?_)) (by assumption) (by exact rfl))) rfl ?_
                refine sq_y (OpY.s (y_move (by exact rfl))) rfl ?_
                refine sq_y (OpY.s (y_move (by exact rfl))) rfl ?_
                refine sq_y (y_call (first := []) (caps := []) (by exact rfl) Try.call15 (EvL.cons (by exact rfl) (EvL.cons (by exact rfl) (EvL.cons (by exact rfl) EvL.nil))) (fun w1 hw1 => worked15w w1 _ (moreR r t ⟨fz % 2001, min 2000 (fz % 2001 + lz % 100)⟩) t m m rfl (by
                    have hT' := more_tms (t := t) (s := ⟨fz % 2001, min 2000 (fz % 2001 + lz % 100)⟩) hw1 ht (by rw [hbrk]; simp at hc5; omega) (by rw [hbrk]; exact (by repeat (first | exact .head _ | refine .tail _ ?_))) (by repeat (first | exact .head _ | refine .tail _ ?_)) (hT.at hw1 (by repeat (first | exact .head _ | refine .tail _ ?_))) htk (by rw [hbrk, flatS_snoc]; exact htk2)
                    have h3 := hT'.rc (r := moreR r t ⟨fz % 2001, min 2000 (fz % 2001 + lz % 100)⟩) (c := cap) i1 i2 i3
                    rw [rcVal, moreR_len] at h3; exact h3) hmo (by rw [moreR_len]; exact ht) hm)) rfl ?_
                refine sq_y (OpY.s (y_move (by exact rfl))) rfl ?_
                refine sq_y (OpY.s (y_extract (by exact rfl) (by exact rfl))) rfl ?_
                refine sq_y (OpY.s (y_extract (by exact rfl) (by exact rfl))) rfl ?_
                refine sq_y (OpY.s (y_assign (by exact rfl))) rfl ?_
                refine sq_y (OpY.s (y_assign (by exact rfl))) rfl ?_
                refine sq_nil ?_
                refine sx_then ?_
                refine sc_seq ?_
                refine sc_region ?_
                refine sq_y (OpY.s (y_move (by exact rfl))) rfl ?_
                refine sq_y (OpY.s (y_eql (by exact rfl) (by exact rfl))) rfl ?_
                refine sq_y (OpY.s (y_move (by exact rfl))) rfl ?_
                refine sq_known (tt := 162) (b' := true) (by exact rfl) (by simp) ?_
                refine sq_gt (by exact rfl) (by exact rfl) (OpY.s (y_move (by exact rfl))) rfl ?_
                refine sq_gt (by exact rfl) (by exact rfl) (OpY.s (y_move (by exact rfl))) rfl ?_
                refine sq_gt (by exact rfl) (by exact rfl) (OpY.s (y_leq (by exact rfl) (by exact rfl))) rfl ?_
                refine sq_y (OpY.s (y_pick_t (by exact rfl) (by exact rfl))) rfl ?_
                refine sq_y (OpY.s (y_move (by exact rfl))) rfl ?_
                refine sq_known (tt := 167) (b' := true) (by exact rfl) (decide_eq_true (by have := wrk_more_le (s := ⟨fz % 2001, min 2000 (fz % 2001 + lz % 100)⟩) ht m; omega)) ?_
                refine sq_gt (by exact rfl) (by exact rfl) (OpY.s (y_move (by exact rfl))) rfl ?_
                refine sq_gt (by exact rfl) (by exact rfl) (OpY.s (y_move (by exact rfl))) rfl ?_
                refine sq_gt (by exact rfl) (by exact rfl) (OpY.s (y_lss (by exact rfl) (by exact rfl))) rfl ?_
                refine sq_gt (by exact rfl) (by exact rfl) (OpY.s (y_move (by exact rfl))) rfl ?_
                first | refine sq_splitd (tt := 171) (by exact rfl) (fun hg25_11 => ?_) (fun hg25_11 => ?_) | refine sq_splitn (tt := 171) (by exact rfl) (fun hg25_11 => ?_) (fun hg25_11 => ?_) | refine sq_split (tt := 171) (by exact rfl) (fun hg25_11 => ?_) (fun hg25_11 => ?_)
                ·
                  refine sq_gf (by exact rfl) (by exact rfl) (by exact rfl) rfl ?_
                  refine sq_gf (by exact rfl) (by exact rfl) (by exact rfl) rfl ?_
                  refine sq_gf (by exact rfl) (by exact rfl) (by exact rfl) rfl ?_
                  refine sq_gt (by exact rfl) (by exact rfl) (OpY.s (y_pick_t (by exact rfl) (by exact rfl))) rfl ?_
                  refine sq_y (OpY.s (y_pick_t (by exact rfl) (by exact rfl))) rfl ?_
                  refine sq_y (OpY.s (y_move (by exact rfl))) rfl ?_
                  refine sq_gt (by exact rfl) (by exact rfl) (y_call (first := []) (caps := []) (by exact rfl) Try.call14 EvL.nil (fun w1 _ => alive14 w1)) rfl ?_
                  refine sq_y (OpY.s (y_pick_t (by exact rfl) (by exact rfl))) rfl ?_
                  refine sq_y (OpY.s (y_assign (by exact rfl))) rfl ?_
                  refine sq_nil ?_
                  refine sx_then ?_
                  refine sc_ret ?_
                  refine sx_ret1 (.inl rfl) rfl Try.results11 (by exact rfl) ?_
                  intro w' hw'
                  exact ⟨rfl, hw'.below (by repeat (first | exact .head _ | refine .tail _ ?_))⟩
                ·
                  refine sq_gt (by exact rfl) (by exact rfl) (OpY.s (y_move (by exact rfl))) rfl ?_
                  refine sq_gt (by exact rfl) (by exact rfl) (OpY.s (y_move (by exact rfl))) rfl ?_
                  refine sq_gt (by exact rfl) (by exact rfl) (OpY.s (y_eql (by exact rfl) (by exact rfl))) rfl ?_
                  refine sq_gt (by exact rfl) (by exact rfl) (OpY.s (y_pick_f (by exact rfl) (by exact rfl))) rfl ?_
                  refine sq_y (OpY.s (y_pick_t (by exact rfl) (by exact rfl))) rfl ?_
                  refine sq_y (OpY.s (y_move (by exact rfl))) rfl ?_
                  refine sq_known (tt := 177) (b' := true) (by exact rfl) (by first | rfl | exact decide_eq_true (by rw [wrk_more_eq ht (by simp at hg25_11 ⊢; omega)])) ?_
                  refine sq_gt (by exact rfl) (by exact rfl) (y_call (first := []) (caps := []) (by exact rfl) Try.call14 EvL.nil (fun w1 _ => alive14 w1)) rfl ?_
                  refine sq_y (OpY.s (y_pick_t (by exact rfl) (by exact rfl))) rfl ?_
                  refine sq_y (OpY.s (y_assign (by exact rfl))) rfl ?_
                  refine sq_nil ?_
                  refine sx_then ?_
                  refine sc_ret ?_
                  refine sx_ret1 (.inl rfl) rfl Try.results11 (by exact rfl) ?_
                  intro w' hw'
                  exact ⟨rfl, hw'.below (by repeat (first | exact .head _ | refine .tail _ ?_))⟩
          ·
            refine sc_skip ?_
            refine sx_then ?_
            refine sc_seq ?_
            refine sc_seq ?_
            refine sc_region ?_
            refine sq_y (OpY.s (y_move (by exact rfl))) rfl ?_
            refine sq_y (OpY.s (y_neq (by exact rfl) (by exact rfl))) rfl ?_
            refine sq_y (OpY.s (y_move (by exact rfl))) rfl ?_
            refine sq_known (tt := 99) (b' := false) (by exact rfl) (by simp) ?_
            refine sq_gt (by exact rfl) (by exact rfl) (OpY.s (y_move (by exact rfl))) rfl ?_
            refine sq_gt (by exact rfl) (by exact rfl) (OpY.s (y_move (by exact rfl))) rfl ?_
            refine sq_gt (by exact rfl) (by exact rfl) (OpY.s (y_neq (by exact rfl) (by exact rfl))) rfl ?_
            refine sq_y (OpY.s (y_pick_f (by exact rfl) (by exact rfl))) rfl ?_
            refine sq_y (OpY.s (y_move (by exact rfl))) rfl ?_
            refine sq_known (tt := 104) (b' := false) (by exact rfl) (by simp_all) ?_
            refine sq_gt (by exact rfl) (by exact rfl) (OpY.s (y_move (by exact rfl))) rfl ?_
            refine sq_gt (by exact rfl) (by exact rfl) (OpY.s (y_eql (by exact rfl) (by exact rfl))) rfl ?_
            refine sq_gt (by exact rfl) (by exact rfl) (OpY.s (y_move (by exact rfl))) rfl ?_
            first | refine sq_splitd (tt := 107) (by exact rfl) (fun hg16_10 => ?_) (fun hg16_10 => ?_) | refine sq_splitn (tt := 107) (by exact rfl) (fun hg16_10 => ?_) (fun hg16_10 => ?_) | refine sq_split (tt := 107) (by exact rfl) (fun hg16_10 => ?_) (fun hg16_10 => ?_)
            ·
              refine sq_gt (by exact rfl) (by exact rfl) (OpY.s (y_move (by exact rfl))) rfl ?_
              refine sq_gt (by exact rfl) (by exact rfl) (OpY.s (y_neq (by exact rfl) (by exact rfl))) rfl ?_
              refine sq_gt (by exact rfl) (by exact rfl) (OpY.s (y_pick_t (by exact rfl) (by exact rfl))) rfl ?_
              refine sq_y (OpY.s (y_pick_f (by exact rfl) (by exact rfl))) rfl ?_
              refine sq_nil ?_
              refine sx_then ?_
              refine sc_f (lk_bool rfl (by simp_all)) ?_
              refine sc_skip ?_
              refine sx_then ?_
              refine sc_seq ?_
              refine sc_seq ?_
              refine sc_region ?_
              refine sq_y (OpY.s (by first | exact y_fab Try.underlying24 (by exact rfl) (by exact Try.sizeOf22) (by exact rfl) rfl | exact y_fa Try.underlying24 (by exact rfl) (by exact Try.sizeOf22) (by exact rfl) rfl)) rfl ?_
              refine sq_y (OpY.s (by first | exact y_load_blk Try.underlying22 rfl (by exact rfl) (by repeat (first | exact .head _ | refine .tail _ ?_)) (by exact rfl) | exact y_load_caj Try.underlying22 rfl (by exact rfl) (by repeat (first | exact .head _ | refine .tail _ ?_)) (by assumption) (by exact rfl) | exact y_load_ca0 Try.underlying22 rfl (by exact rfl) (by repeat (first | exact .head _ | refine .tail _ ?_)) (by assumption) (by exact rfl))) rfl ?_
              refine sq_y (OpY.s (y_move (by exact rfl))) rfl ?_
              refine sq_y (OpY.s (by first | exact y_ia_blk Try.underlying22 Try.sizeOf66 (by exact rfl) (by exact rfl) (by omega) | exact y_ia_el Try.underlying22 Try.sizeOf66 (by exact rfl) (by exact rfl) (by omega) (by first | assumption | simp))) rfl ?_
              refine sq_y (OpY.s (by first | exact y_fab Try.underlying66 (by exact rfl) (by exact Try.sizeOf36) (by exact rfl) rfl | exact y_fa Try.underlying66 (by exact rfl) (by exact Try.sizeOf36) (by exact rfl) rfl)) rfl ?_
              refine sq_y (OpY.s (by first | exact y_load_blk Try.underlying36 rfl (by exact rfl) (by repeat (first | exact .head _ | refine .tail _ ?_)) (by exact rfl) | exact y_load_caj Try.underlying36 rfl (by exact rfl) (by repeat (first | exact .head _ | refine .tail _ ?_)) (by assumption) (by exact rfl) | exact y_load_ca0 Try.underlying36 rfl (by exact rfl) (by repeat (first | exact .head _ | refine .tail _ ?_)) (by assumption) (by exact rfl))) rfl ?_
              refine sq_y (OpY.s (y_len Try.underlying36 (by exact rfl))) rfl ?_
              refine sq_y (OpY.s (y_geq (by exact rfl) (by exact rfl))) rfl ?_
              refine sq_nil ?_
              refine sx_then ?_
              first | refine sc_if (by exact rfl) (fun hc5 => ?_) (fun hc5 => ?_) | refine sc_ifn (by exact rfl) (fun hc5 => ?_) (fun hc5 => ?_) | refine sc_cond (by exact rfl) (fun hc5 => ?_) (fun hc5 => ?_)
              ·
                refine sc_seq ?_
                refine sc_region ?_
                refine sq_y (y_call (first := []) (caps := []) (by exact rfl) Try.call14 EvL.nil (fun w1 _ => alive14 w1)) rfl ?_
                refine sq_y (OpY.s (y_assign (by exact rfl))) rfl ?_
                refine sq_nil ?_
                refine sx_then ?_
                refine sc_ret ?_
                refine sx_then_ret ?_
                refine sx_ret1 (.inl rfl) rfl Try.results11 (by exact rfl) ?_
                intro w' hw'
                exact ⟨rfl, hw'.below (by repeat (first | exact .head _ | refine .tail _ ?_))⟩
              ·
                refine sc_skip ?_
                refine sx_then ?_
                refine sc_seq ?_
                refine sc_region ?_
                refine sq_y (OpY.s (by first | exact y_load_all Try.underlying24 rfl Try.sizeOf24 (by exact rfl) (by repeat (first | exact .head _ | refine .tail _ ?_)) (by exact rfl) | exact y_load_ca Try.underlying24 rfl Try.sizeOf24 (by exact rfl) (by repeat (first | exact .head _ | refine .tail _ ?_)) (by assumption) (by exact rfl))) rfl ?_
                refine sq_alloc Try.zeroValue24 rfl (fun b19 => ?_)
                refine sq_store_all Try.sizeOf24 (by exact rfl) (by exact rfl) rfl (by repeat (first | exact Rem.here | apply Rem.there)) rfl rfl ?_
                refine sq_nil ?_
                refine sx_then ?_
                refine sc_seq ?_
                refine sc_region ?_
                refine sq_bs Try.underlying22 ei66 EvI.nil (by first | (simp [Value.cells]; done) | (simp [Value.cells]; rfl)) rfl rfl rfl (fun b122 => ?_)
                refine sq_y (OpY.s (by first | exact y_fab Try.underlying24 (by exact rfl) (by exact Try.sizeOf22) (by exact rfl) rfl | exact y_fa Try.underlying24 (by exact rfl) (by exact Try.sizeOf22) (by exact rfl) rfl)) rfl ?_
                refine sq_y (OpY.s (by first | exact y_load_blk Try.underlying22 rfl (by exact rfl) (by repeat (first | exact .head _ | refine .tail _ ?_)) (by exact rfl) | exact y_load_caj Try.underlying22 rfl (by exact rfl) (by repeat (first | exact .head _ | refine .tail _ ?_)) (by assumption) (by exact rfl) | exact y_load_ca0 Try.underlying22 rfl (by exact rfl) (by repeat (first | exact .head _ | refine .tail _ ?_)) (by assumption) (by exact rfl))) rfl ?_
                refine sq_blk_own (e := 66) (n := 0) (sz := 2) (xs := []) (by repeat (first | exact Rem.here | apply Rem.there)) rfl (by decide) ?_
                refine sq_append_rows (news := tmFlat r.teams f cf) Try.underlying22 ei66 Try.sizeOf66 rfl (by decide) (by exact rfl) (by repeat (first | exact Rem.here | apply Rem.there)) (by exact rfl) hT.noa (tmFlat_len ..) (fun ad had w1 hw1 => tmFlat_cells (by subst had; exact hT.at hw1 (by repeat (first | exact .head _ | refine .tail _ ?_)))) (tmFlat_one r.teams f cf) (by omega) rfl (fun v125 ho125 => ?_)
                rw [List.nil_append, Nat.zero_add r.teams.length]
                refine sq_y (OpY.s (by first | exact y_fab Try.underlying24 (by exact rfl) (by exact Try.sizeOf22) (by exact rfl) rfl | exact y_fa Try.underlying24 (by exact rfl) (by exact Try.sizeOf22) (by exact rfl) rfl)) rfl ?_
                refine sq_store_eq (cs' := [Value.int .i64 r.p, .int .i64 r.lim, .int .i64 r.rate, v125].toArray) Try.sizeOf22 (by exact rfl) (by exact rfl) ho125 (by repeat (first | exact Rem.here | apply Rem.there)) (Nat.le_of_ble_eq_true rfl) rfl ?_
                refine sq_nil ?_
                refine sx_then ?_
                refine sc_seq ?_
                refine sc_own_blk (e := 66) (sz := 2) (by repeat (first | exact Rem.here | apply Rem.there)) (by omega) (fun g cap cur hv125 hnc hcm hsz htk => ?_)
                subst hv125
                refine sc_region ?_
                refine sq_y (OpY.s (y_move (by exact rfl))) rfl ?_
                refine sq_y (OpY.s (y_conv Try.underlying48 Try.underlying3 (by exact rfl) (wrap64_in (by omega) (by omega)))) rfl ?_
                refine sq_y (OpY.s (y_rem (by exact rfl) (by exact rfl) (by omega) (by omega))) rfl ?_
                refine sq_y (OpY.s (y_assign (by exact rfl))) rfl ?_
                refine sq_nil ?_
                refine sx_then ?_
                refine sc_seq ?_
                refine sc_drawX ([.blk b19 (.cells [Value.int .i64 r.p, .int .i64 r.lim, .int .i64 r.rate, .slice (some ⟨g, 0, none⟩) r.teams.length cap].toArray 24 (0, 0)), .blk g (.cells cur 66 (0, 0)), .blk b5 (.cells (rcVal r a c).toArray 24 (0, 0)), .reg 0 w]) (by kernel_rfl) ?_
                refine xj_s 0 (by exact rfl) (by kernel_rfl) (by repeat (first | exact Sel.nil | refine Sel.cons (by repeat (first | exact Rem.here | apply Rem.there)) ?_)) (by first | exact y_fab Try.underlying24 (by exact rfl) (by exact Try.sizeOf22) (by exact rfl) rfl | exact y_fa Try.underlying24 (by exact rfl) (by exact Try.sizeOf22) (by exact rfl) rfl) rfl ?_
                refine xj_s 1 (by exact rfl) (by kernel_rfl) (by repeat (first | exact Sel.nil | refine Sel.cons (by repeat (first | exact Rem.here | apply Rem.there)) ?_)) (by first | exact y_load_blk Try.underlying22 rfl (by exact rfl) (by repeat (first | exact .head _ | refine .tail _ ?_)) (by exact rfl) | exact y_load_caj Try.underlying22 rfl (by exact rfl) (by repeat (first | exact .head _ | refine .tail _ ?_)) (by assumption) (by exact rfl) | exact y_load_ca0 Try.underlying22 rfl (by exact rfl) (by repeat (first | exact .head _ | refine .tail _ ?_)) (by assumption) (by exact rfl)) rfl ?_
                refine xj_s 2 (by exact rfl) (by kernel_rfl) (by repeat (first | exact Sel.nil | refine Sel.cons (by repeat (first | exact Rem.here | apply Rem.there)) ?_)) (y_move (by exact rfl)) rfl ?_
                refine xj_s 4 (by exact rfl) (by kernel_rfl) (by repeat (first | exact Sel.nil | refine Sel.cons (by repeat (first | exact Rem.here | apply Rem.there)) ?_)) (by first | exact y_fab Try.underlying24 (by exact rfl) (by exact Try.sizeOf22) (by exact rfl) rfl | exact y_fa Try.underlying24 (by exact rfl) (by exact Try.sizeOf22) (by exact rfl) rfl) rfl ?_
                refine xj_s 5 (by exact rfl) (by kernel_rfl) (by repeat (first | exact Sel.nil | refine Sel.cons (by repeat (first | exact Rem.here | apply Rem.there)) ?_)) (by first | exact y_load_blk Try.underlying22 rfl (by exact rfl) (by repeat (first | exact .head _ | refine .tail _ ?_)) (by exact rfl) | exact y_load_caj Try.underlying22 rfl (by exact rfl) (by repeat (first | exact .head _ | refine .tail _ ?_)) (by assumption) (by exact rfl) | exact y_load_ca0 Try.underlying22 rfl (by exact rfl) (by repeat (first | exact .head _ | refine .tail _ ?_)) (by assumption) (by exact rfl)) rfl ?_
                refine xj_s 6 (by exact rfl) (by kernel_rfl) (by repeat (first | exact Sel.nil | refine Sel.cons (by repeat (first | exact Rem.here | apply Rem.there)) ?_)) (y_move (by exact rfl)) rfl ?_
                refine xj_s 7 (by exact rfl) (by kernel_rfl) (by repeat (first | exact Sel.nil | refine Sel.cons (by repeat (first | exact Rem.here | apply Rem.there)) ?_)) (by first | exact y_ia_blk Try.underlying22 Try.sizeOf66 (by exact rfl) (by exact rfl) (by omega) | exact y_ia_el Try.underlying22 Try.sizeOf66 (by exact rfl) (by exact rfl) (by omega) (by first | assumption | simp)) rfl ?_
                refine xj_s 8 (by exact rfl) (by kernel_rfl) (by repeat (first | exact Sel.nil | refine Sel.cons (by repeat (first | exact Rem.here | apply Rem.there)) ?_)) (by first | exact y_fab Try.underlying66 (by exact rfl) (by exact Try.sizeOf36) (by exact rfl) rfl | exact y_fa Try.underlying66 (by exact rfl) (by exact Try.sizeOf36) (by exact rfl) rfl) rfl ?_
                refine xj_s 9 (by exact rfl) (by kernel_rfl) (by repeat (first | exact Sel.nil | refine Sel.cons (by repeat (first | exact Rem.here | apply Rem.there)) ?_)) (by first | exact y_load_blk Try.underlying36 rfl (by exact rfl) (by repeat (first | exact .head _ | refine .tail _ ?_)) (by exact rfl) | exact y_load_caj Try.underlying36 rfl (by exact rfl) (by repeat (first | exact .head _ | refine .tail _ ?_)) (by assumption) (by exact rfl) | exact y_load_ca0 Try.underlying36 rfl (by exact rfl) (by repeat (first | exact .head _ | refine .tail _ ?_)) (by assumption) (by exact rfl)) rfl ?_
                refine xj_s 11 (by exact rfl) (by kernel_rfl) (by repeat (first | exact Sel.nil | refine Sel.cons (by repeat (first | exact Rem.here | apply Rem.there)) ?_)) (y_move (by exact rfl)) rfl ?_
                refine xj_s 12 (by exact rfl) (by kernel_rfl) (by repeat (first | exact Sel.nil | refine Sel.cons (by repeat (first | exact Rem.here | apply Rem.there)) ?_)) (y_move (by exact rfl)) rfl ?_
                refine xj_s 13 (by exact rfl) (by kernel_rfl) (by repeat (first | exact Sel.nil | refine Sel.cons (by repeat (first | exact Rem.here | apply Rem.there)) ?_)) (y_move (by exact rfl)) rfl ?_
                refine xj_s 14 (by exact rfl) (by kernel_rfl) (by repeat (first | exact Sel.nil | refine Sel.cons (by repeat (first | exact Rem.here | apply Rem.there)) ?_)) (y_conv Try.underlying48 Try.underlying3 (by exact rfl) (wrap64_in (by omega) (by omega))) rfl ?_
                refine xj_s 15 (by exact rfl) (by kernel_rfl) (by repeat (first | exact Sel.nil | refine Sel.cons (by repeat (first | exact Rem.here | apply Rem.there)) ?_)) (y_rem (by exact rfl) (by exact rfl) (by omega) (by omega)) rfl ?_
                refine xj_s 16 (by exact rfl) (by kernel_rfl) (by repeat (first | exact Sel.nil | refine Sel.cons (by repeat (first | exact Rem.here | apply Rem.there)) ?_)) (y_add (by exact rfl) (by exact rfl) (by omega)) rfl ?_
                refine xj_s 17 (by exact rfl) (by kernel_rfl) (by repeat (first | exact Sel.nil | refine Sel.cons (by repeat (first | exact Rem.here | apply Rem.there)) ?_)) (y_min (by exact rfl) (by exact rfl)) rfl ?_
                refine xj_one 3 (by exact rfl) (by kernel_rfl) ?_
                refine sq_bs Try.underlying36 ei32 EvI.nil (by first | (simp [Value.cells]; done) | (simp [Value.cells]; rfl)) rfl rfl rfl (fun b133 => ?_)
                refine sq_nil ?_
                refine sx_xp (by repeat (first | exact Sel.nil | refine Sel.cons (by repeat (first | exact Rem.here | apply Rem.there)) ?_)) ?_
                refine xj_one 10 (by exact rfl) (by kernel_rfl) ?_
                refine sq_blk_own (e := 32) (n := 0) (sz := 2) (xs := []) (by repeat (first | exact Rem.here | apply Rem.there)) rfl (by decide) ?_
                refine sq_append_rows (news := flatS tm.brk) Try.underlying36 ei32 Try.sizeOf32 rfl (by decide) (by exact rfl) (by repeat (first | exact Rem.here | apply Rem.there)) (by exact rfl) hbr.noa (flatS_len _) (fun ad had w1 hw1 => flatS_cells (by rw [← had]; exact hbr.at hw1 (by repeat (first | exact .head _ | refine .tail _ ?_)))) (flatS_one _) (by omega) rfl (fun v140 ho140 => ?_)
                refine sq_nil ?_
                refine sx_xp (by repeat (first | exact Sel.nil | refine Sel.cons (by repeat (first | exact Rem.here | apply Rem.there)) ?_)) ?_
                rw [List.nil_append, Nat.zero_add tm.brk.length]
                refine xj_one 18 (by exact rfl) (by kernel_rfl) ?_
                refine sq_y (y_call (first := []) (caps := []) (by exact rfl) Try.call30 (EvL.cons (by exact rfl) (EvL.cons (by exact rfl) EvL.nil)) (fun w1 _ => span30 w1 _ _)) rfl ?_
                refine sq_nil ?_
                refine sx_xp (by repeat (first | exact Sel.nil | refine Sel.cons (by repeat (first | exact Rem.here | apply Rem.there)) ?_)) ?_
                refine xj_one 19 (by exact rfl) (by kernel_rfl) ?_
                refine sq_bs Try.underlying36 ei32 (EvI.cons (by exact rfl) EvI.nil) (by first | (simp [Value.cells]; done) | (simp [Value.cells]; rfl)) rfl rfl rfl (fun b149 => ?_)
                refine sq_nil ?_
                refine sx_xp (by repeat (first | exact Sel.nil | refine Sel.cons (by repeat (first | exact Rem.here | apply Rem.there)) ?_)) ?_
                refine xj_one 20 (by exact rfl) (by kernel_rfl) ?_
                refine sq_append (news := [.int .i64 (fz % 2001), .int .i64 (min 2000 (fz % 2001 + lz % 100))]) Try.underlying36 ei32 rfl (by decide) (by exact rfl) (by repeat (first | exact Rem.here | apply Rem.there)) (by exact rfl) rfl (fun _ hw => news_blk hw (by repeat (first | exact .head _ | refine .tail _ ?_))) (by simp [Value.oneCell']) (by omega) rfl (fun v150 ho150 => ?_)
                refine sq_nil ?_
                refine sx_xp (by repeat (first | exact Sel.nil | refine Sel.cons (by repeat (first | exact Rem.here | apply Rem.there)) ?_)) ?_
                refine xj_s 21 (by exact rfl) (by kernel_rfl) (by repeat (first | exact Sel.nil | refine Sel.cons (by repeat (first | exact Rem.here | apply Rem.there)) ?_)) (by first | exact y_ia_blk Try.underlying22 Try.sizeOf66 (by exact rfl) (by exact rfl) (by omega) | exact y_ia_el Try.underlying22 Try.sizeOf66 (by exact rfl) (by exact rfl) (by omega) (by first | assumption | simp)) rfl ?_
                refine xj_s 22 (by exact rfl) (by kernel_rfl) (by repeat (first | exact Sel.nil | refine Sel.cons (by repeat (first | exact Rem.here | apply Rem.there)) ?_)) (by first | exact y_fab Try.underlying66 (by exact rfl) (by exact Try.sizeOf36) (by exact rfl) rfl | exact y_fa Try.underlying66 (by exact rfl) (by exact Try.sizeOf36) (by exact rfl) rfl) rfl ?_
                refine xj_one 23 (by exact rfl) (by kernel_rfl) ?_
                refine sq_store (o := 0 + t * 2 + 1) Try.sizeOf36 (by exact rfl) (by exact rfl) ho150 (by repeat (first | exact Rem.here | apply Rem.there)) (by omega) ?_
                refine sq_nil ?_
                refine sx_xpl (by kernel_rfl) ?_
                refine xj_done (by kernel_rfl) ?_
                refine sx_then ?_
                refine sc_seq ?_
                refine sc_own_blk (e := 32) (sz := 2) (by repeat (first | exact Rem.here | apply Rem.there)) (by omega) (fun g2 cap2 cur2 hv150 hnc2 hcm2 hsz2 htk2 => ?_)
                subst hv150
                have hmo : rcB (moreR r t ⟨fz % 2001, min 2000 (fz % 2001 + lz % 100)⟩) = true := moreR_ok hok ht (by rw [hbrk]; simp at hc5; omega) (by simp only [spB, decide_eq_true_eq]; omega)
                refine sc_region ?_
                refine sq_y (OpY.s (by first | exact y_load_all Try.underlying24 rfl Try.sizeOf24 (by exact rfl) (by repeat (first | exact .head _ | refine .tail _ ?_)) (by exact rfl) | exact y_load_ca Try.underlying24 rfl Try.sizeOf24 (by exact rfl) (by repeat (first | exact .head _ | refine .tail _ ?_)) (by assumption) (by exact rfl))) rfl ?_
                refine sq_y (OpY.s (y_move (by exact rfl))) rfl ?_
                refine sq_y (OpY.s (y_move (by exact rfl))) rfl ?_
                refine sq_y (y_call (first := []) (caps := []) (by exact rfl) Try.call15 (EvL.cons (by exact rfl) (EvL.cons (by exact rfl) (EvL.cons (by exact rfl) EvL.nil))) (fun w1 hw1 => worked15w w1 _ (moreR r t ⟨fz % 2001, min 2000 (fz % 2001 + lz % 100)⟩) t m m rfl (by
                    have hT' := more_tms (t := t) (s := ⟨fz % 2001, min 2000 (fz % 2001 + lz % 100)⟩) hw1 ht (by rw [hbrk]; simp at hc5; omega) (by rw [hbrk]; exact (by repeat (first | exact .head _ | refine .tail _ ?_))) (by repeat (first | exact .head _ | refine .tail _ ?_)) (hT.at hw1 (by repeat (first | exact .head _ | refine .tail _ ?_))) htk (by rw [hbrk, flatS_snoc]; exact htk2)
                    have h3 := hT'.rc (r := moreR r t ⟨fz % 2001, min 2000 (fz % 2001 + lz % 100)⟩) (c := cap) i1 i2 i3
                    rw [rcVal, moreR_len] at h3; exact h3) hmo (by rw [moreR_len]; exact ht) hm)) rfl ?_
                refine sq_y (OpY.s (y_move (by exact rfl))) rfl ?_
                refine sq_y (OpY.s (y_extract (by exact rfl) (by exact rfl))) rfl ?_
                refine sq_y (OpY.s (y_extract (by exact rfl) (by exact rfl))) rfl ?_
                refine sq_y (OpY.s (y_assign (by exact rfl))) rfl ?_
                refine sq_y (OpY.s (y_assign (by exact rfl))) rfl ?_
                refine sq_nil ?_
                refine sx_then ?_
                refine sc_seq ?_
                refine sc_region ?_
                refine sq_y (OpY.s (y_move (by exact rfl))) rfl ?_
                refine sq_y (OpY.s (y_eql (by exact rfl) (by exact rfl))) rfl ?_
                refine sq_y (OpY.s (y_move (by exact rfl))) rfl ?_
                refine sq_known (tt := 162) (b' := true) (by exact rfl) (by simp) ?_
                refine sq_gt (by exact rfl) (by exact rfl) (OpY.s (y_move (by exact rfl))) rfl ?_
                refine sq_gt (by exact rfl) (by exact rfl) (OpY.s (y_move (by exact rfl))) rfl ?_
                refine sq_gt (by exact rfl) (by exact rfl) (OpY.s (y_leq (by exact rfl) (by exact rfl))) rfl ?_
                refine sq_y (OpY.s (y_pick_t (by exact rfl) (by exact rfl))) rfl ?_
                refine sq_y (OpY.s (y_move (by exact rfl))) rfl ?_
                refine sq_known (tt := 167) (b' := true) (by exact rfl) (decide_eq_true (by have := wrk_more_le (s := ⟨fz % 2001, min 2000 (fz % 2001 + lz % 100)⟩) ht m; omega)) ?_
                refine sq_gt (by exact rfl) (by exact rfl) (OpY.s (y_move (by exact rfl))) rfl ?_
                refine sq_gt (by exact rfl) (by exact rfl) (OpY.s (y_move (by exact rfl))) rfl ?_
                refine sq_gt (by exact rfl) (by exact rfl) (OpY.s (y_lss (by exact rfl) (by exact rfl))) rfl ?_
                refine sq_gt (by exact rfl) (by exact rfl) (OpY.s (y_move (by exact rfl))) rfl ?_
                first | refine sq_splitd (tt := 171) (by exact rfl) (fun hg25_11 => ?_) (fun hg25_11 => ?_) | refine sq_splitn (tt := 171) (by exact rfl) (fun hg25_11 => ?_) (fun hg25_11 => ?_) | refine sq_split (tt := 171) (by exact rfl) (fun hg25_11 => ?_) (fun hg25_11 => ?_)
                ·
                  refine sq_gf (by exact rfl) (by exact rfl) (by exact rfl) rfl ?_
                  refine sq_gf (by exact rfl) (by exact rfl) (by exact rfl) rfl ?_
                  refine sq_gf (by exact rfl) (by exact rfl) (by exact rfl) rfl ?_
                  refine sq_gt (by exact rfl) (by exact rfl) (OpY.s (y_pick_t (by exact rfl) (by exact rfl))) rfl ?_
                  refine sq_y (OpY.s (y_pick_t (by exact rfl) (by exact rfl))) rfl ?_
                  refine sq_y (OpY.s (y_move (by exact rfl))) rfl ?_
                  refine sq_gt (by exact rfl) (by exact rfl) (y_call (first := []) (caps := []) (by exact rfl) Try.call14 EvL.nil (fun w1 _ => alive14 w1)) rfl ?_
                  refine sq_y (OpY.s (y_pick_t (by exact rfl) (by exact rfl))) rfl ?_
                  refine sq_y (OpY.s (y_assign (by exact rfl))) rfl ?_
                  refine sq_nil ?_
                  refine sx_then ?_
                  refine sc_ret ?_
                  refine sx_ret1 (.inl rfl) rfl Try.results11 (by exact rfl) ?_
                  intro w' hw'
                  exact ⟨rfl, hw'.below (by repeat (first | exact .head _ | refine .tail _ ?_))⟩
                ·
                  refine sq_gt (by exact rfl) (by exact rfl) (OpY.s (y_move (by exact rfl))) rfl ?_
                  refine sq_gt (by exact rfl) (by exact rfl) (OpY.s (y_move (by exact rfl))) rfl ?_
                  refine sq_gt (by exact rfl) (by exact rfl) (OpY.s (y_eql (by exact rfl) (by exact rfl))) rfl ?_
                  refine sq_gt (by exact rfl) (by exact rfl) (OpY.s (y_pick_f (by exact rfl) (by exact rfl))) rfl ?_
                  refine sq_y (OpY.s (y_pick_t (by exact rfl) (by exact rfl))) rfl ?_
                  refine sq_y (OpY.s (y_move (by exact rfl))) rfl ?_
                  refine sq_known (tt := 177) (b' := true) (by exact rfl) (by first | rfl | exact decide_eq_true (by rw [wrk_more_eq ht (by simp at hg25_11 ⊢; omega)])) ?_
                  refine sq_gt (by exact rfl) (by exact rfl) (y_call (first := []) (caps := []) (by exact rfl) Try.call14 EvL.nil (fun w1 _ => alive14 w1)) rfl ?_
                  refine sq_y (OpY.s (y_pick_t (by exact rfl) (by exact rfl))) rfl ?_
                  refine sq_y (OpY.s (y_assign (by exact rfl))) rfl ?_
                  refine sq_nil ?_
                  refine sx_then ?_
                  refine sc_ret ?_
                  refine sx_ret1 (.inl rfl) rfl Try.results11 (by exact rfl) ?_
                  intro w' hw'
                  exact ⟨rfl, hw'.below (by repeat (first | exact .head _ | refine .tail _ ?_))⟩
            ·
              refine sq_gf (by exact rfl) (by exact rfl) (by exact rfl) rfl ?_
              refine sq_gf (by exact rfl) (by exact rfl) (by exact rfl) rfl ?_
              refine sq_gt (by exact rfl) (by exact rfl) (OpY.s (y_pick_f (by exact rfl) (by exact rfl))) rfl ?_
              refine sq_y (OpY.s (y_pick_f (by exact rfl) (by exact rfl))) rfl ?_
              refine sq_nil ?_
              refine sx_then ?_
              refine sc_f (by exact rfl) ?_
              refine sc_skip ?_
              refine sx_then ?_
              refine sc_seq ?_
              refine sc_seq ?_
              refine sc_region ?_
              refine sq_y (OpY.s (by first | exact y_fab Try.underlying24 (by exact rfl) (by exact Try.sizeOf22) (by exact rfl) rfl | exact y_fa Try.underlying24 (by exact rfl) (by exact Try.sizeOf22) (by exact rfl) rfl)) rfl ?_
              refine sq_y (OpY.s (by first | exact y_load_blk Try.underlying22 rfl (by exact rfl) (by repeat (first | exact .head _ | refine .tail _ ?_)) (by exact rfl) | exact y_load_caj Try.underlying22 rfl (by exact rfl) (by repeat (first | exact .head _ | refine .tail _ ?_)) (by assumption) (by exact rfl) | exact y_load_ca0 Try.underlying22 rfl (by exact rfl) (by repeat (first | exact .head _ | refine .tail _ ?_)) (by assumption) (by exact rfl))) rfl ?_
              refine sq_y (OpY.s (y_move (by exact rfl))) rfl ?_
              refine sq_y (OpY.s (by first | exact y_ia_blk Try.underlying22 Try.sizeOf66 (by exact rfl) (by exact rfl) (by omega) | exact y_ia_el Try.underlying22 Try.sizeOf66 (by exact rfl) (by exact rfl) (by omega) (by first | assumption | simp))) rfl ?_
              refine sq_y (OpY.s (by first | exact y_fab Try.underlying66 (by exact rfl) (by exact Try.sizeOf36) (by exact rfl) rfl | exact y_fa Try.underlying66 (by exact rfl) (by exact Try.sizeOf36) (by exact rfl) rfl)) rfl ?_
              refine sq_y (OpY.s (by first | exact y_load_blk Try.underlying36 rfl (by exact rfl) (by repeat (first | exact .head _ | refine .tail _ ?_)) (by exact rfl) | exact y_load_caj Try.underlying36 rfl (by exact rfl) (by repeat (first | exact .head _ | refine .tail _ ?_)) (by assumption) (by exact rfl) | exact y_load_ca0 Try.underlying36 rfl (by exact rfl) (by repeat (first | exact .head _ | refine .tail _ ?_)) (by assumption) (by exact rfl))) rfl ?_
              refine sq_y (OpY.s (y_len Try.underlying36 (by exact rfl))) rfl ?_
              refine sq_y (OpY.s (y_geq (by exact rfl) (by exact rfl))) rfl ?_
              refine sq_nil ?_
              refine sx_then ?_
              first | refine sc_if (by exact rfl) (fun hc5 => ?_) (fun hc5 => ?_) | refine sc_ifn (by exact rfl) (fun hc5 => ?_) (fun hc5 => ?_) | refine sc_cond (by exact rfl) (fun hc5 => ?_) (fun hc5 => ?_)
              ·
                refine sc_seq ?_
                refine sc_region ?_
                refine sq_y (y_call (first := []) (caps := []) (by exact rfl) Try.call14 EvL.nil (fun w1 _ => alive14 w1)) rfl ?_
                refine sq_y (OpY.s (y_assign (by exact rfl))) rfl ?_
                refine sq_nil ?_
                refine sx_then ?_
                refine sc_ret ?_
                refine sx_then_ret ?_
                refine sx_ret1 (.inl rfl) rfl Try.results11 (by exact rfl) ?_
                intro w' hw'
                exact ⟨rfl, hw'.below (by repeat (first | exact .head _ | refine .tail _ ?_))⟩
              ·
                refine sc_skip ?_
                refine sx_then ?_
                refine sc_seq ?_
                refine sc_region ?_
                refine sq_y (OpY.s (by first | exact y_load_all Try.underlying24 rfl Try.sizeOf24 (by exact rfl) (by repeat (first | exact .head _ | refine .tail _ ?_)) (by exact rfl) | exact y_load_ca Try.underlying24 rfl Try.sizeOf24 (by exact rfl) (by repeat (first | exact .head _ | refine .tail _ ?_)) (by assumption) (by exact rfl))) rfl ?_
                refine sq_alloc Try.zeroValue24 rfl (fun b19 => ?_)
                refine sq_store_all Try.sizeOf24 (by exact rfl) (by exact rfl) rfl (by repeat (first | exact Rem.here | apply Rem.there)) rfl rfl ?_
                refine sq_nil ?_
                refine sx_then ?_
                refine sc_seq ?_
                refine sc_region ?_
                refine sq_bs Try.underlying22 ei66 EvI.nil (by first | (simp [Value.cells]; done) | (simp [Value.cells]; rfl)) rfl rfl rfl (fun b122 => ?_)
                refine sq_y (OpY.s (by first | exact y_fab Try.underlying24 (by exact rfl) (by exact Try.sizeOf22) (by exact rfl) rfl | exact y_fa Try.underlying24 (by exact rfl) (by exact Try.sizeOf22) (by exact rfl) rfl)) rfl ?_
                refine sq_y (OpY.s (by first | exact y_load_blk Try.underlying22 rfl (by exact rfl) (by repeat (first | exact .head _ | refine .tail _ ?_)) (by exact rfl) | exact y_load_caj Try.underlying22 rfl (by exact rfl) (by repeat (first | exact .head _ | refine .tail _ ?_)) (by assumption) (by exact rfl) | exact y_load_ca0 Try.underlying22 rfl (by exact rfl) (by repeat (first | exact .head _ | refine .tail _ ?_)) (by assumption) (by exact rfl))) rfl ?_
                refine sq_blk_own (e := 66) (n := 0) (sz := 2) (xs := []) (by repeat (first | exact Rem.here | apply Rem.there)) rfl (by decide) ?_
                refine sq_append_rows (news := tmFlat r.teams f cf) Try.underlying22 ei66 Try.sizeOf66 rfl (by decide) (by exact rfl) (by repeat (first | exact Rem.here | apply Rem.there)) (by exact rfl) hT.noa (tmFlat_len ..) (fun ad had w1 hw1 => tmFlat_cells (by subst had; exact hT.at hw1 (by repeat (first | exact .head _ | refine .tail _ ?_)))) (tmFlat_one r.teams f cf) (by omega) rfl (fun v125 ho125 => ?_)
                rw [List.nil_append, Nat.zero_add r.teams.length]
                refine sq_y (OpY.s (by first | exact y_fab Try.underlying24 (by exact rfl) (by exact Try.sizeOf22) (by exact rfl) rfl | exact y_fa Try.underlying24 (by exact rfl) (by exact Try.sizeOf22) (by exact rfl) rfl)) rfl ?_
                refine sq_store_eq (cs' := [Value.int .i64 r.p, .int .i64 r.lim, .int .i64 r.rate, v125].toArray) Try.sizeOf22 (by exact rfl) (by exact rfl) ho125 (by repeat (first | exact Rem.here | apply Rem.there)) (Nat.le_of_ble_eq_true rfl) rfl ?_
                refine sq_nil ?_
                refine sx_then ?_
                refine sc_seq ?_
                refine sc_own_blk (e := 66) (sz := 2) (by repeat (first | exact Rem.here | apply Rem.there)) (by omega) (fun g cap cur hv125 hnc hcm hsz htk => ?_)
                subst hv125
                refine sc_region ?_
                refine sq_y (OpY.s (y_move (by exact rfl))) rfl ?_
                refine sq_y (OpY.s (y_conv Try.underlying48 Try.underlying3 (by exact rfl) (wrap64_in (by omega) (by omega)))) rfl ?_
                refine sq_y (OpY.s (y_rem (by exact rfl) (by exact rfl) (by omega) (by omega))) rfl ?_
                refine sq_y (OpY.s (y_assign (by exact rfl))) rfl ?_
                refine sq_nil ?_
                refine sx_then ?_
                refine sc_seq ?_
                refine sc_drawX ([.blk b19 (.cells [Value.int .i64 r.p, .int .i64 r.lim, .int .i64 r.rate, .slice (some ⟨g, 0, none⟩) r.teams.length cap].toArray 24 (0, 0)), .blk g (.cells cur 66 (0, 0)), .blk b5 (.cells (rcVal r a c).toArray 24 (0, 0)), .reg 0 w]) (by kernel_rfl) ?_
                refine xj_s 0 (by exact rfl) (by kernel_rfl) (by repeat (first | exact Sel.nil | refine Sel.cons (by repeat (first | exact Rem.here | apply Rem.there)) ?_)) (by first | exact y_fab Try.underlying24 (by exact rfl) (by exact Try.sizeOf22) (by exact rfl) rfl | exact y_fa Try.underlying24 (by exact rfl) (by exact Try.sizeOf22) (by exact rfl) rfl) rfl ?_
                refine xj_s 1 (by exact rfl) (by kernel_rfl) (by repeat (first | exact Sel.nil | refine Sel.cons (by repeat (first | exact Rem.here | apply Rem.there)) ?_)) (by first | exact y_load_blk Try.underlying22 rfl (by exact rfl) (by repeat (first | exact .head _ | refine .tail _ ?_)) (by exact rfl) | exact y_load_caj Try.underlying22 rfl (by exact rfl) (by repeat (first | exact .head _ | refine .tail _ ?_)) (by assumption) (by exact rfl) | exact y_load_ca0 Try.underlying22 rfl (by exact rfl) (by repeat (first | exact .head _ | refine .tail _ ?_)) (by assumption) (by exact rfl)) rfl ?_
                refine xj_s 2 (by exact rfl) (by kernel_rfl) (by repeat (first | exact Sel.nil | refine Sel.cons (by repeat (first | exact Rem.here | apply Rem.there)) ?_)) (y_move (by exact rfl)) rfl ?_
                refine xj_s 4 (by exact rfl) (by kernel_rfl) (by repeat (first | exact Sel.nil | refine Sel.cons (by repeat (first | exact Rem.here | apply Rem.there)) ?_)) (by first | exact y_fab Try.underlying24 (by exact rfl) (by exact Try.sizeOf22) (by exact rfl) rfl | exact y_fa Try.underlying24 (by exact rfl) (by exact Try.sizeOf22) (by exact rfl) rfl) rfl ?_
                refine xj_s 5 (by exact rfl) (by kernel_rfl) (by repeat (first | exact Sel.nil | refine Sel.cons (by repeat (first | exact Rem.here | apply Rem.there)) ?_)) (by first | exact y_load_blk Try.underlying22 rfl (by exact rfl) (by repeat (first | exact .head _ | refine .tail _ ?_)) (by exact rfl) | exact y_load_caj Try.underlying22 rfl (by exact rfl) (by repeat (first | exact .head _ | refine .tail _ ?_)) (by assumption) (by exact rfl) | exact y_load_ca0 Try.underlying22 rfl (by exact rfl) (by repeat (first | exact .head _ | refine .tail _ ?_)) (by assumption) (by exact rfl)) rfl ?_
                refine xj_s 6 (by exact rfl) (by kernel_rfl) (by repeat (first | exact Sel.nil | refine Sel.cons (by repeat (first | exact Rem.here | apply Rem.there)) ?_)) (y_move (by exact rfl)) rfl ?_
                refine xj_s 7 (by exact rfl) (by kernel_rfl) (by repeat (first | exact Sel.nil | refine Sel.cons (by repeat (first | exact Rem.here | apply Rem.there)) ?_)) (by first | exact y_ia_blk Try.underlying22 Try.sizeOf66 (by exact rfl) (by exact rfl) (by omega) | exact y_ia_el Try.underlying22 Try.sizeOf66 (by exact rfl) (by exact rfl) (by omega) (by first | assumption | simp)) rfl ?_
                refine xj_s 8 (by exact rfl) (by kernel_rfl) (by repeat (first | exact Sel.nil | refine Sel.cons (by repeat (first | exact Rem.here | apply Rem.there)) ?_)) (by first | exact y_fab Try.underlying66 (by exact rfl) (by exact Try.sizeOf36) (by exact rfl) rfl | exact y_fa Try.underlying66 (by exact rfl) (by exact Try.sizeOf36) (by exact rfl) rfl) rfl ?_
                refine xj_s 9 (by exact rfl) (by kernel_rfl) (by repeat (first | exact Sel.nil | refine Sel.cons (by repeat (first | exact Rem.here | apply Rem.there)) ?_)) (by first | exact y_load_blk Try.underlying36 rfl (by exact rfl) (by repeat (first | exact .head _ | refine .tail _ ?_)) (by exact rfl) | exact y_load_caj Try.underlying36 rfl (by exact rfl) (by repeat (first | exact .head _ | refine .tail _ ?_)) (by assumption) (by exact rfl) | exact y_load_ca0 Try.underlying36 rfl (by exact rfl) (by repeat (first | exact .head _ | refine .tail _ ?_)) (by assumption) (by exact rfl)) rfl ?_
                refine xj_s 11 (by exact rfl) (by kernel_rfl) (by repeat (first | exact Sel.nil | refine Sel.cons (by repeat (first | exact Rem.here | apply Rem.there)) ?_)) (y_move (by exact rfl)) rfl ?_
                refine xj_s 12 (by exact rfl) (by kernel_rfl) (by repeat (first | exact Sel.nil | refine Sel.cons (by repeat (first | exact Rem.here | apply Rem.there)) ?_)) (y_move (by exact rfl)) rfl ?_
                refine xj_s 13 (by exact rfl) (by kernel_rfl) (by repeat (first | exact Sel.nil | refine Sel.cons (by repeat (first | exact Rem.here | apply Rem.there)) ?_)) (y_move (by exact rfl)) rfl ?_
                refine xj_s 14 (by exact rfl) (by kernel_rfl) (by repeat (first | exact Sel.nil | refine Sel.cons (by repeat (first | exact Rem.here | apply Rem.there)) ?_)) (y_conv Try.underlying48 Try.underlying3 (by exact rfl) (wrap64_in (by omega) (by omega))) rfl ?_
                refine xj_s 15 (by exact rfl) (by kernel_rfl) (by repeat (first | exact Sel.nil | refine Sel.cons (by repeat (first | exact Rem.here | apply Rem.there)) ?_)) (y_rem (by exact rfl) (by exact rfl) (by omega) (by omega)) rfl ?_
                refine xj_s 16 (by exact rfl) (by kernel_rfl) (by repeat (first | exact Sel.nil | refine Sel.cons (by repeat (first | exact Rem.here | apply Rem.there)) ?_)) (y_add (by exact rfl) (by exact rfl) (by omega)) rfl ?_
                refine xj_s 17 (by exact rfl) (by kernel_rfl) (by repeat (first | exact Sel.nil | refine Sel.cons (by repeat (first | exact Rem.here | apply Rem.there)) ?_)) (y_min (by exact rfl) (by exact rfl)) rfl ?_
                refine xj_one 3 (by exact rfl) (by kernel_rfl) ?_
                refine sq_bs Try.underlying36 ei32 EvI.nil (by first | (simp [Value.cells]; done) | (simp [Value.cells]; rfl)) rfl rfl rfl (fun b133 => ?_)
                refine sq_nil ?_
                refine sx_xp (by repeat (first | exact Sel.nil | refine Sel.cons (by repeat (first | exact Rem.here | apply Rem.there)) ?_)) ?_
                refine xj_one 10 (by exact rfl) (by kernel_rfl) ?_
                refine sq_blk_own (e := 32) (n := 0) (sz := 2) (xs := []) (by repeat (first | exact Rem.here | apply Rem.there)) rfl (by decide) ?_
                refine sq_append_rows (news := flatS tm.brk) Try.underlying36 ei32 Try.sizeOf32 rfl (by decide) (by exact rfl) (by repeat (first | exact Rem.here | apply Rem.there)) (by exact rfl) hbr.noa (flatS_len _) (fun ad had w1 hw1 => flatS_cells (by rw [← had]; exact hbr.at hw1 (by repeat (first | exact .head _ | refine .tail _ ?_)))) (flatS_one _) (by omega) rfl (fun v140 ho140 => ?_)
                refine sq_nil ?_
                refine sx_xp (by repeat (first | exact Sel.nil | refine Sel.cons (by repeat (first | exact Rem.here | apply Rem.there)) ?_)) ?_
                rw [List.nil_append, Nat.zero_add tm.brk.length]
                refine xj_one 18 (by exact rfl) (by kernel_rfl) ?_
                refine sq_y (y_call (first := []) (caps := []) (by exact rfl) Try.call30 (EvL.cons (by exact rfl) (EvL.cons (by exact rfl) EvL.nil)) (fun w1 _ => span30 w1 _ _)) rfl ?_
                refine sq_nil ?_
                refine sx_xp (by repeat (first | exact Sel.nil | refine Sel.cons (by repeat (first | exact Rem.here | apply Rem.there)) ?_)) ?_
                refine xj_one 19 (by exact rfl) (by kernel_rfl) ?_
                refine sq_bs Try.underlying36 ei32 (EvI.cons (by exact rfl) EvI.nil) (by first | (simp [Value.cells]; done) | (simp [Value.cells]; rfl)) rfl rfl rfl (fun b149 => ?_)
                refine sq_nil ?_
                refine sx_xp (by repeat (first | exact Sel.nil | refine Sel.cons (by repeat (first | exact Rem.here | apply Rem.there)) ?_)) ?_
                refine xj_one 20 (by exact rfl) (by kernel_rfl) ?_
                refine sq_append (news := [.int .i64 (fz % 2001), .int .i64 (min 2000 (fz % 2001 + lz % 100))]) Try.underlying36 ei32 rfl (by decide) (by exact rfl) (by repeat (first | exact Rem.here | apply Rem.there)) (by exact rfl) rfl (fun _ hw => news_blk hw (by repeat (first | exact .head _ | refine .tail _ ?_))) (by simp [Value.oneCell']) (by omega) rfl (fun v150 ho150 => ?_)
                refine sq_nil ?_
                refine sx_xp (by repeat (first | exact Sel.nil | refine Sel.cons (by repeat (first | exact Rem.here | apply Rem.there)) ?_)) ?_
                refine xj_s 21 (by exact rfl) (by kernel_rfl) (by repeat (first | exact Sel.nil | refine Sel.cons (by repeat (first | exact Rem.here | apply Rem.there)) ?_)) (by first | exact y_ia_blk Try.underlying22 Try.sizeOf66 (by exact rfl) (by exact rfl) (by omega) | exact y_ia_el Try.underlying22 Try.sizeOf66 (by exact rfl) (by exact rfl) (by omega) (by first | assumption | simp)) rfl ?_
                refine xj_s 22 (by exact rfl) (by kernel_rfl) (by repeat (first | exact Sel.nil | refine Sel.cons (by repeat (first | exact Rem.here | apply Rem.there)) ?_)) (by first | exact y_fab Try.underlying66 (by exact rfl) (by exact Try.sizeOf36) (by exact rfl) rfl | exact y_fa Try.underlying66 (by exact rfl) (by exact Try.sizeOf36) (by exact rfl) rfl) rfl ?_
                refine xj_one 23 (by exact rfl) (by kernel_rfl) ?_
                refine sq_store (o := 0 + t * 2 + 1) Try.sizeOf36 (by exact rfl) (by exact rfl) ho150 (by repeat (first | exact Rem.here | apply Rem.there)) (by omega) ?_
                refine sq_nil ?_
                refine sx_xpl (by kernel_rfl) ?_
                refine xj_done (by kernel_rfl) ?_
                refine sx_then ?_
                refine sc_seq ?_
                refine sc_own_blk (e := 32) (sz := 2) (by repeat (first | exact Rem.here | apply Rem.there)) (by omega) (fun g2 cap2 cur2 hv150 hnc2 hcm2 hsz2 htk2 => ?_)
                subst hv150
                have hmo : rcB (moreR r t ⟨fz % 2001, min 2000 (fz % 2001 + lz % 100)⟩) = true := moreR_ok hok ht (by rw [hbrk]; simp at hc5; omega) (by simp only [spB, decide_eq_true_eq]; omega)
                refine sc_region ?_
                refine sq_y (OpY.s (by first | exact y_load_all Try.underlying24 rfl Try.sizeOf24 (by exact rfl) (by repeat (first | exact .head _ | refine .tail _ ?_)) (by exact rfl) | exact y_load_ca Try.underlying24 rfl Try.sizeOf24 (by exact rfl) (by repeat (first | exact .head _ | refine .tail _ ?_)) (by assumption) (by exact rfl))) rfl ?_
                refine sq_y (OpY.s (y_move (by exact rfl))) rfl ?_
                refine sq_y (OpY.s (y_move (by exact rfl))) rfl ?_
                refine sq_y (y_call (first := []) (caps := []) (by exact rfl) Try.call15 (EvL.cons (by exact rfl) (EvL.cons (by exact rfl) (EvL.cons (by exact rfl) EvL.nil))) (fun w1 hw1 => worked15w w1 _ (moreR r t ⟨fz % 2001, min 2000 (fz % 2001 + lz % 100)⟩) t m m rfl (by
                    have hT' := more_tms (t := t) (s := ⟨fz % 2001, min 2000 (fz % 2001 + lz % 100)⟩) hw1 ht (by rw [hbrk]; simp at hc5; omega) (by rw [hbrk]; exact (by repeat (first | exact .head _ | refine .tail _ ?_))) (by repeat (first | exact .head _ | refine .tail _ ?_)) (hT.at hw1 (by repeat (first | exact .head _ | refine .tail _ ?_))) htk (by rw [hbrk, flatS_snoc]; exact htk2)
                    have h3 := hT'.rc (r := moreR r t ⟨fz % 2001, min 2000 (fz % 2001 + lz % 100)⟩) (c := cap) i1 i2 i3
                    rw [rcVal, moreR_len] at h3; exact h3) hmo (by rw [moreR_len]; exact ht) hm)) rfl ?_
                refine sq_y (OpY.s (y_move (by exact rfl))) rfl ?_
                refine sq_y (OpY.s (y_extract (by exact rfl) (by exact rfl))) rfl ?_
                refine sq_y (OpY.s (y_extract (by exact rfl) (by exact rfl))) rfl ?_
                refine sq_y (OpY.s (y_assign (by exact rfl))) rfl ?_
                refine sq_y (OpY.s (y_assign (by exact rfl))) rfl ?_
                refine sq_nil ?_
                refine sx_then ?_
                refine sc_seq ?_
                refine sc_region ?_
                refine sq_y (OpY.s (y_move (by exact rfl))) rfl ?_
                refine sq_y (OpY.s (y_eql (by exact rfl) (by exact rfl))) rfl ?_
                refine sq_y (OpY.s (y_move (by exact rfl))) rfl ?_
                refine sq_known (tt := 162) (b' := true) (by exact rfl) (by simp) ?_
                refine sq_gt (by exact rfl) (by exact rfl) (OpY.s (y_move (by exact rfl))) rfl ?_
                refine sq_gt (by exact rfl) (by exact rfl) (OpY.s (y_move (by exact rfl))) rfl ?_
                refine sq_gt (by exact rfl) (by exact rfl) (OpY.s (y_leq (by exact rfl) (by exact rfl))) rfl ?_
                refine sq_y (OpY.s (y_pick_t (by exact rfl) (by exact rfl))) rfl ?_
                refine sq_y (OpY.s (y_move (by exact rfl))) rfl ?_
                refine sq_known (tt := 167) (b' := true) (by exact rfl) (decide_eq_true (by have := wrk_more_le (s := ⟨fz % 2001, min 2000 (fz % 2001 + lz % 100)⟩) ht m; omega)) ?_
                refine sq_gt (by exact rfl) (by exact rfl) (OpY.s (y_move (by exact rfl))) rfl ?_
                refine sq_gt (by exact rfl) (by exact rfl) (OpY.s (y_move (by exact rfl))) rfl ?_
                refine sq_gt (by exact rfl) (by exact rfl) (OpY.s (y_lss (by exact rfl) (by exact rfl))) rfl ?_
                refine sq_gt (by exact rfl) (by exact rfl) (OpY.s (y_move (by exact rfl))) rfl ?_
                first | refine sq_splitd (tt := 171) (by exact rfl) (fun hg25_11 => ?_) (fun hg25_11 => ?_) | refine sq_splitn (tt := 171) (by exact rfl) (fun hg25_11 => ?_) (fun hg25_11 => ?_) | refine sq_split (tt := 171) (by exact rfl) (fun hg25_11 => ?_) (fun hg25_11 => ?_)
                ·
                  refine sq_gf (by exact rfl) (by exact rfl) (by exact rfl) rfl ?_
                  refine sq_gf (by exact rfl) (by exact rfl) (by exact rfl) rfl ?_
                  refine sq_gf (by exact rfl) (by exact rfl) (by exact rfl) rfl ?_
                  refine sq_gt (by exact rfl) (by exact rfl) (OpY.s (y_pick_t (by exact rfl) (by exact rfl))) rfl ?_
                  refine sq_y (OpY.s (y_pick_t (by exact rfl) (by exact rfl))) rfl ?_
                  refine sq_y (OpY.s (y_move (by exact rfl))) rfl ?_
                  refine sq_gt (by exact rfl) (by exact rfl) (y_call (first := []) (caps := []) (by exact rfl) Try.call14 EvL.nil (fun w1 _ => alive14 w1)) rfl ?_
                  refine sq_y (OpY.s (y_pick_t (by exact rfl) (by exact rfl))) rfl ?_
                  refine sq_y (OpY.s (y_assign (by exact rfl))) rfl ?_
                  refine sq_nil ?_
                  refine sx_then ?_
                  refine sc_ret ?_
                  refine sx_ret1 (.inl rfl) rfl Try.results11 (by exact rfl) ?_
                  intro w' hw'
                  exact ⟨rfl, hw'.below (by repeat (first | exact .head _ | refine .tail _ ?_))⟩
                ·
                  refine sq_gt (by exact rfl) (by exact rfl) (OpY.s (y_move (by exact rfl))) rfl ?_
                  refine sq_gt (by exact rfl) (by exact rfl) (OpY.s (y_move (by exact rfl))) rfl ?_
                  refine sq_gt (by exact rfl) (by exact rfl) (OpY.s (y_eql (by exact rfl) (by exact rfl))) rfl ?_
                  refine sq_gt (by exact rfl) (by exact rfl) (OpY.s (y_pick_f (by exact rfl) (by exact rfl))) rfl ?_
                  refine sq_y (OpY.s (y_pick_t (by exact rfl) (by exact rfl))) rfl ?_
                  refine sq_y (OpY.s (y_move (by exact rfl))) rfl ?_
                  refine sq_known (tt := 177) (b' := true) (by exact rfl) (by first | rfl | exact decide_eq_true (by rw [wrk_more_eq ht (by simp at hg25_11 ⊢; omega)])) ?_
                  refine sq_gt (by exact rfl) (by exact rfl) (y_call (first := []) (caps := []) (by exact rfl) Try.call14 EvL.nil (fun w1 _ => alive14 w1)) rfl ?_
                  refine sq_y (OpY.s (y_pick_t (by exact rfl) (by exact rfl))) rfl ?_
                  refine sq_y (OpY.s (y_assign (by exact rfl))) rfl ?_
                  refine sq_nil ?_
                  refine sx_then ?_
                  refine sc_ret ?_
                  refine sx_ret1 (.inl rfl) rfl Try.results11 (by exact rfl) ?_
                  intro w' hw'
                  exact ⟨rfl, hw'.below (by repeat (first | exact .head _ | refine .tail _ ?_))⟩
        ·
          refine sq_gf (by exact rfl) (by exact rfl) (by exact rfl) rfl ?_
          refine sq_gf (by exact rfl) (by exact rfl) (by exact rfl) rfl ?_
          refine sq_gf (by exact rfl) (by exact rfl) (by exact rfl) rfl ?_
          refine sq_gf (by exact rfl) (by exact rfl) (by exact rfl) rfl ?_
          refine sq_y (OpY.s (y_pick_f (by exact rfl) (by exact rfl))) rfl ?_
          refine sq_nil ?_
          refine sx_then ?_
          refine sc_f (by exact rfl) ?_
          refine sc_skip ?_
          refine sx_then ?_
          refine sc_seq ?_
          refine sc_seq ?_
          refine sc_region ?_
          refine sq_y (OpY.s (y_move (by exact rfl))) rfl ?_
          refine sq_y (OpY.s (y_neq (by exact rfl) (by exact rfl))) rfl ?_
          refine sq_y (OpY.s (y_move (by exact rfl))) rfl ?_
          refine sq_known (tt := 99) (b' := false) (by exact rfl) (by simp) ?_
          refine sq_gt (by exact rfl) (by exact rfl) (OpY.s (y_move (by exact rfl))) rfl ?_
          refine sq_gt (by exact rfl) (by exact rfl) (OpY.s (y_move (by exact rfl))) rfl ?_
          refine sq_gt (by exact rfl) (by exact rfl) (OpY.s (y_neq (by exact rfl) (by exact rfl))) rfl ?_
          refine sq_y (OpY.s (y_pick_f (by exact rfl) (by exact rfl))) rfl ?_
          refine sq_y (OpY.s (y_move (by exact rfl))) rfl ?_
          refine sq_known (tt := 104) (b' := false) (by exact rfl) (by simp_all) ?_
          refine sq_gt (by exact rfl) (by exact rfl) (OpY.s (y_move (by exact rfl))) rfl ?_
          refine sq_gt (by exact rfl) (by exact rfl) (OpY.s (y_eql (by exact rfl) (by exact rfl))) rfl ?_
          refine sq_gt (by exact rfl) (by exact rfl) (OpY.s (y_move (by exact rfl))) rfl ?_
          first | refine sq_splitd (tt := 107) (by exact rfl) (fun hg16_10 => ?_) (fun hg16_10 => ?_) | refine sq_splitn (tt := 107) (by exact rfl) (fun hg16_10 => ?_) (fun hg16_10 => ?_) | refine sq_split (tt := 107) (by exact rfl) (fun hg16_10 => ?_) (fun hg16_10 => ?_)
          ·
            refine sq_gt (by exact rfl) (by exact rfl) (OpY.s (y_move (by exact rfl))) rfl ?_
            refine sq_gt (by exact rfl) (by exact rfl) (OpY.s (y_neq (by exact rfl) (by exact rfl))) rfl ?_
            refine sq_gt (by exact rfl) (by exact rfl) (OpY.s (y_pick_t (by exact rfl) (by exact rfl))) rfl ?_
            refine sq_y (OpY.s (y_pick_f (by exact rfl) (by exact rfl))) rfl ?_
            refine sq_nil ?_
            refine sx_then ?_
            refine sc_f (lk_bool rfl (by simp_all)) ?_
            refine sc_skip ?_
            refine sx_then ?_
            refine sc_seq ?_
            refine sc_seq ?_
            refine sc_region ?_
            refine sq_y (OpY.s (by first | exact y_fab Try.underlying24 (by exact rfl) (by exact Try.sizeOf22) (by exact rfl) rfl | exact y_fa Try.underlying24 (by exact rfl) (by exact Try.sizeOf22) (by exact rfl) rfl)) rfl ?_
            refine sq_y (OpY.s (by first | exact y_load_blk Try.underlying22 rfl (by exact rfl) (by repeat (first | exact .head _ | refine .tail _ ?_)) (by exact rfl) | exact y_load_caj Try.underlying22 rfl (by exact rfl) (by repeat (first | exact .head _ | refine .tail _ ?_)) (by assumption) (by exact rfl) | exact y_load_ca0 Try.underlying22 rfl (by exact rfl) (by repeat (first | exact .head _ | refine .tail _ ?_)) (by assumption) (by exact rfl))) rfl ?_
            refine sq_y (OpY.s (y_move (by exact rfl))) rfl ?_
            refine sq_y (OpY.s (by first | exact y_ia_blk Try.underlying22 Try.sizeOf66 (by exact rfl) (by exact rfl) (by omega) | exact y_ia_el Try.underlying22 Try.sizeOf66 (by exact rfl) (by exact rfl) (by omega) (by first | assumption | simp))) rfl ?_
            refine sq_y (OpY.s (by first | exact y_fab Try.underlying66 (by exact rfl) (by exact Try.sizeOf36) (by exact rfl) rfl | exact y_fa Try.underlying66 (by exact rfl) (by exact Try.sizeOf36) (by exact rfl) rfl)) rfl ?_
            refine sq_y (OpY.s (by first | exact y_load_blk Try.underlying36 rfl (by exact rfl) (by repeat (first | exact .head _ | refine .tail _ ?_)) (by exact rfl) | exact y_load_caj Try.underlying36 rfl (by exact rfl) (by repeat (first | exact .head _ | refine .tail _ ?_)) (by assumption) (by exact rfl) | exact y_load_ca0 Try.underlying36 rfl (by exact rfl) (by repeat (first | exact .head _ | refine .tail _ ?_)) (by assumption) (by exact rfl))) rfl ?_
            refine sq_y (OpY.s (y_len Try.underlying36 (by exact rfl))) rfl ?_
            refine sq_y (OpY.s (y_geq (by exact rfl) (by exact rfl))) rfl ?_
            refine sq_nil ?_
            refine sx_then ?_
            first | refine sc_if (by exact rfl) (fun hc5 => ?_) (fun hc5 => ?_) | refine sc_ifn (by exact rfl) (fun hc5 => ?_) (fun hc5 => ?_) | refine sc_cond (by exact rfl) (fun hc5 => ?_) (fun hc5 => ?_)
            ·
              refine sc_seq ?_
              refine sc_region ?_
              refine sq_y (y_call (first := []) (caps := []) (by exact rfl) Try.call14 EvL.nil (fun w1 _ => alive14 w1)) rfl ?_
              refine sq_y (OpY.s (y_assign (by exact rfl))) rfl ?_
              refine sq_nil ?_
              refine sx_then ?_
              refine sc_ret ?_
              refine sx_then_ret ?_
              refine sx_ret1 (.inl rfl) rfl Try.results11 (by exact rfl) ?_
              intro w' hw'
              exact ⟨rfl, hw'.below (by repeat (first | exact .head _ | refine .tail _ ?_))⟩
            ·
              refine sc_skip ?_
              refine sx_then ?_
              refine sc_seq ?_
              refine sc_region ?_
              refine sq_y (OpY.s (by first | exact y_load_all Try.underlying24 rfl Try.sizeOf24 (by exact rfl) (by repeat (first | exact .head _ | refine .tail _ ?_)) (by exact rfl) | exact y_load_ca Try.underlying24 rfl Try.sizeOf24 (by exact rfl) (by repeat (first | exact .head _ | refine .tail _ ?_)) (by assumption) (by exact rfl))) rfl ?_
              refine sq_alloc Try.zeroValue24 rfl (fun b19 => ?_)
              refine sq_store_all Try.sizeOf24 (by exact rfl) (by exact rfl) rfl (by repeat (first | exact Rem.here | apply Rem.there)) rfl rfl ?_
              refine sq_nil ?_
              refine sx_then ?_
              refine sc_seq ?_
              refine sc_region ?_
              refine sq_bs Try.underlying22 ei66 EvI.nil (by first | (simp [Value.cells]; done) | (simp [Value.cells]; rfl)) rfl rfl rfl (fun b122 => ?_)
              refine sq_y (OpY.s (by first | exact y_fab Try.underlying24 (by exact rfl) (by exact Try.sizeOf22) (by exact rfl) rfl | exact y_fa Try.underlying24 (by exact rfl) (by exact Try.sizeOf22) (by exact rfl) rfl)) rfl ?_
              refine sq_y (OpY.s (by first | exact y_load_blk Try.underlying22 rfl (by exact rfl) (by repeat (first | exact .head _ | refine .tail _ ?_)) (by exact rfl) | exact y_load_caj Try.underlying22 rfl (by exact rfl) (by repeat (first | exact .head _ | refine .tail _ ?_)) (by assumption) (by exact rfl) | exact y_load_ca0 Try.underlying22 rfl (by exact rfl) (by repeat (first | exact .head _ | refine .tail _ ?_)) (by assumption) (by exact rfl))) rfl ?_
              refine sq_blk_own (e := 66) (n := 0) (sz := 2) (xs := []) (by repeat (first | exact Rem.here | apply Rem.there)) rfl (by decide) ?_
              refine sq_append_rows (news := tmFlat r.teams f cf) Try.underlying22 ei66 Try.sizeOf66 rfl (by decide) (by exact rfl) (by repeat (first | exact Rem.here | apply Rem.there)) (by exact rfl) hT.noa (tmFlat_len ..) (fun ad had w1 hw1 => tmFlat_cells (by subst had; exact hT.at hw1 (by repeat (first | exact .head _ | refine .tail _ ?_)))) (tmFlat_one r.teams f cf) (by omega) rfl (fun v125 ho125 => ?_)
              rw [List.nil_append, Nat.zero_add r.teams.length]
              refine sq_y (OpY.s (by first | exact y_fab Try.underlying24 (by exact rfl) (by exact Try.sizeOf22) (by exact rfl) rfl | exact y_fa Try.underlying24 (by exact rfl) (by exact Try.sizeOf22) (by exact rfl) rfl)) rfl ?_
              refine sq_store_eq (cs' := [Value.int .i64 r.p, .int .i64 r.lim, .int .i64 r.rate, v125].toArray) Try.sizeOf22 (by exact rfl) (by exact rfl) ho125 (by repeat (first | exact Rem.here | apply Rem.there)) (Nat.le_of_ble_eq_true rfl) rfl ?_
              refine sq_nil ?_
              refine sx_then ?_
              refine sc_seq ?_
              refine sc_own_blk (e := 66) (sz := 2) (by repeat (first | exact Rem.here | apply Rem.there)) (by omega) (fun g cap cur hv125 hnc hcm hsz htk => ?_)
              subst hv125
              refine sc_region ?_
              refine sq_y (OpY.s (y_move (by exact rfl))) rfl ?_
              refine sq_y (OpY.s (y_conv Try.underlying48 Try.underlying3 (by exact rfl) (wrap64_in (by omega) (by omega)))) rfl ?_
              refine sq_y (OpY.s (y_rem (by exact rfl) (by exact rfl) (by omega) (by omega))) rfl ?_
              refine sq_y (OpY.s (y_assign (by exact rfl))) rfl ?_
              refine sq_nil ?_
              refine sx_then ?_
              refine sc_seq ?_
              refine sc_drawX ([.blk b19 (.cells [Value.int .i64 r.p, .int .i64 r.lim, .int .i64 r.rate, .slice (some ⟨g, 0, none⟩) r.teams.length cap].toArray 24 (0, 0)), .blk g (.cells cur 66 (0, 0)), .blk b5 (.cells (rcVal r a c).toArray 24 (0, 0)), .reg 0 w]) (by kernel_rfl) ?_
              refine xj_s 0 (by exact rfl) (by kernel_rfl) (by repeat (first | exact Sel.nil | refine Sel.cons (by repeat (first | exact Rem.here | apply Rem.there)) ?_)) (by first | exact y_fab Try.underlying24 (by exact rfl) (by exact Try.sizeOf22) (by exact rfl) rfl | exact y_fa Try.underlying24 (by exact rfl) (by exact Try.sizeOf22) (by exact rfl) rfl) rfl ?_
              refine xj_s 1 (by exact rfl) (by kernel_rfl) (by repeat (first | exact Sel.nil | refine Sel.cons (by repeat (first | exact Rem.here | apply Rem.there)) ?_)) (by first | exact y_load_blk Try.underlying22 rfl (by exact rfl) (by repeat (first | exact .head _ | refine .tail _ ?_)) (by exact rfl) | exact y_load_caj Try.underlying22 rfl (by exact rfl) (by repeat (first | exact .head _ | refine .tail _ ?_)) (by assumption) (by exact rfl) | exact y_load_ca0 Try.underlying22 rfl (by exact rfl) (by repeat (first | exact .head _ | refine .tail _ ?_)) (by assumption) (by exact rfl)) rfl ?_
              refine xj_s 2 (by exact rfl) (by kernel_rfl) (by repeat (first | exact Sel.nil | refine Sel.cons (by repeat (first | exact Rem.here | apply Rem.there)) ?_)) (y_move (by exact rfl)) rfl ?_
              refine xj_s 4 (by exact rfl) (by kernel_rfl) (by repeat (first | exact Sel.nil | refine Sel.cons (by repeat (first | exact Rem.here | apply Rem.there)) ?_)) (by first | exact y_fab Try.underlying24 (by exact rfl) (by exact Try.sizeOf22) (by exact rfl) rfl | exact y_fa Try.underlying24 (by exact rfl) (by exact Try.sizeOf22) (by exact rfl) rfl) rfl ?_
              refine xj_s 5 (by exact rfl) (by kernel_rfl) (by repeat (first | exact Sel.nil | refine Sel.cons (by repeat (first | exact Rem.here | apply Rem.there)) ?_)) (by first | exact y_load_blk Try.underlying22 rfl (by exact rfl) (by repeat (first | exact .head _ | refine .tail _ ?_)) (by exact rfl) | exact y_load_caj Try.underlying22 rfl (by exact rfl) (by repeat (first | exact .head _ | refine .tail _ ?_)) (by assumption) (by exact rfl) | exact y_load_ca0 Try.underlying22 rfl (by exact rfl) (by repeat (first | exact .head _ | refine .tail _ ?_)) (by assumption) (by exact rfl)) rfl ?_
              refine xj_s 6 (by exact rfl) (by kernel_rfl) (by repeat (first | exact Sel.nil | refine Sel.cons (by repeat (first | exact Rem.here | apply Rem.there)) ?_)) (y_move (by exact rfl)) rfl ?_
              refine xj_s 7 (by exact rfl) (by kernel_rfl) (by repeat (first | exact Sel.nil | refine Sel.cons (by repeat (first | exact Rem.here | apply Rem.there)) ?_)) (by first | exact y_ia_blk Try.underlying22 Try.sizeOf66 (by exact rfl) (by exact rfl) (by omega) | exact y_ia_el Try.underlying22 Try.sizeOf66 (by exact rfl) (by exact rfl) (by omega) (by first | assumption | simp)) rfl ?_
              refine xj_s 8 (by exact rfl) (by kernel_rfl) (by repeat (first | exact Sel.nil | refine Sel.cons (by repeat (first | exact Rem.here | apply Rem.there)) ?_)) (by first | exact y_fab Try.underlying66 (by exact rfl) (by exact Try.sizeOf36) (by exact rfl) rfl | exact y_fa Try.underlying66 (by exact rfl) (by exact Try.sizeOf36) (by exact rfl) rfl) rfl ?_
              refine xj_s 9 (by exact rfl) (by kernel_rfl) (by repeat (first | exact Sel.nil | refine Sel.cons (by repeat (first | exact Rem.here | apply Rem.there)) ?_)) (by first | exact y_load_blk Try.underlying36 rfl (by exact rfl) (by repeat (first | exact .head _ | refine .tail _ ?_)) (by exact rfl) | exact y_load_caj Try.underlying36 rfl (by exact rfl) (by repeat (first | exact .head _ | refine .tail _ ?_)) (by assumption) (by exact rfl) | exact y_load_ca0 Try.underlying36 rfl (by exact rfl) (by repeat (first | exact .head _ | refine .tail _ ?_)) (by assumption) (by exact rfl)) rfl ?_
              refine xj_s 11 (by exact rfl) (by kernel_rfl) (by repeat (first | exact Sel.nil | refine Sel.cons (by repeat (first | exact Rem.here | apply Rem.there)) ?_)) (y_move (by exact rfl)) rfl ?_
              refine xj_s 12 (by exact rfl) (by kernel_rfl) (by repeat (first | exact Sel.nil | refine Sel.cons (by repeat (first | exact Rem.here | apply Rem.there)) ?_)) (y_move (by exact rfl)) rfl ?_
              refine xj_s 13 (by exact rfl) (by kernel_rfl) (by repeat (first | exact Sel.nil | refine Sel.cons (by repeat (first | exact Rem.here | apply Rem.there)) ?_)) (y_move (by exact rfl)) rfl ?_
              refine xj_s 14 (by exact rfl) (by kernel_rfl) (by repeat (first | exact Sel.nil | refine Sel.cons (by repeat (first | exact Rem.here | apply Rem.there)) ?_)) (y_conv Try.underlying48 Try.underlying3 (by exact rfl) (wrap64_in (by omega) (by omega))) rfl ?_
              refine xj_s 15 (by exact rfl) (by kernel_rfl) (by repeat (first | exact Sel.nil | refine Sel.cons (by repeat (first | exact Rem.here | apply Rem.there)) ?_)) (y_rem (by exact rfl) (by exact rfl) (by omega) (by omega)) rfl ?_
              refine xj_s 16 (by exact rfl) (by kernel_rfl) (by repeat (first | exact Sel.nil | refine Sel.cons (by repeat (first | exact Rem.here | apply Rem.there)) ?_)) (y_add (by exact rfl) (by exact rfl) (by omega)) rfl ?_
              refine xj_s 17 (by exact rfl) (by kernel_rfl) (by repeat (first | exact Sel.nil | refine Sel.cons (by repeat (first | exact Rem.here | apply Rem.there)) ?_)) (y_min (by exact rfl) (by exact rfl)) rfl ?_
              refine xj_one 3 (by exact rfl) (by kernel_rfl) ?_
              refine sq_bs Try.underlying36 ei32 EvI.nil (by first | (simp [Value.cells]; done) | (simp [Value.cells]; rfl)) rfl rfl rfl (fun b133 => ?_)
              refine sq_nil ?_
              refine sx_xp (by repeat (first | exact Sel.nil | refine Sel.cons (by repeat (first | exact Rem.here | apply Rem.there)) ?_)) ?_
              refine xj_one 10 (by exact rfl) (by kernel_rfl) ?_
              refine sq_blk_own (e := 32) (n := 0) (sz := 2) (xs := []) (by repeat (first | exact Rem.here | apply Rem.there)) rfl (by decide) ?_
              refine sq_append_rows (news := flatS tm.brk) Try.underlying36 ei32 Try.sizeOf32 rfl (by decide) (by exact rfl) (by repeat (first | exact Rem.here | apply Rem.there)) (by exact rfl) hbr.noa (flatS_len _) (fun ad had w1 hw1 => flatS_cells (by rw [← had]; exact hbr.at hw1 (by repeat (first | exact .head _ | refine .tail _ ?_)))) (flatS_one _) (by omega) rfl (fun v140 ho140 => ?_)
              refine sq_nil ?_
              refine sx_xp (by repeat (first | exact Sel.nil | refine Sel.cons (by repeat (first | exact Rem.here | apply Rem.there)) ?_)) ?_
              rw [List.nil_append, Nat.zero_add tm.brk.length]
              refine xj_one 18 (by exact rfl) (by kernel_rfl) ?_
              refine sq_y (y_call (first := []) (caps := []) (by exact rfl) Try.call30 (EvL.cons (by exact rfl) (EvL.cons (by exact rfl) EvL.nil)) (fun w1 _ => span30 w1 _ _)) rfl ?_
              refine sq_nil ?_
              refine sx_xp (by repeat (first | exact Sel.nil | refine Sel.cons (by repeat (first | exact Rem.here | apply Rem.there)) ?_)) ?_
              refine xj_one 19 (by exact rfl) (by kernel_rfl) ?_
              refine sq_bs Try.underlying36 ei32 (EvI.cons (by exact rfl) EvI.nil) (by first | (simp [Value.cells]; done) | (simp [Value.cells]; rfl)) rfl rfl rfl (fun b149 => ?_)
              refine sq_nil ?_
              refine sx_xp (by repeat (first | exact Sel.nil | refine Sel.cons (by repeat (first | exact Rem.here | apply Rem.there)) ?_)) ?_
              refine xj_one 20 (by exact rfl) (by kernel_rfl) ?_
              refine sq_append (news := [.int .i64 (fz % 2001), .int .i64 (min 2000 (fz % 2001 + lz % 100))]) Try.underlying36 ei32 rfl (by decide) (by exact rfl) (by repeat (first | exact Rem.here | apply Rem.there)) (by exact rfl) rfl (fun _ hw => news_blk hw (by repeat (first | exact .head _ | refine .tail _ ?_))) (by simp [Value.oneCell']) (by omega) rfl (fun v150 ho150 => ?_)
              refine sq_nil ?_
              refine sx_xp (by repeat (first | exact Sel.nil | refine Sel.cons (by repeat (first | exact Rem.here | apply Rem.there)) ?_)) ?_
              refine xj_s 21 (by exact rfl) (by kernel_rfl) (by repeat (first | exact Sel.nil | refine Sel.cons (by repeat (first | exact Rem.here | apply Rem.there)) ?_)) (by first | exact y_ia_blk Try.underlying22 Try.sizeOf66 (by exact rfl) (by exact rfl) (by omega) | exact y_ia_el Try.underlying22 Try.sizeOf66 (by exact rfl) (by exact rfl) (by omega) (by first | assumption | simp)) rfl ?_
              refine xj_s 22 (by exact rfl) (by kernel_rfl) (by repeat (first | exact Sel.nil | refine Sel.cons (by repeat (first | exact Rem.here | apply Rem.there)) ?_)) (by first | exact y_fab Try.underlying66 (by exact rfl) (by exact Try.sizeOf36) (by exact rfl) rfl | exact y_fa Try.underlying66 (by exact rfl) (by exact Try.sizeOf36) (by exact rfl) rfl) rfl ?_
              refine xj_one 23 (by exact rfl) (by kernel_rfl) ?_
              refine sq_store (o := 0 + t * 2 + 1) Try.sizeOf36 (by exact rfl) (by exact rfl) ho150 (by repeat (first | exact Rem.here | apply Rem.there)) (by omega) ?_
              refine sq_nil ?_
              refine sx_xpl (by kernel_rfl) ?_
              refine xj_done (by kernel_rfl) ?_
              refine sx_then ?_
              refine sc_seq ?_
              refine sc_own_blk (e := 32) (sz := 2) (by repeat (first | exact Rem.here | apply Rem.there)) (by omega) (fun g2 cap2 cur2 hv150 hnc2 hcm2 hsz2 htk2 => ?_)
              subst hv150
              have hmo : rcB (moreR r t ⟨fz % 2001, min 2000 (fz % 2001 + lz % 100)⟩) = true := moreR_ok hok ht (by rw [hbrk]; simp at hc5; omega) (by simp only [spB, decide_eq_true_eq]; omega)
              refine sc_region ?_
              refine sq_y (OpY.s (by first | exact y_load_all Try.underlying24 rfl Try.sizeOf24 (by exact rfl) (by repeat (first | exact .head _ | refine .tail _ ?_)) (by exact rfl) | exact y_load_ca Try.underlying24 rfl Try.sizeOf24 (by exact rfl) (by repeat (first | exact .head _ | refine .tail _ ?_)) (by assumption) (by exact rfl))) rfl ?_
              refine sq_y (OpY.s (y_move (by exact rfl))) rfl ?_
              refine sq_y (OpY.s (y_move (by exact rfl))) rfl ?_
              refine sq_y (y_call (first := []) (caps := []) (by exact rfl) Try.call15 (EvL.cons (by exact rfl) (EvL.cons (by exact rfl) (EvL.cons (by exact rfl) EvL.nil))) (fun w1 hw1 => worked15w w1 _ (moreR r t ⟨fz % 2001, min 2000 (fz % 2001 + lz % 100)⟩) t m m rfl (by
                  have hT' := more_tms (t := t) (s := ⟨fz % 2001, min 2000 (fz % 2001 + lz % 100)⟩) hw1 ht (by rw [hbrk]; simp at hc5; omega) (by rw [hbrk]; exact (by repeat (first | exact .head _ | refine .tail _ ?_))) (by repeat (first | exact .head _ | refine .tail _ ?_)) (hT.at hw1 (by repeat (first | exact .head _ | refine .tail _ ?_))) htk (by rw [hbrk, flatS_snoc]; exact htk2)
                  have h3 := hT'.rc (r := moreR r t ⟨fz % 2001, min 2000 (fz % 2001 + lz % 100)⟩) (c := cap) i1 i2 i3
                  rw [rcVal, moreR_len] at h3; exact h3) hmo (by rw [moreR_len]; exact ht) hm)) rfl ?_
              refine sq_y (OpY.s (y_move (by exact rfl))) rfl ?_
              refine sq_y (OpY.s (y_extract (by exact rfl) (by exact rfl))) rfl ?_
              refine sq_y (OpY.s (y_extract (by exact rfl) (by exact rfl))) rfl ?_
              refine sq_y (OpY.s (y_assign (by exact rfl))) rfl ?_
              refine sq_y (OpY.s (y_assign (by exact rfl))) rfl ?_
              refine sq_nil ?_
              refine sx_then ?_
              refine sc_seq ?_
              refine sc_region ?_
              refine sq_y (OpY.s (y_move (by exact rfl))) rfl ?_
              refine sq_y (OpY.s (y_eql (by exact rfl) (by exact rfl))) rfl ?_
              refine sq_y (OpY.s (y_move (by exact rfl))) rfl ?_
              refine sq_known (tt := 162) (b' := true) (by exact rfl) (by simp) ?_
              refine sq_gt (by exact rfl) (by exact rfl) (OpY.s (y_move (by exact rfl))) rfl ?_
              refine sq_gt (by exact rfl) (by exact rfl) (OpY.s (y_move (by exact rfl))) rfl ?_
              refine sq_gt (by exact rfl) (by exact rfl) (OpY.s (y_leq (by exact rfl) (by exact rfl))) rfl ?_
              refine sq_y (OpY.s (y_pick_t (by exact rfl) (by exact rfl))) rfl ?_
              refine sq_y (OpY.s (y_move (by exact rfl))) rfl ?_
              refine sq_known (tt := 167) (b' := true) (by exact rfl) (decide_eq_true (by have := wrk_more_le (s := ⟨fz % 2001, min 2000 (fz % 2001 + lz % 100)⟩) ht m; omega)) ?_
              refine sq_gt (by exact rfl) (by exact rfl) (OpY.s (y_move (by exact rfl))) rfl ?_
              refine sq_gt (by exact rfl) (by exact rfl) (OpY.s (y_move (by exact rfl))) rfl ?_
              refine sq_gt (by exact rfl) (by exact rfl) (OpY.s (y_lss (by exact rfl) (by exact rfl))) rfl ?_
              refine sq_gt (by exact rfl) (by exact rfl) (OpY.s (y_move (by exact rfl))) rfl ?_
              first | refine sq_splitd (tt := 171) (by exact rfl) (fun hg25_11 => ?_) (fun hg25_11 => ?_) | refine sq_splitn (tt := 171) (by exact rfl) (fun hg25_11 => ?_) (fun hg25_11 => ?_) | refine sq_split (tt := 171) (by exact rfl) (fun hg25_11 => ?_) (fun hg25_11 => ?_)
              ·
                refine sq_gf (by exact rfl) (by exact rfl) (by exact rfl) rfl ?_
                refine sq_gf (by exact rfl) (by exact rfl) (by exact rfl) rfl ?_
                refine sq_gf (by exact rfl) (by exact rfl) (by exact rfl) rfl ?_
                refine sq_gt (by exact rfl) (by exact rfl) (OpY.s (y_pick_t (by exact rfl) (by exact rfl))) rfl ?_
                refine sq_y (OpY.s (y_pick_t (by exact rfl) (by exact rfl))) rfl ?_
                refine sq_y (OpY.s (y_move (by exact rfl))) rfl ?_
                refine sq_gt (by exact rfl) (by exact rfl) (y_call (first := []) (caps := []) (by exact rfl) Try.call14 EvL.nil (fun w1 _ => alive14 w1)) rfl ?_
                refine sq_y (OpY.s (y_pick_t (by exact rfl) (by exact rfl))) rfl ?_
                refine sq_y (OpY.s (y_assign (by exact rfl))) rfl ?_
                refine sq_nil ?_
                refine sx_then ?_
                refine sc_ret ?_
                refine sx_ret1 (.inl rfl) rfl Try.results11 (by exact rfl) ?_
                intro w' hw'
                exact ⟨rfl, hw'.below (by repeat (first | exact .head _ | refine .tail _ ?_))⟩
              ·
                refine sq_gt (by exact rfl) (by exact rfl) (OpY.s (y_move (by exact rfl))) rfl ?_
                refine sq_gt (by exact rfl) (by exact rfl) (OpY.s (y_move (by exact rfl))) rfl ?_
                refine sq_gt (by exact rfl) (by exact rfl) (OpY.s (y_eql (by exact rfl) (by exact rfl))) rfl ?_
                refine sq_gt (by exact rfl) (by exact rfl) (OpY.s (y_pick_f (by exact rfl) (by exact rfl))) rfl ?_
                refine sq_y (OpY.s (y_pick_t (by exact rfl) (by exact rfl))) rfl ?_
                refine sq_y (OpY.s (y_move (by exact rfl))) rfl ?_
                refine sq_known (tt := 177) (b' := true) (by exact rfl) (by first | rfl | exact decide_eq_true (by rw [wrk_more_eq ht (by simp at hg25_11 ⊢; omega)])) ?_
                refine sq_gt (by exact rfl) (by exact rfl) (y_call (first := []) (caps := []) (by exact rfl) Try.call14 EvL.nil (fun w1 _ => alive14 w1)) rfl ?_
                refine sq_y (OpY.s (y_pick_t (by exact rfl) (by exact rfl))) rfl ?_
                refine sq_y (OpY.s (y_assign (by exact rfl))) rfl ?_
                refine sq_nil ?_
                refine sx_then ?_
                refine sc_ret ?_
                refine sx_ret1 (.inl rfl) rfl Try.results11 (by exact rfl) ?_
                intro w' hw'
                exact ⟨rfl, hw'.below (by repeat (first | exact .head _ | refine .tail _ ?_))⟩
          ·
            refine sq_gf (by exact rfl) (by exact rfl) (by exact rfl) rfl ?_
            refine sq_gf (by exact rfl) (by exact rfl) (by exact rfl) rfl ?_
            refine sq_gt (by exact rfl) (by exact rfl) (OpY.s (y_pick_f (by exact rfl) (by exact rfl))) rfl ?_
            refine sq_y (OpY.s (y_pick_f (by exact rfl) (by exact rfl))) rfl ?_
            refine sq_nil ?_
            refine sx_then ?_
            refine sc_f (by exact rfl) ?_
            refine sc_skip ?_
            refine sx_then ?_
            refine sc_seq ?_
            refine sc_seq ?_
            refine sc_region ?_
            refine sq_y (OpY.s (by first | exact y_fab Try.underlying24 (by exact rfl) (by exact Try.sizeOf22) (by exact rfl) rfl | exact y_fa Try.underlying24 (by exact rfl) (by exact Try.sizeOf22) (by exact rfl) rfl)) rfl ?_
            refine sq_y (OpY.s (by first | exact y_load_blk Try.underlying22 rfl (by exact rfl) (by repeat (first | exact .head _ | refine .tail _ ?_)) (by exact rfl) | exact y_load_caj Try.underlying22 rfl (by exact rfl) (by repeat (first | exact .head _ | refine .tail _ ?_)) (by assumption) (by exact rfl) | exact y_load_ca0 Try.underlying22 rfl (by exact rfl) (by repeat (first | exact .head _ | refine .tail _ ?_)) (by assumption) (by exact rfl))) rfl ?_
            refine sq_y (OpY.s (y_move (by exact rfl))) rfl ?_
            refine sq_y (OpY.s (by first | exact y_ia_blk Try.underlying22 Try.sizeOf66 (by exact rfl) (by exact rfl) (by omega) | exact y_ia_el Try.underlying22 Try.sizeOf66 (by exact rfl) (by exact rfl) (by omega) (by first | assumption | simp))) rfl ?_
            refine sq_y (OpY.s (by first | exact y_fab Try.underlying66 (by exact rfl) (by exact Try.sizeOf36) (by exact rfl) rfl | exact y_fa Try.underlying66 (by exact rfl) (by exact Try.sizeOf36) (by exact rfl) rfl)) rfl ?_
            refine sq_y (OpY.s (by first | exact y_load_blk Try.underlying36 rfl (by exact rfl) (by repeat (first | exact .head _ | refine .tail _ ?_)) (by exact rfl) | exact y_load_caj Try.underlying36 rfl (by exact rfl) (by repeat (first | exact .head _ | refine .tail _ ?_)) (by assumption) (by exact rfl) | exact y_load_ca0 Try.underlying36 rfl (by exact rfl) (by repeat (first | exact .head _ | refine .tail _ ?_)) (by assumption) (by exact rfl))) rfl ?_
            refine sq_y (OpY.s (y_len Try.underlying36 (by exact rfl))) rfl ?_
            refine sq_y (OpY.s (y_geq (by exact rfl) (by exact rfl))) rfl ?_
            refine sq_nil ?_
            refine sx_then ?_
            first | refine sc_if (by exact rfl) (fun hc5 => ?_) (fun hc5 => ?_) | refine sc_ifn (by exact rfl) (fun hc5 => ?_) (fun hc5 => ?_) | refine sc_cond (by exact rfl) (fun hc5 => ?_) (fun hc5 => ?_)
            ·
              refine sc_seq ?_
              refine sc_region ?_
              refine sq_y (y_call (first := []) (caps := []) (by exact rfl) Try.call14 EvL.nil (fun w1 _ => alive14 w1)) rfl ?_
              refine sq_y (OpY.s (y_assign (by exact rfl))) rfl ?_
              refine sq_nil ?_
              refine sx_then ?_
              refine sc_ret ?_
              refine sx_then_ret ?_
              refine sx_ret1 (.inl rfl) rfl Try.results11 (by exact rfl) ?_
              intro w' hw'
              exact ⟨rfl, hw'.below (by repeat (first | exact .head _ | refine .tail _ ?_))⟩
            ·
              refine sc_skip ?_
              refine sx_then ?_
              refine sc_seq ?_
              refine sc_region ?_
              refine sq_y (OpY.s (by first | exact y_load_all Try.underlying24 rfl Try.sizeOf24 (by exact rfl) (by repeat (first | exact .head _ | refine .tail _ ?_)) (by exact rfl) | exact y_load_ca Try.underlying24 rfl Try.sizeOf24 (by exact rfl) (by repeat (first | exact .head _ | refine .tail _ ?_)) (by assumption) (by exact rfl))) rfl ?_
              refine sq_alloc Try.zeroValue24 rfl (fun b19 => ?_)
              refine sq_store_all Try.sizeOf24 (by exact rfl) (by exact rfl) rfl (by repeat (first | exact Rem.here | apply Rem.there)) rfl rfl ?_
              refine sq_nil ?_
              refine sx_then ?_
              refine sc_seq ?_
              refine sc_region ?_
              refine sq_bs Try.underlying22 ei66 EvI.nil (by first | (simp [Value.cells]; done) | (simp [Value.cells]; rfl)) rfl rfl rfl (fun b122 => ?_)
              refine sq_y (OpY.s (by first | exact y_fab Try.underlying24 (by exact rfl) (by exact Try.sizeOf22) (by exact rfl) rfl | exact y_fa Try.underlying24 (by exact rfl) (by exact Try.sizeOf22) (by exact rfl) rfl)) rfl ?_
              refine sq_y (OpY.s (by first | exact y_load_blk Try.underlying22 rfl (by exact rfl) (by repeat (first | exact .head _ | refine .tail _ ?_)) (by exact rfl) | exact y_load_caj Try.underlying22 rfl (by exact rfl) (by repeat (first | exact .head _ | refine .tail _ ?_)) (by assumption) (by exact rfl) | exact y_load_ca0 Try.underlying22 rfl (by exact rfl) (by repeat (first | exact .head _ | refine .tail _ ?_)) (by assumption) (by exact rfl))) rfl ?_
              refine sq_blk_own (e := 66) (n := 0) (sz := 2) (xs := []) (by repeat (first | exact Rem.here | apply Rem.there)) rfl (by decide) ?_
              refine sq_append_rows (news := tmFlat r.teams f cf) Try.underlying22 ei66 Try.sizeOf66 rfl (by decide) (by exact rfl) (by repeat (first | exact Rem.here | apply Rem.there)) (by exact rfl) hT.noa (tmFlat_len ..) (fun ad had w1 hw1 => tmFlat_cells (by subst had; exact hT.at hw1 (by repeat (first | exact .head _ | refine .tail _ ?_)))) (tmFlat_one r.teams f cf) (by omega) rfl (fun v125 ho125 => ?_)
              rw [List.nil_append, Nat.zero_add r.teams.length]
              refine sq_y (OpY.s (by first | exact y_fab Try.underlying24 (by exact rfl) (by exact Try.sizeOf22) (by exact rfl) rfl | exact y_fa Try.underlying24 (by exact rfl) (by exact Try.sizeOf22) (by exact rfl) rfl)) rfl ?_
              refine sq_store_eq (cs' := [Value.int .i64 r.p, .int .i64 r.lim, .int .i64 r.rate, v125].toArray) Try.sizeOf22 (by exact rfl) (by exact rfl) ho125 (by repeat (first | exact Rem.here | apply Rem.there)) (Nat.le_of_ble_eq_true rfl) rfl ?_
              refine sq_nil ?_
              refine sx_then ?_
              refine sc_seq ?_
              refine sc_own_blk (e := 66) (sz := 2) (by repeat (first | exact Rem.here | apply Rem.there)) (by omega) (fun g cap cur hv125 hnc hcm hsz htk => ?_)
              subst hv125
              refine sc_region ?_
              refine sq_y (OpY.s (y_move (by exact rfl))) rfl ?_
              refine sq_y (OpY.s (y_conv Try.underlying48 Try.underlying3 (by exact rfl) (wrap64_in (by omega) (by omega)))) rfl ?_
              refine sq_y (OpY.s (y_rem (by exact rfl) (by exact rfl) (by omega) (by omega))) rfl ?_
              refine sq_y (OpY.s (y_assign (by exact rfl))) rfl ?_
              refine sq_nil ?_
              refine sx_then ?_
              refine sc_seq ?_
              refine sc_drawX ([.blk b19 (.cells [Value.int .i64 r.p, .int .i64 r.lim, .int .i64 r.rate, .slice (some ⟨g, 0, none⟩) r.teams.length cap].toArray 24 (0, 0)), .blk g (.cells cur 66 (0, 0)), .blk b5 (.cells (rcVal r a c).toArray 24 (0, 0)), .reg 0 w]) (by kernel_rfl) ?_
              refine xj_s 0 (by exact rfl) (by kernel_rfl) (by repeat (first | exact Sel.nil | refine Sel.cons (by repeat (first | exact Rem.here | apply Rem.there)) ?_)) (by first | exact y_fab Try.underlying24 (by exact rfl) (by exact Try.sizeOf22) (by exact rfl) rfl | exact y_fa Try.underlying24 (by exact rfl) (by exact Try.sizeOf22) (by exact rfl) rfl) rfl ?_
              refine xj_s 1 (by exact rfl) (by kernel_rfl) (by repeat (first | exact Sel.nil | refine Sel.cons (by repeat (first | exact Rem.here | apply Rem.there)) ?_)) (by first | exact y_load_blk Try.underlying22 rfl (by exact rfl) (by repeat (first | exact .head _ | refine .tail _ ?_)) (by exact rfl) | exact y_load_caj Try.underlying22 rfl (by exact rfl) (by repeat (first | exact .head _ | refine .tail _ ?_)) (by assumption) (by exact rfl) | exact y_load_ca0 Try.underlying22 rfl (by exact rfl) (by repeat (first | exact .head _ | refine .tail _ ?_)) (by assumption) (by exact rfl)) rfl ?_
              refine xj_s 2 (by exact rfl) (by kernel_rfl) (by repeat (first | exact Sel.nil | refine Sel.cons (by repeat (first | exact Rem.here | apply Rem.there)) ?_)) (y_move (by exact rfl)) rfl ?_
              refine xj_s 4 (by exact rfl) (by kernel_rfl) (by repeat (first | exact Sel.nil | refine Sel.cons (by repeat (first | exact Rem.here | apply Rem.there)) ?_)) (by first | exact y_fab Try.underlying24 (by exact rfl) (by exact Try.sizeOf22) (by exact rfl) rfl | exact y_fa Try.underlying24 (by exact rfl) (by exact Try.sizeOf22) (by exact rfl) rfl) rfl ?_
              refine xj_s 5 (by exact rfl) (by kernel_rfl) (by repeat (first | exact Sel.nil | refine Sel.cons (by repeat (first | exact Rem.here | apply Rem.there)) ?_)) (by first | exact y_load_blk Try.underlying22 rfl (by exact rfl) (by repeat (first | exact .head _ | refine .tail _ ?_)) (by exact rfl) | exact y_load_caj Try.underlying22 rfl (by exact rfl) (by repeat (first | exact .head _ | refine .tail _ ?_)) (by assumption) (by exact rfl) | exact y_load_ca0 Try.underlying22 rfl (by exact rfl) (by repeat (first | exact .head _ | refine .tail _ ?_)) (by assumption) (by exact rfl)) rfl ?_
              refine xj_s 6 (by exact rfl) (by kernel_rfl) (by repeat (first | exact Sel.nil | refine Sel.cons (by repeat (first | exact Rem.here | apply Rem.there)) ?_)) (y_move (by exact rfl)) rfl ?_
              refine xj_s 7 (by exact rfl) (by kernel_rfl) (by repeat (first | exact Sel.nil | refine Sel.cons (by repeat (first | exact Rem.here | apply Rem.there)) ?_)) (by first | exact y_ia_blk Try.underlying22 Try.sizeOf66 (by exact rfl) (by exact rfl) (by omega) | exact y_ia_el Try.underlying22 Try.sizeOf66 (by exact rfl) (by exact rfl) (by omega) (by first | assumption | simp)) rfl ?_
              refine xj_s 8 (by exact rfl) (by kernel_rfl) (by repeat (first | exact Sel.nil | refine Sel.cons (by repeat (first | exact Rem.here | apply Rem.there)) ?_)) (by first | exact y_fab Try.underlying66 (by exact rfl) (by exact Try.sizeOf36) (by exact rfl) rfl | exact y_fa Try.underlying66 (by exact rfl) (by exact Try.sizeOf36) (by exact rfl) rfl) rfl ?_
              refine xj_s 9 (by exact rfl) (by kernel_rfl) (by repeat (first | exact Sel.nil | refine Sel.cons (by repeat (first | exact Rem.here | apply Rem.there)) ?_)) (by first | exact y_load_blk Try.underlying36 rfl (by exact rfl) (by repeat (first | exact .head _ | refine .tail _ ?_)) (by exact rfl) | exact y_load_caj Try.underlying36 rfl (by exact rfl) (by repeat (first | exact .head _ | refine .tail _ ?_)) (by assumption) (by exact rfl) | exact y_load_ca0 Try.underlying36 rfl (by exact rfl) (by repeat (first | exact .head _ | refine .tail _ ?_)) (by assumption) (by exact rfl)) rfl ?_
              refine xj_s 11 (by exact rfl) (by kernel_rfl) (by repeat (first | exact Sel.nil | refine Sel.cons (by repeat (first | exact Rem.here | apply Rem.there)) ?_)) (y_move (by exact rfl)) rfl ?_
              refine xj_s 12 (by exact rfl) (by kernel_rfl) (by repeat (first | exact Sel.nil | refine Sel.cons (by repeat (first | exact Rem.here | apply Rem.there)) ?_)) (y_move (by exact rfl)) rfl ?_
              refine xj_s 13 (by exact rfl) (by kernel_rfl) (by repeat (first | exact Sel.nil | refine Sel.cons (by repeat (first | exact Rem.here | apply Rem.there)) ?_)) (y_move (by exact rfl)) rfl ?_
              refine xj_s 14 (by exact rfl) (by kernel_rfl) (by repeat (first | exact Sel.nil | refine Sel.cons (by repeat (first | exact Rem.here | apply Rem.there)) ?_)) (y_conv Try.underlying48 Try.underlying3 (by exact rfl) (wrap64_in (by omega) (by omega))) rfl ?_
              refine xj_s 15 (by exact rfl) (by kernel_rfl) (by repeat (first | exact Sel.nil | refine Sel.cons (by repeat (first | exact Rem.here | apply Rem.there)) ?_)) (y_rem (by exact rfl) (by exact rfl) (by omega) (by omega)) rfl ?_
              refine xj_s 16 (by exact rfl) (by kernel_rfl) (by repeat (first | exact Sel.nil | refine Sel.cons (by repeat (first | exact Rem.here | apply Rem.there)) ?_)) (y_add (by exact rfl) (by exact rfl) (by omega)) rfl ?_
              refine xj_s 17 (by exact rfl) (by kernel_rfl) (by repeat (first | exact Sel.nil | refine Sel.cons (by repeat (first | exact Rem.here | apply Rem.there)) ?_)) (y_min (by exact rfl) (by exact rfl)) rfl ?_
              refine xj_one 3 (by exact rfl) (by kernel_rfl) ?_
              refine sq_bs Try.underlying36 ei32 EvI.nil (by first | (simp [Value.cells]; done) | (simp [Value.cells]; rfl)) rfl rfl rfl (fun b133 => ?_)
              refine sq_nil ?_
              refine sx_xp (by repeat (first | exact Sel.nil | refine Sel.cons (by repeat (first | exact Rem.here | apply Rem.there)) ?_)) ?_
              refine xj_one 10 (by exact rfl) (by kernel_rfl) ?_
              refine sq_blk_own (e := 32) (n := 0) (sz := 2) (xs := []) (by repeat (first | exact Rem.here | apply Rem.there)) rfl (by decide) ?_
              refine sq_append_rows (news := flatS tm.brk) Try.underlying36 ei32 Try.sizeOf32 rfl (by decide) (by exact rfl) (by repeat (first | exact Rem.here | apply Rem.there)) (by exact rfl) hbr.noa (flatS_len _) (fun ad had w1 hw1 => flatS_cells (by rw [← had]; exact hbr.at hw1 (by repeat (first | exact .head _ | refine .tail _ ?_)))) (flatS_one _) (by omega) rfl (fun v140 ho140 => ?_)
              refine sq_nil ?_
              refine sx_xp (by repeat (first | exact Sel.nil | refine Sel.cons (by repeat (first | exact Rem.here | apply Rem.there)) ?_)) ?_
              rw [List.nil_append, Nat.zero_add tm.brk.length]
              refine xj_one 18 (by exact rfl) (by kernel_rfl) ?_
              refine sq_y (y_call (first := []) (caps := []) (by exact rfl) Try.call30 (EvL.cons (by exact rfl) (EvL.cons (by exact rfl) EvL.nil)) (fun w1 _ => span30 w1 _ _)) rfl ?_
              refine sq_nil ?_
              refine sx_xp (by repeat (first | exact Sel.nil | refine Sel.cons (by repeat (first | exact Rem.here | apply Rem.there)) ?_)) ?_
              refine xj_one 19 (by exact rfl) (by kernel_rfl) ?_
              refine sq_bs Try.underlying36 ei32 (EvI.cons (by exact rfl) EvI.nil) (by first | (simp [Value.cells]; done) | (simp [Value.cells]; rfl)) rfl rfl rfl (fun b149 => ?_)
              refine sq_nil ?_
              refine sx_xp (by repeat (first | exact Sel.nil | refine Sel.cons (by repeat (first | exact Rem.here | apply Rem.there)) ?_)) ?_
              refine xj_one 20 (by exact rfl) (by kernel_rfl) ?_
              refine sq_append (news := [.int .i64 (fz % 2001), .int .i64 (min 2000 (fz % 2001 + lz % 100))]) Try.underlying36 ei32 rfl (by decide) (by exact rfl) (by repeat (first | exact Rem.here | apply Rem.there)) (by exact rfl) rfl (fun _ hw => news_blk hw (by repeat (first | exact .head _ | refine .tail _ ?_))) (by simp [Value.oneCell']) (by omega) rfl (fun v150 ho150 => ?_)
              refine sq_nil ?_
              refine sx_xp (by repeat (first | exact Sel.nil | refine Sel.cons (by repeat (first | exact Rem.here | apply Rem.there)) ?_)) ?_
              refine xj_s 21 (by exact rfl) (by kernel_rfl) (by repeat (first | exact Sel.nil | refine Sel.cons (by repeat (first | exact Rem.here | apply Rem.there)) ?_)) (by first | exact y_ia_blk Try.underlying22 Try.sizeOf66 (by exact rfl) (by exact rfl) (by omega) | exact y_ia_el Try.underlying22 Try.sizeOf66 (by exact rfl) (by exact rfl) (by omega) (by first | assumption | simp)) rfl ?_
              refine xj_s 22 (by exact rfl) (by kernel_rfl) (by repeat (first | exact Sel.nil | refine Sel.cons (by repeat (first | exact Rem.here | apply Rem.there)) ?_)) (by first | exact y_fab Try.underlying66 (by exact rfl) (by exact Try.sizeOf36) (by exact rfl) rfl | exact y_fa Try.underlying66 (by exact rfl) (by exact Try.sizeOf36) (by exact rfl) rfl) rfl ?_
              refine xj_one 23 (by exact rfl) (by kernel_rfl) ?_
              refine sq_store (o := 0 + t * 2 + 1) Try.sizeOf36 (by exact rfl) (by exact rfl) ho150 (by repeat (first | exact Rem.here | apply Rem.there)) (by omega) ?_
              refine sq_nil ?_
              refine sx_xpl (by kernel_rfl) ?_
              refine xj_done (by kernel_rfl) ?_
              refine sx_then ?_
              refine sc_seq ?_
              refine sc_own_blk (e := 32) (sz := 2) (by repeat (first | exact Rem.here | apply Rem.there)) (by omega) (fun g2 cap2 cur2 hv150 hnc2 hcm2 hsz2 htk2 => ?_)
              subst hv150
              have hmo : rcB (moreR r t ⟨fz % 2001, min 2000 (fz % 2001 + lz % 100)⟩) = true := moreR_ok hok ht (by rw [hbrk]; simp at hc5; omega) (by simp only [spB, decide_eq_true_eq]; omega)
              refine sc_region ?_
              refine sq_y (OpY.s (by first | exact y_load_all Try.underlying24 rfl Try.sizeOf24 (by exact rfl) (by repeat (first | exact .head _ | refine .tail _ ?_)) (by exact rfl) | exact y_load_ca Try.underlying24 rfl Try.sizeOf24 (by exact rfl) (by repeat (first | exact .head _ | refine .tail _ ?_)) (by assumption) (by exact rfl))) rfl ?_
              refine sq_y (OpY.s (y_move (by exact rfl))) rfl ?_
              refine sq_y (OpY.s (y_move (by exact rfl))) rfl ?_
              refine sq_y (y_call (first := []) (caps := []) (by exact rfl) Try.call15 (EvL.cons (by exact rfl) (EvL.cons (by exact rfl) (EvL.cons (by exact rfl) EvL.nil))) (fun w1 hw1 => worked15w w1 _ (moreR r t ⟨fz % 2001, min 2000 (fz % 2001 + lz % 100)⟩) t m m rfl (by
                  have hT' := more_tms (t := t) (s := ⟨fz % 2001, min 2000 (fz % 2001 + lz % 100)⟩) hw1 ht (by rw [hbrk]; simp at hc5; omega) (by rw [hbrk]; exact (by repeat (first | exact .head _ | refine .tail _ ?_))) (by repeat (first | exact .head _ | refine .tail _ ?_)) (hT.at hw1 (by repeat (first | exact .head _ | refine .tail _ ?_))) htk (by rw [hbrk, flatS_snoc]; exact htk2)
                  have h3 := hT'.rc (r := moreR r t ⟨fz % 2001, min 2000 (fz % 2001 + lz % 100)⟩) (c := cap) i1 i2 i3
                  rw [rcVal, moreR_len] at h3; exact h3) hmo (by rw [moreR_len]; exact ht) hm)) rfl ?_
              refine sq_y (OpY.s (y_move (by exact rfl))) rfl ?_
              refine sq_y (OpY.s (y_extract (by exact rfl) (by exact rfl))) rfl ?_
              refine sq_y (OpY.s (y_extract (by exact rfl) (by exact rfl))) rfl ?_
              refine sq_y (OpY.s (y_assign (by exact rfl))) rfl ?_
              refine sq_y (OpY.s (y_assign (by exact rfl))) rfl ?_
              refine sq_nil ?_
              refine sx_then ?_
              refine sc_seq ?_
              refine sc_region ?_
              refine sq_y (OpY.s (y_move (by exact rfl))) rfl ?_
              refine sq_y (OpY.s (y_eql (by exact rfl) (by exact rfl))) rfl ?_
              refine sq_y (OpY.s (y_move (by exact rfl))) rfl ?_
              refine sq_known (tt := 162) (b' := true) (by exact rfl) (by simp) ?_
              refine sq_gt (by exact rfl) (by exact rfl) (OpY.s (y_move (by exact rfl))) rfl ?_
              refine sq_gt (by exact rfl) (by exact rfl) (OpY.s (y_move (by exact rfl))) rfl ?_
              refine sq_gt (by exact rfl) (by exact rfl) (OpY.s (y_leq (by exact rfl) (by exact rfl))) rfl ?_
              refine sq_y (OpY.s (y_pick_t (by exact rfl) (by exact rfl))) rfl ?_
              refine sq_y (OpY.s (y_move (by exact rfl))) rfl ?_
              refine sq_known (tt := 167) (b' := true) (by exact rfl) (decide_eq_true (by have := wrk_more_le (s := ⟨fz % 2001, min 2000 (fz % 2001 + lz % 100)⟩) ht m; omega)) ?_
              refine sq_gt (by exact rfl) (by exact rfl) (OpY.s (y_move (by exact rfl))) rfl ?_
              refine sq_gt (by exact rfl) (by exact rfl) (OpY.s (y_move (by exact rfl))) rfl ?_
              refine sq_gt (by exact rfl) (by exact rfl) (OpY.s (y_lss (by exact rfl) (by exact rfl))) rfl ?_
              refine sq_gt (by exact rfl) (by exact rfl) (OpY.s (y_move (by exact rfl))) rfl ?_
              first | refine sq_splitd (tt := 171) (by exact rfl) (fun hg25_11 => ?_) (fun hg25_11 => ?_) | refine sq_splitn (tt := 171) (by exact rfl) (fun hg25_11 => ?_) (fun hg25_11 => ?_) | refine sq_split (tt := 171) (by exact rfl) (fun hg25_11 => ?_) (fun hg25_11 => ?_)
              ·
                refine sq_gf (by exact rfl) (by exact rfl) (by exact rfl) rfl ?_
                refine sq_gf (by exact rfl) (by exact rfl) (by exact rfl) rfl ?_
                refine sq_gf (by exact rfl) (by exact rfl) (by exact rfl) rfl ?_
                refine sq_gt (by exact rfl) (by exact rfl) (OpY.s (y_pick_t (by exact rfl) (by exact rfl))) rfl ?_
                refine sq_y (OpY.s (y_pick_t (by exact rfl) (by exact rfl))) rfl ?_
                refine sq_y (OpY.s (y_move (by exact rfl))) rfl ?_
                refine sq_gt (by exact rfl) (by exact rfl) (y_call (first := []) (caps := []) (by exact rfl) Try.call14 EvL.nil (fun w1 _ => alive14 w1)) rfl ?_
                refine sq_y (OpY.s (y_pick_t (by exact rfl) (by exact rfl))) rfl ?_
                refine sq_y (OpY.s (y_assign (by exact rfl))) rfl ?_
                refine sq_nil ?_
                refine sx_then ?_
                refine sc_ret ?_
                refine sx_ret1 (.inl rfl) rfl Try.results11 (by exact rfl) ?_
                intro w' hw'
                exact ⟨rfl, hw'.below (by repeat (first | exact .head _ | refine .tail _ ?_))⟩
              ·
                refine sq_gt (by exact rfl) (by exact rfl) (OpY.s (y_move (by exact rfl))) rfl ?_
                refine sq_gt (by exact rfl) (by exact rfl) (OpY.s (y_move (by exact rfl))) rfl ?_
                refine sq_gt (by exact rfl) (by exact rfl) (OpY.s (y_eql (by exact rfl) (by exact rfl))) rfl ?_
                refine sq_gt (by exact rfl) (by exact rfl) (OpY.s (y_pick_f (by exact rfl) (by exact rfl))) rfl ?_
                refine sq_y (OpY.s (y_pick_t (by exact rfl) (by exact rfl))) rfl ?_
                refine sq_y (OpY.s (y_move (by exact rfl))) rfl ?_
                refine sq_known (tt := 177) (b' := true) (by exact rfl) (by first | rfl | exact decide_eq_true (by rw [wrk_more_eq ht (by simp at hg25_11 ⊢; omega)])) ?_
                refine sq_gt (by exact rfl) (by exact rfl) (y_call (first := []) (caps := []) (by exact rfl) Try.call14 EvL.nil (fun w1 _ => alive14 w1)) rfl ?_
                refine sq_y (OpY.s (y_pick_t (by exact rfl) (by exact rfl))) rfl ?_
                refine sq_y (OpY.s (y_assign (by exact rfl))) rfl ?_
                refine sq_nil ?_
                refine sx_then ?_
                refine sc_ret ?_
                refine sx_ret1 (.inl rfl) rfl Try.results11 (by exact rfl) ?_
                intro w' hw'
                exact ⟨rfl, hw'.below (by repeat (first | exact .head _ | refine .tail _ ?_))⟩
theorem works11 (w : World) (r : Rc) (a : Option Addr) (c : Nat) (f : Nat → Option Addr) (cf : Nat → Nat) (tz mz fz lz : Int) (hT : TmsA 0 w a r.teams f cf) (i1 : InI r.p) (i2 : InI r.lim) (i3 : InI r.rate) (hfz : 0 ≤ fz ∧ fz ≤ 65535) (hlz : 0 ≤ lz ∧ lz ≤ 65535) : Calls Try.prog 11 #[.agg (rcVal r a c).toArray, .int .i64 tz, .int .i64 mz, .int .u16 fz, .int .u16 lz] w fun e w' => e = .returned (.bool true) ∧ Below w.heap.size w w' := by
  by_cases hok : rcB r = true
  · by_cases h : 0 ≤ tz ∧ tz ≤ (r.teams.length : Int) - 1 ∧ 0 ≤ mz ∧ mz ≤ 2000
    · obtain ⟨t, rfl⟩ := Int.eq_ofNat_of_zero_le h.1
      obtain ⟨m, rfl⟩ := Int.eq_ofNat_of_zero_le h.2.2.1
      exact works11b w r a c f cf t m fz lz hT i1 i2 i3 hok (by omega) (by omega) hfz hlz
    · exact works11a w r a c f cf tz mz fz lz hT i1 i2 i3 2 (by decide) (by rw [if_neg (by simp [hok]), if_neg h])
  · exact works11a w r a c f cf tz mz fz lz hT i1 i2 i3 1 (by decide) (by rw [if_pos (by simpa using hok)])
end Go.Proofs.Ytegdfpilhlcplaa
