/- The walk of RaceEnds. -/
import Derived.Test.YtegdfpilhlcplaaLaw11
import Derived.Test.YtegdfpilhlcplaaEng9
namespace Go.Proofs.Ytegdfpilhlcplaa
open Go Go.Eng Go.RowKit Go.Proofs
set_option maxRecDepth 100000
theorem take_get' {α : Type} {l xs : List α} {n k : Nat} {v : α} (h : l.take n = xs) (hk : xs[k]? = some v) : l[k]? = some v := by
  rw [← h, List.getElem?_take] at hk
  split at hk
  · exact hk
  · cases hk
theorem rows_blk {α : Type} {row : α → List Value} {sz : Nat} (hr : ∀ x, (row x).length = sz) {w0 w : World} {rs : List Res} (hw : Hp w0 rs w) {g n : Nat} {cur : Array Value} {e : TypeId} {fz : Nat × Nat} (hm : Res.blk g (.cells cur e fz) ∈ rs) {l : List α} (hc : cur.toList.take n = l.flatMap row) : ∀ i x, l[i]? = some x → (some (⟨g, 0, none⟩ : Addr)).isSome = true ∧ CA 0 w (elt (some ⟨g, 0, none⟩) i sz) (row x) := fun i x hi => by
  refine ⟨rfl, ?_⟩
  have e1 : elt (some ⟨g, 0, none⟩) i sz = (⟨g, i * sz, none⟩ : Addr) := by simp [elt, Addr.add_lit]
  rw [e1]
  refine ⟨Nat.zero_le _, fun j v hj => ?_⟩
  rw [Addr.add_lit, cell_blk hw hm]
  have := take_get' hc (flat_get hr l i x hi j v hj)
  simpa using this
theorem wds_cells {w : World} {ad : Addr} {l : List Wd} (h : WdsA 0 w (some ad) l) : ∀ j u, (l.flatMap wdRow)[j]? = some u → w.cell? (ad.add j) = some u := rows_cells wdRow_len (by decide) fun i x hx => (h.el i x hx).2
theorem wds_one (l : List Wd) : ∀ u ∈ l.flatMap wdRow, u.oneCell' = true := by
  intro u hu
  obtain ⟨i, _, h⟩ := List.mem_flatMap.1 hu
  simp [wdRow] at h
  rcases h with rfl | rfl | rfl | rfl <;> rfl
theorem WdsA.noa {lo : Nat} {wr : World} {a : Option Addr} {l : List Wd} (h : WdsA lo wr a l) (ha : a = none) : l.length = 0 := by
  rcases Nat.eq_zero_or_pos l.length with h0 | h0
  · exact h0
  · have := (h.row 0 h0).1; rw [ha] at this; cases this
theorem findE_of {r : Rc} {ls : List Wd} {t m : Nat} (ht : t < r.teams.length) (hm : m ≤ 2000) : findE r ls t m = openE r ls true := by
  unfold findE
  rw [show tmzB r t m = true by simp only [tmzB, minB, Bool.and_eq_true, decide_eq_true_eq]; omega]

theorem count17z (w : World) (r : Rc) (a : Option Addr) (c : Nat) (f : Nat → Option Addr) (cf : Nat → Nat) (al : Option Addr) (cl : Nat) (ls : List Wd) (n : Nat) (hn : ls.length = n) (t m : Nat) (ht : t < r.teams.length) (hm : m ≤ 2000) (hE : openE r ls true = 0) (hT : TmsA 0 w a r.teams f cf) (hl : WdsA 0 w al ls) (i1 : InI r.p) (i2 : InI r.lim) (i3 : InI r.rate) : Calls Try.prog 17 #[.agg (rcVal r a c).toArray, .slice al n cl, .int .i64 t, .int .i64 m] w fun e w' => e = .returned (.tuple #[.agg (spRow (cntP r ls t (wrk r t m))).toArray, .int .i64 0]) ∧ Below w.heap.size w w' := by
  subst hn
  have h := count17 w r a c f cf al cl ls t m hT hl i1 i2 i3
  unfold countAns spanAns at h
  rw [if_pos (by rw [findE_of ht hm]; exact hE)] at h
  exact h
theorem count17e (w : World) (r : Rc) (a : Option Addr) (c : Nat) (f : Nat → Option Addr) (cf : Nat → Nat) (al : Option Addr) (cl : Nat) (ls : List Wd) (n : Nat) (hn : ls.length = n) (tz mz : Int) (E : Int) (hE : findE r ls tz mz = E) (h0 : E ≠ 0) (hT : TmsA 0 w a r.teams f cf) (hl : WdsA 0 w al ls) (i1 : InI r.p) (i2 : InI r.lim) (i3 : InI r.rate) : Calls Try.prog 17 #[.agg (rcVal r a c).toArray, .slice al n cl, .int .i64 tz, .int .i64 mz] w fun e w' => e = .returned (.tuple #[.agg (spRow ⟨0, 0⟩).toArray, .int .i64 E]) ∧ Below w.heap.size w w' := by
  subst hn
  subst hE
  have h := count17 w r a c f cf al cl ls tz mz hT hl i1 i2 i3
  unfold countAns spanAns at h
  rw [if_neg h0] at h
  exact h
theorem points19z (w : World) (r : Rc) (a : Option Addr) (c : Nat) (f : Nat → Option Addr) (cf : Nat → Nat) (al : Option Addr) (cl : Nat) (ls : List Wd) (n : Nat) (hn : ls.length = n) (t m : Nat) (ht : t < r.teams.length) (hm : m ≤ 2000) (hE : openE r ls true = 0) (hT : TmsA 0 w a r.teams f cf) (hl : WdsA 0 w al ls) (i1 : InI r.p) (i2 : InI r.lim) (i3 : InI r.rate) : Calls Try.prog 19 #[.agg (rcVal r a c).toArray, .slice al n cl, .int .i64 t, .int .i64 m] w fun e w' => e = .returned (.tuple #[.agg (spRow (ptsP r ls t (wrk r t m))).toArray, .int .i64 0]) ∧ Below w.heap.size w w' := by
  subst hn
  have h := points19 w r a c f cf al cl ls t m hT hl i1 i2 i3
  unfold pointsAns spanAns at h
  rw [if_pos (by rw [findE_of ht hm]; exact hE)] at h
  exact h
theorem points19e (w : World) (r : Rc) (a : Option Addr) (c : Nat) (f : Nat → Option Addr) (cf : Nat → Nat) (al : Option Addr) (cl : Nat) (ls : List Wd) (n : Nat) (hn : ls.length = n) (tz mz : Int) (E : Int) (hE : findE r ls tz mz = E) (h0 : E ≠ 0) (hT : TmsA 0 w a r.teams f cf) (hl : WdsA 0 w al ls) (i1 : InI r.p) (i2 : InI r.lim) (i3 : InI r.rate) : Calls Try.prog 19 #[.agg (rcVal r a c).toArray, .slice al n cl, .int .i64 tz, .int .i64 mz] w fun e w' => e = .returned (.tuple #[.agg (spRow ⟨0, 0⟩).toArray, .int .i64 E]) ∧ Below w.heap.size w w' := by
  subst hn
  subst hE
  have h := points19 w r a c f cf al cl ls tz mz hT hl i1 i2 i3
  unfold pointsAns spanAns at h
  rw [if_neg h0] at h
  exact h
theorem clash25y (w : World) (r : Rc) (a : Option Addr) (c : Nat) (f : Nat → Option Addr) (cf : Nat → Nat) (al : Option Addr) (cl : Nat) (ls : List Wd) (n : Nat) (hn : ls.length = n) (hcl : ls.length ≤ cl) (x y : Int) (hx : clashN r ls = (x, y)) (hT : TmsA 0 w a r.teams f cf) (hl : WdsA 0 w al ls) (i1 : InI r.p) (i2 : InI r.lim) (i3 : InI r.rate) : Calls Try.prog 25 #[.agg (rcVal r a c).toArray, .slice al n cl] w fun e w' => e = .returned (.tuple #[.int .i64 x, .int .i64 y]) ∧ Below w.heap.size w w' := by
  subst hn
  have h := clash25 w r a c f cf al cl ls hcl hT hl i1 i2 i3
  rw [hx] at h; exact h
theorem with35a (w : World) (r : Rc) (a : Option Addr) (c : Nat) (f : Nat → Option Addr) (cf : Nat → Nat) (al : Option Addr) (cl : Nat) (ls : List Wd) (t m : Nat) (n : Int) (b1 b2 b3 b4 : Addr) (h1 : CA 0 w b1 [.slice al ls.length cl]) (h2 : CA 0 w b2 [.int .i64 t]) (h3 : CA 0 w b3 [.int .i64 m]) (h4 : CA 0 w b4 (rcVal r a c)) (ht : t < r.teams.length) (hm : m ≤ 2000) (hlt : ls.length < 40) (hE : openE r (ls ++ [wdN t m n]) true = 0) (hcn : cntP r (ls ++ [wdN t m n]) t (wrk r t m) = ⟨n, n⟩) (hT : TmsA 0 w a r.teams f cf) (hl : WdsA 0 w al ls) (i1 : InI r.p) (i2 : InI r.lim) (i3 : InI r.rate) : Calls Try.prog 35 #[.int .i64 n, .pointer (some b1), .pointer (some b2), .pointer (some b3), .pointer (some b4)] w fun e w' => e = .returned (.tuple #[.agg (spRow ⟨n, n⟩).toArray, .agg (spRow (ptsP r (ls ++ [wdN t m n]) t (wrk r t m))).toArray, .bool true]) ∧ Below w.heap.size w w' := by
  refine calls_of_SC (args := [.int .i64 n, .pointer (some b1), .pointer (some b2), .pointer (some b3), .pointer (some b4)]) Try.func35 rfl Try.ntmps35 rfl ?_
  simp only [argL, Nat.reduceAdd, Nat.zero_add]
  refine sc_seq ?_
  refine sc_region ?_
  refine sq_alloc Try.zeroValue32 rfl (fun b6 => ?_)
  refine sq_alloc Try.zeroValue32 rfl (fun b7 => ?_)
  refine sq_y (OpY.s (y_assign (by exact rfl))) rfl ?_
  refine sq_nil ?_
  refine sx_then ?_
  refine sc_seq ?_
  refine sc_drawX ([.reg 0 w]) (by kernel_rfl) ?_
  refine xj_s 1 (by exact rfl) (by kernel_rfl) (by repeat (first | exact Sel.nil | refine Sel.cons (by repeat (first | exact Rem.here | apply Rem.there)) ?_)) (by first | exact y_load_ca0 Try.underlying25 rfl (by exact rfl) (by repeat (first | exact .head _ | refine .tail _ ?_)) h1 rfl | exact y_load_blk Try.underlying25 rfl (by exact rfl) (by repeat (first | exact .head _ | refine .tail _ ?_)) (by exact rfl) | exact y_load_caj Try.underlying25 rfl (by exact rfl) (by repeat (first | exact .head _ | refine .tail _ ?_)) (by assumption) (by exact rfl) | exact y_load_ca0 Try.underlying25 rfl (by exact rfl) (by repeat (first | exact .head _ | refine .tail _ ?_)) (by assumption) (by exact rfl)) rfl ?_
  refine xj_s 3 (by exact rfl) (by kernel_rfl) (by repeat (first | exact Sel.nil | refine Sel.cons (by repeat (first | exact Rem.here | apply Rem.there)) ?_)) (by first | exact y_load_ca0 Try.underlying3 rfl (by exact rfl) (by repeat (first | exact .head _ | refine .tail _ ?_)) h2 rfl | exact y_load_blk Try.underlying3 rfl (by exact rfl) (by repeat (first | exact .head _ | refine .tail _ ?_)) (by exact rfl) | exact y_load_caj Try.underlying3 rfl (by exact rfl) (by repeat (first | exact .head _ | refine .tail _ ?_)) (by assumption) (by exact rfl) | exact y_load_ca0 Try.underlying3 rfl (by exact rfl) (by repeat (first | exact .head _ | refine .tail _ ?_)) (by assumption) (by exact rfl)) rfl ?_
  refine xj_s 4 (by exact rfl) (by kernel_rfl) (by repeat (first | exact Sel.nil | refine Sel.cons (by repeat (first | exact Rem.here | apply Rem.there)) ?_)) (by first | exact y_load_ca0 Try.underlying3 rfl (by exact rfl) (by repeat (first | exact .head _ | refine .tail _ ?_)) h3 rfl | exact y_load_blk Try.underlying3 rfl (by exact rfl) (by repeat (first | exact .head _ | refine .tail _ ?_)) (by exact rfl) | exact y_load_caj Try.underlying3 rfl (by exact rfl) (by repeat (first | exact .head _ | refine .tail _ ?_)) (by assumption) (by exact rfl) | exact y_load_ca0 Try.underlying3 rfl (by exact rfl) (by repeat (first | exact .head _ | refine .tail _ ?_)) (by assumption) (by exact rfl)) rfl ?_
  refine xj_s 5 (by exact rfl) (by kernel_rfl) (by repeat (first | exact Sel.nil | refine Sel.cons (by repeat (first | exact Rem.here | apply Rem.there)) ?_)) (y_move (by exact rfl)) rfl ?_
  refine xj_s 6 (by exact rfl) (by kernel_rfl) (by repeat (first | exact Sel.nil | refine Sel.cons (by repeat (first | exact Rem.here | apply Rem.there)) ?_)) (y_move (by exact rfl)) rfl ?_
  refine xj_one 0 (by exact rfl) (by kernel_rfl) ?_
  refine sq_bs Try.underlying25 ei57 EvI.nil (by first | (simp [Value.cells]; done) | (simp [Value.cells]; rfl)) rfl rfl rfl (fun b16 => ?_)
  refine sq_nil ?_
  refine sx_xp (by repeat (first | exact Sel.nil | refine Sel.cons (by repeat (first | exact Rem.here | apply Rem.there)) ?_)) ?_
  refine xj_one 2 (by exact rfl) (by kernel_rfl) ?_
  refine sq_blk_own (e := 57) (n := 0) (sz := 4) (xs := []) (by repeat (first | exact Rem.here | apply Rem.there)) rfl (by decide) ?_
  refine sq_append_rows (news := ls.flatMap wdRow) Try.underlying25 ei57 Try.sizeOf57 rfl (by decide) (by exact rfl) (by repeat (first | exact Rem.here | apply Rem.there)) (by exact rfl) hl.noa (flat_len wdRow_len ls) (fun ad had w1 hw1 => wds_cells (by rw [← had]; exact hl.at hw1 (by repeat (first | exact .head _ | refine .tail _ ?_)))) (wds_one ls) (by omega) rfl (fun v18 ho18 => ?_)
  refine sq_nil ?_
  refine sx_xp (by repeat (first | exact Sel.nil | refine Sel.cons (by repeat (first | exact Rem.here | apply Rem.there)) ?_)) ?_
  rw [List.nil_append, Nat.zero_add ls.length]
  refine xj_one 7 (by exact rfl) (by kernel_rfl) ?_
  refine sq_y (y_call (first := []) (caps := []) (by exact rfl) Try.call30 (EvL.cons (by exact rfl) (EvL.cons (by exact rfl) EvL.nil)) (fun w1 _ => span30 w1 _ _)) rfl ?_
  refine sq_nil ?_
  refine sx_xp (by repeat (first | exact Sel.nil | refine Sel.cons (by repeat (first | exact Rem.here | apply Rem.there)) ?_)) ?_
  refine xj_s 8 (by exact rfl) (by kernel_rfl) (by repeat (first | exact Sel.nil | refine Sel.cons (by repeat (first | exact Rem.here | apply Rem.there)) ?_)) (y_build bt57 (EvP.cons (by exact rfl) (EvP.cons (by exact rfl) (EvP.cons (by exact rfl) EvP.nil))) (by exact rfl)) rfl ?_
  refine xj_one 9 (by exact rfl) (by kernel_rfl) ?_
  refine sq_bs Try.underlying25 ei57 (EvI.cons (by exact rfl) EvI.nil) (by first | (simp [Value.cells]; done) | (simp [Value.cells]; rfl)) rfl rfl rfl (fun b25 => ?_)
  refine sq_nil ?_
  refine sx_xp (by repeat (first | exact Sel.nil | refine Sel.cons (by repeat (first | exact Rem.here | apply Rem.there)) ?_)) ?_
  refine xj_one 10 (by exact rfl) (by kernel_rfl) ?_
  refine sq_append (news := [.int .i64 t, .int .i64 m, .int .i64 n, .int .i64 n]) Try.underlying25 ei57 rfl (by decide) (by exact rfl) (by repeat (first | exact Rem.here | apply Rem.there)) (by exact rfl) rfl (fun _ hw => news_blk hw (by repeat (first | exact .head _ | refine .tail _ ?_))) (by simp [Value.oneCell']) (by omega) rfl (fun v26 ho26 => ?_)
  refine sq_nil ?_
  refine sx_xp (by repeat (first | exact Sel.nil | refine Sel.cons (by repeat (first | exact Rem.here | apply Rem.there)) ?_)) ?_
  refine xj_s 11 (by exact rfl) (by kernel_rfl) (by repeat (first | exact Sel.nil | refine Sel.cons (by repeat (first | exact Rem.here | apply Rem.there)) ?_)) (y_assign (by exact rfl)) rfl ?_
  refine xj_done (by kernel_rfl) ?_
  refine sx_then ?_
  refine sc_seq ?_
  refine sc_own_blk (e := 57) (sz := 4) (by repeat (first | exact Rem.here | apply Rem.there)) (by omega) (fun g cap cur hv hnc hcm hsz htk => ?_)
  subst hv
  have htk : cur.toList.take ((ls.length + 1) * 4) = (ls ++ [wdN t m n]).flatMap wdRow := by rw [htk]; simp [wdRow, wdN]
  refine sc_region ?_
  refine sq_y (OpY.s (by first | exact y_load_ca Try.underlying24 rfl Try.sizeOf24 (by exact rfl) (by repeat (first | exact .head _ | refine .tail _ ?_)) h4 rfl | exact y_load_all Try.underlying24 rfl Try.sizeOf24 (by exact rfl) (by repeat (first | exact .head _ | refine .tail _ ?_)) (by exact rfl) | exact y_load_ca Try.underlying24 rfl Try.sizeOf24 (by exact rfl) (by repeat (first | exact .head _ | refine .tail _ ?_)) (by assumption) (by exact rfl))) rfl ?_
  refine sq_y (OpY.s (y_move (by exact rfl))) rfl ?_
  refine sq_y (OpY.s (by first | exact y_load_ca0 Try.underlying3 rfl (by exact rfl) (by repeat (first | exact .head _ | refine .tail _ ?_)) h2 rfl | exact y_load_blk Try.underlying3 rfl (by exact rfl) (by repeat (first | exact .head _ | refine .tail _ ?_)) (by exact rfl) | exact y_load_caj Try.underlying3 rfl (by exact rfl) (by repeat (first | exact .head _ | refine .tail _ ?_)) (by assumption) (by exact rfl) | exact y_load_ca0 Try.underlying3 rfl (by exact rfl) (by repeat (first | exact .head _ | refine .tail _ ?_)) (by assumption) (by exact rfl))) rfl ?_
  refine sq_y (OpY.s (by first | exact y_load_ca0 Try.underlying3 rfl (by exact rfl) (by repeat (first | exact .head _ | refine .tail _ ?_)) h3 rfl | exact y_load_blk Try.underlying3 rfl (by exact rfl) (by repeat (first | exact .head _ | refine .tail _ ?_)) (by exact rfl) | exact y_load_caj Try.underlying3 rfl (by exact rfl) (by repeat (first | exact .head _ | refine .tail _ ?_)) (by assumption) (by exact rfl) | exact y_load_ca0 Try.underlying3 rfl (by exact rfl) (by repeat (first | exact .head _ | refine .tail _ ?_)) (by assumption) (by exact rfl))) rfl ?_
  refine sq_y (y_call (first := []) (caps := []) (by exact rfl) Try.call17 (EvL.cons (by exact rfl) (EvL.cons (by exact rfl) (EvL.cons (by exact rfl) (EvL.cons (by exact rfl) EvL.nil)))) (fun w1 hw1 => count17z w1 r a c f cf (some ⟨g, 0, none⟩) cap (ls ++ [wdN t m n]) _ (by rw [List.length_append]; rfl) t m ht hm hE (hT.at hw1 (by repeat (first | exact .head _ | refine .tail _ ?_))) ⟨rows_blk wdRow_len hw1 (by repeat (first | exact .head _ | refine .tail _ ?_)) htk, by simp; omega⟩ i1 i2 i3)) rfl ?_
  refine sq_y (OpY.s (y_move (by exact rfl))) rfl ?_
  refine sq_y (OpY.s (y_extract (by exact rfl) (by exact rfl))) rfl ?_
  refine sq_y (OpY.s (y_extract (by exact rfl) (by exact rfl))) rfl ?_
  refine sq_alloc Try.zeroValue32 rfl (fun b10 => ?_)
  refine sq_store_all Try.sizeOf32 (by exact rfl) (by exact rfl) rfl (by repeat (first | exact Rem.here | apply Rem.there)) rfl rfl ?_
  refine sq_y (OpY.s (y_assign (by exact rfl))) rfl ?_
  refine sq_nil ?_
  refine sx_then ?_
  refine sc_seq ?_
  refine sc_region ?_
  refine sq_y (OpY.s (by first | exact y_load_ca Try.underlying24 rfl Try.sizeOf24 (by exact rfl) (by repeat (first | exact .head _ | refine .tail _ ?_)) h4 rfl | exact y_load_all Try.underlying24 rfl Try.sizeOf24 (by exact rfl) (by repeat (first | exact .head _ | refine .tail _ ?_)) (by exact rfl) | exact y_load_ca Try.underlying24 rfl Try.sizeOf24 (by exact rfl) (by repeat (first | exact .head _ | refine .tail _ ?_)) (by assumption) (by exact rfl))) rfl ?_
  refine sq_y (OpY.s (y_move (by exact rfl))) rfl ?_
  refine sq_y (OpY.s (by first | exact y_load_ca0 Try.underlying3 rfl (by exact rfl) (by repeat (first | exact .head _ | refine .tail _ ?_)) h2 rfl | exact y_load_blk Try.underlying3 rfl (by exact rfl) (by repeat (first | exact .head _ | refine .tail _ ?_)) (by exact rfl) | exact y_load_caj Try.underlying3 rfl (by exact rfl) (by repeat (first | exact .head _ | refine .tail _ ?_)) (by assumption) (by exact rfl) | exact y_load_ca0 Try.underlying3 rfl (by exact rfl) (by repeat (first | exact .head _ | refine .tail _ ?_)) (by assumption) (by exact rfl))) rfl ?_
  refine sq_y (OpY.s (by first | exact y_load_ca0 Try.underlying3 rfl (by exact rfl) (by repeat (first | exact .head _ | refine .tail _ ?_)) h3 rfl | exact y_load_blk Try.underlying3 rfl (by exact rfl) (by repeat (first | exact .head _ | refine .tail _ ?_)) (by exact rfl) | exact y_load_caj Try.underlying3 rfl (by exact rfl) (by repeat (first | exact .head _ | refine .tail _ ?_)) (by assumption) (by exact rfl) | exact y_load_ca0 Try.underlying3 rfl (by exact rfl) (by repeat (first | exact .head _ | refine .tail _ ?_)) (by assumption) (by exact rfl))) rfl ?_
  refine sq_y (y_call (first := []) (caps := []) (by exact rfl) Try.call19 (EvL.cons (by exact rfl) (EvL.cons (by exact rfl) (EvL.cons (by exact rfl) (EvL.cons (by exact rfl) EvL.nil)))) (fun w1 hw1 => points19z w1 r a c f cf (some ⟨g, 0, none⟩) cap (ls ++ [wdN t m n]) _ (by rw [List.length_append]; rfl) t m ht hm hE (hT.at hw1 (by repeat (first | exact .head _ | refine .tail _ ?_))) ⟨rows_blk wdRow_len hw1 (by repeat (first | exact .head _ | refine .tail _ ?_)) htk, by simp; omega⟩ i1 i2 i3)) rfl ?_
  refine sq_y (OpY.s (y_move (by exact rfl))) rfl ?_
  refine sq_y (OpY.s (y_extract (by exact rfl) (by exact rfl))) rfl ?_
  refine sq_y (OpY.s (y_extract (by exact rfl) (by exact rfl))) rfl ?_
  refine sq_alloc Try.zeroValue32 rfl (fun b12 => ?_)
  refine sq_store_all Try.sizeOf32 (by exact rfl) (by exact rfl) rfl (by repeat (first | exact Rem.here | apply Rem.there)) rfl rfl ?_
  refine sq_y (OpY.s (y_assign (by exact rfl))) rfl ?_
  refine sq_nil ?_
  refine sx_then ?_
  refine sc_seq ?_
  refine sc_region ?_
  refine sq_y (OpY.s (by first | exact y_load_ca Try.underlying24 rfl Try.sizeOf24 (by exact rfl) (by repeat (first | exact .head _ | refine .tail _ ?_)) h4 rfl | exact y_load_all Try.underlying24 rfl Try.sizeOf24 (by exact rfl) (by repeat (first | exact .head _ | refine .tail _ ?_)) (by exact rfl) | exact y_load_ca Try.underlying24 rfl Try.sizeOf24 (by exact rfl) (by repeat (first | exact .head _ | refine .tail _ ?_)) (by assumption) (by exact rfl))) rfl ?_
  refine sq_y (OpY.s (y_move (by exact rfl))) rfl ?_
  refine sq_y (y_call (first := []) (caps := []) (by exact rfl) Try.call25 (EvL.cons (by exact rfl) (EvL.cons (by exact rfl) EvL.nil)) (fun w1 hw1 => clash25y w1 r a c f cf (some ⟨g, 0, none⟩) cap (ls ++ [wdN t m n]) _ (by rw [List.length_append]; rfl) (by rw [List.length_append]; exact hnc) 0 4 (clashN_fits hE) (hT.at hw1 (by repeat (first | exact .head _ | refine .tail _ ?_))) ⟨rows_blk wdRow_len hw1 (by repeat (first | exact .head _ | refine .tail _ ?_)) htk, by simp; omega⟩ i1 i2 i3)) rfl ?_
  refine sq_y (OpY.s (y_move (by exact rfl))) rfl ?_
  refine sq_y (OpY.s (y_extract (by exact rfl) (by exact rfl))) rfl ?_
  refine sq_y (OpY.s (y_extract (by exact rfl) (by exact rfl))) rfl ?_
  refine sq_y (OpY.s (y_assign (by exact rfl))) rfl ?_
  refine sq_y (OpY.s (y_assign (by exact rfl))) rfl ?_
  refine sq_nil ?_
  refine sx_then ?_
  refine sc_seq ?_
  refine sc_drawX ([.blk b10 (.cells (spRow (cntP r (ls ++ [wdN t m n]) t (wrk r t m))).toArray 32 (0, 0)), .blk b12 (.cells (spRow (ptsP r (ls ++ [wdN t m n]) t (wrk r t m))).toArray 32 (0, 0)), .reg 0 w]) (by kernel_rfl) ?_
  refine xj_s 0 (by exact rfl) (by kernel_rfl) (by repeat (first | exact Sel.nil | refine Sel.cons (by repeat (first | exact Rem.here | apply Rem.there)) ?_)) (by first | exact y_load_all Try.underlying32 rfl Try.sizeOf32 (by exact rfl) (by repeat (first | exact .head _ | refine .tail _ ?_)) (by exact rfl) | exact y_load_2 Try.underlying32 rfl Try.sizeOf32 (by exact rfl) (by repeat (first | exact .head _ | refine .tail _ ?_)) (by exact rfl) (by exact rfl) | exact y_load_ca Try.underlying32 rfl Try.sizeOf32 (by exact rfl) (by repeat (first | exact .head _ | refine .tail _ ?_)) (by assumption) (by exact rfl)) rfl ?_
  refine xj_s 1 (by exact rfl) (by kernel_rfl) (by repeat (first | exact Sel.nil | refine Sel.cons (by repeat (first | exact Rem.here | apply Rem.there)) ?_)) (by first | exact y_load_all Try.underlying32 rfl Try.sizeOf32 (by exact rfl) (by repeat (first | exact .head _ | refine .tail _ ?_)) (by exact rfl) | exact y_load_2 Try.underlying32 rfl Try.sizeOf32 (by exact rfl) (by repeat (first | exact .head _ | refine .tail _ ?_)) (by exact rfl) (by exact rfl) | exact y_load_ca Try.underlying32 rfl Try.sizeOf32 (by exact rfl) (by repeat (first | exact .head _ | refine .tail _ ?_)) (by assumption) (by exact rfl)) rfl ?_
  refine xj_s 2 (by exact rfl) (by kernel_rfl) (by repeat (first | exact Sel.nil | refine Sel.cons (by repeat (first | exact Rem.here | apply Rem.there)) ?_)) (y_move (by exact rfl)) rfl ?_
  refine xj_s 3 (by exact rfl) (by kernel_rfl) (by repeat (first | exact Sel.nil | refine Sel.cons (by repeat (first | exact Rem.here | apply Rem.there)) ?_)) (y_eql (by exact rfl) (by exact rfl)) rfl ?_
  refine xj_s 4 (by exact rfl) (by kernel_rfl) (by repeat (first | exact Sel.nil | refine Sel.cons (by repeat (first | exact Rem.here | apply Rem.there)) ?_)) (y_move (by exact rfl)) rfl ?_
  refine xj_known (tt := 53) (b' := true) (by exact rfl) (by simp) ?_
  refine xj_gt 5 (by exact rfl) (by exact rfl) (by exact rfl) (by kernel_rfl) (by repeat (first | exact Sel.nil | refine Sel.cons (by repeat (first | exact Rem.here | apply Rem.there)) ?_)) (y_move (by exact rfl)) rfl ?_
  refine xj_gt 6 (by exact rfl) (by exact rfl) (by exact rfl) (by kernel_rfl) (by repeat (first | exact Sel.nil | refine Sel.cons (by repeat (first | exact Rem.here | apply Rem.there)) ?_)) (y_eql (by exact rfl) (by exact rfl)) rfl ?_
  refine xj_s 7 (by exact rfl) (by kernel_rfl) (by repeat (first | exact Sel.nil | refine Sel.cons (by repeat (first | exact Rem.here | apply Rem.there)) ?_)) (y_pick_t (by exact rfl) (by exact rfl)) rfl ?_
  refine xj_s 8 (by exact rfl) (by kernel_rfl) (by repeat (first | exact Sel.nil | refine Sel.cons (by repeat (first | exact Rem.here | apply Rem.there)) ?_)) (y_move (by exact rfl)) rfl ?_
  refine xj_known (tt := 57) (b' := true) (by exact rfl) (by simp) ?_
  refine xj_gt 9 (by exact rfl) (by exact rfl) (by exact rfl) (by kernel_rfl) (by repeat (first | exact Sel.nil | refine Sel.cons (by repeat (first | exact Rem.here | apply Rem.there)) ?_)) (y_move (by exact rfl)) rfl ?_
  refine xj_gt 10 (by exact rfl) (by exact rfl) (by exact rfl) (by kernel_rfl) (by repeat (first | exact Sel.nil | refine Sel.cons (by repeat (first | exact Rem.here | apply Rem.there)) ?_)) (y_eql (by exact rfl) (by exact rfl)) rfl ?_
  refine xj_s 11 (by exact rfl) (by kernel_rfl) (by repeat (first | exact Sel.nil | refine Sel.cons (by repeat (first | exact Rem.here | apply Rem.there)) ?_)) (y_pick_t (by exact rfl) (by exact rfl)) rfl ?_
  refine xj_one 12 (by exact rfl) (by kernel_rfl) ?_
  refine sq_store_all Try.sizeOf32 (by exact rfl) (by exact rfl) rfl (by repeat (first | exact Rem.here | apply Rem.there)) rfl rfl ?_
  refine sq_nil ?_
  refine sx_xp (by repeat (first | exact Sel.nil | refine Sel.cons (by repeat (first | exact Rem.here | apply Rem.there)) ?_)) ?_
  refine xj_one 13 (by exact rfl) (by kernel_rfl) ?_
  refine sq_store_all Try.sizeOf32 (by exact rfl) (by exact rfl) rfl (by repeat (first | exact Rem.here | apply Rem.there)) rfl rfl ?_
  refine sq_nil ?_
  refine sx_xp (by repeat (first | exact Sel.nil | refine Sel.cons (by repeat (first | exact Rem.here | apply Rem.there)) ?_)) ?_
  refine xj_s 14 (by exact rfl) (by kernel_rfl) (by repeat (first | exact Sel.nil | refine Sel.cons (by repeat (first | exact Rem.here | apply Rem.there)) ?_)) (y_assign (by exact rfl)) rfl ?_
  refine xj_done (by kernel_rfl) ?_
  refine sx_then ?_
  refine sc_ret ?_
  refine sx_retcct (.inl rfl) rfl Try.results35 Try.underlying32 rfl Try.sizeOf32 Try.underlying32 rfl Try.sizeOf32 (by exact rfl) (by repeat (first | exact .head _ | refine .tail _ ?_)) rfl (by exact rfl) (by repeat (first | exact .head _ | refine .tail _ ?_)) rfl (by exact rfl) ?_
  intro w' hw'
  exact ⟨by rw [hcn]; rfl, hw'.below (by repeat (first | exact .head _ | refine .tail _ ?_))⟩
theorem with35b (w : World) (r : Rc) (a : Option Addr) (c : Nat) (f : Nat → Option Addr) (cf : Nat → Nat) (al : Option Addr) (cl : Nat) (ls : List Wd) (t m : Nat) (n : Int) (b1 b2 b3 b4 : Addr) (h1 : CA 0 w b1 [.slice al ls.length cl]) (h2 : CA 0 w b2 [.int .i64 t]) (h3 : CA 0 w b3 [.int .i64 m]) (h4 : CA 0 w b4 (rcVal r a c)) (ht : t < r.teams.length) (hm : m ≤ 2000) (hlt : ls.length < 40) (E : Int) (hE : openE r (ls ++ [wdN t m n]) true = E) (h0 : E ≠ 0) (hT : TmsA 0 w a r.teams f cf) (hl : WdsA 0 w al ls) (i1 : InI r.p) (i2 : InI r.lim) (i3 : InI r.rate) : Calls Try.prog 35 #[.int .i64 n, .pointer (some b1), .pointer (some b2), .pointer (some b3), .pointer (some b4)] w fun e w' => e = .returned (.tuple #[.agg (spRow ⟨0, 0⟩).toArray, .agg (spRow ⟨0, 0⟩).toArray, .bool false]) ∧ Below w.heap.size w w' := by
  refine calls_of_SC (args := [.int .i64 n, .pointer (some b1), .pointer (some b2), .pointer (some b3), .pointer (some b4)]) Try.func35 rfl Try.ntmps35 rfl ?_
  simp only [argL, Nat.reduceAdd, Nat.zero_add]
  refine sc_seq ?_
  refine sc_region ?_
  refine sq_alloc Try.zeroValue32 rfl (fun b6 => ?_)
  refine sq_alloc Try.zeroValue32 rfl (fun b7 => ?_)
  refine sq_y (OpY.s (y_assign (by exact rfl))) rfl ?_
  refine sq_nil ?_
  refine sx_then ?_
  refine sc_seq ?_
  refine sc_drawX ([.reg 0 w]) (by kernel_rfl) ?_
  refine xj_s 1 (by exact rfl) (by kernel_rfl) (by repeat (first | exact Sel.nil | refine Sel.cons (by repeat (first | exact Rem.here | apply Rem.there)) ?_)) (by first | exact y_load_ca0 Try.underlying25 rfl (by exact rfl) (by repeat (first | exact .head _ | refine .tail _ ?_)) h1 rfl | exact y_load_blk Try.underlying25 rfl (by exact rfl) (by repeat (first | exact .head _ | refine .tail _ ?_)) (by exact rfl) | exact y_load_caj Try.underlying25 rfl (by exact rfl) (by repeat (first | exact .head _ | refine .tail _ ?_)) (by assumption) (by exact rfl) | exact y_load_ca0 Try.underlying25 rfl (by exact rfl) (by repeat (first | exact .head _ | refine .tail _ ?_)) (by assumption) (by exact rfl)) rfl ?_
  refine xj_s 3 (by exact rfl) (by kernel_rfl) (by repeat (first | exact Sel.nil | refine Sel.cons (by repeat (first | exact Rem.here | apply Rem.there)) ?_)) (by first | exact y_load_ca0 Try.underlying3 rfl (by exact rfl) (by repeat (first | exact .head _ | refine .tail _ ?_)) h2 rfl | exact y_load_blk Try.underlying3 rfl (by exact rfl) (by repeat (first | exact .head _ | refine .tail _ ?_)) (by exact rfl) | exact y_load_caj Try.underlying3 rfl (by exact rfl) (by repeat (first | exact .head _ | refine .tail _ ?_)) (by assumption) (by exact rfl) | exact y_load_ca0 Try.underlying3 rfl (by exact rfl) (by repeat (first | exact .head _ | refine .tail _ ?_)) (by assumption) (by exact rfl)) rfl ?_
  refine xj_s 4 (by exact rfl) (by kernel_rfl) (by repeat (first | exact Sel.nil | refine Sel.cons (by repeat (first | exact Rem.here | apply Rem.there)) ?_)) (by first | exact y_load_ca0 Try.underlying3 rfl (by exact rfl) (by repeat (first | exact .head _ | refine .tail _ ?_)) h3 rfl | exact y_load_blk Try.underlying3 rfl (by exact rfl) (by repeat (first | exact .head _ | refine .tail _ ?_)) (by exact rfl) | exact y_load_caj Try.underlying3 rfl (by exact rfl) (by repeat (first | exact .head _ | refine .tail _ ?_)) (by assumption) (by exact rfl) | exact y_load_ca0 Try.underlying3 rfl (by exact rfl) (by repeat (first | exact .head _ | refine .tail _ ?_)) (by assumption) (by exact rfl)) rfl ?_
  refine xj_s 5 (by exact rfl) (by kernel_rfl) (by repeat (first | exact Sel.nil | refine Sel.cons (by repeat (first | exact Rem.here | apply Rem.there)) ?_)) (y_move (by exact rfl)) rfl ?_
  refine xj_s 6 (by exact rfl) (by kernel_rfl) (by repeat (first | exact Sel.nil | refine Sel.cons (by repeat (first | exact Rem.here | apply Rem.there)) ?_)) (y_move (by exact rfl)) rfl ?_
  refine xj_one 0 (by exact rfl) (by kernel_rfl) ?_
  refine sq_bs Try.underlying25 ei57 EvI.nil (by first | (simp [Value.cells]; done) | (simp [Value.cells]; rfl)) rfl rfl rfl (fun b16 => ?_)
  refine sq_nil ?_
  refine sx_xp (by repeat (first | exact Sel.nil | refine Sel.cons (by repeat (first | exact Rem.here | apply Rem.there)) ?_)) ?_
  refine xj_one 2 (by exact rfl) (by kernel_rfl) ?_
  refine sq_blk_own (e := 57) (n := 0) (sz := 4) (xs := []) (by repeat (first | exact Rem.here | apply Rem.there)) rfl (by decide) ?_
  refine sq_append_rows (news := ls.flatMap wdRow) Try.underlying25 ei57 Try.sizeOf57 rfl (by decide) (by exact rfl) (by repeat (first | exact Rem.here | apply Rem.there)) (by exact rfl) hl.noa (flat_len wdRow_len ls) (fun ad had w1 hw1 => wds_cells (by rw [← had]; exact hl.at hw1 (by repeat (first | exact .head _ | refine .tail _ ?_)))) (wds_one ls) (by omega) rfl (fun v18 ho18 => ?_)
  refine sq_nil ?_
  refine sx_xp (by repeat (first | exact Sel.nil | refine Sel.cons (by repeat (first | exact Rem.here | apply Rem.there)) ?_)) ?_
  rw [List.nil_append, Nat.zero_add ls.length]
  refine xj_one 7 (by exact rfl) (by kernel_rfl) ?_
  refine sq_y (y_call (first := []) (caps := []) (by exact rfl) Try.call30 (EvL.cons (by exact rfl) (EvL.cons (by exact rfl) EvL.nil)) (fun w1 _ => span30 w1 _ _)) rfl ?_
  refine sq_nil ?_
  refine sx_xp (by repeat (first | exact Sel.nil | refine Sel.cons (by repeat (first | exact Rem.here | apply Rem.there)) ?_)) ?_
  refine xj_s 8 (by exact rfl) (by kernel_rfl) (by repeat (first | exact Sel.nil | refine Sel.cons (by repeat (first | exact Rem.here | apply Rem.there)) ?_)) (y_build bt57 (EvP.cons (by exact rfl) (EvP.cons (by exact rfl) (EvP.cons (by exact rfl) EvP.nil))) (by exact rfl)) rfl ?_
  refine xj_one 9 (by exact rfl) (by kernel_rfl) ?_
  refine sq_bs Try.underlying25 ei57 (EvI.cons (by exact rfl) EvI.nil) (by first | (simp [Value.cells]; done) | (simp [Value.cells]; rfl)) rfl rfl rfl (fun b25 => ?_)
  refine sq_nil ?_
  refine sx_xp (by repeat (first | exact Sel.nil | refine Sel.cons (by repeat (first | exact Rem.here | apply Rem.there)) ?_)) ?_
  refine xj_one 10 (by exact rfl) (by kernel_rfl) ?_
  refine sq_append (news := [.int .i64 t, .int .i64 m, .int .i64 n, .int .i64 n]) Try.underlying25 ei57 rfl (by decide) (by exact rfl) (by repeat (first | exact Rem.here | apply Rem.there)) (by exact rfl) rfl (fun _ hw => news_blk hw (by repeat (first | exact .head _ | refine .tail _ ?_))) (by simp [Value.oneCell']) (by omega) rfl (fun v26 ho26 => ?_)
  refine sq_nil ?_
  refine sx_xp (by repeat (first | exact Sel.nil | refine Sel.cons (by repeat (first | exact Rem.here | apply Rem.there)) ?_)) ?_
  refine xj_s 11 (by exact rfl) (by kernel_rfl) (by repeat (first | exact Sel.nil | refine Sel.cons (by repeat (first | exact Rem.here | apply Rem.there)) ?_)) (y_assign (by exact rfl)) rfl ?_
  refine xj_done (by kernel_rfl) ?_
  refine sx_then ?_
  refine sc_seq ?_
  refine sc_own_blk (e := 57) (sz := 4) (by repeat (first | exact Rem.here | apply Rem.there)) (by omega) (fun g cap cur hv hnc hcm hsz htk => ?_)
  subst hv
  have htk : cur.toList.take ((ls.length + 1) * 4) = (ls ++ [wdN t m n]).flatMap wdRow := by rw [htk]; simp [wdRow, wdN]
  refine sc_region ?_
  refine sq_y (OpY.s (by first | exact y_load_ca Try.underlying24 rfl Try.sizeOf24 (by exact rfl) (by repeat (first | exact .head _ | refine .tail _ ?_)) h4 rfl | exact y_load_all Try.underlying24 rfl Try.sizeOf24 (by exact rfl) (by repeat (first | exact .head _ | refine .tail _ ?_)) (by exact rfl) | exact y_load_ca Try.underlying24 rfl Try.sizeOf24 (by exact rfl) (by repeat (first | exact .head _ | refine .tail _ ?_)) (by assumption) (by exact rfl))) rfl ?_
  refine sq_y (OpY.s (y_move (by exact rfl))) rfl ?_
  refine sq_y (OpY.s (by first | exact y_load_ca0 Try.underlying3 rfl (by exact rfl) (by repeat (first | exact .head _ | refine .tail _ ?_)) h2 rfl | exact y_load_blk Try.underlying3 rfl (by exact rfl) (by repeat (first | exact .head _ | refine .tail _ ?_)) (by exact rfl) | exact y_load_caj Try.underlying3 rfl (by exact rfl) (by repeat (first | exact .head _ | refine .tail _ ?_)) (by assumption) (by exact rfl) | exact y_load_ca0 Try.underlying3 rfl (by exact rfl) (by repeat (first | exact .head _ | refine .tail _ ?_)) (by assumption) (by exact rfl))) rfl ?_
  refine sq_y (OpY.s (by first | exact y_load_ca0 Try.underlying3 rfl (by exact rfl) (by repeat (first | exact .head _ | refine .tail _ ?_)) h3 rfl | exact y_load_blk Try.underlying3 rfl (by exact rfl) (by repeat (first | exact .head _ | refine .tail _ ?_)) (by exact rfl) | exact y_load_caj Try.underlying3 rfl (by exact rfl) (by repeat (first | exact .head _ | refine .tail _ ?_)) (by assumption) (by exact rfl) | exact y_load_ca0 Try.underlying3 rfl (by exact rfl) (by repeat (first | exact .head _ | refine .tail _ ?_)) (by assumption) (by exact rfl))) rfl ?_
  refine sq_y (y_call (first := []) (caps := []) (by exact rfl) Try.call17 (EvL.cons (by exact rfl) (EvL.cons (by exact rfl) (EvL.cons (by exact rfl) (EvL.cons (by exact rfl) EvL.nil)))) (fun w1 hw1 => count17e w1 r a c f cf (some ⟨g, 0, none⟩) cap (ls ++ [wdN t m n]) _ (by rw [List.length_append]; rfl) t m E ((findE_of ht hm).trans hE) h0 (hT.at hw1 (by repeat (first | exact .head _ | refine .tail _ ?_))) ⟨rows_blk wdRow_len hw1 (by repeat (first | exact .head _ | refine .tail _ ?_)) htk, by simp; omega⟩ i1 i2 i3)) rfl ?_
  refine sq_y (OpY.s (y_move (by exact rfl))) rfl ?_
  refine sq_y (OpY.s (y_extract (by exact rfl) (by exact rfl))) rfl ?_
  refine sq_y (OpY.s (y_extract (by exact rfl) (by exact rfl))) rfl ?_
  refine sq_alloc Try.zeroValue32 rfl (fun b10 => ?_)
  refine sq_store_all Try.sizeOf32 (by exact rfl) (by exact rfl) rfl (by repeat (first | exact Rem.here | apply Rem.there)) rfl rfl ?_
  refine sq_y (OpY.s (y_assign (by exact rfl))) rfl ?_
  refine sq_nil ?_
  refine sx_then ?_
  refine sc_seq ?_
  refine sc_region ?_
  refine sq_y (OpY.s (by first | exact y_load_ca Try.underlying24 rfl Try.sizeOf24 (by exact rfl) (by repeat (first | exact .head _ | refine .tail _ ?_)) h4 rfl | exact y_load_all Try.underlying24 rfl Try.sizeOf24 (by exact rfl) (by repeat (first | exact .head _ | refine .tail _ ?_)) (by exact rfl) | exact y_load_ca Try.underlying24 rfl Try.sizeOf24 (by exact rfl) (by repeat (first | exact .head _ | refine .tail _ ?_)) (by assumption) (by exact rfl))) rfl ?_
  refine sq_y (OpY.s (y_move (by exact rfl))) rfl ?_
  refine sq_y (OpY.s (by first | exact y_load_ca0 Try.underlying3 rfl (by exact rfl) (by repeat (first | exact .head _ | refine .tail _ ?_)) h2 rfl | exact y_load_blk Try.underlying3 rfl (by exact rfl) (by repeat (first | exact .head _ | refine .tail _ ?_)) (by exact rfl) | exact y_load_caj Try.underlying3 rfl (by exact rfl) (by repeat (first | exact .head _ | refine .tail _ ?_)) (by assumption) (by exact rfl) | exact y_load_ca0 Try.underlying3 rfl (by exact rfl) (by repeat (first | exact .head _ | refine .tail _ ?_)) (by assumption) (by exact rfl))) rfl ?_
  refine sq_y (OpY.s (by first | exact y_load_ca0 Try.underlying3 rfl (by exact rfl) (by repeat (first | exact .head _ | refine .tail _ ?_)) h3 rfl | exact y_load_blk Try.underlying3 rfl (by exact rfl) (by repeat (first | exact .head _ | refine .tail _ ?_)) (by exact rfl) | exact y_load_caj Try.underlying3 rfl (by exact rfl) (by repeat (first | exact .head _ | refine .tail _ ?_)) (by assumption) (by exact rfl) | exact y_load_ca0 Try.underlying3 rfl (by exact rfl) (by repeat (first | exact .head _ | refine .tail _ ?_)) (by assumption) (by exact rfl))) rfl ?_
  refine sq_y (y_call (first := []) (caps := []) (by exact rfl) Try.call19 (EvL.cons (by exact rfl) (EvL.cons (by exact rfl) (EvL.cons (by exact rfl) (EvL.cons (by exact rfl) EvL.nil)))) (fun w1 hw1 => points19e w1 r a c f cf (some ⟨g, 0, none⟩) cap (ls ++ [wdN t m n]) _ (by rw [List.length_append]; rfl) t m E ((findE_of ht hm).trans hE) h0 (hT.at hw1 (by repeat (first | exact .head _ | refine .tail _ ?_))) ⟨rows_blk wdRow_len hw1 (by repeat (first | exact .head _ | refine .tail _ ?_)) htk, by simp; omega⟩ i1 i2 i3)) rfl ?_
  refine sq_y (OpY.s (y_move (by exact rfl))) rfl ?_
  refine sq_y (OpY.s (y_extract (by exact rfl) (by exact rfl))) rfl ?_
  refine sq_y (OpY.s (y_extract (by exact rfl) (by exact rfl))) rfl ?_
  refine sq_alloc Try.zeroValue32 rfl (fun b12 => ?_)
  refine sq_store_all Try.sizeOf32 (by exact rfl) (by exact rfl) rfl (by repeat (first | exact Rem.here | apply Rem.there)) rfl rfl ?_
  refine sq_y (OpY.s (y_assign (by exact rfl))) rfl ?_
  refine sq_nil ?_
  refine sx_then ?_
  refine sc_seq ?_
  refine sc_region ?_
  refine sq_y (OpY.s (by first | exact y_load_ca Try.underlying24 rfl Try.sizeOf24 (by exact rfl) (by repeat (first | exact .head _ | refine .tail _ ?_)) h4 rfl | exact y_load_all Try.underlying24 rfl Try.sizeOf24 (by exact rfl) (by repeat (first | exact .head _ | refine .tail _ ?_)) (by exact rfl) | exact y_load_ca Try.underlying24 rfl Try.sizeOf24 (by exact rfl) (by repeat (first | exact .head _ | refine .tail _ ?_)) (by assumption) (by exact rfl))) rfl ?_
  refine sq_y (OpY.s (y_move (by exact rfl))) rfl ?_
  refine sq_y (y_call (first := []) (caps := []) (by exact rfl) Try.call25 (EvL.cons (by exact rfl) (EvL.cons (by exact rfl) EvL.nil)) (fun w1 hw1 => clash25y w1 r a c f cf (some ⟨g, 0, none⟩) cap (ls ++ [wdN t m n]) _ (by rw [List.length_append]; rfl) (by rw [List.length_append]; exact hnc) _ _ rfl (hT.at hw1 (by repeat (first | exact .head _ | refine .tail _ ?_))) ⟨rows_blk wdRow_len hw1 (by repeat (first | exact .head _ | refine .tail _ ?_)) htk, by simp; omega⟩ i1 i2 i3)) rfl ?_
  refine sq_y (OpY.s (y_move (by exact rfl))) rfl ?_
  refine sq_y (OpY.s (y_extract (by exact rfl) (by exact rfl))) rfl ?_
  refine sq_y (OpY.s (y_extract (by exact rfl) (by exact rfl))) rfl ?_
  refine sq_y (OpY.s (y_assign (by exact rfl))) rfl ?_
  refine sq_y (OpY.s (y_assign (by exact rfl))) rfl ?_
  refine sq_nil ?_
  refine sx_then ?_
  refine sc_seq ?_
  refine sc_drawX ([.blk b10 (.cells (spRow ⟨0, 0⟩).toArray 32 (0, 0)), .blk b12 (.cells (spRow ⟨0, 0⟩).toArray 32 (0, 0)), .reg 0 w]) (by kernel_rfl) ?_
  refine xj_s 0 (by exact rfl) (by kernel_rfl) (by repeat (first | exact Sel.nil | refine Sel.cons (by repeat (first | exact Rem.here | apply Rem.there)) ?_)) (by first | exact y_load_all Try.underlying32 rfl Try.sizeOf32 (by exact rfl) (by repeat (first | exact .head _ | refine .tail _ ?_)) (by exact rfl) | exact y_load_2 Try.underlying32 rfl Try.sizeOf32 (by exact rfl) (by repeat (first | exact .head _ | refine .tail _ ?_)) (by exact rfl) (by exact rfl) | exact y_load_ca Try.underlying32 rfl Try.sizeOf32 (by exact rfl) (by repeat (first | exact .head _ | refine .tail _ ?_)) (by assumption) (by exact rfl)) rfl ?_
  refine xj_s 1 (by exact rfl) (by kernel_rfl) (by repeat (first | exact Sel.nil | refine Sel.cons (by repeat (first | exact Rem.here | apply Rem.there)) ?_)) (by first | exact y_load_all Try.underlying32 rfl Try.sizeOf32 (by exact rfl) (by repeat (first | exact .head _ | refine .tail _ ?_)) (by exact rfl) | exact y_load_2 Try.underlying32 rfl Try.sizeOf32 (by exact rfl) (by repeat (first | exact .head _ | refine .tail _ ?_)) (by exact rfl) (by exact rfl) | exact y_load_ca Try.underlying32 rfl Try.sizeOf32 (by exact rfl) (by repeat (first | exact .head _ | refine .tail _ ?_)) (by assumption) (by exact rfl)) rfl ?_
  refine xj_s 2 (by exact rfl) (by kernel_rfl) (by repeat (first | exact Sel.nil | refine Sel.cons (by repeat (first | exact Rem.here | apply Rem.there)) ?_)) (y_move (by exact rfl)) rfl ?_
  refine xj_s 3 (by exact rfl) (by kernel_rfl) (by repeat (first | exact Sel.nil | refine Sel.cons (by repeat (first | exact Rem.here | apply Rem.there)) ?_)) (y_eql (by exact rfl) (by exact rfl)) rfl ?_
  refine xj_s 4 (by exact rfl) (by kernel_rfl) (by repeat (first | exact Sel.nil | refine Sel.cons (by repeat (first | exact Rem.here | apply Rem.there)) ?_)) (y_move (by exact rfl)) rfl ?_
  refine xj_known (tt := 53) (b' := false) (by exact rfl) (by simp [h0]) ?_
  refine xj_gf 5 (by exact rfl) (by exact rfl) (by exact rfl) rfl (by kernel_rfl) (by repeat (first | exact Sel.nil | refine Sel.cons (by repeat (first | exact Rem.here | apply Rem.there)) ?_)) rfl ?_
  refine xj_gf 6 (by exact rfl) (by exact rfl) (by exact rfl) rfl (by kernel_rfl) (by repeat (first | exact Sel.nil | refine Sel.cons (by repeat (first | exact Rem.here | apply Rem.there)) ?_)) rfl ?_
  refine xj_s 7 (by exact rfl) (by kernel_rfl) (by repeat (first | exact Sel.nil | refine Sel.cons (by repeat (first | exact Rem.here | apply Rem.there)) ?_)) (y_pick_f (by exact rfl) (by exact rfl)) rfl ?_
  refine xj_s 8 (by exact rfl) (by kernel_rfl) (by repeat (first | exact Sel.nil | refine Sel.cons (by repeat (first | exact Rem.here | apply Rem.there)) ?_)) (y_move (by exact rfl)) rfl ?_
  refine xj_gf 9 (by exact rfl) (by exact rfl) (by exact rfl) rfl (by kernel_rfl) (by repeat (first | exact Sel.nil | refine Sel.cons (by repeat (first | exact Rem.here | apply Rem.there)) ?_)) rfl ?_
  refine xj_gf 10 (by exact rfl) (by exact rfl) (by exact rfl) rfl (by kernel_rfl) (by repeat (first | exact Sel.nil | refine Sel.cons (by repeat (first | exact Rem.here | apply Rem.there)) ?_)) rfl ?_
  refine xj_s 11 (by exact rfl) (by kernel_rfl) (by repeat (first | exact Sel.nil | refine Sel.cons (by repeat (first | exact Rem.here | apply Rem.there)) ?_)) (y_pick_f (by exact rfl) (by exact rfl)) rfl ?_
  refine xj_one 12 (by exact rfl) (by kernel_rfl) ?_
  refine sq_store_all Try.sizeOf32 (by exact rfl) (by exact rfl) rfl (by repeat (first | exact Rem.here | apply Rem.there)) rfl rfl ?_
  refine sq_nil ?_
  refine sx_xp (by repeat (first | exact Sel.nil | refine Sel.cons (by repeat (first | exact Rem.here | apply Rem.there)) ?_)) ?_
  refine xj_one 13 (by exact rfl) (by kernel_rfl) ?_
  refine sq_store_all Try.sizeOf32 (by exact rfl) (by exact rfl) rfl (by repeat (first | exact Rem.here | apply Rem.there)) rfl rfl ?_
  refine sq_nil ?_
  refine sx_xp (by repeat (first | exact Sel.nil | refine Sel.cons (by repeat (first | exact Rem.here | apply Rem.there)) ?_)) ?_
  refine xj_s 14 (by exact rfl) (by kernel_rfl) (by repeat (first | exact Sel.nil | refine Sel.cons (by repeat (first | exact Rem.here | apply Rem.there)) ?_)) (y_assign (by exact rfl)) rfl ?_
  refine xj_done (by kernel_rfl) ?_
  refine sx_then ?_
  refine sc_ret ?_
  refine sx_retcct (.inl rfl) rfl Try.results35 Try.underlying32 rfl Try.sizeOf32 Try.underlying32 rfl Try.sizeOf32 (by exact rfl) (by repeat (first | exact .head _ | refine .tail _ ?_)) rfl (by exact rfl) (by repeat (first | exact .head _ | refine .tail _ ?_)) rfl (by exact rfl) ?_
  intro w' hw'
  exact ⟨rfl, hw'.below (by repeat (first | exact .head _ | refine .tail _ ?_))⟩
end Go.Proofs.Ytegdfpilhlcplaa
