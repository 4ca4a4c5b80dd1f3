/- The walks of Slips. -/
import Derived.Test.YtofjipmheckmjaaWalk11
namespace Go.Proofs.Ytofjipmheckmjaa
open Go Go.Eng Go.RowKit Go.Proofs
set_option maxRecDepth 100000
theorem find_at {α : Type} {p : α → Bool} : ∀ {l : List α} {k : Nat} {x : α}, l[k]? = some x → p x = true → (∀ q y, q < k → l[q]? = some y → p y = false) → l.find? p = some x
  | [], _, _, h, _, _ => by simp at h
  | a :: l, 0, x, h, hx, _ => by
    simp at h; subst h
    rw [List.find?_cons, hx]
  | a :: l, k + 1, x, h, hx, hno => by
    rw [List.find?_cons, hno 0 a (by omega) rfl]
    exact find_at (by simpa using h) hx fun q y hq hy => hno (q + 1) y (by omega) (by simpa using hy)
theorem find_no {α : Type} {p : α → Bool} {l : List α} (hno : ∀ q y, q < l.length → l[q]? = some y → p y = false) : l.find? p = none := by
  rw [List.find?_eq_none]
  intro x hx
  obtain ⟨i, hi, rfl⟩ := List.getElem_of_mem hx
  rw [hno i _ hi (List.getElem?_eq_getElem hi)]; decide
def okAll (b : Bx) (ts : List Te) (h : List Int) : Bool := (List.range ts.length).all fun t => passV b (ts.getD t te0) h
def slipP (b : Bx) (ts : List Te) : Option (List Int) := (incL b).find? (okAll b ts)
def slipR (b : Bx) (ts : List Te) : List Int × Int := if chk b [] ts ≠ 0 then ([], chk b [] ts) else match slipP b ts with
  | some h => (h, 0)
  | none => ([], 4)
theorem RowsA.keep {α : Type} {row : α → List Value} {sz : Nat} {w0 w wr : World} {rs : List Res} {lo : Nat} {a : Option Addr} {l : List α} (h : RowsA row sz lo wr a l) (hw : Hp w0 rs w) (hm : Res.reg lo wr ∈ rs) : RowsA row sz lo w a l := ⟨fun i x hi => ⟨(h.el i x hi).1, CA.keep (h.el i x hi).2 hw hm⟩, h.len⟩
theorem some_of_rows {lo : Nat} {w : World} {a : Option Addr} {l : List Int} (h : RowsA iRow 1 lo w a l) (h0 : 0 < l.length) : a.isNone = false := by
  have := (h.get 0 h0).1
  cases a <;> simp_all
theorem map_bd {b : Bx} {ts : List Te} (hok : bxB b = true) (h8 : ts.length ≤ 8) : ∀ q, q ∈ mapL b ts (incL b) → q.1.1 ≤ 1000000 ∧ q.1.2 ≤ 1000000 := fun q hq => by
  have h1 := mapL_mem.1 hq
  have h2 : (incL b).length ≤ (allL b).length := List.length_filter_le _ _
  have h3 := allL_le hok
  omega
theorem ownsRow_keep {w0 w wr : World} {rs : List Res} {lo : Nat} {e : TypeId} {sz n : Nat} {v : Value} {xs : List Value} (h : wr.ownsRow lo e sz v n xs) (hw : Hp w0 rs w) (hm : Res.reg lo wr ∈ rs) : w.ownsRow lo e sz v n xs := by
  refine ⟨h.1, ?_⟩
  rcases h.2 with h2 | ⟨g, cap, cur, hv, hg, hh, h3⟩
  · exact .inl h2
  · exact .inr ⟨g, cap, cur, hv, hg, ((hw.ok _ hm).2 g hg (Array.getElem?_eq_some_iff.1 hh).1).trans hh, h3⟩
theorem ownsRow_nil {w : World} {lo : Nat} {e : TypeId} {sz : Nat} : w.ownsRow lo e sz (.slice none 0 0) 0 [] := ⟨by simp, .inl ⟨rfl, rfl⟩⟩

theorem slips21o (w : World) (b : Bx) (a : Option Addr) (c : Nat) (hB : RowsA kdRow 3 0 w a b.kinds) (at_ : Option Addr) (ct : Nat) (ts : List Te) (ht : RowsA teRow 7 0 w at_ ts) : Calls Try.prog 21 #[.agg (bxRow b a c).toArray, .slice at_ ts.length ct] w fun e w' => ∃ z : Option Addr × Nat, e = .returned (.tuple #[.slice z.1 (slipR b ts).1.length z.2, .int .i64 (slipR b ts).2]) ∧ Below w.heap.size w w' ∧ RowsA iRow 1 w.heap.size w' z.1 (slipR b ts).1 ∧ w'.ownsRow w.heap.size 3 1 (.slice z.1 (slipR b ts).1.length z.2) (slipR b ts).1.length ((slipR b ts).1.flatMap iRow) := by
  have htlen := ht.len
  refine calls_of_SC (args := [.agg (bxRow b a c).toArray, .slice at_ ts.length ct]) Try.func21 rfl Try.ntmps21 rfl ?_
  simp only [argL, Nat.zero_add]
  refine sc_seq ?_
  refine sc_region ?_
  refine sq_box RF rfl (fun b2 => ?_)
  refine qs (y_assign RF) ?_
  refine qs (y_assign RF) ?_
  refine sq_nil ?_
  refine sx_then ?_
  refine sc_scope ?_
  refine sc_seq ?_
  refine sc_seq ?_
  refine sc_region ?_
  refine qs LD26 ?_
  refine qs (y_move RF) ?_
  refine qy (yc Try.call54 E3 (fun w1 hw1 => check54 w1 b a c (hB.at hw1 MM) none 0 [] (RowsA.nil 0 w1) at_ ct ts (ht.at hw1 MM))) ?_
  refine qs (y_assign RF) ?_
  refine sq_nil ?_
  refine sx_then ?_
  refine sc_seq ?_
  refine sc_region ?_
  refine qs (y_move RF) ?_
  refine qs (y_neq RF RF) ?_
  refine sq_nil ?_
  refine sx_then ?_
  refine scp (fun hc0 => ?_) (fun hc0 => ?_)
  ·
    refine sc_seq ?_
    refine sc_region ?_
    refine qs (y_move RF) ?_
    refine qs (y_assign RF) ?_
    refine qs (y_assign RF) ?_
    refine sq_nil ?_
    refine sx_then ?_
    refine sc_ret ?_
    refine sx_then_ret ?_
    refine sx_scope_ret ?_
    refine sx_ret2 (.inl rfl) rfl Try.results21 RF RF ?_
    intro w' hw'
    have hR : slipR b ts = ([], chk b [] ts) := by unfold slipR; rw [if_pos (by simpa using hc0)]
    rw [hR]
    exact ⟨(none, 0), rfl, hw'.below MM, RowsA.nil _ _, ownsRow_nil⟩
  ·
    refine sc_skip ?_
    refine sx_then ?_
    refine sc_seq ?_
    have hz0 : chk b [] ts = 0 := by simpa using hc0
    have hz := chk_zero hz0
    have hall := allL_le hz.1
    refine sc_region ?_
    refine qs LD26 ?_
    refine qs (y_move RF) ?_
    refine sq_call_new (first := []) (caps := []) (Z := (Option Addr × (Nat → Option Addr) × Nat × (Nat → Nat)) × Nat) (fun z => .tuple #[.slice z.1.1 (incL b).length z.1.2.2.1, .map (some z.2)]) (fun lo w' z => (w.heap.size ≤ lo ∧ IncN lo w' b ts z) ∧ LLO lo w' z.1.2.1 z.1.2.2.2 (incL b)) RF Try.call55 (EvL.cons RF (EvL.cons RF EvL.nil)) (fun w1 hw1 => (incomplete55o w1 b a c (hB.at hw1 MM) hz.1 at_ ct ts (ht.at hw1 MM) hz.2.2.2.2 hz.2.2.1).mono (fun e w' ⟨z, he, hb, hL, hO⟩ => ⟨z, he, hb, ⟨hw1.size, hL⟩, hO⟩)) rfl (fun lo wr zi hzi0 => ?_)
    refine qs (y_move RF) ?_
    refine qs (y_extract RF RF) ?_
    refine qs (y_extract RF RF) ?_
    refine qs (y_assign RF) ?_
    refine qs (y_assign RF) ?_
    refine sq_nil ?_
    refine sx_then ?_
    refine sc_seq ?_
    refine sc_label ?_
    refine sx_then ?_
    refine sc_seq ?_
    refine sc_seq ?_
    obtain ⟨hzi, hlo⟩ := hzi0
    have hL := hzi.2.1
    have hllen := hL.len
    have hilen : (incL b).length ≤ 4096 := Nat.le_trans (List.length_filter_le _ _) hall
    refine sc_region ?_
    refine qs (y_move RF) ?_
    refine qs (y_len Try.underlying84 RF) ?_
    refine qs (y_move RF) ?_
    refine sq_nil ?_
    refine sx_then ?_
    refine sc_block ?_
    refine sc_loop (σ := Nat)
      (fun s => [(1, .slice at_ ts.length ct), (8, .map (some zi.2)), (24, .slice zi.1.1 (incL b).length zi.1.2.2.1), (25, .int .i64 (incL b).length), (26, .int .i64 s)])
      (fun s => [.reg lo wr, .reg 0 w])
      (fun s => s ≤ (incL b).length ∧ ∀ q y, q < s → (incL b)[q]? = some y → okAll b ts y = false)
      (fun s => (incL b).length - s)
      (0) ?_ SU SR ?_
    · exact ⟨Nat.zero_le _, fun q y hq => absurd hq (Nat.not_lt_zero q)⟩
    rintro p ⟨hp, hno⟩
    refine sc_seq ?_
    refine sc_region ?_
    refine qs (y_lss RF RF) ?_
    refine sq_nil ?_
    refine sx_then ?_
    refine sc_seq ?_
    refine scp (fun hc1 => ?_) (fun hc1 => ?_)
    ·
      have hp' : p < (incL b).length := by omega
      obtain ⟨h, hph⟩ : ∃ h, (incL b)[p]? = some h := ⟨_, List.getElem?_eq_getElem hp'⟩
      have hgd : (incL b).getD p [] = h := getD_of hph
      have hsm := (hL.el p h hph).1
      have hca := (hL.el p h hph).2.1
      refine sc_skip ?_
      refine sx_then ?_
      refine sc_seq ?_
      refine sc_block ?_
      refine sc_seq ?_
      refine sc_region ?_
      refine qs (y_move RF) ?_
      refine qs IA84 ?_
      refine qs (by first | exact y_load_ca0 Try.underlying79 rfl RF MM hca rfl | exact LD79) ?_
      refine qs (y_assign RF) ?_
      refine qs (y_assign RF) ?_
      refine sq_nil ?_
      refine sx_then ?_
      refine sc_seq ?_
      refine sc_seq ?_
      refine sc_region ?_
      refine qs (y_move RF) ?_
      refine qs (y_len Try.underlying43 RF) ?_
      refine qs (y_move RF) ?_
      refine sq_nil ?_
      refine sx_then ?_
      refine sc_block ?_
      refine sc_loop (σ := Nat)
        (fun s => [(1, .slice at_ ts.length ct), (8, .map (some zi.2)), (24, .slice zi.1.1 (incL b).length zi.1.2.2.1), (25, .int .i64 (incL b).length), (26, .int .i64 p), (9, .int .i64 p), (10, .slice (zi.1.2.1 p) h.length (zi.1.2.2.2 p)), (31, .slice at_ ts.length ct), (32, .int .i64 ts.length), (33, .int .i64 s)])
        (fun s => [.reg lo wr, .reg 0 w])
        (fun s => s ≤ ts.length ∧ ∀ j, j < s → passV b (ts.getD j te0) h = true)
        (fun s => ts.length - s)
        (0) ?_ SU SR ?_
      · exact ⟨Nat.zero_le _, fun j hj => absurd hj (Nat.not_lt_zero j)⟩
      rintro t ⟨ht0, hyes⟩
      refine sc_seq ?_
      refine sc_region ?_
      refine qs (y_lss RF RF) ?_
      refine sq_nil ?_
      refine sx_then ?_
      refine sc_seq ?_
      refine scp (fun hc2 => ?_) (fun hc2 => ?_)
      ·
        have ht' : t < ts.length := by omega
        have hin : ((t, p), Value.bool (passV b (ts.getD t te0) h)) ∈ mapL b ts (incL b) := mapL_mem.2 ⟨hp', ht', by dsimp only; rw [hgd]⟩
        have hone : ∀ v', ((t, p), v') ∈ mapL b ts (incL b) → v' = .bool (passV b (ts.getD t te0) h) := fun v' hv' => by have := (mapL_mem.1 hv').2.2; dsimp only at this; rw [hgd] at this; exact this
        refine sc_skip ?_
        refine sx_then ?_
        refine sc_seq ?_
        refine sc_block ?_
        refine sc_seq ?_
        refine sc_region ?_
        refine qs (y_move RF) ?_
        refine qs (y_assign RF) ?_
        refine sq_nil ?_
        refine sx_then ?_
        refine sc_seq ?_
        refine sc_region ?_
        refine qs (y_move RF) ?_
        refine qs (y_move RF) ?_
        refine qs (y_move RF) ?_
        refine qs (y_build_arr (cells := #[.int .i64 t, .int .i64 p]) Try.underlying94 Try.zeroValue94 Try.sizeOf3 (EvP.cons RF (EvP.cons RF EvP.nil)) (by kernel_rfl)) ?_
        refine qs (y_lookup2 (i := t) (j := p) (v := .bool (passV b (ts.getD t te0) h)) key94 (B := 1000000) key94_of (map_bd hz.1 hz.2.2.1) (by omega) (by omega) Try.underlying91 RF (fun _ hw => heap_reg hw MM hzi.2.2.1 hzi.2.2.2) RF hin hone) ?_
        refine qs (y_not RF) ?_
        refine sq_nil ?_
        refine sx_then ?_
        refine scp (fun hc3 => ?_) (fun hc3 => ?_)
        ·
          refine sc_exit ?_
          refine sx_blk_miss rfl ?_
          refine sx_then_exit ?_
          refine sx_round_exit ?_
          refine sx_blk_miss rfl ?_
          refine sx_then_exit ?_
          refine sx_blk_hit ?_
          refine sx_then ?_
          refine sc_region ?_
          refine qs (y_add RF RF (by omega)) ?_
          refine qs (y_move RF) ?_
          refine sq_nil ?_
          refine sx_round (p + 1) ?_ ?_ SU SR
          · refine ⟨by omega, fun q y hq hy => ?_⟩
            rcases Nat.lt_succ_iff_lt_or_eq.1 hq with h9 | rfl
            · exact hno q y h9 hy
            · rw [hph] at hy; injection hy with hy; subst hy
              exact List.all_eq_false.2 ⟨t, List.mem_range.2 ht', by simpa [passV, meetsV] using hc3⟩
          · omega
        ·
          refine sc_skip ?_
          refine sx_blk ?_
          refine sx_then ?_
          refine sc_region ?_
          refine qs (y_add RF RF (by omega)) ?_
          refine qs (y_move RF) ?_
          refine sq_nil ?_
          refine sx_round (t + 1) ?_ ?_ SU SR
          · refine ⟨by omega, fun j hj => ?_⟩
            rcases Nat.lt_succ_iff_lt_or_eq.1 hj with h9 | rfl
            · exact hyes j h9
            · simpa [passV, meetsV] using hc3
          · omega
      ·
        have htn : t = ts.length := by omega
        subst htn
        have hok : okAll b ts h = true := List.all_eq_true.2 fun j hj => hyes j (List.mem_range.1 hj)
        refine sc_exit ?_
        refine sx_then_exit ?_
        refine sx_round_exit ?_
        refine sx_blk_hit ?_
        refine sx_then ?_
        refine sc_seq ?_
        refine sc_region ?_
        refine qs (y_move RF) ?_
        refine qs (y_assign RF) ?_
        refine qs (y_assign RF) ?_
        refine sq_nil ?_
        refine sx_then ?_
        refine sc_ret ?_
        refine sx_blk_ret ?_
        refine sx_then_ret ?_
        refine sx_round_ret ?_
        refine sx_blk_ret ?_
        refine sx_then_ret ?_
        refine sx_scope_ret ?_
        refine sx_ret2 (.inl rfl) rfl Try.results21 RF RF ?_
        intro w' hw'
        have hR : slipR b ts = (h, 0) := by unfold slipR; rw [if_neg (by simpa using hz0), show slipP b ts = some h from find_at hph hok hno]
        rw [hR]
        exact ⟨(zi.1.2.1 p, zi.1.2.2.2 p), rfl, hw'.below MM, RowsA.low (RowsA.keep (hL.el p h hph).2.2 hw' MM) hzi.1, ownsRow_low (ownsRow_keep (hlo p h hph) hw' MM) hzi.1⟩
    ·
      refine sc_exit ?_
      refine sx_then_exit ?_
      refine sx_round_exit ?_
      refine sx_blk_hit ?_
      refine sx_then ?_
      refine sc_seq ?_
      refine sc_region ?_
      refine qs (y_assign RF) ?_
      refine qs (y_assign RF) ?_
      refine sq_nil ?_
      refine sx_then ?_
      refine sc_ret ?_
      refine sx_scope_ret ?_
      refine sx_ret2 (.inl rfl) rfl Try.results21 RF RF ?_
      intro w' hw'
      have hpn : p = (incL b).length := by omega
      subst hpn
      have hR : slipR b ts = ([], 4) := by unfold slipR; rw [if_neg (by simpa using hz0), show slipP b ts = none from find_no hno]
      rw [hR]
      exact ⟨(none, 0), rfl, hw'.below MM, RowsA.nil _ _, ownsRow_nil⟩
theorem slips21 (w : World) (b : Bx) (a : Option Addr) (c : Nat) (hB : RowsA kdRow 3 0 w a b.kinds) (at_ : Option Addr) (ct : Nat) (ts : List Te) (ht : RowsA teRow 7 0 w at_ ts) : Calls Try.prog 21 #[.agg (bxRow b a c).toArray, .slice at_ ts.length ct] w fun e w' => ∃ z : Option Addr × Nat, e = .returned (.tuple #[.slice z.1 (slipR b ts).1.length z.2, .int .i64 (slipR b ts).2]) ∧ Below w.heap.size w w' ∧ RowsA iRow 1 w.heap.size w' z.1 (slipR b ts).1 :=
  (slips21o w b a c hB at_ ct ts ht).mono fun _ _ ⟨z, he, hb, hr, _⟩ => ⟨z, he, hb, hr⟩
def okSet (b : Bx) (ts : List Te) (set : Int) (h : List Int) : Bool := (List.range ts.length).all fun t => !inS set t || passV b (ts.getD t te0) h
def slipF (b : Bx) (ts : List Te) (set : Int) : Option (List Int) := (allL b).find? fun h => !wholeV h && okSet b ts set h
theorem inS_full {n t : Nat} (h : t < n) : inS (((pw2 n : Nat) : Int) - 1) t = true := by
  have h1 : (((pw2 n : Nat) : Int) - 1) = ((2 ^ n - 1 : Nat) : Int) := by
    have := pw2_pos n
    unfold pw2 at this ⊢
    omega
  rw [h1, inS_bit, Nat.testBit_two_pow_sub_one]
  exact decide_eq_true h
theorem okSet_full (b : Bx) (ts : List Te) (h : List Int) : okSet b ts (((pw2 ts.length : Nat) : Int) - 1) h = okAll b ts h := by
  unfold okSet okAll
  rw [Bool.eq_iff_iff, List.all_eq_true, List.all_eq_true]
  refine ⟨fun hh t ht => ?_, fun hh t ht => ?_⟩
  · have := hh t ht
    rw [inS_full (List.mem_range.1 ht)] at this
    simpa using this
  · rw [hh t ht, Bool.or_true]
theorem slipF_full (b : Bx) (ts : List Te) : slipF b ts (((pw2 ts.length : Nat) : Int) - 1) = slipP b ts := by
  unfold slipF slipP incL
  rw [List.find?_filter]
  congr 1
  funext h
  rw [okSet_full]
  cases wholeV h <;> simp
theorem slips56 (w : World) (b : Bx) (a : Option Addr) (c : Nat) (hB : RowsA kdRow 3 0 w a b.kinds) (hok : bxB b = true) (at_ : Option Addr) (ct : Nat) (ts : List Te) (ht : RowsA teRow 7 0 w at_ ts) (hte : ∀ t, t ∈ ts → teB b t = true) (h8 : ts.length ≤ 8) (set : Int) (hset : 0 ≤ set ∧ set ≤ 9223372036854775807) : Calls Try.prog 56 #[.agg (bxRow b a c).toArray, .slice at_ ts.length ct, .int .i64 set] w fun e w' => ∃ z : Option Addr × Nat, e = .returned (.slice z.1 ((slipF b ts set).getD []).length z.2) ∧ Below w.heap.size w w' ∧ RowsA iRow 1 w.heap.size w' z.1 ((slipF b ts set).getD []) ∧ z.1.isNone = (slipF b ts set).isNone := by
  have htlen := ht.len
  have hall := allL_le hok
  have hin := allL_ok hok
  refine calls_of_SC (args := [.agg (bxRow b a c).toArray, .slice at_ ts.length ct, .int .i64 set]) Try.func56 rfl Try.ntmps56 rfl ?_
  simp only [argL, Nat.reduceAdd, Nat.zero_add]
  refine sc_seq ?_
  refine sc_region ?_
  refine sq_box RF rfl (fun b3 => ?_)
  refine qs (y_assign RF) ?_
  refine sq_nil ?_
  refine sx_then ?_
  refine sc_seq ?_
  refine sc_region ?_
  refine qs LD26 ?_
  refine sq_call_new (first := []) (caps := []) (Z := Option Addr × (Nat → Option Addr) × Nat × (Nat → Nat)) (fun z => .slice z.1 (allL b).length z.2.2.1) (fun lo w' z => w.heap.size ≤ lo ∧ LLA lo w' z.1 z.2.1 z.2.2.2 (allL b)) RF Try.call65 (EvL.cons RF EvL.nil) (fun w1 hw1 => (all65 w1 b a c (hB.at hw1 MM) hok).mono (fun e w' ⟨a2, f, c2, cf, he, hb, hL⟩ => ⟨(a2, f, c2, cf), he, hb, hw1.size, hL⟩)) rfl (fun lo wr za hza => ?_)
  refine qs (y_assign RF) ?_
  refine sq_nil ?_
  refine sx_then ?_
  refine sc_seq ?_
  refine sc_seq ?_
  refine sc_region ?_
  refine qs (y_assign RF) ?_
  refine sq_nil ?_
  refine sx_then ?_
  refine sc_block ?_
  refine sc_loop (σ := Nat)
    (fun s => [(1, .slice at_ ts.length ct), (2, .int .i64 set), (3, .pointer (some ⟨b3, 0, none⟩)), (7, .slice za.1 (allL b).length za.2.2.1), (8, .int .i64 s)])
    (fun s => [.reg lo wr, .blk b3 (.cells (bxRow b a c).toArray 26 (0, 0)), .reg 0 w])
    (fun s => s ≤ (allL b).length ∧ ∀ q y, q < s → (allL b)[q]? = some y → (!wholeV y && okSet b ts set y) = false)
    (fun s => (allL b).length - s)
    (0) ?_ SU SR ?_
  · exact ⟨Nat.zero_le _, fun q y hq => absurd hq (Nat.not_lt_zero q)⟩
  rintro i ⟨hi, hno⟩
  refine sc_seq ?_
  refine sc_seq ?_
  refine sc_region ?_
  refine qs (y_move RF) ?_
  refine qs (y_move RF) ?_
  refine qs (y_len Try.underlying68 RF) ?_
  refine qs (y_lss RF RF) ?_
  refine sq_nil ?_
  refine sx_then ?_
  refine scp (fun hc0 => ?_) (fun hc0 => ?_)
  ·
    have hi' : i < (allL b).length := by omega
    obtain ⟨h, hih⟩ : ∃ h, (allL b)[i]? = some h := ⟨_, List.getElem?_eq_getElem hi'⟩
    have hsmi := (hza.2.el i h hih).1
    have hcai := (hza.2.el i h hih).2.1
    refine sc_skip ?_
    refine sx_then ?_
    refine sc_seq ?_
    refine sc_block ?_
    refine sc_seq ?_
    refine sc_region ?_
    refine qs (y_move RF) ?_
    refine qs (y_move RF) ?_
    refine qs IA68 ?_
    refine qs (by first | exact y_load_ca0 Try.underlying27 rfl RF MM hcai rfl | exact LD27) ?_
    refine qy (yc Try.call36 E1 (fun w1 hw1 => whole36 w1 _ _ h ((hza.2.el i h hih).2.2.at hw1 MM))) ?_
    refine qs (y_not RF) ?_
    refine qs (y_assign RF) ?_
    refine sq_nil ?_
    refine sx_then ?_
    refine sc_seq ?_
    refine sc_seq ?_
    refine sc_region ?_
    refine qs (y_assign RF) ?_
    refine sq_nil ?_
    refine sx_then ?_
    refine sc_block ?_
    refine sc_loop (σ := Nat × Bool)
      (fun s => [(1, .slice at_ ts.length ct), (2, .int .i64 set), (3, .pointer (some ⟨b3, 0, none⟩)), (7, .slice za.1 (allL b).length za.2.2.1), (8, .int .i64 i), (9, .bool s.2), (10, .int .i64 s.1)])
      (fun s => [.reg lo wr, .blk b3 (.cells (bxRow b a c).toArray 26 (0, 0)), .reg 0 w])
      (fun s => s.1 ≤ ts.length ∧ s.2 = (!wholeV h && (List.range s.1).all fun t => !inS set t || passV b (ts.getD t te0) h))
      (fun s => ts.length - s.1)
      ((0, !wholeV h)) ?_ SU SR ?_
    · exact ⟨Nat.zero_le _, by simp⟩
    rintro ⟨j, g⟩ ⟨hj, hg⟩
    dsimp only at hj hg ⊢
    refine sc_seq ?_
    refine sc_seq ?_
    refine sc_region ?_
    refine qs (y_move RF) ?_
    refine qs (y_move RF) ?_
    refine qs (y_len Try.underlying43 RF) ?_
    refine qs (y_lss RF RF) ?_
    refine sq_nil ?_
    refine sx_then ?_
    refine scp (fun hc1 => ?_) (fun hc1 => ?_)
    ·
      have hj' : j < ts.length := by omega
      have hsm := (ht.get te0 hj').1
      have hca := (ht.get te0 hj').2
      refine sc_skip ?_
      refine sx_then ?_
      refine sc_seq ?_
      refine sc_block ?_
      refine sc_drawR (by kernel_rfl) ?_
      refine xj_s 0 RF (by kernel_rfl) SR (y_move RF) rfl ?_
      refine xj_s 1 RF (by kernel_rfl) SR (y_move RF) rfl ?_
      first | refine xj_splitd (tt := 32) RF (fun hg9_1 => ?_) (fun hg9_1 => ?_) | refine xj_splitn (tt := 32) RF (fun hg9_1 => ?_) (fun hg9_1 => ?_) | refine xj_split (tt := 32) RF (fun hg9_1 => ?_) (fun hg9_1 => ?_)
      ·
        refine xj_gt 2 RF RF RF (by kernel_rfl) SR (y_move RF) rfl ?_
        refine xj_gt 3 RF RF RF (by kernel_rfl) SR (y_move RF) rfl ?_
        refine xj_one 4 RF (by kernel_rfl) ?_
        refine sq_gt RF RF (y_call (first := []) (caps := []) RF Try.call59 (EvL.cons RF (EvL.cons RF EvL.nil)) (fun w1 _ => in59 w1 set j (by omega) hset)) rfl ?_
        refine sq_nil ?_
        refine sx_xp SR ?_
        refine xj_gt 5 RF RF RF (by kernel_rfl) SR (y_not RF) rfl ?_
        refine xj_gt 6 RF RF RF (by kernel_rfl) SR (y_move RF) rfl ?_
        first | refine xj_splitd (tt := 37) RF (fun hg9_6 => ?_) (fun hg9_6 => ?_) | refine xj_splitn (tt := 37) RF (fun hg9_6 => ?_) (fun hg9_6 => ?_) | refine xj_split (tt := 37) RF (fun hg9_6 => ?_) (fun hg9_6 => ?_)
        ·
          refine xj_gf 7 RF RF RF rfl (by kernel_rfl) SR rfl ?_
          refine xj_gf 8 RF RF RF rfl (by kernel_rfl) SR rfl ?_
          refine xj_gf 9 RF RF RF rfl (by kernel_rfl) SR rfl ?_
          refine xj_gf 10 RF RF RF rfl (by kernel_rfl) SR rfl ?_
          refine xj_gf 11 RF RF RF rfl (by kernel_rfl) SR rfl ?_
          refine xj_gf 12 RF RF RF rfl (by kernel_rfl) SR rfl ?_
          refine xj_gf 13 RF RF RF rfl (by kernel_rfl) SR rfl ?_
          refine xj_gf 14 RF RF RF rfl (by kernel_rfl) SR rfl ?_
          refine xj_gf 15 RF RF RF rfl (by kernel_rfl) SR rfl ?_
          refine xj_gf 16 RF RF RF rfl (by kernel_rfl) SR rfl ?_
          refine xj_gt 17 RF RF RF (by kernel_rfl) SR (y_pick_t RF RF) rfl ?_
          refine xj_s 18 RF (by kernel_rfl) SR (y_pick_t RF RF) rfl ?_
          refine xj_s 19 RF (by kernel_rfl) SR (y_assign RF) rfl ?_
          refine xj_done (by kernel_rfl) ?_
          refine sx_blk ?_
          refine sx_then ?_
          refine sc_region ?_
          refine qs (y_move RF) ?_
          refine qs (y_add RF RF (by omega)) ?_
          refine qs (y_assign RF) ?_
          refine sq_nil ?_
          refine sx_round ((j + 1, true)) ?_ ?_ SU SR
          · refine ⟨by omega, ?_⟩
            dsimp only
            rw [List.range_succ, List.all_append, ← Bool.and_assoc, ← hg]; simp [hg9_1, inS, hg9_6]
          · omega
        ·
          refine xj_gt 7 RF RF RF (by kernel_rfl) SR LD26 rfl ?_
          refine xj_gt 8 RF RF RF (by kernel_rfl) SR (y_move RF) rfl ?_
          refine xj_gt 9 RF RF RF (by kernel_rfl) SR (y_move RF) rfl ?_
          refine xj_gt 10 RF RF RF (by kernel_rfl) SR IA68 rfl ?_
          refine xj_gt 11 RF RF RF (by kernel_rfl) SR (by first | exact y_load_ca0 Try.underlying27 rfl RF MM hcai rfl | exact LD27) rfl ?_
          refine xj_gt 12 RF RF RF (by kernel_rfl) SR (y_move RF) rfl ?_
          refine xj_gt 13 RF RF RF (by kernel_rfl) SR (y_move RF) rfl ?_
          refine xj_gt 14 RF RF RF (by kernel_rfl) SR IA43 rfl ?_
          refine xj_gt 15 RF RF RF (by kernel_rfl) SR (by first | exact y_load_ca Try.underlying29 rfl Try.sizeOf29 RF MM hca rfl | exact LD29) rfl ?_
          refine xj_one 16 RF (by kernel_rfl) ?_
          refine sq_gt RF RF (y_call (first := []) (caps := []) RF Try.call86 (EvL.cons RF (EvL.cons RF (EvL.cons RF EvL.nil))) (fun w1 hw1 => passes86 w1 b a c (hB.at hw1 MM) hok _ _ h ((hza.2.el i h hih).2.2.at hw1 MM) (hin h (List.mem_of_getElem? hih)) (ts.getD j te0) (hte _ (List.mem_of_getElem? (get_of_lt te0 hj'))))) rfl ?_
          refine sq_nil ?_
          refine sx_xp SR ?_
          refine xj_gt 17 RF RF RF (by kernel_rfl) SR (y_pick_f RF RF) rfl ?_
          refine xj_s 18 RF (by kernel_rfl) SR (y_pick_t RF RF) rfl ?_
          refine xj_s 19 RF (by kernel_rfl) SR (y_assign RF) rfl ?_
          refine xj_done (by kernel_rfl) ?_
          refine sx_blk ?_
          refine sx_then ?_
          refine sc_region ?_
          refine qs (y_move RF) ?_
          refine qs (y_add RF RF (by omega)) ?_
          refine qs (y_assign RF) ?_
          refine sq_nil ?_
          refine sx_round ((j + 1, meetsV (readV b (ts.getD j te0) h) (ts.getD j te0).pass)) ?_ ?_ SU SR
          · refine ⟨by omega, ?_⟩
            dsimp only
            rw [List.range_succ, List.all_append, ← Bool.and_assoc, ← hg]; simp [hg9_1, inS, hg9_6, passV]
          · omega
      ·
        refine xj_gf 2 RF RF RF rfl (by kernel_rfl) SR rfl ?_
        refine xj_gf 3 RF RF RF rfl (by kernel_rfl) SR rfl ?_
        refine xj_gf 4 RF RF RF rfl (by kernel_rfl) SR rfl ?_
        refine xj_gf 5 RF RF RF rfl (by kernel_rfl) SR rfl ?_
        refine xj_gf 6 RF RF RF rfl (by kernel_rfl) SR rfl ?_
        refine xj_gu 7 RF RF RF (by kernel_rfl) SR rfl ?_
        refine xj_gu 8 RF RF RF (by kernel_rfl) SR rfl ?_
        refine xj_gu 9 RF RF RF (by kernel_rfl) SR rfl ?_
        refine xj_gu 10 RF RF RF (by kernel_rfl) SR rfl ?_
        refine xj_gu 11 RF RF RF (by kernel_rfl) SR rfl ?_
        refine xj_gu 12 RF RF RF (by kernel_rfl) SR rfl ?_
        refine xj_gu 13 RF RF RF (by kernel_rfl) SR rfl ?_
        refine xj_gu 14 RF RF RF (by kernel_rfl) SR rfl ?_
        refine xj_gu 15 RF RF RF (by kernel_rfl) SR rfl ?_
        refine xj_gu 16 RF RF RF (by kernel_rfl) SR rfl ?_
        refine xj_gf 17 RF RF RF rfl (by kernel_rfl) SR rfl ?_
        refine xj_s 18 RF (by kernel_rfl) SR (y_pick_f RF RF) rfl ?_
        refine xj_s 19 RF (by kernel_rfl) SR (y_assign RF) rfl ?_
        refine xj_done (by kernel_rfl) ?_
        refine sx_blk ?_
        refine sx_then ?_
        refine sc_region ?_
        refine qs (y_move RF) ?_
        refine qs (y_add RF RF (by omega)) ?_
        refine qs (y_assign RF) ?_
        refine sq_nil ?_
        refine sx_round ((j + 1, false)) ?_ ?_ SU SR
        · refine ⟨by omega, ?_⟩
          dsimp only
          rw [List.range_succ, List.all_append, ← Bool.and_assoc, ← hg]; simp [hg9_1]
        · omega
    ·
      have hjn : j = ts.length := by omega
      subst hjn
      refine sc_exit ?_
      refine sx_then_exit ?_
      refine sx_round_exit ?_
      refine sx_blk_hit ?_
      refine sx_then ?_
      refine sc_seq ?_
      refine sc_region ?_
      refine qs (y_move RF) ?_
      refine sq_nil ?_
      refine sx_then ?_
      refine scp (fun hc2 => ?_) (fun hc2 => ?_)
      ·
        subst hc2
        refine sc_seq ?_
        refine sc_region ?_
        refine qs (y_move RF) ?_
        refine qs (y_move RF) ?_
        refine qs IA68 ?_
        refine qs (by first | exact y_load_ca0 Try.underlying27 rfl RF MM hcai rfl | exact LD27) ?_
        refine qs (y_assign RF) ?_
        refine sq_nil ?_
        refine sx_then ?_
        refine sc_ret ?_
        refine sx_blk_ret ?_
        refine sx_then_ret ?_
        refine sx_round_ret ?_
        refine sx_blk_ret ?_
        refine sx_then_ret ?_
        refine sx_ret1 (.inl rfl) rfl Try.results56 RF ?_
        intro w' hw'
        have hR : slipF b ts set = some h := find_at hih hg.symm hno
        rw [hR]
        exact ⟨(za.2.1 i, za.2.2.2 i), rfl, hw'.below MM, RowsA.low (RowsA.keep (hza.2.el i h hih).2.2 hw' MM) hza.1, some_of_rows ((hza.2.el i h hih).2.2) (by have := (hin h (List.mem_of_getElem? hih)).len; have := (bxB_parts hok).1; omega)⟩
      ·
        have hc2 : g = false := by simpa using hc2
        subst hc2
        refine sc_skip ?_
        refine sx_blk ?_
        refine sx_then ?_
        refine sc_region ?_
        refine qs (y_move RF) ?_
        refine qs (y_add RF RF (by omega)) ?_
        refine qs (y_assign RF) ?_
        refine sq_nil ?_
        refine sx_round (i + 1) ?_ ?_ SU SR
        · refine ⟨by omega, fun q y hq hy => ?_⟩
          rcases Nat.lt_succ_iff_lt_or_eq.1 hq with h9 | rfl
          · exact hno q y h9 hy
          · rw [hih] at hy; injection hy with hy; subst hy; exact hg.symm
        · omega
  ·
    refine sc_exit ?_
    refine sx_then_exit ?_
    refine sx_round_exit ?_
    refine sx_blk_hit ?_
    refine sx_then ?_
    refine sc_seq ?_
    refine sc_region ?_
    refine qs (y_assign RF) ?_
    refine sq_nil ?_
    refine sx_then ?_
    refine sc_ret ?_
    refine sx_ret1 (.inl rfl) rfl Try.results56 RF ?_
    intro w' hw'
    have hin2 : i = (allL b).length := by omega
    subst hin2
    have hR : slipF b ts set = none := find_no (fun q y hq hy => hno q y hq hy)
    rw [hR]
    exact ⟨(none, 0), rfl, hw'.below MM, RowsA.nil _ _, rfl⟩
theorem slips22 (w : World) (b : Bx) (a : Option Addr) (c : Nat) (hB : RowsA kdRow 3 0 w a b.kinds) (at_ : Option Addr) (ct : Nat) (ts : List Te) (ht : RowsA teRow 7 0 w at_ ts) : Calls Try.prog 22 #[.agg (bxRow b a c).toArray, .slice at_ ts.length ct] w fun e w' => ∃ z : Option Addr × Nat, e = .returned (.tuple #[.slice z.1 (slipR b ts).1.length z.2, .int .i64 (slipR b ts).2]) ∧ Below w.heap.size w w' ∧ RowsA iRow 1 w.heap.size w' z.1 (slipR b ts).1 := by
  have htlen := ht.len
  refine calls_of_SC (args := [.agg (bxRow b a c).toArray, .slice at_ ts.length ct]) Try.func22 rfl Try.ntmps22 rfl ?_
  simp only [argL, Nat.zero_add]
  refine sc_seq ?_
  refine sc_region ?_
  refine sq_box RF rfl (fun b2 => ?_)
  refine qs (y_assign RF) ?_
  refine qs (y_assign RF) ?_
  refine sq_nil ?_
  refine sx_then ?_
  refine sc_seq ?_
  refine sc_region ?_
  refine qs LD26 ?_
  refine qs (y_move RF) ?_
  refine qy (yc Try.call51 E3 (fun w1 hw1 => check51 w1 b a c (hB.at hw1 MM) none 0 [] (RowsA.nil 0 w1) at_ ct ts (ht.at hw1 MM))) ?_
  refine qs (y_assign RF) ?_
  refine sq_nil ?_
  refine sx_then ?_
  refine sc_seq ?_
  refine sc_seq ?_
  refine sc_region ?_
  refine qs (y_move RF) ?_
  refine qs (y_neq RF RF) ?_
  refine sq_nil ?_
  refine sx_then ?_
  refine scp (fun hc0 => ?_) (fun hc0 => ?_)
  ·
    refine sc_seq ?_
    refine sc_region ?_
    refine qs (y_move RF) ?_
    refine qs (y_assign RF) ?_
    refine qs (y_assign RF) ?_
    refine sq_nil ?_
    refine sx_then ?_
    refine sc_ret ?_
    refine sx_then_ret ?_
    refine sx_ret2 (.inl rfl) rfl Try.results22 RF RF ?_
    intro w' hw'
    have hR : slipR b ts = ([], chk b [] ts) := by unfold slipR; rw [if_pos (by simpa using hc0)]
    rw [hR]
    exact ⟨(none, 0), rfl, hw'.below MM, RowsA.nil _ _⟩
  ·
    refine sc_skip ?_
    refine sx_then ?_
    refine sc_seq ?_
    have hz0 : chk b [] ts = 0 := by simpa using hc0
    have hz := chk_zero hz0
    have hpw := pw2_le (show ts.length ≤ 20 by omega)
    have hpw1 := pw2_pos ts.length
    refine sc_drawX ([.blk b2 (.cells (bxRow b a c).toArray 26 (0, 0)), .reg 0 w]) (by kernel_rfl) ?_
    refine xj_s 0 RF (by kernel_rfl) SR LD26 rfl ?_
    refine xj_s 1 RF (by kernel_rfl) SR (y_move RF) rfl ?_
    refine xj_s 2 RF (by kernel_rfl) SR (y_move RF) rfl ?_
    refine xj_s 3 RF (by kernel_rfl) SR (y_len Try.underlying43 RF) rfl ?_
    refine xj_one 4 RF (by kernel_rfl) ?_
    refine qy (yc Try.call57 E1 (fun w1 _ => power57 w1 ts.length (by omega))) ?_
    refine sq_nil ?_
    refine sx_xp SR ?_
    refine xj_s 5 RF (by kernel_rfl) SR (y_sub RF RF (by omega)) rfl ?_
    refine xj_one 6 RF (by kernel_rfl) ?_
    refine sq_call_new (first := []) (caps := []) (Z := Option Addr × Nat) (fun z => .slice z.1 ((slipP b ts).getD []).length z.2) (fun lo w' z => w.heap.size ≤ lo ∧ RowsA iRow 1 lo w' z.1 ((slipP b ts).getD []) ∧ z.1.isNone = (slipP b ts).isNone) RF Try.call56 (EvL.cons RF (EvL.cons RF (EvL.cons RF EvL.nil))) (fun w1 hw1 => (slips56 w1 b a c (hB.at hw1 MM) hz.1 at_ ct ts (ht.at hw1 MM) hz.2.2.2.2 hz.2.2.1 (((pw2 ts.length : Nat) : Int) - 1) (by omega)).mono (fun e w' ⟨z, he, hb, hr, hn⟩ => (by rw [slipF_full] at he hr hn; exact ⟨z, he, hb, hw1.size, hr, hn⟩))) rfl (fun lo wr zs hzs => ?_)
    refine sq_nil ?_
    refine sx_xp SR ?_
    refine xj_s 7 RF (by kernel_rfl) SR (y_assign RF) rfl ?_
    refine xj_done (by kernel_rfl) ?_
    refine sx_then ?_
    refine sc_seq ?_
    refine sc_seq ?_
    refine sc_region ?_
    refine qs (y_move RF) ?_
    refine qs (y_eqlnilA Try.underlying27 RF RF) ?_
    refine sq_nil ?_
    refine sx_then ?_
    refine scp (fun hc1 => ?_) (fun hc1 => ?_)
    ·
      refine sc_seq ?_
      refine sc_region ?_
      refine qs (y_assign RF) ?_
      refine qs (y_assign RF) ?_
      refine sq_nil ?_
      refine sx_then ?_
      refine sc_ret ?_
      refine sx_then_ret ?_
      refine sx_ret2 (.inl rfl) rfl Try.results22 RF RF ?_
      intro w' hw'
      have hn : slipP b ts = none := by have := hzs.2.2.symm.trans hc1; simpa using this
      have hR : slipR b ts = ([], 4) := by unfold slipR; rw [if_neg (by simpa using hz0), hn]
      rw [hR]
      exact ⟨(none, 0), rfl, hw'.below MM, RowsA.nil _ _⟩
    ·
      refine sc_skip ?_
      refine sx_then ?_
      refine sc_seq ?_
      refine sc_region ?_
      refine qs (y_move RF) ?_
      refine qs (y_assign RF) ?_
      refine qs (y_assign RF) ?_
      refine sq_nil ?_
      refine sx_then ?_
      refine sc_ret ?_
      refine sx_ret2 (.inl rfl) rfl Try.results22 RF RF ?_
      intro w' hw'
      obtain ⟨h, hh⟩ : ∃ h, slipP b ts = some h := by
        cases hq : slipP b ts with
        | none => have h1 := hzs.2.2; rw [hq, hc1] at h1; cases h1
        | some h => exact ⟨h, rfl⟩
      have hR : slipR b ts = ((slipP b ts).getD [], 0) := by unfold slipR; rw [if_neg (by simpa using hz0), hh]; rfl
      rw [hR]
      exact ⟨zs, rfl, hw'.below MM, RowsA.low (RowsA.keep hzs.2.1 hw' MM) hzs.1⟩
end Go.Proofs.Ytofjipmheckmjaa
