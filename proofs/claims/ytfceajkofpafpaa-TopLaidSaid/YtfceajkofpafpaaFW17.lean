/- The walk of the law TopLaid. -/
import Derived.Test.YtfceajkofpafpaaFW12
import Derived.Test.YtfceajkofpafpaaFW13
import Derived.Test.YtfceajkofpafpaaFW15
import Derived.Test.YtfceajkofpafpaaFW16
import Derived.Test.YtfceajkofpafpaaLawT3
namespace Go.Proofs.Ytfceajkofpafpaa
open Go Go.Eng Go.RowKit Go.Proofs
open Go.Proofs.Ytfceajkofpafpaa.Sc (iRow spRow sp0 Sp spB plusV getD_of get_of_lt any_range_get all_not_any all_getD)
set_option maxRecDepth 100000
def jA (f : Nat → Nat) : List Value := (List.range 9).map fun k => .int .i64 ((f k : Nat) : Int)
theorem jA_at {f : Nat → Nat} {k : Nat} (h : k < 9) : (jA f).toArray[0 + k * 1]? = some (.int .i64 ((f k : Nat) : Int)) := by
  unfold jA
  rw [Nat.zero_add, Nat.mul_one, List.getElem?_toArray, List.getElem?_map, List.getElem?_range h]; rfl
theorem jA_congr {f g : Nat → Nat} (h : ∀ k, k < 9 → f k = g k) : jA f = jA g := List.map_congr_left fun k hk => by rw [h k (List.mem_range.1 hk)]
theorem jA_size (f : Nat → Nat) : (jA f).toArray.size = 9 := by simp [jA]
theorem jA_set {f : Nat → Nat} {k v : Nat} : (jA f).toArray.setIfInBounds (0 + k * 1) (.int .i64 ((v : Nat) : Int)) = (jA fun i => if i = k then v else f i).toArray := by
  unfold jA
  rw [Nat.zero_add, Nat.mul_one, List.setIfInBounds_toArray]
  congr 1
  apply List.ext_getElem?
  intro i
  rw [List.getElem?_set]
  rcases Nat.lt_or_ge i 9 with hi | hi
  · rw [List.getElem?_map, List.getElem?_map, List.getElem?_range hi]
    by_cases e : k = i
    · subst e
      rw [if_pos rfl, if_pos (by simpa using hi)]
      show some (Value.int .i64 ((v : Nat) : Int)) = some (Value.int .i64 (((if k = k then v else f k : Nat)) : Int))
      rw [if_pos rfl]
    · rw [if_neg e]
      show some (Value.int .i64 ((f i : Nat) : Int)) = some (Value.int .i64 (((if i = k then v else f i : Nat)) : Int))
      rw [if_neg (fun h => e h.symm)]
  · rw [List.getElem?_eq_none (l := (List.range 9).map fun k => Value.int .i64 ((f k : Nat) : Int)) (by simpa using hi)]
    split
    · rw [if_neg (by simp; omega)]; exact (List.getElem?_eq_none (by simpa using hi)).symm
    · exact (List.getElem?_eq_none (by simpa using hi)).symm
theorem jA_join1 {js : List J4} {m p : Nat} {x : J4} (hm : m < js.length) (hx : js.getD m (0, 0, 0, 0) = x) (h1 : x.1 < x.2.2.1) (e : x.1 = p) : (jA (jcN (js.take m) p)).toArray.setIfInBounds (0 + x.2.2.1 * 1) (.int .i64 (((jcN (js.take m) p x.2.2.1 : Nat) : Int) + 1)) = (jA (jcN (js.take (m + 1)) p)).toArray := by
  refine (jA_set (f := jcN (js.take m) p) (k := x.2.2.1) (v := jcN (js.take m) p x.2.2.1 + 1)).trans ?_
  congr 1
  refine jA_congr fun i _ => ?_
  rw [jc_snoc (d := (0, 0, 0, 0)) hm, hx]
  unfold j1
  by_cases hi : i = x.2.2.1
  · subst hi
    rw [if_pos rfl, b2n_f (show ¬ (x.2.2.1 = p ∧ x.1 = x.2.2.1) by omega)]
    unfold b2n
    rw [if_pos ⟨e, rfl⟩]
  · rw [if_neg hi, b2n_f (by omega), b2n_f (by omega)]; rfl
theorem jA_join2 {js : List J4} {m p : Nat} {x : J4} (hm : m < js.length) (hx : js.getD m (0, 0, 0, 0) = x) (h1 : x.1 < x.2.2.1) (e : x.2.2.1 = p) : (jA (jcN (js.take m) p)).toArray.setIfInBounds (0 + x.1 * 1) (.int .i64 (((jcN (js.take m) p x.1 : Nat) : Int) + 1)) = (jA (jcN (js.take (m + 1)) p)).toArray := by
  refine (jA_set (f := jcN (js.take m) p) (k := x.1) (v := jcN (js.take m) p x.1 + 1)).trans ?_
  congr 1
  refine jA_congr fun i _ => ?_
  rw [jc_snoc (d := (0, 0, 0, 0)) hm, hx]
  unfold j1
  by_cases hi : i = x.1
  · subst hi
    rw [if_pos rfl, b2n_f (show ¬ (x.1 = p ∧ x.2.2.1 = x.1) by omega)]
    unfold b2n
    rw [if_pos ⟨e, rfl⟩]
  · rw [if_neg hi, b2n_f (by omega), b2n_f (by omega)]; rfl
theorem jA_join0 {js : List J4} {m p : Nat} {x : J4} (hm : m < js.length) (hx : js.getD m (0, 0, 0, 0) = x) (h1 : ¬ x.1 = p) (h2 : ¬ x.2.2.1 = p) : jA (jcN (js.take m) p) = jA (jcN (js.take (m + 1)) p) := jA_congr fun i _ => by
  rw [jc_snoc (d := (0, 0, 0, 0)) hm, hx]
  unfold j1
  rw [b2n_f (by omega), b2n_f (by omega)]; rfl
def z9 : Array Value := #[.int .i64 0, .int .i64 0, .int .i64 0, .int .i64 0, .int .i64 0, .int .i64 0, .int .i64 0, .int .i64 0, .int .i64 0]
theorem jA_zero {f : Nat → Nat} (h : ∀ k, f k = 0) : (jA f).toArray = z9 := by
  rw [show jA f = jA fun _ => 0 from jA_congr fun k _ => h k]; rfl
theorem neq85 : ∀ w, (binOp .neq 85 (.agg z9) (.agg z9)).run Try.prog w = .ok (.bool false) w := fun w => by kernel_rfl
def qa (q : (Option Addr × Nat) × (Option Addr × Nat)) (i : Nat) : Option Addr × Nat := if i = 0 then q.1 else q.2
theorem sl_at {q : (Option Addr × Nat) × (Option Addr × Nat)} {S : List (List Ly)} {i : Nat} (h : i < 2) : (#[.slice q.1.1 (S.getD 0 []).length q.1.2, .slice q.2.1 (S.getD 1 []).length q.2.2] : Array Value)[0 + i * 1]? = some (.slice (qa q i).1 (S.getD i []).length (qa q i).2) := by
  rcases (by omega : i = 0 ∨ i = 1) with rfl | rfl <;> rfl
abbrev SlF (S : List (List Ly)) (lo : Nat) (w' : World) (q : (Option Addr × Nat) × (Option Addr × Nat)) : Prop := (RowsA lyRow 2 lo w' q.1.1 (S.getD 0 []) ∧ (S.getD 0 []).length ≤ q.1.2) ∧ (RowsA lyRow 2 lo w' q.2.1 (S.getD 1 []) ∧ (S.getD 1 []).length ≤ q.2.2)
theorem rows_qa {S : List (List Ly)} {lo : Nat} {w' : World} {q : (Option Addr × Nat) × (Option Addr × Nat)} (h : SlF S lo w' q) {i : Nat} (hi : i < 2) : RowsA lyRow 2 lo w' (qa q i).1 (S.getD i []) ∧ (S.getD i []).length ≤ (qa q i).2 := by
  rcases (by omega : i = 0 ∨ i = 1) with rfl | rfl
  · exact h.1
  · exact h.2
theorem own_rowsI {w0 w : World} {rs : List Res} (hw : Hp w0 rs w) {a : Option Addr} {n c : Nat} {l : List Int} (hm : Res.own (.slice a n c) 3 1 n (l.flatMap iRow) ∈ rs) (hn : l.length = n) (h64 : n ≤ 9223372036854775807) : RowsA iRow 1 0 w a l := by
  obtain ⟨a', c', e, _, hr⟩ := own_rowsA (row := iRow) iRow_len (hw.ok _ hm) hn h64
  injection e with e1 _ _
  rw [e1]; exact hr
theorem Met18r (w : World) (z : Pz) (hF : PzF z) (a : Option Addr) (c : Nat) (al : Option Addr) (cl : Nat) (l : List Ly) (hl : RowsA lyRow 2 0 w al l) (hln : l.length = z.pieces.length) (hok : ∀ x, x ∈ l → LyOk z x) : Calls Try.prog 18 #[.agg (pzRow z a c).toArray, .slice al l.length cl] w fun e w' => ∃ q : Option Addr × Nat, e = .returned (.slice q.1 (metL z l).length q.2) ∧ Below w.heap.size w w' ∧ RowsA jRow 4 w.heap.size w' q.1 (metL z l) :=
  (Met18 w z hF a c al cl l hl hln hok).mono fun e w' ⟨v, h1, h2, _, h4⟩ => by
    obtain ⟨a1, c1, e1, _, r1⟩ := own_rowsA (row := jRow) jRow_len h4 rfl (by have := met_len z l; have := hF.n; omega)
    exact ⟨(a1, c1), by rw [h1, e1], h2, r1⟩
theorem sides9q (w : World) (c : Ct) (a : Option Addr) (cp : Nat) (hp : RowsA iRow 1 0 w a c.piece) (piece : Int) (hg : Good c piece) : Calls Try.prog 9 #[.agg (ctV c a cp).toArray, .int .i64 piece] w fun e w' => ∃ q : Option Addr × Nat, e = .returned (.tuple #[.slice q.1 (sdN c piece (nP c + 1)).length q.2, .int .i64 0]) ∧ Below w.heap.size w w' ∧ RowsA sdRow 2 w.heap.size w' q.1 (sdN c piece (nP c + 1)) :=
  (sides9 w c a cp hp piece).mono fun e w' ⟨y, h1, h2, h3, h4⟩ => by
    have hy : y.2 = 0 := Classical.byContradiction fun h => h4 h hg
    have hl := sdN_le c piece (nP c + 1)
    have hn := nP_eq hg.1.ok
    obtain ⟨a1, c1, e1, _, r1⟩ := own_rowsA (row := sdRow) sdRow_len (h3 hy).2 rfl (by omega)
    exact ⟨(a1, c1), by rw [h1, hy, e1], h2, r1⟩
theorem err_0 {z : Pz} (h : errS z = 0) : 1 ≤ (solL z).length := by
  unfold errS at h
  split at h
  · omega
  · omega
theorem err_n {z : Pz} (h : ¬ errS z = 0) : errS z = 4 ∧ solL z = [] := by
  unfold errS at h ⊢
  split at h
  · rename_i h2; rw [if_pos h2]; exact ⟨rfl, List.eq_nil_of_length_eq_zero h2⟩
  · exact absurd rfl h
theorem many_lt {z : Pz} {i : Nat} (h : ¬ manyS z ≤ (i : Int)) : i < (solL z).length := by
  unfold manyS at h
  split at h <;> omega
def pLs (l : List Ly) (m : Nat) : List Int := (l.take m).map fun x => ((x.1 : Nat) : Int)
theorem pLs_succ {l : List Ly} {m : Nat} (h : m < l.length) : pLs l (m + 1) = pLs l m ++ [((lyD l m).1 : Int)] := by
  unfold pLs
  rw [take_snoc (d := (0, 0)) h, List.map_append]; rfl
theorem pLs_all (z : Pz) (l : List Ly) : pLs l (cutT z l).piece.length = (cutT z l).piece := by
  unfold pLs
  rw [cutT_len, List.take_of_length_le (Nat.le_refl _)]; rfl
theorem ei64 : EI Try.prog 64 (.slice none 0 0) 1 24 := by unfold EI; kernel_rfl
theorem laid4 (w : World) (z : Pz) (a : Option Addr) (c : Nat) (hp : RowsA pcRow 28 0 w a z.pieces) : Calls Try.prog 4 #[.agg (pzRow z a c).toArray] w fun e w' => e = .returned (.bool true) ∧ Below w.heap.size w w' := by
  have hlen := hp.len
  refine calls_of_SC (args := [.agg (pzRow z a c).toArray]) Try.func4 rfl Try.ntmps4 rfl ?_
  simp only [argL]
  refine sc_seq ?_
  refine sc_region ?_
  refine sq_box RF rfl (fun b1 => ?_)
  refine qs (y_assign RF) ?_
  refine sq_nil ?_
  refine sx_then ?_
  refine sc_seq ?_
  refine sc_seq ?_
  refine sc_region ?_
  refine qs FA62_60 ?_
  refine qs LD60 ?_
  refine qs (y_len Try.underlying60 RF) ?_
  refine qs (y_gtr RF RF) ?_
  refine qs (y_move RF) ?_
  refine sp 35 (fun hg1_4 => ?_) (fun hg1_4 => ?_)
  ·
    refine qf ?_
    refine qf ?_
    refine qf ?_
    refine qs (y_pick_t RF RF) ?_
    refine sq_nil ?_
    refine sx_then ?_
    refine sc_t RF ?_
    refine sc_seq ?_
    refine sc_region ?_
    refine qy (yc Try.call15 E0 (fun w1 _ => awake15 w1)) ?_
    refine qs (y_assign RF) ?_
    refine sq_nil ?_
    refine sx_then ?_
    refine sc_ret ?_
    refine sx_then_ret ?_
    refine sx_ret1 (.inl rfl) rfl Try.results4 RF ?_
    intro w' hw'
    exact ⟨rfl, hw'.below MM⟩
  ·
    refine qg LD62 ?_
    refine sq_gt RF RF (y_call (first := []) (caps := []) RF Try.call14 (EvL.cons RF EvL.nil) (fun w1 hw1 => Puzzle14 w1 z a c (hp.at hw1 MM))) rfl ?_
    refine qg (y_not RF) ?_
    refine qs (y_pick_f RF RF) ?_
    refine sq_nil ?_
    refine sx_then ?_
    refine scp (fun hc0 => ?_) (fun hc0 => ?_)
    ·
      refine sc_seq ?_
      refine sc_region ?_
      refine qy (yc Try.call15 E0 (fun w1 _ => awake15 w1)) ?_
      refine qs (y_assign RF) ?_
      refine sq_nil ?_
      refine sx_then ?_
      refine sc_ret ?_
      refine sx_then_ret ?_
      refine sx_ret1 (.inl rfl) rfl Try.results4 RF ?_
      intro w' hw'
      exact ⟨rfl, hw'.below MM⟩
    ·
      have hF : PzF z := pz_of (by simpa using hc0)
      have hn := hF.n
      refine sc_skip ?_
      refine sx_then ?_
      refine sc_seq ?_
      refine sc_region ?_
      refine qs LD62 ?_
      refine sq_call_new (first := []) (caps := []) (Z := (Option Addr × Nat) × (Option Addr × Nat)) (fun q => .tuple #[.slice q.1.1 ((solL z).getD 0 []).length q.1.2, .slice q.2.1 ((solL z).getD 1 []).length q.2.2, .int .i64 (manyS z), .int .i64 (errS z)]) (fun lo w' q => SlF (solL z) lo w' q) RF Try.call16 (EvL.cons RF EvL.nil) (fun w1 hw1 => Solve16r w1 z hF a c (hp.at hw1 MM)) rfl (fun lo2 wr2 q hq => ?_)
      refine qs (y_move RF) ?_
      refine qs (y_extract RF RF) ?_
      refine qs (y_extract RF RF) ?_
      refine qs (y_extract RF RF) ?_
      refine qs (y_extract RF RF) ?_
      refine qs (y_assign RF) ?_
      refine qs (y_assign RF) ?_
      refine qs (y_assign RF) ?_
      refine qs (y_assign RF) ?_
      refine sq_nil ?_
      refine sx_then ?_
      refine sc_seq ?_
      refine sc_seq ?_
      refine sc_region ?_
      refine qs (y_move RF) ?_
      refine qs (y_neq RF RF) ?_
      refine sq_nil ?_
      refine sx_then ?_
      refine scp (fun hc1 => ?_) (fun hc1 => ?_)
      ·
        have hen := err_n hc1
        refine sc_seq ?_
        refine sc_region ?_
        refine qs (y_move RF) ?_
        refine qs (y_len Try.underlying64 RF) ?_
        refine qs (y_eql RF RF) ?_
        refine qs (y_move RF) ?_
        refine sq_known (tt := 53) (b' := true) RF (decide_eq_true (by rw [hen.2]; rfl)) ?_
        refine qg (y_move RF) ?_
        refine qg (y_len Try.underlying64 RF) ?_
        refine qg (y_eql RF RF) ?_
        refine qs (y_pick_t RF RF) ?_
        refine qs (y_move RF) ?_
        refine sq_known (tt := 58) (b' := true) RF (decide_eq_true (by rw [hen.2]; rfl)) ?_
        refine qg (y_move RF) ?_
        refine qg (y_eql RF RF) ?_
        refine qs (y_pick_t RF RF) ?_
        refine qs (y_move RF) ?_
        refine sq_known (tt := 62) (b' := true) RF (decide_eq_true hen.1) ?_
        refine sq_gt RF RF (y_call (first := []) (caps := []) RF Try.call15 EvL.nil (fun w1 _ => awake15 w1)) rfl ?_
        refine qs (y_pick_t RF RF) ?_
        refine qs (y_assign RF) ?_
        refine sq_nil ?_
        refine sx_then ?_
        refine sc_ret ?_
        refine sx_then_ret ?_
        refine sx_ret1 (.inl rfl) rfl Try.results4 RF ?_
        intro w' hw'
        exact ⟨rfl, hw'.below MM⟩
      ·
        have he1 := err_0 hc1
        refine sc_skip ?_
        refine sx_then ?_
        refine sc_seq ?_
        refine sc_seq ?_
        refine sc_region ?_
        refine qs (y_move RF) ?_
        refine qs (y_move RF) ?_
        refine sq_bs Try.underlying67 ei64 (EvI.cons RF (EvI.cons RF EvI.nil)) (by first | (simp [Value.cells]; done) | (simp [Value.cells]; rfl) | (simp [Value.cells]; and_intros <;> rfl)) rfl rfl rfl (fun b67 => ?_)
        refine qs (y_len Try.underlying67 RF) ?_
        refine qs (y_move RF) ?_
        refine sq_nil ?_
        refine sx_then ?_
        refine sc_block ?_
        refine sc_loop (σ := Nat)
          (fun s_ => [(1, .pointer (some ⟨b1, 0, none⟩)), (5, .int .i64 (manyS z)), (67, .slice (some ⟨b67, 0, none⟩) 2 2), (68, .int .i64 2), (69, .int .i64 s_)])
          (fun s_ => [.blk b67 (.cells #[.slice q.1.1 ((solL z).getD 0 []).length q.1.2, .slice q.2.1 ((solL z).getD 1 []).length q.2.2] 64 (0, 0)), .blk b1 (.cells (pzRow z a c).toArray 62 (0, 0)), .reg lo2 wr2, .reg 0 w])
          (fun s_ => s_ ≤ 2)
          (fun s_ => 2 - s_)
          (0) ?_ SU SR ?_
        · exact Nat.zero_le _
        rintro i hi
        refine sc_seq ?_
        refine sc_region ?_
        refine qs (y_lss RF RF) ?_
        refine sq_nil ?_
        refine sx_then ?_
        refine sc_seq ?_
        refine scp (fun hc2 => ?_) (fun hc2 => ?_)
        ·
          have hi' : i < 2 := by omega
          refine sc_skip ?_
          refine sx_then ?_
          refine sc_seq ?_
          refine sc_block ?_
          refine sc_seq ?_
          refine sc_region ?_
          refine qs (y_move RF) ?_
          refine qs (y_ia_blk (i := i) Try.underlying67 Try.sizeOf64 RF RF hi') ?_
          refine qs (by first | exact y_load_blk Try.underlying64 rfl RF MM (sl_at hi') | exact LD64) ?_
          refine qs (y_assign RF) ?_
          refine qs (y_assign RF) ?_
          refine sq_nil ?_
          refine sx_then ?_
          refine sc_seq ?_
          refine sc_seq ?_
          refine sc_region ?_
          refine qs (y_move RF) ?_
          refine qs (y_move RF) ?_
          refine qs (y_geq RF RF) ?_
          refine sq_nil ?_
          refine sx_then ?_
          refine scp (fun hc3 => ?_) (fun hc3 => ?_)
          ·
            refine sc_exit ?_
            refine sx_then_exit ?_
            refine sx_blk_miss rfl ?_
            refine sx_then_exit ?_
            refine sx_round_exit ?_
            refine sx_blk_hit ?_
            refine sx_then ?_
            refine sc_seq ?_
            refine sc_region ?_
            refine qy (yc Try.call15 E0 (fun w1 _ => awake15 w1)) ?_
            refine qs (y_assign RF) ?_
            refine sq_nil ?_
            refine sx_then ?_
            refine sc_ret ?_
            refine sx_ret1 (.inl rfl) rfl Try.results4 RF ?_
            intro w' hw'
            exact ⟨rfl, hw'.below MM⟩
          ·
            obtain ⟨al, hal⟩ : ∃ x, x = (qa q i).1 := ⟨_, rfl⟩
            obtain ⟨cl, hcl0⟩ : ∃ x, x = (qa q i).2 := ⟨_, rfl⟩
            obtain ⟨l, hl⟩ : ∃ x, x = (solL z).getD i [] := ⟨_, rfl⟩
            have hrows := rows_qa hq hi'
            have hS : SolOk z l := by rw [hl]; exact sol_ok (List.mem_of_getElem? (get_of_lt [] (many_lt hc3)))
            rw [← hal, ← hcl0, ← hl] at hrows
            rw [← hal, ← hcl0, ← hl]
            obtain ⟨hrow, hcap⟩ := hrows
            have hll := hS.len
            have hD := dist_T hF hS
            have hnP := nP_T hF hS
            have hpl := cutT_len z l
            have hml := met_len z l
            refine sc_skip ?_
            refine sx_then ?_
            refine sc_seq ?_
            refine sc_seq ?_
            refine sc_region ?_
            refine qs LD62 ?_
            refine qs (y_move RF) ?_
            refine qy (yc Try.call17 E2 (fun w1 hw1 => Solution17 w1 z hF a c (hp.at hw1 MM) al cl l (hrow.at hw1 MM) hcap hS)) ?_
            refine qs (y_not RF) ?_
            refine sq_nil ?_
            refine sx_then ?_
            refine sc_f (lk_bool rfl (rfl)) ?_
            refine sc_skip ?_
            refine sx_then ?_
            refine sc_seq ?_
            refine sc_region ?_
            refine qs FA62_3 ?_
            refine qs LD3 ?_
            refine qs FA62_3 ?_
            refine qs LD3 ?_
            refine qs (y_build (cells := #[.int .i64 z.wide, .int .i64 z.high, .slice none 0 0]) bt24 (EvP.cons RF (EvP.cons RF EvP.nil)) (by kernel_rfl)) ?_
            refine sq_alloc Try.zeroValue24 rfl (fun b9 => ?_)
            refine sq_store_all (vs := [.int .i64 z.wide, .int .i64 z.high, .slice none 0 0]) Try.sizeOf24 RF RF rfl RM rfl rfl ?_
            refine sq_nil ?_
            refine sx_then ?_
            refine sc_seq ?_
            refine sc_seq ?_
            refine sc_nil_own 3 1 ?_
            refine sc_region ?_
            refine qs (y_move RF) ?_
            refine qs (y_len Try.underlying64 RF) ?_
            refine qs (y_move RF) ?_
            refine sq_nil ?_
            refine sx_then ?_
            refine sc_block ?_
            refine sc_loop (σ := Nat × Value)
              (fun s_ => [(1, .pointer (some ⟨b1, 0, none⟩)), (5, .int .i64 (manyS z)), (67, .slice (some ⟨b67, 0, none⟩) 2 2), (68, .int .i64 2), (69, .int .i64 i), (8, .slice al l.length cl), (9, .pointer (some ⟨b9, 0, none⟩)), (86, .slice al l.length cl), (87, .int .i64 (l.length : Nat)), (88, .int .i64 s_.1)])
              (fun s_ => [.own s_.2 3 1 s_.1 ((pLs l s_.1).flatMap iRow), .blk b9 (.cells #[.int .i64 z.wide, .int .i64 z.high, s_.2] 24 (0, 0)), .blk b67 (.cells #[.slice q.1.1 ((solL z).getD 0 []).length q.1.2, .slice q.2.1 ((solL z).getD 1 []).length q.2.2] 64 (0, 0)), .blk b1 (.cells (pzRow z a c).toArray 62 (0, 0)), .reg lo2 wr2, .reg 0 w])
              (fun s_ => s_.1 ≤ l.length ∧ s_.2.oneCell' = true)
              (fun s_ => l.length - s_.1)
              ((0, .slice none 0 0)) ?_ SU SR ?_
            · exact ⟨Nat.zero_le _, rfl⟩
            rintro ⟨m, v⟩ ⟨hm, hv1⟩
            dsimp only at hm hv1 ⊢
            refine sc_seq ?_
            refine sc_region ?_
            refine qs (y_lss RF RF) ?_
            refine sq_nil ?_
            refine sx_then ?_
            refine sc_seq ?_
            refine scp (fun hc5 => ?_) (fun hc5 => ?_)
            ·
              have hm' : m < l.length := by omega
              have hsm := (hrow.get (0, 0) hm').1
              have hcm : CA lo2 wr2 (elt al m 2) (lyRow (lyD l m)) := (hrow.get (0, 0) hm').2
              refine sc_skip ?_
              refine sx_then ?_
              refine sc_seq ?_
              refine sc_block ?_
              refine sc_seq ?_
              refine sc_region ?_
              refine qs IA64 ?_
              refine qs (by first | exact y_load_ca Try.underlying70 rfl Try.sizeOf70 RF MM hcm rfl | exact LD70) ?_
              refine sq_alloc Try.zeroValue70 rfl (fun b11 => ?_)
              refine sq_store_all (vs := lyRow (lyD l m)) Try.sizeOf70 RF RF rfl RM rfl rfl ?_
              refine sq_nil ?_
              refine sx_then ?_
              refine sc_region ?_
              refine qs FA24_22 ?_
              refine qs LD22 ?_
              refine qs FA70_3 ?_
              refine qs LD3 ?_
              refine sq_bs Try.underlying22 ei3 (EvI.cons RF EvI.nil) (by first | (simp [Value.cells]; done) | (simp [Value.cells]; rfl) | (simp [Value.cells]; and_intros <;> rfl)) rfl rfl rfl (fun b96 => ?_)
              refine sq_append (news := [Value.int .i64 ((lyD l m).1 : Int)]) Try.underlying22 ei3 rfl (by decide) RF RM RF rfl (fun _ hw => news_blk hw MM) (by simp [Value.oneCell']) (by omega) rfl (fun v97 ho97 => ?_)
              rw [show (pLs l m).flatMap iRow ++ [Value.int .i64 ((lyD l m).1 : Int)] = (pLs l (m + 1)).flatMap iRow from by rw [pLs_succ hm', List.flatMap_append]; rfl]
              refine qs FA24_22 ?_
              refine sq_store_to (cs' := #[.int .i64 z.wide, .int .i64 z.high, v97]) Try.sizeOf22 RF RF (by assumption) RM (Nat.le_of_ble_eq_true rfl) rfl ?_
              refine sq_nil ?_
              refine sx_blk ?_
              refine sx_then ?_
              refine sc_region ?_
              refine qs (y_add RF RF (by omega)) ?_
              refine qs (y_move RF) ?_
              refine sq_nil ?_
              refine sx_round ((m + 1, v97)) ?_ ?_ SU SR
              · exact ⟨by dsimp only; omega, ho97⟩
              · dsimp only; omega
            ·
              refine sc_exit ?_
              refine sx_then_exit ?_
              refine sx_round_exit ?_
              refine sx_blk_hit ?_
              refine sx_then ?_
              refine sc_seq ?_
              obtain rfl : m = (cutT z l).piece.length := by omega
              rw [pLs_all]
              refine sc_own_dest (e := 3) (sz := 1) (m := (cutT z l).piece.length) (xs := (cutT z l).piece.flatMap iRow) MM (fun ap cpp hvp _ _ => ?_)
              subst hvp
              refine sc_region ?_
              refine qs LD62 ?_
              refine qs (y_move RF) ?_
              refine sq_call_new (first := []) (caps := []) (Z := Option Addr × Nat) (fun q => .slice q.1 (metL z l).length q.2) (fun lo w' q => RowsA jRow 4 lo w' q.1 (metL z l)) RF Try.call18 (EvL.cons RF (EvL.cons RF EvL.nil)) (fun w1 hw1 => Met18r w1 z hF a c al cl l (hrow.at hw1 MM) hll hS.mem) rfl (fun lo18 wr18 qm hqm => ?_)
              refine qs (y_assign RF) ?_
              refine sq_nil ?_
              refine sx_then ?_
              refine sc_seq ?_
              refine sc_region ?_
              refine qs LD24 ?_
              refine sq_call_new (first := []) (caps := []) (Z := Int × Int) (fun y => .tuple #[.int .i64 y.1, .int .i64 y.2]) (fun _ _ y => ChkR (cutT z l) y.1 y.2) RF Try.call7 (EvL.cons RF EvL.nil) (fun w1 hw1 => check7 w1 (cutT z l) ap cpp (own_rowsI hw1 (l := (cutT z l).piece) MM rfl (by omega))) rfl (fun lo19 wr19 y7 hy7 => ?_)
              have e7 : y7.2 = 0 := Classical.byContradiction fun h => hy7.2 h hD.ok
              have n7 := (hy7.1 e7).2
              rw [hnP] at n7
              obtain ⟨p7, q7⟩ := y7
              dsimp only at e7 n7 ⊢
              rw [e7, n7]
              refine qs (y_move RF) ?_
              refine qs (y_extract RF RF) ?_
              refine qs (y_extract RF RF) ?_
              refine qs (y_assign RF) ?_
              refine qs (y_assign RF) ?_
              refine sq_nil ?_
              refine sx_then ?_
              refine sc_seq ?_
              refine sc_region ?_
              refine qs LD24 ?_
              refine sq_call_new (first := []) (caps := []) (Z := Int × Int × Int) (fun y => .tuple #[.agg #[.int .i64 y.1, .int .i64 0, .int .i64 y.2.1, .int .i64 y.2.2], .int .i64 0]) (fun _ _ y => ∃ m, Em (edgeN (cutT z l)) m ∧ y.1 = sumE m) RF Try.call19 (EvL.cons RF EvL.nil) (fun w1 hw1 => Lines19 w1 (cutT z l) hD ap cpp (own_rowsI hw1 (l := (cutT z l).piece) MM rfl (by omega))) rfl (fun lo20 wr20 ql hql => ?_)
              obtain ⟨q1, q2, q3⟩ := ql
              have hq1 : q1 = ((metL z l).length : Nat) := by
                obtain ⟨m, h1, h2⟩ := hql
                rw [show q1 = sumE m from h2, lines_len hF hS h1]
              dsimp only
              rw [hq1]
              refine qs (y_move RF) ?_
              refine qs (y_extract RF RF) ?_
              refine qs (y_extract RF RF) ?_
              refine sq_alloc Try.zeroValue74 rfl (fun b15 => ?_)
              refine sq_store_all (vs := [.int .i64 ((metL z l).length : Nat), .int .i64 0, .int .i64 q2, .int .i64 q3]) Try.sizeOf74 RF RF rfl RM rfl rfl ?_
              refine qs (y_assign RF) ?_
              refine sq_nil ?_
              refine sx_then ?_
              refine sc_seq ?_
              refine sc_region ?_
              refine qs LD24 ?_
              refine sq_call_new (first := []) (caps := []) (Z := Option Addr × Nat) (fun y => .tuple #[.slice y.1 ((cutT z l).piece.length - 1) y.2, .int .i64 0]) (fun _ _ _ => True) RF Try.call20 (EvL.cons RF EvL.nil) (fun w1 hw1 => (Saw20 w1 (cutT z l) hD ap cpp (own_rowsI hw1 (l := (cutT z l).piece) MM rfl (by omega))).mono (fun e w' ⟨y, h1, h2⟩ => ⟨y, h1, h2, trivial⟩)) rfl (fun lo21 wr21 qw _ => ?_)
              refine qs (y_move RF) ?_
              refine qs (y_extract RF RF) ?_
              refine qs (y_extract RF RF) ?_
              refine qs (y_assign RF) ?_
              refine qs (y_assign RF) ?_
              refine sq_nil ?_
              refine sx_then ?_
              refine sc_seq ?_
              refine sc_seq ?_
              refine sc_region ?_
              refine qs (y_move RF) ?_
              refine qs (y_neq RF RF) ?_
              refine qs (y_move RF) ?_
              refine sq_known (tt := 120) (b' := false) RF (rfl) ?_
              refine qg (y_move RF) ?_
              refine qg (y_move RF) ?_
              refine qg (y_len Try.underlying64 RF) ?_
              refine qg (y_neq RF RF) ?_
              refine qs (y_pick_f RF RF) ?_
              refine qs (y_move RF) ?_
              refine sq_known (tt := 126) (b' := false) RF (by rw [decide_eq_true (by omega)]; rfl) ?_
              refine qg (y_move RF) ?_
              refine qg (y_neq RF RF) ?_
              refine qs (y_pick_f RF RF) ?_
              refine qs (y_move RF) ?_
              refine sq_known (tt := 130) (b' := false) RF (rfl) ?_
              refine qg FA74_3 ?_
              refine qg LD3 ?_
              refine qg (y_move RF) ?_
              refine qg (y_len Try.underlying71 RF) ?_
              refine qg (y_neq RF RF) ?_
              refine qs (y_pick_f RF RF) ?_
              refine qs (y_move RF) ?_
              refine sq_known (tt := 137) (b' := false) RF (by rw [decide_eq_true rfl]; rfl) ?_
              refine qg FA74_3 ?_
              refine qg LD3 ?_
              refine qg (y_neq RF RF) ?_
              refine qs (y_pick_f RF RF) ?_
              refine qs (y_move RF) ?_
              refine sq_known (tt := 142) (b' := false) RF (rfl) ?_
              refine qg (y_move RF) ?_
              refine qg (y_neq RF RF) ?_
              refine qs (y_pick_f RF RF) ?_
              refine qs (y_move RF) ?_
              refine sq_known (tt := 146) (b' := false) RF (rfl) ?_
              refine qg (y_move RF) ?_
              refine qg (y_len Try.underlying77 RF) ?_
              refine qg (y_move RF) ?_
              refine qg (y_sub RF RF (by omega)) ?_
              refine qg (y_neq RF RF) ?_
              refine qs (y_pick_f RF RF) ?_
              refine sq_nil ?_
              refine sx_then ?_
              refine sc_f (lk_bool rfl (by rw [decide_eq_true (by omega)]; rfl)) ?_
              refine sc_skip ?_
              refine sx_then ?_
              refine sc_seq ?_
              refine sc_region ?_
              refine qs FA62_60 ?_
              refine qs LD60 ?_
              refine qs (y_len Try.underlying60 RF) ?_
              refine qs (y_move RF) ?_
              refine sq_nil ?_
              refine sx_then ?_
              refine sc_block ?_
              refine sc_loop (σ := Nat)
                (fun s_ => [(1, .pointer (some ⟨b1, 0, none⟩)), (5, .int .i64 (manyS z)), (67, .slice (some ⟨b67, 0, none⟩) 2 2), (68, .int .i64 2), (69, .int .i64 i), (9, .pointer (some ⟨b9, 0, none⟩)), (12, .slice qm.1 (metL z l).length qm.2), (13, .int .i64 ((z.pieces.length : Nat) : Int)), (154, .slice a z.pieces.length c), (155, .int .i64 (z.pieces.length : Nat)), (156, .int .i64 s_)])
                (fun s_ => [.own (.slice ap (cutT z l).piece.length cpp) 3 1 (cutT z l).piece.length ((cutT z l).piece.flatMap iRow), .blk b9 (.cells #[.int .i64 z.wide, .int .i64 z.high, .slice ap (cutT z l).piece.length cpp] 24 (0, 0)), .reg lo18 wr18, .blk b67 (.cells #[.slice q.1.1 ((solL z).getD 0 []).length q.1.2, .slice q.2.1 ((solL z).getD 1 []).length q.2.2] 64 (0, 0)), .blk b1 (.cells (pzRow z a c).toArray 62 (0, 0)), .reg lo2 wr2, .reg 0 w])
                (fun s_ => s_ ≤ z.pieces.length)
                (fun s_ => z.pieces.length - s_)
                (0) ?_ SU SR ?_
              · exact Nat.zero_le _
              rintro p hp0
              refine sc_seq ?_
              refine sc_region ?_
              refine qs (y_lss RF RF) ?_
              refine sq_nil ?_
              refine sx_then ?_
              refine sc_seq ?_
              refine scp (fun hc7 => ?_) (fun hc7 => ?_)
              ·
                have hp' : p < z.pieces.length := by omega
                have hsk := (hp.get pc0 hp').1
                have hck := (hp.get pc0 hp').2
                refine sc_skip ?_
                refine sx_then ?_
                refine sc_seq ?_
                refine sc_block ?_
                refine sc_seq ?_
                refine sc_region ?_
                refine qs (y_move RF) ?_
                refine qs IA60 ?_
                refine qs (by first | exact y_load_ca Try.underlying84 rfl Try.sizeOf84 RF MM hck rfl | exact LD84) ?_
                refine sq_alloc Try.zeroValue84 rfl (fun b20 => ?_)
                refine qs (y_assign RF) ?_
                refine sq_store_all (vs := pcRow (z.pieces.getD p pc0)) Try.sizeOf84 RF RF rfl RM rfl rfl ?_
                refine sq_nil ?_
                refine sx_then ?_
                refine sc_seq ?_
                refine sc_region ?_
                refine sq_alloc Try.zeroValue85 rfl (fun b21 => ?_)
                refine sq_nil ?_
                refine sx_then ?_
                refine sc_seq ?_
                refine sc_seq ?_
                refine sc_region ?_
                refine qs (y_move RF) ?_
                refine qs (y_len Try.underlying71 RF) ?_
                refine qs (y_move RF) ?_
                refine sq_nil ?_
                refine sx_then ?_
                refine sc_block ?_
                refine sc_loop (σ := Nat)
                  (fun s_ => [(1, .pointer (some ⟨b1, 0, none⟩)), (5, .int .i64 (manyS z)), (67, .slice (some ⟨b67, 0, none⟩) 2 2), (68, .int .i64 2), (69, .int .i64 i), (9, .pointer (some ⟨b9, 0, none⟩)), (12, .slice qm.1 (metL z l).length qm.2), (13, .int .i64 ((z.pieces.length : Nat) : Int)), (154, .slice a z.pieces.length c), (155, .int .i64 (z.pieces.length : Nat)), (156, .int .i64 p), (19, .int .i64 p), (20, .pointer (some ⟨b20, 0, none⟩)), (21, .pointer (some ⟨b21, 0, none⟩)), (161, .slice qm.1 (metL z l).length qm.2), (162, .int .i64 ((metL z l).length : Nat)), (163, .int .i64 s_)])
                  (fun s_ => [.blk b21 (.cells (jA (jcN ((metL z l).take (s_)) p)).toArray 85 (0, 0)), .blk b20 (.cells (pcRow (z.pieces.getD p pc0)).toArray 84 (0, 0)), .own (.slice ap (cutT z l).piece.length cpp) 3 1 (cutT z l).piece.length ((cutT z l).piece.flatMap iRow), .blk b9 (.cells #[.int .i64 z.wide, .int .i64 z.high, .slice ap (cutT z l).piece.length cpp] 24 (0, 0)), .reg lo18 wr18, .blk b67 (.cells #[.slice q.1.1 ((solL z).getD 0 []).length q.1.2, .slice q.2.1 ((solL z).getD 1 []).length q.2.2] 64 (0, 0)), .blk b1 (.cells (pzRow z a c).toArray 62 (0, 0)), .reg lo2 wr2, .reg 0 w])
                  (fun s_ => s_ ≤ (metL z l).length)
                  (fun s_ => (metL z l).length - s_)
                  (0) ?_ SU SR ?_
                · exact Nat.zero_le _
                rintro m hm
                refine sc_seq ?_
                refine sc_region ?_
                refine qs (y_lss RF RF) ?_
                refine sq_nil ?_
                refine sx_then ?_
                refine sc_seq ?_
                refine scp (fun hc8 => ?_) (fun hc8 => ?_)
                ·
                  have hm' : m < (metL z l).length := by omega
                  obtain ⟨x, hxe⟩ : ∃ x, (metL z l).getD m (0, 0, 0, 0) = x := ⟨_, rfl⟩
                  have hx12 := met_mem hF hS (x := x) (by rw [← hxe]; exact List.mem_of_getElem? (get_of_lt _ hm'))
                  have hsx := (hqm.get (0, 0, 0, 0) hm').1
                  have hcx := (hqm.get (0, 0, 0, 0) hm').2
                  rw [hxe] at hcx
                  refine sc_skip ?_
                  refine sx_then ?_
                  refine sc_seq ?_
                  refine sc_block ?_
                  refine sc_seq ?_
                  refine sc_region ?_
                  refine qs IA71 ?_
                  refine qs (by first | exact y_load_ca Try.underlying87 rfl Try.sizeOf87 RF MM hcx rfl | exact LD87) ?_
                  refine sq_alloc Try.zeroValue87 rfl (fun b23 => ?_)
                  refine sq_store_all (vs := jRow x) Try.sizeOf87 RF RF rfl RM rfl rfl ?_
                  refine sq_nil ?_
                  refine sx_then ?_
                  refine sc_seq ?_
                  refine sc_seq ?_
                  refine sc_region ?_
                  refine qs FA87_3 ?_
                  refine qs LD3 ?_
                  refine qs (y_move RF) ?_
                  refine qs (y_eql RF RF) ?_
                  refine sq_nil ?_
                  refine sx_then ?_
                  refine scp (fun hc9 => ?_) (fun hc9 => ?_)
                  ·
                    refine sc_region ?_
                    refine qs FA87_3 ?_
                    refine qs LD3 ?_
                    refine qs (y_ia_arr (i := x.2.2.1) Try.underlying85 Try.sizeOf3 RF RF (by omega)) ?_
                    refine qs (by first | exact y_load_blk Try.underlying3 rfl RF MM (jA_at (show x.2.2.1 < 9 by omega)) | exact LD3) ?_
                    refine qs (y_add RF RF (by have := jc_le ((metL z l).take m) p x.2.2.1; have := List.length_take_le m (metL z l); omega)) ?_
                    refine qs (y_ia_arr (i := x.2.2.1) Try.underlying85 Try.sizeOf3 RF RF (by omega)) ?_
                    refine sq_store_to (cs' := (jA (jcN ((metL z l).take (m + 1)) p)).toArray) Try.sizeOf3 RF RF rfl RM (by rw [jA_size]; omega) (jA_join1 hm' hxe hx12.1 (by omega)) ?_
                    refine sq_nil ?_
                    refine sx_then ?_
                    refine sc_seq ?_
                    refine sc_region ?_
                    refine qs FA87_3 ?_
                    refine qs LD3 ?_
                    refine qs (y_move RF) ?_
                    refine qs (y_eql RF RF) ?_
                    refine sq_nil ?_
                    refine sx_then ?_
                    refine scp (fun hc10 => ?_) (fun hc10 => ?_)
                    ·
                      omega
                    ·
                      refine sc_skip ?_
                      refine sx_blk ?_
                      refine sx_then ?_
                      refine sc_region ?_
                      refine qs (y_add RF RF (by omega)) ?_
                      refine qs (y_move RF) ?_
                      refine sq_nil ?_
                      refine sx_round (m + 1) ?_ ?_ SU SR
                      · omega
                      · omega
                  ·
                    refine sc_skip ?_
                    refine sx_then ?_
                    refine sc_seq ?_
                    refine sc_region ?_
                    refine qs FA87_3 ?_
                    refine qs LD3 ?_
                    refine qs (y_move RF) ?_
                    refine qs (y_eql RF RF) ?_
                    refine sq_nil ?_
                    refine sx_then ?_
                    refine scp (fun hc10 => ?_) (fun hc10 => ?_)
                    ·
                      refine sc_region ?_
                      refine qs FA87_3 ?_
                      refine qs LD3 ?_
                      refine qs (y_ia_arr (i := x.1) Try.underlying85 Try.sizeOf3 RF RF (by omega)) ?_
                      refine qs (by first | exact y_load_blk Try.underlying3 rfl RF MM (jA_at (show x.1 < 9 by omega)) | exact LD3) ?_
                      refine qs (y_add RF RF (by have := jc_le ((metL z l).take m) p x.1; have := List.length_take_le m (metL z l); omega)) ?_
                      refine qs (y_ia_arr (i := x.1) Try.underlying85 Try.sizeOf3 RF RF (by omega)) ?_
                      refine sq_store_to (cs' := (jA (jcN ((metL z l).take (m + 1)) p)).toArray) Try.sizeOf3 RF RF rfl RM (by rw [jA_size]; omega) (jA_join2 hm' hxe hx12.1 (by omega)) ?_
                      refine sq_nil ?_
                      refine sx_blk ?_
                      refine sx_then ?_
                      refine sc_region ?_
                      refine qs (y_add RF RF (by omega)) ?_
                      refine qs (y_move RF) ?_
                      refine sq_nil ?_
                      refine sx_round (m + 1) ?_ ?_ SU SR
                      · omega
                      · omega
                    ·
                      refine sc_skip ?_
                      refine sx_blk ?_
                      refine sx_then ?_
                      refine sc_region ?_
                      refine qs (y_add RF RF (by omega)) ?_
                      refine qs (y_move RF) ?_
                      refine sq_nil ?_
                      rw [jA_join0 hm' hxe (by omega) (by omega)]
                      refine sx_round (m + 1) ?_ ?_ SU SR
                      · omega
                      · omega
                ·
                  have hmn : m = (metL z l).length := by omega
                  subst hmn
                  rw [List.take_of_length_le (Nat.le_refl _)]
                  refine sc_exit ?_
                  refine sx_then_exit ?_
                  refine sx_round_exit ?_
                  refine sx_blk_hit ?_
                  refine sx_then ?_
                  refine sc_seq ?_
                  refine sc_region ?_
                  refine qs (y_assign RF) ?_
                  refine sq_nil ?_
                  refine sx_then ?_
                  refine sc_seq ?_
                  refine sc_seq ?_
                  refine sc_region ?_
                  refine qs FA84_82 ?_
                  refine qs (by first | exact y_load_all (vs := pcRow (z.pieces.getD p pc0)) Try.underlying82 rfl Try.sizeOf82 RF MM rfl | exact LD82) ?_
                  refine qs (y_move RF) ?_
                  refine sq_nil ?_
                  refine sx_then ?_
                  refine sc_block ?_
                  refine sc_loop (σ := Nat)
                    (fun s_ => [(1, .pointer (some ⟨b1, 0, none⟩)), (5, .int .i64 (manyS z)), (67, .slice (some ⟨b67, 0, none⟩) 2 2), (68, .int .i64 2), (69, .int .i64 i), (9, .pointer (some ⟨b9, 0, none⟩)), (12, .slice qm.1 (metL z l).length qm.2), (13, .int .i64 ((z.pieces.length : Nat) : Int)), (154, .slice a z.pieces.length c), (155, .int .i64 (z.pieces.length : Nat)), (156, .int .i64 p), (19, .int .i64 p), (20, .pointer (some ⟨b20, 0, none⟩)), (21, .pointer (some ⟨b21, 0, none⟩)), (24, .int .i64 ((flK z p s_ : Nat) : Int)), (189, .agg (pcRow (z.pieces.getD p pc0)).toArray), (190, .int .i64 s_)])
                    (fun s_ => [.blk b21 (.cells (jA (jcN (metL z l) p)).toArray 85 (0, 0)), .blk b20 (.cells (pcRow (z.pieces.getD p pc0)).toArray 84 (0, 0)), .own (.slice ap (cutT z l).piece.length cpp) 3 1 (cutT z l).piece.length ((cutT z l).piece.flatMap iRow), .blk b9 (.cells #[.int .i64 z.wide, .int .i64 z.high, .slice ap (cutT z l).piece.length cpp] 24 (0, 0)), .reg lo18 wr18, .blk b67 (.cells #[.slice q.1.1 ((solL z).getD 0 []).length q.1.2, .slice q.2.1 ((solL z).getD 1 []).length q.2.2] 64 (0, 0)), .blk b1 (.cells (pzRow z a c).toArray 62 (0, 0)), .reg lo2 wr2, .reg 0 w])
                    (fun s_ => s_ ≤ 4)
                    (fun s_ => 4 - s_)
                    (0) ?_ SU SR ?_
                  · exact Nat.zero_le _
                  rintro e he
                  refine sc_seq ?_
                  refine sc_region ?_
                  refine qs (y_lss RF RF) ?_
                  refine sq_nil ?_
                  refine sx_then ?_
                  refine sc_seq ?_
                  refine scp (fun hc11 => ?_) (fun hc11 => ?_)
                  ·
                    have he' : e < 4 := by omega
                    refine sc_skip ?_
                    refine sx_then ?_
                    refine sc_seq ?_
                    refine sc_block ?_
                    refine sc_seq ?_
                    refine sc_region ?_
                    refine qs (y_indexA (sz := 7) (i := e) Try.underlying82 Try.sizeOf81 Try.underlying81 rfl RF RF he' (pc_ext he')) ?_
                    refine sq_alloc Try.zeroValue81 rfl (fun b26 => ?_)
                    refine sq_store_all (vs := egRow ((z.pieces.getD p pc0).ed e)) Try.sizeOf81 RF RF rfl RM rfl rfl ?_
                    refine sq_nil ?_
                    refine sx_then ?_
                    refine sc_seq ?_
                    refine sc_region ?_
                    refine qs FA81_3 ?_
                    refine qs LD3 ?_
                    refine qs (y_eql RF RF) ?_
                    refine sq_nil ?_
                    refine sx_then ?_
                    refine scp (fun hc12 => ?_) (fun hc12 => ?_)
                    ·
                      have hfk : flK z p (e + 1) = flK z p e + 1 := by show flK z p e + b2n ((edAt z (p, e)).kind = 0) = _; unfold b2n; rw [if_pos (show (edAt z (p, e)).kind = 0 from hc12)]
                      refine sc_region ?_
                      refine qs (y_move RF) ?_
                      refine qs (y_add RF RF (by have := flK_le z p e; omega)) ?_
                      refine qs (y_assign RF) ?_
                      refine sq_nil ?_
                      refine sx_blk ?_
                      refine sx_then ?_
                      refine sc_region ?_
                      refine qs (y_add RF RF (by omega)) ?_
                      refine qs (y_move RF) ?_
                      refine sq_nil ?_
                      refine sx_round (e + 1) ?_ ?_ SU SR
                      · omega
                      · omega
                    ·
                      have hfk : flK z p (e + 1) = flK z p e := by show flK z p e + b2n ((edAt z (p, e)).kind = 0) = _; unfold b2n; rw [if_neg (show ¬ (edAt z (p, e)).kind = 0 from hc12)]; rfl
                      refine sc_skip ?_
                      refine sx_blk ?_
                      refine sx_then ?_
                      refine sc_region ?_
                      refine qs (y_add RF RF (by omega)) ?_
                      refine qs (y_move RF) ?_
                      refine sq_nil ?_
                      refine sx_round (e + 1) ?_ ?_ SU SR
                      · omega
                      · omega
                  ·
                    have he4 : e = 4 := by omega
                    subst he4
                    refine sc_exit ?_
                    refine sx_then_exit ?_
                    refine sx_round_exit ?_
                    refine sx_blk_hit ?_
                    refine sx_then ?_
                    refine sc_seq ?_
                    refine sc_region ?_
                    refine qs LD24 ?_
                    refine qs (y_move RF) ?_
                    refine sq_call_new (first := []) (caps := []) (Z := Option Addr × Nat) (fun y => .tuple #[.slice y.1 (sdN (cutT z l) (p : Int) (nP (cutT z l) + 1)).length y.2, .int .i64 0]) (fun lo w' y => RowsA sdRow 2 lo w' y.1 (sdN (cutT z l) (p : Int) (nP (cutT z l) + 1))) RF Try.call9 (EvL.cons RF (EvL.cons RF EvL.nil)) (fun w1 hw1 => sides9q w1 (cutT z l) ap cpp (own_rowsI hw1 (l := (cutT z l).piece) MM rfl (by omega)) (p : Int) ⟨hD.ok, by omega, by rw [hnP]; omega⟩) rfl (fun lo43 wr43 ys hys => ?_)
                    rw [hnP] at hys
                    rw [hnP]
                    have hnd := sdN_nd (cutT z l) (p : Int) (z.pieces.length + 1)
                    have hsa := fun m hm => sd_at hF hS hp' (m := m) hm
                    have hdn := sd_done hF hS hp'
                    have hfl := sd_flat hF hS hp'
                    have hsl := sdN_le (cutT z l) (p : Int) (z.pieces.length + 1)
                    obtain ⟨sd, hsd⟩ : ∃ sd, sd = sdN (cutT z l) (p : Int) (z.pieces.length + 1) := ⟨_, rfl⟩
                    rw [← hsd] at hys hnd hsa hdn hfl hsl
                    rw [← hsd]
                    refine qs (y_move RF) ?_
                    refine qs (y_extract RF RF) ?_
                    refine qs (y_extract RF RF) ?_
                    refine qs (y_assign RF) ?_
                    refine qs (y_assign RF) ?_
                    refine sq_nil ?_
                    refine sx_then ?_
                    refine sc_seq ?_
                    refine sc_seq ?_
                    refine sc_region ?_
                    refine qs (y_move RF) ?_
                    refine qs (y_neq RF RF) ?_
                    refine sq_nil ?_
                    refine sx_then ?_
                    refine sc_f (lk_bool rfl (rfl)) ?_
                    refine sc_skip ?_
                    refine sx_then ?_
                    refine sc_seq ?_
                    refine sc_seq ?_
                    refine sc_region ?_
                    refine qs (y_move RF) ?_
                    refine qs (y_len Try.underlying33 RF) ?_
                    refine qs (y_move RF) ?_
                    refine sq_nil ?_
                    refine sx_then ?_
                    refine sc_block ?_
                    have hz0 := flSd_0 (sd := sd) (F := flK z p 4)
                    rw [show jA (jcN (metL z l) p) = jA (fSd sd (metL z l) p 0) from jA_congr fun i _ => (fSd_0 i).symm]
                    refine sc_loop (σ := Nat)
                      (fun s_ => [(1, .pointer (some ⟨b1, 0, none⟩)), (5, .int .i64 (manyS z)), (67, .slice (some ⟨b67, 0, none⟩) 2 2), (68, .int .i64 2), (69, .int .i64 i), (9, .pointer (some ⟨b9, 0, none⟩)), (12, .slice qm.1 (metL z l).length qm.2), (13, .int .i64 ((z.pieces.length : Nat) : Int)), (154, .slice a z.pieces.length c), (155, .int .i64 (z.pieces.length : Nat)), (156, .int .i64 p), (19, .int .i64 p), (20, .pointer (some ⟨b20, 0, none⟩)), (21, .pointer (some ⟨b21, 0, none⟩)), (24, .int .i64 ((flSd sd (flK z p 4) s_ : Nat) : Int)), (207, .slice ys.1 sd.length ys.2), (208, .int .i64 (sd.length : Nat)), (209, .int .i64 s_)])
                      (fun s_ => [.blk b21 (.cells (jA (fSd sd (metL z l) p s_)).toArray 85 (0, 0)), .blk b20 (.cells (pcRow (z.pieces.getD p pc0)).toArray 84 (0, 0)), .reg lo43 wr43, .own (.slice ap (cutT z l).piece.length cpp) 3 1 (cutT z l).piece.length ((cutT z l).piece.flatMap iRow), .blk b9 (.cells #[.int .i64 z.wide, .int .i64 z.high, .slice ap (cutT z l).piece.length cpp] 24 (0, 0)), .reg lo18 wr18, .blk b67 (.cells #[.slice q.1.1 ((solL z).getD 0 []).length q.1.2, .slice q.2.1 ((solL z).getD 1 []).length q.2.2] 64 (0, 0)), .blk b1 (.cells (pzRow z a c).toArray 62 (0, 0)), .reg lo2 wr2, .reg 0 w])
                      (fun s_ => s_ ≤ sd.length)
                      (fun s_ => sd.length - s_)
                      (0) ?_ SU SR ?_
                    · exact Nat.zero_le _
                    rintro m hm
                    refine sc_seq ?_
                    refine sc_region ?_
                    refine qs (y_lss RF RF) ?_
                    refine sq_nil ?_
                    refine sx_then ?_
                    refine sc_seq ?_
                    refine scp (fun hc14 => ?_) (fun hc14 => ?_)
                    ·
                      have hm' : m < sd.length := by omega
                      obtain ⟨x, hxe⟩ : ∃ x, sd.getD m (0, 0) = x := ⟨_, rfl⟩
                      have hse := (hys.get (0, 0) hm').1
                      have hce := (hys.get (0, 0) hm').2
                      rw [hxe] at hce
                      have hxa := hsa m hm'
                      rw [hxe] at hxa
                      refine sc_skip ?_
                      refine sx_then ?_
                      refine sc_seq ?_
                      refine sc_block ?_
                      refine sc_seq ?_
                      refine sc_region ?_
                      refine qs IA33 ?_
                      refine qs (by first | exact y_load_ca Try.underlying42 rfl Try.sizeOf42 RF MM hce rfl | exact LD42) ?_
                      refine sq_alloc Try.zeroValue42 rfl (fun b30 => ?_)
                      refine sq_store_all (vs := sdRow x) Try.sizeOf42 RF RF rfl RM rfl rfl ?_
                      refine sq_nil ?_
                      refine sx_then ?_
                      refine sc_seq ?_
                      refine sc_region ?_
                      refine qs FA42_3 ?_
                      refine qs LD3 ?_
                      refine qs (y_eql RF RF) ?_
                      refine sq_nil ?_
                      refine sx_then ?_
                      refine scp (fun hc15 => ?_) (fun hc15 => ?_)
                      ·
                        have hx2 := hxa.2.1 hc15
                        have hf1 := flSd_at (F := flK z p 4) hnd hm' (by rw [hxe]; exact hc15)
                        rw [show jA (fSd sd (metL z l) p m) = jA (fSd sd (metL z l) p (m + 1)) from jA_congr fun i _ => (fSd_neg hm' (by rw [hxe]; exact hc15) i).symm]
                        refine sc_region ?_
                        refine qs (y_move RF) ?_
                        refine qs FA42_3 ?_
                        refine qs LD3 ?_
                        refine qs (y_sub RF RF (by have := flK_le z p 4; omega)) ?_
                        refine qs (y_assign RF) ?_
                        refine sq_nil ?_
                        refine sx_blk ?_
                        refine sx_then ?_
                        refine sc_region ?_
                        refine qs (y_add RF RF (by omega)) ?_
                        refine qs (y_move RF) ?_
                        refine sq_nil ?_
                        refine sx_round (m + 1) ?_ ?_ SU SR
                        · omega
                        · omega
                      ·
                        obtain ⟨k, hxk1⟩ : ∃ k : Nat, x.1 = (k : Int) := ⟨x.1.toNat, by omega⟩
                        have hxk := hxa.2.2 k hxk1
                        have hxk2 : (sd.getD m (0, 0)).1 = (k : Int) := by rw [hxe]; exact hxk1
                        have hfk := fSd_at (js := metL z l) (p := p) hnd hm' hxk2
                        have hf1 := flSd_ne (F := flK z p 4) hm' (by rw [hxe]; exact hc15)
                        refine sc_seq ?_
                        refine sc_draw rfl (by kernel_rfl) (by kernel_rfl) ?_
                        refine qq_y (OpY.s FA42_3) rfl ?_
                        refine qq_y (OpY.s LD3) rfl ?_
                        refine qq_y (OpY.s (y_lss RF RF)) rfl ?_
                        refine qq_y (OpY.s (y_move RF)) rfl ?_
                        refine qq_known (tt := 223) (b' := false) RF (decide_eq_false (by omega)) ?_
                        refine qq_gt RF RF (OpY.s FA42_3) rfl ?_
                        refine qq_gt RF RF (OpY.s LD3) rfl ?_
                        refine qq_gt RF RF (OpY.s (y_move RF)) rfl ?_
                        refine qq_gt RF RF (OpY.s (y_geq RF RF)) rfl ?_
                        refine qq_y (OpY.s (y_pick_f RF RF)) rfl ?_
                        refine qq_y (OpY.s (y_move RF)) rfl ?_
                        refine qq_known (tt := 229) (b' := false) RF (decide_eq_false (by omega)) ?_
                        refine qq_gt RF RF (OpY.s FA42_3) rfl ?_
                        refine qq_gt RF RF (OpY.s LD3) rfl ?_
                        refine qq_gt RF RF (OpY.s FA42_3) rfl ?_
                        refine qq_gt RF RF (OpY.s LD3) rfl ?_
                        refine qq_gt RF RF (OpY.s (y_ia_arr (i := k) Try.underlying85 Try.sizeOf3 RF (ev_int RF hxk1) (by omega))) rfl ?_
                        refine qq_gt RF RF (OpY.s (by first | exact y_load_blk Try.underlying3 rfl RF MM (jA_at (show k < 9 by omega)) | exact LD3)) rfl ?_
                        refine qq_gt RF RF (OpY.s (y_neq RF RF)) rfl ?_
                        refine qq_y (OpY.s (y_pick_f RF RF)) rfl ?_
                        refine qq_nil ?_
                        refine sx_then ?_
                        refine sc_f (lk_bool rfl (by rw [decide_eq_true (by rw [hxk, hfk])]; rfl)) ?_
                        refine sc_region ?_
                        refine qs FA42_3 ?_
                        refine qs LD3 ?_
                        refine qs (y_ia_arr (i := k) Try.underlying85 Try.sizeOf3 RF (ev_int RF hxk1) (by omega)) ?_
                        refine sq_store_to (cs' := (jA (fSd sd (metL z l) p (m + 1))).toArray) Try.sizeOf3 RF RF rfl RM (by rw [jA_size]; omega) ((jA_set (v := 0)).trans (by congr 1; exact jA_congr fun i _ => (fSd_set hm' hxk2 i).symm)) ?_
                        refine sq_nil ?_
                        refine sx_blk ?_
                        refine sx_then ?_
                        refine sc_region ?_
                        refine qs (y_add RF RF (by omega)) ?_
                        refine qs (y_move RF) ?_
                        refine sq_nil ?_
                        refine sx_round (m + 1) ?_ ?_ SU SR
                        · omega
                        · omega
                    ·
                      have hmn : m = sd.length := by omega
                      subst hmn
                      refine sc_exit ?_
                      refine sx_then_exit ?_
                      refine sx_round_exit ?_
                      refine sx_blk_hit ?_
                      refine sx_then ?_
                      refine sc_seq ?_
                      refine sc_region ?_
                      refine qs (y_move RF) ?_
                      refine qs (y_neq RF RF) ?_
                      refine qs (y_move RF) ?_
                      refine sq_known (tt := 244) (b' := false) RF (by rw [decide_eq_true (by rw [hfl]; rfl)]; rfl) ?_
                      refine qg (by first | exact y_load_all (vs := jA (fSd sd (metL z l) p sd.length)) Try.underlying85 rfl Try.sizeOf85 RF MM rfl | exact LD85) ?_
                      rw [jA_zero hdn]
                      refine qg (y_build_arr (cells := z9) Try.underlying85 Try.zeroValue85 Try.sizeOf3 EvP.nil (by kernel_rfl)) ?_
                      refine qg (y_neqs (by kernel_rfl) RF RF neq85) ?_
                      refine qs (y_pick_f RF RF) ?_
                      refine sq_nil ?_
                      refine sx_then ?_
                      refine sc_f (lk_bool rfl (rfl)) ?_
                      refine sc_skip ?_
                      refine sx_blk ?_
                      refine sx_then ?_
                      refine sc_region ?_
                      refine qs (y_add RF RF (by omega)) ?_
                      refine qs (y_move RF) ?_
                      refine sq_nil ?_
                      refine sx_round (p + 1) ?_ ?_ SU SR
                      · omega
                      · omega
              ·
                refine sc_exit ?_
                refine sx_then_exit ?_
                refine sx_round_exit ?_
                refine sx_blk_hit ?_
                refine sx_blk ?_
                refine sx_then ?_
                refine sc_region ?_
                refine qs (y_add RF RF (by omega)) ?_
                refine qs (y_move RF) ?_
                refine sq_nil ?_
                refine sx_round (i + 1) ?_ ?_ SU SR
                · omega
                · omega
        ·
          refine sc_exit ?_
          refine sx_then_exit ?_
          refine sx_round_exit ?_
          refine sx_blk_hit ?_
          refine sx_then ?_
          refine sc_seq ?_
          refine sc_region ?_
          refine qy (yc Try.call15 E0 (fun w1 _ => awake15 w1)) ?_
          refine qs (y_assign RF) ?_
          refine sq_nil ?_
          refine sx_then ?_
          refine sc_ret ?_
          refine sx_ret1 (.inl rfl) rfl Try.results4 RF ?_
          intro w' hw'
          exact ⟨rfl, hw'.below MM⟩
end Go.Proofs.Ytfceajkofpafpaa
