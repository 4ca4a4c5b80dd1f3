/- The walk of all solutions: the recursion, whoever ranges over them. -/
import Derived.Test.YtfceajkofpafpaaFW8
namespace Go.Proofs.Ytfceajkofpafpaa
open Go Go.Eng Go.RowKit Go.Proofs
open Go.Proofs.Ytfceajkofpafpaa.Sc (iRow spRow sp0 Sp spB plusV getD_of get_of_lt any_range_get all_not_any all_getD)
set_option maxRecDepth 100000
/-- who ranges over all solutions: what he holds, and what is so after some of them -/
structure UsrS (w0 : World) (l : Nat) (lp : Loop) (z : Pz) where
  Z : Type
  UR : Z → List Res
  Inv : List (List Ly) → Z → Prop
  Stp : List (List Ly) → Z → Prop
  loop : ∀ ds y, Inv ds y → Res.blk l (.loop lp) ∈ UR y
  one : lp.params.size = 1
  round : ∀ ds y h, Inv ds y → h.length = z.pieces.length → ∀ F w v, Hp w0 (.own v 70 2 h.length (h.flatMap lyRow) :: .reg 0 w0 :: (UR y ++ F)) w →
    RoundIn (FW none) 0 Try.prog l lp.fn ((lp.params.zip #[v]).foldl (fun tmps (t, a) => tmps.setIfInBounds t a) lp.tmps) lp.assign lp.body w fun e w' => ∃ y' go, (if go = true then Inv (ds ++ [h]) y' else Stp (ds ++ [h]) y') ∧ e = .returned (.bool go) ∧ Hp w0 (.own v 70 2 h.length (h.flatMap lyRow) :: .reg 0 w0 :: (UR y' ++ F)) w'
def usA (z : Pz) (l : List Ly) : Array Value := ((List.range z.pieces.length).map fun p => (.bool (usedB l p) : Value)).toArray
theorem us_size (z : Pz) (l : List Ly) : (usA z l).size = z.pieces.length := by simp [usA]
theorem us_at {z : Pz} {l : List Ly} {p : Nat} (h : p < z.pieces.length) : (usA z l)[0 + p * 1]? = some (.bool (usedB l p)) := by
  unfold usA
  rw [Nat.zero_add, Nat.mul_one, List.getElem?_toArray, List.getElem?_map, List.getElem?_range h]; rfl
theorem us_set {z : Pz} {l l' : List Ly} {p : Nat} {b : Bool} (hb : usedB l' p = b) (h : ∀ i, i ≠ p → usedB l' i = usedB l i) : (usA z l).setIfInBounds (0 + p * 1) (.bool b) = usA z l' := by
  unfold usA
  rw [Nat.zero_add, Nat.mul_one, List.setIfInBounds_toArray]
  congr 1
  apply List.ext_getElem?
  intro i
  rw [List.getElem?_set]
  rcases Nat.lt_or_ge i z.pieces.length with hi | hi
  · rw [List.getElem?_map, List.getElem?_map, List.getElem?_range hi]
    by_cases e : p = i
    · subst e
      rw [if_pos rfl, if_pos (by simpa using hi), ← hb]; rfl
    · rw [if_neg e]
      show some (Value.bool (usedB l i)) = some (Value.bool (usedB l' i))
      rw [h i (fun h => e h.symm)]
  · rw [List.getElem?_eq_none (l := (List.range z.pieces.length).map _) (by simpa using hi)]
    split
    · rw [if_neg (by simp; omega)]; exact (List.getElem?_eq_none (by simpa using hi)).symm
    · exact (List.getElem?_eq_none (by simpa using hi)).symm
theorem used_snoc (l : List Ly) (x : Ly) (i : Nat) : usedB (l ++ [x]) i = (usedB l i || decide (x.1 = i)) := by
  unfold usedB; rw [List.any_append]; simp
theorem us_nil (z : Pz) : (List.replicate z.pieces.length (.bool false : Value)).toArray = usA z [] := by
  unfold usA
  congr 1
  apply List.ext_getElem?
  intro i
  rcases Nat.lt_or_ge i z.pieces.length with hi | hi
  · rw [List.getElem?_replicate, if_pos hi, List.getElem?_map, List.getElem?_range hi]; rfl
  · rw [List.getElem?_eq_none (by simpa using hi), List.getElem?_eq_none (by simpa using hi)]
theorem lyflat_len (l : List Ly) : (l.flatMap lyRow).length = l.length * 2 := flat_len lyRow_len l
theorem pre_solP (z : Pz) (f : Nat) (l : List Ly) {m n : Nat} (h : m ≤ n) : solP z f l m <+: solP z f l n := by
  induction n with
  | zero => rw [Nat.le_zero.1 h]; exact List.prefix_refl _
  | succ n ih =>
    rcases Nat.lt_or_ge m (n + 1) with h1 | h1
    · rw [solP_succ]; exact (ih (by omega)).trans (List.prefix_append _ _)
    · rw [show m = n + 1 by omega]; exact List.prefix_refl _
theorem pre_solT (z : Pz) (f : Nat) (l : List Ly) (p : Nat) {m n : Nat} (h : m ≤ n) : solT z f l p m <+: solT z f l p n := by
  induction n with
  | zero => rw [Nat.le_zero.1 h]; exact List.prefix_refl _
  | succ n ih =>
    rcases Nat.lt_or_ge m (n + 1) with h1 | h1
    · rw [solT_succ]; exact (ih (by omega)).trans (List.prefix_append _ _)
    · rw [show m = n + 1 by omega]; exact List.prefix_refl _
theorem pre_app {α : Type} {a b c : List α} (h : b <+: c) : a ++ b <+: a ++ c := (List.prefix_append_right_inj a).2 h
theorem sol_pre {z : Pz} {f : Nat} {l : List Ly} {p t n : Nat} {e : List (List Ly)} (hp : p < n) (hu : usedB l p = false) (ht : t < trnV z p) (hm : mayV z l (p, t) = true) (he : e <+: solG z f (l ++ [(p, t)])) : solP z f l p ++ (solT z f l p t ++ e) <+: solP z f l n := by
  refine List.IsPrefix.trans ?_ (pre_solP z f l (show p + 1 ≤ n by omega))
  rw [solP_succ, if_neg (by rw [hu]; decide)]
  refine pre_app (List.IsPrefix.trans ?_ (pre_solT z f l p (show t + 1 ≤ trnV z p by omega)))
  rw [solT_succ, if_pos hm]
  exact pre_app he
theorem may87v (w : World) (z : Pz) (hF : PzF z) (a : Option Addr) (c bm : Nat) (v : Value) (pb : Addr) (hb : CA 0 w pb (bdRow z a c bm v)) (hp : RowsA pcRow 28 0 w a z.pieces) (l : List Ly) (hv : w.ownsRow 0 70 2 v l.length (l.flatMap lyRow)) (hok : ∀ x, x ∈ l → LyOk z x) (ms : List (((Nat × Nat) × (Nat × Nat)) × Int)) (hM : Mt z z.pieces.length 0 0 0 ms) (hmm : w.heap[bm]? = some (mvM sK iV ms)) (hln : l.length < z.pieces.length) (x : Ly) (hx : LyOk z x) : Calls Try.prog 87 #[.pointer (some pb), .agg (lyRow x).toArray] w fun e w' => e = .returned (.bool (mayV z l x)) ∧ Below w.heap.size w w' := by
  obtain ⟨al, cl, rfl, _, hr⟩ := own_rowsA (row := lyRow) lyRow_len hv rfl (by have := hF.n; omega)
  exact may87 w z hF a c bm _ pb hb hp al cl l rfl hr hok ms hM hmm hln x hx
theorem ei4 : EI Try.prog 4 (.bool false) 1 1 := by unfold EI; kernel_rfl
theorem ei70 : EI Try.prog 70 (.agg #[.int .i64 0, .int .i64 0]) 2 16 := by unfold EI; kernel_rfl
theorem flat_back {l : List Ly} {x : Ly} : ((l ++ [x]).flatMap lyRow).take (l.length * 2) = l.flatMap lyRow := by
  rw [List.flatMap_append, List.take_append_of_le_length (by rw [lyflat_len]; exact Nat.le_refl _), List.take_of_length_le (by rw [lyflat_len]; exact Nat.le_refl _)]
def FRS (w0 wr : World) (lo : Nat) (z : Pz) (a : Option Addr) (c bb bm : Nat) (ms : List (((Nat × Nat) × (Nat × Nat)) × Int)) (q1 q2 : Addr) (ll b3 b4 b5 bu : Nat) (v : Value) (l : List Ly) : List Res :=
  [.own v 70 2 l.length (l.flatMap lyRow), .blk bb (.cells (bdRow z a c bm v).toArray 179 (0, 0)), .blk bu (.cells (usA z l) 4 (0, 0)), .blk b4 (.cells #[.slice (some ⟨bu, 0, none⟩) z.pieces.length z.pieces.length] 176 (0, 0)), .blk b3 (.cells #[.func (.yield ll) #[] #[]] 175 (0, 0)), .blk b5 (.cells #[.func (.func 84) #[] [.pointer (some q1), .pointer (some ⟨b3, 0, none⟩), .pointer (some ⟨b4, 0, none⟩), .pointer (some q2), .pointer (some ⟨b5, 0, none⟩)].toArray] 25 (0, 0)), .blk bm (mvM sK iV ms), .reg lo wr, .reg 0 w0]
def FYS (wr : World) (lo : Nat) (z : Pz) (a : Option Addr) (c bb bm : Nat) (ms : List (((Nat × Nat) × (Nat × Nat)) × Int)) (q1 q2 : Addr) (ll b3 b4 b5 bu : Nat) (v : Value) (l : List Ly) : List Res :=
  [.blk bb (.cells (bdRow z a c bm v).toArray 179 (0, 0)), .blk bu (.cells (usA z l) 4 (0, 0)), .blk b4 (.cells #[.slice (some ⟨bu, 0, none⟩) z.pieces.length z.pieces.length] 176 (0, 0)), .blk b3 (.cells #[.func (.yield ll) #[] #[]] 175 (0, 0)), .blk b5 (.cells #[.func (.func 84) #[] [.pointer (some q1), .pointer (some ⟨b3, 0, none⟩), .pointer (some ⟨b4, 0, none⟩), .pointer (some q2), .pointer (some ⟨b5, 0, none⟩)].toArray] 25 (0, 0)), .blk bm (mvM sK iV ms), .reg lo wr]
theorem sol84 {w0 wr : World} {lo ll : Nat} {lp : Loop} {z : Pz} (hF : PzF z) {a : Option Addr} {c : Nat} (hp : RowsA pcRow 28 0 w0 a z.pieces) {bb bm : Nat} {ms : List (((Nat × Nat) × (Nat × Nat)) × Int)} (hM : Mt z z.pieces.length 0 0 0 ms) {q1 q2 : Addr} (hq1 : CA lo wr q1 [.pointer (some ⟨bb, 0, none⟩)]) (hq2 : CA lo wr q2 [.slice none 0 0]) (U : UsrS w0 ll lp z) (b3 b4 b5 bu : Nat) : ∀ (f : Nat) (l : List Ly), l.length + f = z.pieces.length → (∀ x, x ∈ l → LyOk z x) → ∀ ds yy v w, v.oneCell' = true → U.Inv ds yy → Hp w0 (FRS w0 wr lo z a c bb bm ms q1 q2 ll b3 b4 b5 bu v l ++ U.UR yy) w →
    Calls Try.prog 84 #[.pointer (some q1), .pointer (some ⟨b3, 0, none⟩), .pointer (some ⟨b4, 0, none⟩), .pointer (some q2), .pointer (some ⟨b5, 0, none⟩)] w fun e w' => ∃ y : U.Z × Bool × Value × List (List Ly), (if y.2.1 = true then U.Inv (ds ++ solG z f l) y.1 else U.Stp (ds ++ y.2.2.2) y.1 ∧ y.2.2.2 <+: solG z f l) ∧ e = .returned (.bool y.2.1) ∧ y.2.2.1.oneCell' = true ∧ Hp w0 (FRS w0 wr lo z a c bb bm ms q1 q2 ll b3 b4 b5 bu y.2.2.1 l ++ U.UR y.1) w' := by
  have hlen := hp.len
  have hn := hF.n
  intro f
  induction f with
  | zero =>
    intro l hlf hok ds yy v w hv1 hinv hw
    unfold FRS at hw
    simp only [List.cons_append, List.nil_append] at hw
    refine calls_of_SCr (args := [.pointer (some q1), .pointer (some ⟨b3, 0, none⟩), .pointer (some ⟨b4, 0, none⟩), .pointer (some q2), .pointer (some ⟨b5, 0, none⟩)]) Try.func84 rfl Try.ntmps84 rfl hw ?_
    simp only [argL, Nat.reduceAdd, Nat.zero_add]
    refine sc_seq ?_
    refine sc_region ?_
    refine qs (y_assign RF) ?_
    refine sq_nil ?_
    refine sx_then ?_
    refine sc_scope ?_
    refine sc_seq ?_
    refine sc_seq ?_
    refine sc_draw rfl (by kernel_rfl) (by kernel_rfl) ?_
    refine qq_y (OpY.s LD125) rfl ?_
    refine qq_y (OpY.s (y_nilCheck RF)) rfl ?_
    refine qq_y (OpY.s FA179_64) rfl ?_
    refine qq_y (OpY.s LD64) rfl ?_
    refine qq_y (OpY.s (y_len_own Try.underlying64 RF MM)) rfl ?_
    refine qq_y (OpY.s LD125) rfl ?_
    refine qq_y (OpY.s (y_nilCheck RF)) rfl ?_
    refine qq_y (OpY.s FA179_62) rfl ?_
    refine qq_y (OpY.s FA62_60) rfl ?_
    refine qq_y (OpY.s LD60) rfl ?_
    refine qq_y (OpY.s (y_len Try.underlying60 RF)) rfl ?_
    refine qq_y (OpY.s (y_eql RF RF)) rfl ?_
    refine qq_nil ?_
    refine sx_then ?_
    refine scp (fun hc0 => ?_) (fun hc0 => ?_)
    ·
      refine sc_seq ?_
      refine sc_drawX ([.blk bb (.cells (bdRow z a c bm v).toArray 179 (0, 0)), .blk b3 (.cells #[.func (.yield ll) #[] #[]] 175 (0, 0)), .reg lo wr, .reg 0 w0]) (by kernel_rfl) ?_
      refine xj_s 0 RF (by kernel_rfl) SR LD175 rfl ?_
      refine xj_s 1 RF (by kernel_rfl) SR LD125 rfl ?_
      refine xj_s 2 RF (by kernel_rfl) SR (y_nilCheck RF) rfl ?_
      refine xj_s 3 RF (by kernel_rfl) SR FA179_64 rfl ?_
      refine xj_s 4 RF (by kernel_rfl) SR LD64 rfl ?_
      refine xj_one 5 RF (by kernel_rfl) ?_
      refine sq_yield (rs' := FRS w0 wr lo z a c bb bm ms q1 q2 ll b3 b4 b5 bu v l ++ U.UR yy) (Z := U.Z × Bool) (fun y => .bool y.2) (fun y => FRS w0 wr lo z a c bb bm ms q1 q2 ll b3 b4 b5 bu v l ++ U.UR y.1) (fun y => if y.2 = true then U.Inv (ds ++ [l]) y.1 else U.Stp (ds ++ [l]) y.1) RF E1 (List.mem_append.2 (.inr (U.loop ds yy hinv))) (Sel.refl _) (by simpa using U.one.symm) (fun w1 hw1 => (U.round ds yy l hinv (by omega) (FYS wr lo z a c bb bm ms q1 q2 ll b3 b4 b5 bu v l) w1 v (hw1.sel (Sel.cons .here (Sel.cons (.there (.there (.there (.there (.there (.there (.there .here))))))) (Sel.comm (FYS wr lo z a c bb bm ms q1 q2 ll b3 b4 b5 bu v l) _))))).mono (fun e w' ⟨z', go, h1, h2, h3⟩ => ⟨(z', go), h1, h2, (h3.sel (Sel.cons .here (Sel.cons .here (Sel.comm _ (FYS wr lo z a c bb bm ms q1 q2 ll b3 b4 b5 bu v l))))).sel (Sel.cons .here (Sel.cons (.there .here) (Sel.cons (.there .here) (Sel.cons (.there .here) (Sel.cons (.there .here) (Sel.cons (.there .here) (Sel.cons (.there .here) (Sel.cons (.there .here) (Sel.cons .here (Sel.refl _))))))))))⟩)) rfl (fun y hy => ?_)
      unfold FRS
      simp only [List.cons_append, List.nil_append]
      refine sq_nil ?_
      refine sx_xp SR ?_
      refine xj_s 6 RF (by kernel_rfl) SR (y_assign RF) rfl ?_
      refine xj_done (by kernel_rfl) ?_
      refine sx_then ?_
      refine sc_ret ?_
      refine sx_then_ret ?_
      refine sx_scope_ret ?_
      refine sx_ret1 (.inl rfl) rfl Try.results84 RF ?_
      intro w' hw'
      refine ⟨(y.1, y.2, v, [l]), ?_, rfl, hv1, hw'⟩
      by_cases hgo : y.2 = true
      · rw [if_pos hgo] at hy ⊢; exact hy
      · rw [if_neg hgo] at hy ⊢; exact ⟨hy, List.prefix_refl _⟩
    ·
      omega
  | succ f ih =>
    intro l hlf hok ds yy v w hv1 hinv hw
    have hln : l.length < z.pieces.length := by omega
    rw [solG_succ]
    unfold FRS at hw
    simp only [List.cons_append, List.nil_append] at hw
    refine calls_of_SCr (args := [.pointer (some q1), .pointer (some ⟨b3, 0, none⟩), .pointer (some ⟨b4, 0, none⟩), .pointer (some q2), .pointer (some ⟨b5, 0, none⟩)]) Try.func84 rfl Try.ntmps84 rfl hw ?_
    simp only [argL, Nat.reduceAdd, Nat.zero_add]
    refine sc_seq ?_
    refine sc_region ?_
    refine qs (y_assign RF) ?_
    refine sq_nil ?_
    refine sx_then ?_
    refine sc_scope ?_
    refine sc_seq ?_
    refine sc_seq ?_
    refine sc_draw rfl (by kernel_rfl) (by kernel_rfl) ?_
    refine qq_y (OpY.s LD125) rfl ?_
    refine qq_y (OpY.s (y_nilCheck RF)) rfl ?_
    refine qq_y (OpY.s FA179_64) rfl ?_
    refine qq_y (OpY.s LD64) rfl ?_
    refine qq_y (OpY.s (y_len_own Try.underlying64 RF MM)) rfl ?_
    refine qq_y (OpY.s LD125) rfl ?_
    refine qq_y (OpY.s (y_nilCheck RF)) rfl ?_
    refine qq_y (OpY.s FA179_62) rfl ?_
    refine qq_y (OpY.s FA62_60) rfl ?_
    refine qq_y (OpY.s LD60) rfl ?_
    refine qq_y (OpY.s (y_len Try.underlying60 RF)) rfl ?_
    refine qq_y (OpY.s (y_eql RF RF)) rfl ?_
    refine qq_nil ?_
    refine sx_then ?_
    refine scp (fun hc0 => ?_) (fun hc0 => ?_)
    ·
      omega
    ·
      refine sc_skip ?_
      refine sx_then ?_
      refine sc_seq ?_
      refine sc_label ?_
      refine sx_then ?_
      refine sc_seq ?_
      refine sc_seq ?_
      refine sc_region ?_
      refine qs LD125 ?_
      refine qs (y_nilCheck RF) ?_
      refine qs FA179_62 ?_
      refine qs FA62_60 ?_
      refine qs LD60 ?_
      refine qs (y_len Try.underlying60 RF) ?_
      refine qs (y_move RF) ?_
      refine sq_nil ?_
      refine sx_then ?_
      refine sc_block ?_
      refine sc_loop (σ := Nat × Value × U.Z)
        (fun s => [(0, .pointer (some q1)), (1, .pointer (some ⟨b3, 0, none⟩)), (2, .pointer (some ⟨b4, 0, none⟩)), (3, .pointer (some q2)), (4, .pointer (some ⟨b5, 0, none⟩)), (32, .slice a z.pieces.length c), (33, .int .i64 z.pieces.length), (34, .int .i64 s.1)])
        (fun s => FRS w0 wr lo z a c bb bm ms q1 q2 ll b3 b4 b5 bu s.2.1 l ++ U.UR s.2.2)
        (fun s => s.1 ≤ z.pieces.length ∧ s.2.1.oneCell' = true ∧ U.Inv (ds ++ solP z f l s.1) s.2.2)
        (fun s => z.pieces.length - s.1)
        ((0, v, yy)) ?_ SU SR ?_
      · exact ⟨Nat.zero_le _, hv1, by simpa [solP] using hinv⟩
      rintro ⟨p, v, yy⟩ ⟨hpp, hv1, hinv⟩
      dsimp only at hpp hv1 hinv ⊢
      unfold FRS
      simp only [List.cons_append, List.nil_append]
      refine sc_seq ?_
      refine sc_region ?_
      refine qs (y_lss RF RF) ?_
      refine sq_nil ?_
      refine sx_then ?_
      refine sc_seq ?_
      refine scp (fun hc1 => ?_) (fun hc1 => ?_)
      ·
        have hp' : p < z.pieces.length := by omega
        refine sc_skip ?_
        refine sx_then ?_
        refine sc_seq ?_
        refine sc_block ?_
        refine sc_seq ?_
        refine sc_region ?_
        refine qs (y_move RF) ?_
        refine qs (y_assign RF) ?_
        refine sq_nil ?_
        refine sx_then ?_
        refine sc_seq ?_
        refine sc_seq ?_
        refine sc_region ?_
        refine qs LD176 ?_
        refine qs (y_move RF) ?_
        refine qs (y_ia_blk (i := p) Try.underlying176 Try.sizeOf4 RF RF hp') ?_
        refine qs (by first | exact y_load_blk Try.underlying4 rfl RF MM (us_at hp') | exact LD4) ?_
        refine sq_nil ?_
        refine sx_then ?_
        refine scp (fun hc2 => ?_) (fun hc2 => ?_)
        ·
          refine sc_exit ?_
          refine sx_then_exit ?_
          refine sx_blk_hit ?_
          refine sx_then ?_
          refine sc_region ?_
          refine qs (y_add RF RF (by omega)) ?_
          refine qs (y_move RF) ?_
          refine sq_nil ?_
          refine sx_round ((p + 1, v, yy)) ?_ ?_ SU SR
          · exact ⟨by dsimp only; omega, hv1, by rw [solP_succ, if_pos hc2, List.append_nil]; exact hinv⟩
          · dsimp only; omega
        ·
          have hun : usedB l p = false := hc2
          refine sc_skip ?_
          refine sx_then ?_
          refine sc_seq ?_
          refine sc_region ?_
          refine qs LD125 ?_
          refine qs (y_move RF) ?_
          refine qy (yc Try.call85 E2 (fun w1 hw1 => turns85 w1 z hF a c bm v ⟨bb, 0, none⟩ (CA.blk (vs := bdRow z a c bm v) hw1 MM) p)) ?_
          refine qs (y_move RF) ?_
          refine sq_nil ?_
          refine sx_then ?_
          refine sc_block ?_
          refine sc_loop (σ := Nat × Value × U.Z)
            (fun s => [(0, .pointer (some q1)), (1, .pointer (some ⟨b3, 0, none⟩)), (2, .pointer (some ⟨b4, 0, none⟩)), (3, .pointer (some q2)), (4, .pointer (some ⟨b5, 0, none⟩)), (32, .slice a z.pieces.length c), (33, .int .i64 z.pieces.length), (34, .int .i64 p), (6, .int .i64 p), (43, .int .i64 (trnV z p : Nat)), (44, .int .i64 s.1)])
            (fun s => FRS w0 wr lo z a c bb bm ms q1 q2 ll b3 b4 b5 bu s.2.1 l ++ U.UR s.2.2)
            (fun s => s.1 ≤ trnV z p ∧ s.2.1.oneCell' = true ∧ U.Inv (ds ++ (solP z f l p ++ solT z f l p s.1)) s.2.2)
            (fun s => trnV z p - s.1)
            ((0, v, yy)) ?_ SU SR ?_
          · exact ⟨Nat.zero_le _, hv1, by simpa [solT] using hinv⟩
          rintro ⟨t, v, yy⟩ ⟨htt, hv1, hinv⟩
          dsimp only at htt hv1 hinv ⊢
          unfold FRS
          simp only [List.cons_append, List.nil_append]
          refine sc_seq ?_
          refine sc_region ?_
          refine qs (y_lss RF RF) ?_
          refine sq_nil ?_
          refine sx_then ?_
          refine sc_seq ?_
          refine scp (fun hc3 => ?_) (fun hc3 => ?_)
          ·
            have ht' : t < trnV z p := by omega
            have htl := trn_le z p
            have hx : LyOk z (p, t) := ⟨hp', by show t < 4; omega⟩
            refine sc_skip ?_
            refine sx_then ?_
            refine sc_seq ?_
            refine sc_block ?_
            refine sc_seq ?_
            refine sc_region ?_
            refine qs (y_move RF) ?_
            refine qs (y_assign RF) ?_
            refine sq_nil ?_
            refine sx_then ?_
            refine sc_seq ?_
            refine sc_region ?_
            refine qs (y_move RF) ?_
            refine qs (y_move RF) ?_
            refine qs (y_build (cells := (lyRow (p, t)).toArray) bt70 (EvP.cons RF (EvP.cons RF EvP.nil)) (by kernel_rfl)) ?_
            refine sq_alloc Try.zeroValue70 rfl (fun b8 => ?_)
            refine sq_store_all (vs := lyRow (p, t)) Try.sizeOf70 RF RF rfl RM rfl rfl ?_
            refine sq_nil ?_
            refine sx_then ?_
            refine sc_seq ?_
            refine sc_seq ?_
            refine sc_drawR (by kernel_rfl) ?_
            refine xj_s 0 RF (by kernel_rfl) SR LD174 rfl ?_
            refine xj_s 1 RF (by kernel_rfl) SR LD125 rfl ?_
            refine xj_s 2 RF (by kernel_rfl) SR (y_nilCheck RF) rfl ?_
            refine xj_s 3 RF (by kernel_rfl) SR FA179_64 rfl ?_
            refine xj_s 4 RF (by kernel_rfl) SR LD64 rfl ?_
            refine xj_s 5 RF (by kernel_rfl) SR (y_len_own Try.underlying64 RF MM) rfl ?_
            refine xj_s 6 RF (by kernel_rfl) SR LD70 rfl ?_
            refine xj_one 7 RF (by kernel_rfl) ?_
            refine qy (yc Try.call86 E3 (fun w1 _ => allow86 w1 _ (p, t))) ?_
            refine sq_nil ?_
            refine sx_xp SR ?_
            refine xj_s 8 RF (by kernel_rfl) SR (y_not RF) rfl ?_
            refine xj_s 9 RF (by kernel_rfl) SR (y_move RF) rfl ?_
            refine xj_known (tt := 59) (b' := false) RF (rfl) ?_
            refine xj_gt 10 RF RF RF (by kernel_rfl) SR LD125 rfl ?_
            refine xj_gt 11 RF RF RF (by kernel_rfl) SR LD70 rfl ?_
            refine xj_one 12 RF (by kernel_rfl) ?_
            refine sq_gt RF RF (y_call (first := []) (caps := []) RF Try.call87 (EvL.cons RF (EvL.cons RF EvL.nil)) (fun w1 hw1 => may87v w1 z hF a c bm v ⟨bb, 0, none⟩ (CA.blk (vs := bdRow z a c bm v) hw1 MM) (hp.at hw1 MM) l (hw1.ok (Res.own v 70 2 l.length (l.flatMap lyRow)) MM) hok ms hM (hw1.ok (Res.blk bm (mvM sK iV ms)) MM) hln (p, t) hx)) rfl ?_
            refine sq_nil ?_
            refine sx_xp SR ?_
            refine xj_gt 13 RF RF RF (by kernel_rfl) SR (y_not RF) rfl ?_
            refine xj_s 14 RF (by kernel_rfl) SR (y_pick_f RF RF) rfl ?_
            refine xj_done (by kernel_rfl) ?_
            refine sx_then ?_
            refine scp (fun hc4 => ?_) (fun hc4 => ?_)
            ·
              refine sc_exit ?_
              refine sx_then_exit ?_
              refine sx_blk_hit ?_
              refine sx_then ?_
              refine sc_region ?_
              refine qs (y_add RF RF (by omega)) ?_
              refine qs (y_move RF) ?_
              refine sq_nil ?_
              refine sx_round ((t + 1, v, yy)) ?_ ?_ SU SR
              · exact ⟨by dsimp only; omega, hv1, by rw [solT_succ, if_neg (by simpa using hc4), List.append_nil]; exact hinv⟩
              · dsimp only; omega
            ·
              have hmay : mayV z l (p, t) = true := by simpa using hc4
              have hus1 : usedB (l ++ [(p, t)]) p = true := by rw [used_snoc, decide_eq_true (show (p, t).1 = p from rfl), Bool.or_true]
              have hus2 : ∀ i, i ≠ p → usedB (l ++ [(p, t)]) i = usedB l i := fun i hi => by rw [used_snoc, decide_eq_false (show ¬ (p, t).1 = i from fun h => hi h.symm), Bool.or_false]
              have hXl : (l ++ [(p, t)]).length = l.length + 1 := by simp
              refine sc_skip ?_
              refine sx_then ?_
              refine sc_seq ?_
              refine sc_region ?_
              refine qs LD176 ?_
              refine qs (y_move RF) ?_
              refine qs (y_ia_blk (i := p) Try.underlying176 Try.sizeOf4 RF RF hp') ?_
              refine sq_store Try.sizeOf4 RF RF rfl RM (by rw [us_size]; omega) ?_
              rw [us_set (l' := (l ++ [(p, t)])) hus1 hus2]
              refine sq_nil ?_
              refine sx_then ?_
              refine sc_seq ?_
              refine sc_drawX ([.reg lo wr, .blk bb (.cells (bdRow z a c bm v).toArray 179 (0, 0)), .blk b8 (.cells (lyRow (p, t)).toArray 70 (0, 0)), .reg 0 w0]) (by kernel_rfl) ?_
              refine xj_s 0 RF (by kernel_rfl) SR LD125 rfl ?_
              refine xj_s 1 RF (by kernel_rfl) SR LD125 rfl ?_
              refine xj_s 2 RF (by kernel_rfl) SR (y_nilCheck RF) rfl ?_
              refine xj_s 3 RF (by kernel_rfl) SR FA179_64 rfl ?_
              refine xj_s 4 RF (by kernel_rfl) SR LD64 rfl ?_
              refine xj_s 5 RF (by kernel_rfl) SR LD70 rfl ?_
              refine xj_one 6 RF (by kernel_rfl) ?_
              refine sq_bs Try.underlying64 ei70 (EvI.cons RF EvI.nil) (by first | (simp [Value.cells]; done) | (simp [Value.cells]; rfl) | (simp [Value.cells]; and_intros <;> rfl)) rfl rfl rfl (fun b74 => ?_)
              refine sq_nil ?_
              refine sx_xp SR ?_
              refine xj_one 7 RF (by kernel_rfl) ?_
              refine sq_append (news := lyRow (p, t)) Try.underlying64 ei70 rfl (by decide) RF RM RF rfl (fun _ hw => news_blk hw MM) (by simp [Value.oneCell', lyRow]) (by omega) rfl (fun v75 ho75 => ?_)
              refine sq_nil ?_
              refine sx_xp SR ?_
              rw [show l.flatMap lyRow ++ lyRow (p, t) = (l ++ [(p, t)]).flatMap lyRow from by simp, show l.length + 1 = (l ++ [(p, t)]).length from hXl.symm]
              refine xj_s 8 RF (by kernel_rfl) SR (y_nilCheck RF) rfl ?_
              refine xj_s 9 RF (by kernel_rfl) SR FA179_64 rfl ?_
              refine xj_one 10 RF (by kernel_rfl) ?_
              refine sq_store_to (cs' := (bdRow z a c bm v75).toArray) Try.sizeOf64 RF RF (by assumption) RM (Nat.le_of_ble_eq_true rfl) rfl ?_
              refine sq_nil ?_
              refine sx_xpl (by kernel_rfl) ?_
              refine xj_done (by kernel_rfl) ?_
              refine sx_then ?_
              refine sc_seq ?_
              refine sc_region ?_
              refine qs LD25 ?_
              refine sq_call (first := []) (caps := [.pointer (some q1), .pointer (some ⟨b3, 0, none⟩), .pointer (some ⟨b4, 0, none⟩), .pointer (some q2), .pointer (some ⟨b5, 0, none⟩)]) (Z := U.Z × Bool × Value × List (List Ly)) (fun y => .bool y.2.1) (fun y => FRS w0 wr lo z a c bb bm ms q1 q2 ll b3 b4 b5 bu y.2.2.1 (l ++ [(p, t)]) ++ U.UR y.1) (fun y => (if y.2.1 = true then U.Inv ((ds ++ (solP z f l p ++ solT z f l p t)) ++ solG z f (l ++ [(p, t)])) y.1 else U.Stp ((ds ++ (solP z f l p ++ solT z f l p t)) ++ y.2.2.2) y.1 ∧ y.2.2.2 <+: solG z f (l ++ [(p, t)])) ∧ y.2.2.1.oneCell' = true) RF Try.call84 EvL.nil (fun w1 hw1 => (ih (l ++ [(p, t)]) (by omega) (fun x hx' => (List.mem_append.1 hx').elim (hok x) (fun h => by rw [List.mem_singleton.1 h]; exact hx)) (ds ++ (solP z f l p ++ solT z f l p t)) yy v75 w1 ho75 hinv (by unfold FRS; exact hw1.sel SR)).mono (fun e w' ⟨y, h1, h2, h3, h4⟩ => ⟨y, ⟨h1, h3⟩, h2, h4⟩)) rfl (fun yz hyz => ?_)
              obtain ⟨y2, go, v2, e2⟩ := yz
              obtain ⟨hy, hv2⟩ := hyz
              dsimp only at hy hv2 ⊢
              unfold FRS
              simp only [List.cons_append, List.nil_append]
              refine qs (y_assign RF) ?_
              refine sq_nil ?_
              refine sx_then ?_
              refine sc_seq ?_
              refine sc_drawX ([.reg lo wr, .blk bb (.cells (bdRow z a c bm v2).toArray 179 (0, 0)), .reg 0 w0]) (by kernel_rfl) ?_
              refine xj_s 0 RF (by kernel_rfl) SR LD125 rfl ?_
              refine xj_s 1 RF (by kernel_rfl) SR LD125 rfl ?_
              refine xj_s 2 RF (by kernel_rfl) SR (y_nilCheck RF) rfl ?_
              refine xj_s 3 RF (by kernel_rfl) SR FA179_64 rfl ?_
              refine xj_s 4 RF (by kernel_rfl) SR LD64 rfl ?_
              refine xj_s 5 RF (by kernel_rfl) SR LD125 rfl ?_
              refine xj_s 6 RF (by kernel_rfl) SR (y_nilCheck RF) rfl ?_
              refine xj_s 7 RF (by kernel_rfl) SR FA179_64 rfl ?_
              refine xj_s 8 RF (by kernel_rfl) SR LD64 rfl ?_
              refine xj_one 9 RF (by kernel_rfl) ?_
              refine qs (y_len_own Try.underlying64 RF MM) ?_
              refine sq_nil ?_
              refine sx_xp SR ?_
              refine xj_s 10 RF (by kernel_rfl) SR (y_sub RF RF (by omega)) rfl ?_
              refine xj_one 11 RF (by kernel_rfl) ?_
              refine sq_slice_own (h := l.length) Try.underlying64 Try.sizeOf70 RF RM (lk_int rfl (by omega)) (by omega) rfl (fun v91 ho91 => ?_)
              rw [flat_back]
              refine sq_nil ?_
              refine sx_xp SR ?_
              refine xj_s 12 RF (by kernel_rfl) SR (y_nilCheck RF) rfl ?_
              refine xj_s 13 RF (by kernel_rfl) SR FA179_64 rfl ?_
              refine xj_one 14 RF (by kernel_rfl) ?_
              refine sq_store_to (cs' := (bdRow z a c bm v91).toArray) Try.sizeOf64 RF RF (by assumption) RM (Nat.le_of_ble_eq_true rfl) rfl ?_
              refine sq_nil ?_
              refine sx_xpl (by kernel_rfl) ?_
              refine xj_done (by kernel_rfl) ?_
              refine sx_then ?_
              refine sc_seq ?_
              refine sc_region ?_
              refine qs LD176 ?_
              refine qs (y_move RF) ?_
              refine qs (y_ia_blk (i := p) Try.underlying176 Try.sizeOf4 RF RF hp') ?_
              refine sq_store Try.sizeOf4 RF RF rfl RM (by rw [us_size]; omega) ?_
              rw [us_set (l' := l) hun (fun i hi => (hus2 i hi).symm)]
              refine sq_nil ?_
              refine sx_then ?_
              refine sc_seq ?_
              refine sc_region ?_
              refine qs (y_move RF) ?_
              refine qs (y_not RF) ?_
              refine sq_nil ?_
              refine sx_then ?_
              refine scp (fun hc5 => ?_) (fun hc5 => ?_)
              ·
                have hgo : go = false := by simpa using hc5
                subst hgo
                rw [if_neg (by decide)] at hy
                refine sc_seq ?_
                refine sc_region ?_
                refine qs (y_assign RF) ?_
                refine sq_nil ?_
                refine sx_then ?_
                refine sc_ret ?_
                refine sx_blk_ret ?_
                refine sx_then_ret ?_
                refine sx_round_ret ?_
                refine sx_blk_ret ?_
                refine sx_blk_ret ?_
                refine sx_then_ret ?_
                refine sx_round_ret ?_
                refine sx_blk_ret ?_
                refine sx_then_ret ?_
                refine sx_scope_ret ?_
                refine sx_ret1 (.inl rfl) rfl Try.results84 RF ?_
                intro w' hw'
                exact ⟨(y2, false, v91, solP z f l p ++ (solT z f l p t ++ e2)), by rw [if_neg (show ¬ false = true by decide)]; exact ⟨by rw [← List.append_assoc (solP z f l p), ← List.append_assoc ds]; exact hy.1, sol_pre hp' hun ht' hmay hy.2⟩, rfl, ho91, hw'.sel SR⟩
              ·
                have hgo : go = true := by simpa using hc5
                subst hgo
                rw [if_pos rfl] at hy
                refine sc_skip ?_
                refine sx_blk ?_
                refine sx_then ?_
                refine sc_region ?_
                refine qs (y_add RF RF (by omega)) ?_
                refine qs (y_move RF) ?_
                refine sq_nil ?_
                refine sx_round ((t + 1, v91, y2)) ?_ ?_ SU SR
                · exact ⟨by dsimp only; omega, ho91, by rw [solT_succ, if_pos hmay, ← List.append_assoc (solP z f l p), ← List.append_assoc ds]; exact hy⟩
                · dsimp only; omega
          ·
            refine sc_exit ?_
            refine sx_then_exit ?_
            refine sx_round_exit ?_
            refine sx_blk_hit ?_
            refine sx_blk ?_
            refine sx_then ?_
            refine sc_region ?_
            refine qs (y_add RF RF (by omega)) ?_
            refine qs (y_move RF) ?_
            refine sq_nil ?_
            refine sx_round ((p + 1, v, yy)) ?_ ?_ SU SR
            · have htn : t = trnV z p := by omega
              subst htn
              exact ⟨by dsimp only; omega, hv1, by rw [solP_succ, if_neg (by rw [hun]; decide)]; exact hinv⟩
            · dsimp only; omega
      ·
        refine sc_exit ?_
        refine sx_then_exit ?_
        refine sx_round_exit ?_
        refine sx_blk_hit ?_
        refine sx_then ?_
        refine sc_seq ?_
        refine sc_region ?_
        refine qs (y_assign RF) ?_
        refine sq_nil ?_
        refine sx_then ?_
        refine sc_ret ?_
        refine sx_scope_ret ?_
        refine sx_ret1 (.inl rfl) rfl Try.results84 RF ?_
        intro w' hw'
        have hpn : p = z.pieces.length := by omega
        subst hpn
        exact ⟨(yy, true, v, []), by rw [if_pos rfl]; exact hinv, rfl, hv1, hw'.sel SR⟩
/-- all solutions, handed to who ranges over them -/
theorem sol83 {w0 wr : World} {lo ll : Nat} {lp : Loop} {z : Pz} (hF : PzF z) {a : Option Addr} {c : Nat} (hp : RowsA pcRow 28 0 w0 a z.pieces) {bb bm : Nat} {ms : List (((Nat × Nat) × (Nat × Nat)) × Int)} (hM : Mt z z.pieces.length 0 0 0 ms) {q1 q2 : Addr} (hq1 : CA lo wr q1 [.pointer (some ⟨bb, 0, none⟩)]) (hq2 : CA lo wr q2 [.slice none 0 0]) (U : UsrS w0 ll lp z) (yy : U.Z) (hinv : U.Inv [] yy) (w : World) (hw : Hp w0 (.blk bb (.cells (bdRow z a c bm (.slice none 0 0)).toArray 179 (0, 0)) :: .blk bm (mvM sK iV ms) :: .reg lo wr :: .reg 0 w0 :: U.UR yy) w) :
    Calls Try.prog 83 #[.func (.yield ll) #[] #[], .pointer (some q1), .pointer (some q2)] w fun e w' => (∃ v, e = .returned v) ∧ ∃ y : U.Z × Bool × List (List Ly), (if y.2.1 = true then U.Inv (solL z) y.1 else U.Stp y.2.2 y.1 ∧ y.2.2 <+: solL z) ∧ Hp w0 (.reg lo wr :: .reg 0 w0 :: U.UR y.1) w' := by
  have hlen := hp.len
  have hn := hF.n
  refine calls_of_SCr (args := [.func (.yield ll) #[] #[], .pointer (some q1), .pointer (some q2)]) Try.func83 rfl Try.ntmps83 rfl hw ?_
  simp only [argL, Nat.reduceAdd, Nat.zero_add]
  refine sc_seq ?_
  refine sc_region ?_
  refine sq_box RF rfl (fun b3 => ?_)
  refine sq_nil ?_
  refine sx_then ?_
  refine sc_seq ?_
  refine sc_nil_own 70 2 ?_
  refine sc_region ?_
  refine qs LD125 ?_
  refine qs (y_nilCheck RF) ?_
  refine qs FA179_62 ?_
  refine qs FA62_60 ?_
  refine qs LD60 ?_
  refine qs (y_len Try.underlying60 RF) ?_
  refine sq_make (l := z.pieces.length) (c := z.pieces.length) Try.underlying176 ei4 RF RF (Nat.le_refl _) (by omega) (by omega) rfl (fun b12 => ?_)
  rw [show madeCells (Value.cells (.bool false)) (z.pieces.length * 1) = usA z [] from by rw [Nat.mul_one]; exact (madeCells_one _ _).trans (us_nil z)]
  refine sq_alloc Try.zeroValue176 rfl (fun b4 => ?_)
  refine sq_store Try.sizeOf176 RF RF (by first | rfl | assumption) RM (by first | exact Nat.le_of_ble_eq_true rfl | simp | omega) ?_
  refine sq_nil ?_
  refine sx_then ?_
  refine sc_seq ?_
  refine sc_region ?_
  refine sq_alloc Try.zeroValue25 rfl (fun b5 => ?_)
  refine sq_nil ?_
  refine sx_then ?_
  refine sc_seq ?_
  refine sc_region ?_
  refine qs (y_makeFunc EvL.nil (EvL.cons RF (EvL.cons RF (EvL.cons RF (EvL.cons RF (EvL.cons RF EvL.nil)))))) ?_
  refine sq_store Try.sizeOf25 RF RF (by first | rfl | assumption) RM (by first | exact Nat.le_of_ble_eq_true rfl | simp | omega) ?_
  refine sq_nil ?_
  refine sx_then ?_
  refine sc_region ?_
  refine qs LD25 ?_
  refine sq_call (first := []) (caps := [.pointer (some q1), .pointer (some ⟨b3, 0, none⟩), .pointer (some ⟨b4, 0, none⟩), .pointer (some q2), .pointer (some ⟨b5, 0, none⟩)]) (Z := U.Z × Bool × Value × List (List Ly)) (fun y => .bool y.2.1) (fun y => FRS w0 wr lo z a c bb bm ms q1 q2 ll b3 b4 b5 b12 y.2.2.1 [] ++ U.UR y.1) (fun y => if y.2.1 = true then U.Inv (solL z) y.1 else U.Stp y.2.2.2 y.1 ∧ y.2.2.2 <+: solL z) RF Try.call84 EvL.nil (fun w1 hw1 => (sol84 hF hp hM hq1 hq2 U b3 b4 b5 b12 z.pieces.length [] (by simp) (fun x hx => by cases hx) [] yy _ w1 rfl hinv (by unfold FRS; exact hw1.sel SR)).mono (fun e w' ⟨y, h1, h2, _, h4⟩ => ⟨y, h1, h2, h4⟩)) rfl (fun y hy => ?_)
  refine sq_nil ?_
  refine sx_ret0 (.inr rfl) rfl Try.results83 ?_
  intro w' hw'
  unfold FRS at hw'
  exact ⟨⟨_, rfl⟩, (y.1, y.2.1, y.2.2.2), hy, hw'.sel SR⟩
end Go.Proofs.Ytfceajkofpafpaa
