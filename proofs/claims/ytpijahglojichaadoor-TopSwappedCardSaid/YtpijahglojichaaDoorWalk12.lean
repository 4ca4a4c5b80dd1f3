/- The walk of Prices. -/
import Derived.Test.YtpijahglojichaaDoorWalk11
import Derived.Test.YtpijahglojichaaDoorLawC
namespace Go.Proofs.YtpijahglojichaaDoor
open Go Go.Eng Go.RowKit Go.Proofs
set_option maxRecDepth 100000
theorem bestM_F {m : Mt} (hm : MkF m) : BestF m (bestM m) := bestX_F hm
theorem flat_rep (n : Nat) : List.replicate n (Value.int .i64 0) = (List.replicate n (0 : Int)).flatMap iRow := by
  induction n with
  | zero => rfl
  | succ n ih => rw [List.replicate_succ, List.replicate_succ, List.flatMap_cons, ← ih]; rfl
theorem irep (n : Nat) : madeCells (Value.int .i64 0).cells (n * 1) = ((List.replicate n (0 : Int)).flatMap iRow).toArray := by
  rw [Nat.mul_one]
  show madeCells #[.int .i64 0] n = _
  rw [madeCells_one, flat_rep]
theorem iset {l : List Int} {k : Nat} (x : Int) : (l.flatMap iRow).set (k * 1 + 0) (.int .i64 x) = (l.set k x).flatMap iRow := by
  rw [Nat.mul_one, Nat.add_zero, flat_map, flat_map, List.map_set]
/-- Prices' answer -/
def priceA (m : Mt) : List Int × Int := if mkB m = false then ([], 1) else (priceN m (bestM m).gets m.length, 0)
theorem priceA_ok {m : Mt} (h : mkB m = true) : priceA m = (priceN m (bestM m).gets m.length, 0) := by unfold priceA; rw [if_neg (by simp [h])]
theorem priceA_no {m : Mt} (h : mkB m = false) : priceA m = ([], 1) := if_pos h

theorem must83m {n : Nat} {ps : List Int} (hn : ps.length = n) (w : World) {a : Option Addr} {c : Nat} (hp : RowsA iRow 1 0 w a ps) (z : MA) (m : Mt) (hz : MtA 0 w z m) (hm : MkF m) (po pm pi pk : Addr) (i k u : Nat) (h1 : CA 0 w po [.int .i64 (u : Int)]) (h2 : CA 0 w pm (mV z m)) (h3 : CA 0 w pi [.int .i64 (i : Int)]) (h4 : CA 0 w pk [.int .i64 (k : Int)]) (hi : i < m.length) (hk : k < m.length) (hu : u < m.length) (hb : u < ps.length ∧ 0 ≤ ps.getD u 0 ∧ ps.getD u 0 ≤ 1000000) :
    Calls Tryd.prog 83 #[.slice a n c, .pointer (some po), .pointer (some pm), .pointer (some pi), .pointer (some pk)] w fun e w' => e = .returned (.int .i64 (ps.getD u 0 + wv m i k - wv m i u)) ∧ Below w.heap.size w w' := by
  subst hn
  exact must83 w a c ps hp z m hz hm po pm pi pk i k u h1 h2 h3 h4 hi hk hu hb.1 hb.2
theorem Prices25 (w : World) (z : MA) (m : Mt) (hz : MtA 0 w z m) (hT : TabAt w) : Calls Tryd.prog 25 #[.agg (mV z m).toArray] w fun e w' => ∃ y : Option Addr × Nat, e = .returned (.tuple #[.slice y.1 (priceA m).1.length y.2, .int .i64 (priceA m).2]) ∧ Below w.heap.size w w' ∧ RowsA iRow 1 w.heap.size w' y.1 (priceA m).1 := by
  have hlen := hz.len
  refine calls_of_SC (args := [.agg (mV z m).toArray]) Tryd.func25 rfl Tryd.ntmps25 rfl ?_
  simp only [argL]
  refine sc_seq ?_
  refine sc_region ?_
  refine sq_box RF rfl (fun b1 => ?_)
  refine qs (y_assign RF) ?_
  refine qs (y_assign RF) ?_
  refine sq_nil ?_
  refine sx_then ?_
  refine sc_seq ?_
  refine sc_seq ?_
  refine sc_region ?_
  refine qs LD24 ?_
  refine qy (yc Tryd.call41 E1 (fun w1 hw1 => market41 w1 z m (hz.at hw1 MM))) ?_
  refine qs (y_not RF) ?_
  refine sq_nil ?_
  refine sx_then ?_
  refine scp (fun hc0 => ?_) (fun hc0 => ?_)
  ·
    refine sc_seq ?_
    refine sc_region ?_
    refine qs (y_assign RF) ?_
    refine qs (y_assign RF) ?_
    refine sq_nil ?_
    refine sx_then ?_
    refine sc_ret ?_
    refine sx_then_ret ?_
    refine sx_ret2 (.inl rfl) rfl Tryd.results25 RF RF ?_
    intro w' hw'
    have hb : mkB m = false := by simpa using hc0
    rw [priceA_no hb]
    exact ⟨(none, 0), rfl, hw'.below MM, RowsA.nil _ _⟩
  ·
    refine sc_skip ?_
    refine sx_then ?_
    refine sc_seq ?_
    have hb : mkB m = true := by simpa using hc0
    have hm := mkF hb
    have hn7 := hm.n7
    have hbF := bestM_F hm
    have hord := hbF.ord
    have hol := ord_len hord
    refine sc_region ?_
    refine qs LD24 ?_
    refine qs (y_build bt75 (EvP.cons RF EvP.nil) RF) ?_
    refine sq_alloc Tryd.zeroValue75 rfl (fun b4 => ?_)
    refine sq_store_all Tryd.sizeOf75 RF RF rfl RM rfl rfl ?_
    refine sq_nil ?_
    refine sx_then ?_
    refine sc_seq ?_
    refine sc_drawR (by kernel_rfl) ?_
    refine xj_s 0 RF (by kernel_rfl) SR LD75 rfl ?_
    refine xj_s 1 RF (by kernel_rfl) SR LD75 rfl ?_
    refine xj_one 2 RF (by kernel_rfl) ?_
    refine sq_call_new (first := []) (caps := []) (Z := Option Addr × Nat) (fun y => .agg (tdV y (bestM m)).toArray) (fun lo w' y => RowsA iRow 1 lo w' y.1 (bestM m).gets) RF Tryd.call52 (EvL.cons RF EvL.nil) (fun w1 hw1 => best52 w1 z m (hz.at hw1 MM) hm (CA.at hT hw1 MM)) rfl (fun lo wr y hy => ?_)
    refine sq_nil ?_
    refine sx_xp SR ?_
    refine xj_s 3 RF (by kernel_rfl) SR (y_field Tryd.underlying85 RF Tryd.underlying25 rfl RF RF) rfl ?_
    refine xj_one 4 RF (by kernel_rfl) ?_
    refine sq_call_new (first := []) (caps := []) (Z := (Option Addr × Nat) × List Rl) (fun q => .slice q.1.1 q.2.length q.1.2) (fun lo w' q => RowsA ruRow 2 lo w' q.1.1 q.2 ∧ (∀ r, r ∈ q.2 → RuA z m (bestM m).gets lo w' r) ∧ q.2.map (·.1) = rulesL m) RF Tryd.call55 (EvL.cons RF (EvL.cons RF EvL.nil)) (fun w1 hw1 => raises55 w1 z m (hz.at hw1 MM) hm y.1 y.2 _ (hy.at hw1 MM) hord) rfl (fun lo2 wr2 q hq => ?_)
    refine sq_nil ?_
    refine sx_xp SR ?_
    refine xj_s 5 RF (by kernel_rfl) SR (y_assign RF) rfl ?_
    refine xj_done (by kernel_rfl) ?_
    refine sx_then ?_
    refine sc_seq ?_
    refine sc_region ?_
    refine qs FA24_22 ?_
    refine qs LD22 ?_
    refine qs (y_len Tryd.underlying22 RF) ?_
    refine sq_make Tryd.underlying25 ei3 RF RF (by omega) (by omega) (by omega) rfl (fun b22 => ?_)
    rw [irep]
    refine sq_blk_own (n := m.length) (sz := 1) (xs := (List.replicate m.length (0 : Int)).flatMap iRow) RM (by rw [iflat_len]; simp) (by unfold maxLen; omega) ?_
    refine qs (y_assign RF) ?_
    refine sq_nil ?_
    refine sx_then ?_
    refine sc_seq ?_
    refine sc_seq ?_
    refine sc_region ?_
    refine qs (y_move RF) ?_
    refine qs (y_len Tryd.underlying25 RF) ?_
    refine qs (y_move RF) ?_
    refine sq_nil ?_
    refine sx_then ?_
    refine sc_block ?_
    obtain ⟨hq1, hq2, hq3⟩ := hq
    have hql : q.2.length = (rulesL m).length := by rw [← hq3]; simp
    have hq49 := rulesL_len hm
    refine sc_loop (σ := Nat)
      (fun s => [(3, .int .i64 0), (5, .slice q.1.1 q.2.length q.1.2), (6, (.slice (some ⟨b22, 0, none⟩) m.length m.length)), (23, (.slice (some ⟨b22, 0, none⟩) m.length m.length)), (24, .int .i64 m.length), (25, .int .i64 s)])
      (fun s => [.own (.slice (some ⟨b22, 0, none⟩) m.length m.length) 3 1 m.length ((priceN m (bestM m).gets s).flatMap iRow), .reg lo2 wr2, .reg lo wr, .blk b4 (.cells (mV z m).toArray 75 (0, 0)), .blk b1 (.cells (mV z m).toArray 24 (0, 0)), .reg 0 w])
      (fun s => s ≤ m.length)
      (fun s => m.length - s)
      (0) ?_ SU SR ?_
    · exact Nat.zero_le _
    rintro r hr
    refine sc_seq ?_
    refine sc_region ?_
    refine qs (y_lss RF RF) ?_
    refine sq_nil ?_
    refine sx_then ?_
    refine sc_seq ?_
    refine scp (fun hc1 => ?_) (fun hc1 => ?_)
    ·
      refine sc_skip ?_
      refine sx_then ?_
      refine sc_seq ?_
      refine sc_block ?_
      refine sc_seq ?_
      refine sc_region ?_
      refine qs (y_move RF) ?_
      refine qs (y_len Tryd.underlying90 RF) ?_
      refine qs (y_move RF) ?_
      refine sq_nil ?_
      refine sx_then ?_
      refine sc_block ?_
      refine sc_loop (σ := Nat)
        (fun s => [(3, .int .i64 0), (5, .slice q.1.1 q.2.length q.1.2), (6, (.slice (some ⟨b22, 0, none⟩) m.length m.length)), (23, (.slice (some ⟨b22, 0, none⟩) m.length m.length)), (24, .int .i64 m.length), (25, .int .i64 r), (27, .slice q.1.1 q.2.length q.1.2), (28, .int .i64 q.2.length), (29, .int .i64 s)])
        (fun s => [.own (.slice (some ⟨b22, 0, none⟩) m.length m.length) 3 1 m.length ((roundK m (bestM m).gets (priceN m (bestM m).gets r) s).flatMap iRow), .reg lo2 wr2, .reg lo wr, .blk b4 (.cells (mV z m).toArray 75 (0, 0)), .blk b1 (.cells (mV z m).toArray 24 (0, 0)), .reg 0 w])
        (fun s => s ≤ q.2.length)
        (fun s => q.2.length - s)
        (0) ?_ SU SR ?_
      · exact Nat.zero_le _
      rintro k hk
      refine sc_seq ?_
      refine sc_region ?_
      refine qs (y_lss RF RF) ?_
      refine sq_nil ?_
      refine sx_then ?_
      refine sc_seq ?_
      refine scp (fun hc2 => ?_) (fun hc2 => ?_)
      ·
        have hk' : k < q.2.length := by omega
        obtain ⟨ru, hru⟩ : ∃ x, q.2[k]? = some x := ⟨_, List.getElem?_eq_getElem hk'⟩
        have hrx : (rulesL m)[k]? = some ru.1 := by rw [← hq3, List.getElem?_map, hru]; rfl
        have hmem := rulesN_mem (List.mem_of_getElem? hrx)
        have hra := (hq1.el k ru hru).1
        have hrc := (hq1.el k ru hru).2
        have hrr := hq2 ru (List.mem_of_getElem? hru)
        obtain ⟨hge, hgl⟩ := ord_get hord hmem.1
        have hbp := roundK_bd hm (o := (bestM m).gets) (priceN_bd hm (bestM m).gets r) k (by have := rulesL_len hm; omega)
        have hpl : (roundK m (bestM m).gets (priceN m (bestM m).gets r) k).length = m.length := by unfold roundK; rw [foldl_relax_len, priceN_len]
        have hbu := hbp (getN (bestM m).gets ru.1.1)
        have hrow := hm.row ru.1.1 hmem.1
        refine sc_skip ?_
        refine sx_then ?_
        refine sc_seq ?_
        refine sc_block ?_
        refine sc_seq ?_
        refine sc_region ?_
        refine qs IA90 ?_
        refine qs (by first | exact y_load_ca Tryd.underlying93 rfl Tryd.sizeOf93 RF MM hrc rfl | exact LD93) ?_
        refine sq_alloc Tryd.zeroValue93 rfl (fun b8 => ?_)
        refine sq_store_all Tryd.sizeOf93 RF RF rfl RM rfl rfl ?_
        refine sq_nil ?_
        refine sx_then ?_
        refine sc_drawR (by kernel_rfl) ?_
        refine xj_s 0 RF (by kernel_rfl) SR (y_move RF) rfl ?_
        refine xj_s 1 RF (by kernel_rfl) SR FA93_3 rfl ?_
        refine xj_s 2 RF (by kernel_rfl) SR LD3 rfl ?_
        refine xj_s 3 RF (by kernel_rfl) SR (y_move RF) rfl ?_
        refine xj_s 4 RF (by kernel_rfl) SR FA93_3 rfl ?_
        refine xj_s 5 RF (by kernel_rfl) SR LD3 rfl ?_
        refine xj_s 6 RF (by kernel_rfl) SR (y_ia_own (v := (.slice (some ⟨b22, 0, none⟩) m.length m.length)) (i := ru.1.2) Tryd.underlying25 Tryd.sizeOf3 RF MM RF hmem.2.1) rfl ?_
        refine xj_s 7 RF (by kernel_rfl) SR (by first | exact y_load_own0 (v := (.slice (some ⟨b22, 0, none⟩) m.length m.length)) (u := .int .i64 ((roundK m (bestM m).gets (priceN m (bestM m).gets r) k).getD ru.1.2 0)) Tryd.underlying3 rfl RF MM hmem.2.1 (flat_iget (get_of_lt 0 (by omega))) | exact LD3) rfl ?_
        refine xj_s 8 RF (by kernel_rfl) SR FA93_78 rfl ?_
        refine xj_s 9 RF (by kernel_rfl) SR LD78 rfl ?_
        refine xj_s 10 RF (by kernel_rfl) SR (y_move RF) rfl ?_
        refine xj_one 11 RF (by kernel_rfl) ?_
        refine qy (y_call (first := []) (caps := [.pointer (some ru.2.1), .pointer (some ru.2.2.1), .pointer (some ru.2.2.2.1), .pointer (some ru.2.2.2.2)]) RF Tryd.call83 E1 (fun w1 hw1 => must83m hpl w1 (own_at hw1 hpl MM (by omega)) z m (hz.at hw1 MM) hm _ _ _ _ ru.1.1 ru.1.2 (getN (bestM m).gets ru.1.1) (CA.at hrr.own hw1 MM) (CA.at hrr.mkt hw1 MM) (CA.at hrr.who hw1 MM) (CA.at hrr.what hw1 MM) hmem.1 hmem.2.1 hgl (by omega))) ?_
        refine sq_nil ?_
        refine sx_xp SR ?_
        refine xj_s 12 RF (by kernel_rfl) SR (y_max RF RF) rfl ?_
        refine xj_s 13 RF (by kernel_rfl) SR (y_ia_own (v := (.slice (some ⟨b22, 0, none⟩) m.length m.length)) (i := ru.1.2) Tryd.underlying25 Tryd.sizeOf3 RF MM RF hmem.2.1) rfl ?_
        refine xj_one 14 RF (by kernel_rfl) ?_
        refine sq_store_own (v := (.slice (some ⟨b22, 0, none⟩) m.length m.length)) (i := ru.1.2) (j := 0) (sz := 1) Tryd.sizeOf3 RF RF rfl RM hmem.2.1 (by decide) ?_
        rw [iset, show (roundK m (bestM m).gets (priceN m (bestM m).gets r) k).set ru.1.2 (max ((roundK m (bestM m).gets (priceN m (bestM m).gets r) k).getD ru.1.2 0) ((roundK m (bestM m).gets (priceN m (bestM m).gets r) k).getD (getN (bestM m).gets ru.1.1) 0 + wv m ru.1.1 ru.1.2 - wv m ru.1.1 (getN (bestM m).gets ru.1.1))) = roundK m (bestM m).gets (priceN m (bestM m).gets r) (k + 1) from (roundK_succ hrx).symm]
        refine sq_nil ?_
        refine sx_xpl (by kernel_rfl) ?_
        refine xj_done (by kernel_rfl) ?_
        refine sx_blk ?_
        refine sx_then ?_
        refine sc_region ?_
        refine qs (y_add RF RF (by omega)) ?_
        refine qs (y_move RF) ?_
        refine sq_nil ?_
        refine sx_round (k + 1) ?_ ?_ SU SR
        · omega
        · omega
      ·
        have hkn : k = q.2.length := by omega
        rw [show roundK m (bestM m).gets (priceN m (bestM m).gets r) k = priceN m (bestM m).gets (r + 1) from by rw [hkn, hql, roundK_all]; rfl]
        refine sc_exit ?_
        refine sx_then_exit ?_
        refine sx_round_exit ?_
        refine sx_blk_hit ?_
        refine sx_blk ?_
        refine sx_then ?_
        refine sc_region ?_
        refine qs (y_add RF RF (by omega)) ?_
        refine qs (y_move RF) ?_
        refine sq_nil ?_
        refine sx_round (r + 1) ?_ ?_ SU SR
        · omega
        · omega
    ·
      have hrn : r = m.length := by omega
      subst hrn
      refine sc_exit ?_
      refine sx_then_exit ?_
      refine sx_round_exit ?_
      refine sx_blk_hit ?_
      refine sx_then ?_
      refine sc_seq ?_
      refine sc_region ?_
      refine qs (y_move RF) ?_
      refine qs (y_assign RF) ?_
      refine qs (y_assign RF) ?_
      refine sq_nil ?_
      refine sx_then ?_
      refine sc_ret ?_
      refine sx_ret2 (.inl rfl) rfl Tryd.results25 RF RF ?_
      intro w' hw'
      rw [priceA_ok hb]
      have hoo := own_new_mem hw' (v := (.slice (some ⟨b22, 0, none⟩) m.length m.length)) (xs := (priceN m (bestM m).gets m.length).flatMap iRow) MM MM
      obtain ⟨a2, c2, hv2, _, hr⟩ := own_rowsA (row := iRow) iRow_len hoo (priceN_len _ _ _) (by omega)
      exact ⟨(a2, c2), by rw [hv2, priceN_len], hw'.below MM, hr⟩
end Go.Proofs.YtpijahglojichaaDoor
