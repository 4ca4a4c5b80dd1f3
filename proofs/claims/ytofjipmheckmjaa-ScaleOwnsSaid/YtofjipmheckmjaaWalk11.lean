/- The walk of the incomplete lists, and of which tests they could pass. -/
import Derived.Test.YtofjipmheckmjaaWalk10
import Derived.Test.YtofjipmheckmjaaEng14
namespace Go.Proofs.Ytofjipmheckmjaa
open Go Go.Eng Go.RowKit Go.Proofs
set_option maxRecDepth 100000
def passV (b : Bx) (t : Te) (h : List Int) : Bool := meetsV (readV b t h) t.pass
def incL (b : Bx) : List (List Int) := (allL b).filter fun h => !wholeV h
def rowM (b : Bx) (ts : List Te) (h : List Int) (p n : Nat) : List ((Nat × Nat) × Value) := (List.range n).map fun t => ((t, p), .bool (passV b (ts.getD t te0) h))
def mapL (b : Bx) (ts : List Te) (hs : List (List Int)) : List ((Nat × Nat) × Value) := (List.range hs.length).flatMap fun p => rowM b ts (hs.getD p []) p ts.length
theorem rowM_succ (b : Bx) (ts : List Te) (h : List Int) (p n : Nat) : rowM b ts h p (n + 1) = rowM b ts h p n ++ [((n, p), .bool (passV b (ts.getD n te0) h))] := by
  unfold rowM; rw [List.range_succ, List.map_append]; rfl
theorem mapL_snoc (b : Bx) (ts : List Te) (hs : List (List Int)) (h : List Int) : mapL b ts (hs ++ [h]) = mapL b ts hs ++ rowM b ts h hs.length ts.length := by
  unfold mapL
  rw [List.length_append, List.length_singleton, List.range_succ, List.flatMap_append]
  congr 1
  · refine flatMap_congr fun p hp => ?_
    have := List.mem_range.1 hp
    rw [List.getD_eq_getElem?_getD, List.getElem?_append_left this, ← List.getD_eq_getElem?_getD]
  · simp
theorem mapL_mem {b : Bx} {ts : List Te} {hs : List (List Int)} {q : (Nat × Nat) × Value} : q ∈ mapL b ts hs ↔ q.1.2 < hs.length ∧ q.1.1 < ts.length ∧ q.2 = .bool (passV b (ts.getD q.1.1 te0) (hs.getD q.1.2 [])) := by
  unfold mapL rowM
  simp only [List.mem_flatMap, List.mem_map, List.mem_range]
  constructor
  · rintro ⟨p, hp, t, ht, rfl⟩; exact ⟨hp, ht, rfl⟩
  · rintro ⟨h1, h2, h3⟩; exact ⟨_, h1, _, h2, by rw [← h3]⟩
theorem map_new {b : Bx} {ts : List Te} {hs : List (List Int)} {h : List Int} {t : Nat} : ∀ q, q ∈ mapL b ts hs ++ rowM b ts h hs.length t → q.1 ≠ (t, hs.length) := by
  intro q hq
  rcases List.mem_append.1 hq with hq | hq
  · have := (mapL_mem.1 hq).1
    intro e; rw [e] at this; exact absurd this (Nat.lt_irrefl _)
  · obtain ⟨t', ht', rfl⟩ := List.mem_map.1 hq
    have := List.mem_range.1 ht'
    intro e; injection e with e _; omega
theorem key94 : WideMaps.KeyLaw Try.prog 94 := deep_law (m := 3) (by omega) (by kernel_rfl) (by kernel_rfl) (by kernel_rfl)
theorem keyInt (d n : Nat) (h : n ≤ 1000000) : Try.prog.keyLits (d + 1) 3 [.int .i64 (n : Int)] = some [.int .i64 (n : Int)] := by
  have hw : (Lit.int .i64 (n : Int)).wf = true := by
    unfold Lit.wf; simp only [Bool.and_eq_true, decide_eq_true_eq]
    constructor
    · exact Int.le_trans (show IntKind.i64.min ≤ 0 by decide) (by omega)
    · exact Int.le_trans (show (n : Int) ≤ 1000000 by omega) (show (1000000 : Int) ≤ IntKind.i64.max by decide)
  unfold Program.keyLits
  simp [Try.underlying3, hw]
theorem key94_of (i j : Nat) (hi : i ≤ 1000000) (hj : j ≤ 1000000) : ∃ l, keyOf Try.prog 94 (pkey i j) = some l := by
  have h94 := Try.underlying94
  have hc94 : Try.prog.cellsOf 94 = 2 := by kernel_rfl
  have hc3 : Try.prog.cellsOf 3 = 1 := by kernel_rfl
  have hkt : Try.prog.keyType 94 = true := by kernel_rfl
  have hf : (pkey i j).formed Try.prog 94 = true := by simp [pkey, Value.formed, h94, hc94]
  have h1 : Nat.ble 1 Try.prog.types.size = true := by kernel_rfl
  obtain ⟨d, hd⟩ : ∃ d, Try.prog.types.size + 1 = d + 2 := ⟨Try.prog.types.size - 1, by have := Nat.le_of_ble_eq_true h1; omega⟩
  have hl : Try.prog.keyLits (d + 2) 94 [.int .i64 (i : Int), .int .i64 (j : Int)] = some [.int .i64 (i : Int), .int .i64 (j : Int)] := by
    unfold Program.keyLits
    simp [h94, hc94, hc3, List.range_succ, keyInt d i hi, keyInt d j hj]
  unfold keyOf
  simp only [h94, hkt, hf, hd]
  rw [show (pkey i j).cells.toList = [.int .i64 (i : Int), .int .i64 (j : Int)] from rfl, hl]
  exact ⟨_, rfl⟩
theorem isWhole78v (w : World) (v : Value) (h : List Int) (hv : w.ownsRow 0 3 1 v h.length (h.flatMap iRow)) (hb : h.length ≤ 100000) : Calls Try.prog 78 #[v] w fun e w' => e = .returned (.bool (wholeV h)) ∧ Below w.heap.size w w' := by
  obtain ⟨a2, c2, rfl, _, hr⟩ := own_rowsA (row := iRow) (fun _ => rfl) hv rfl (by omega)
  exact isWhole78 w a2 c2 h hr

def LLO (lo : Nat) (w : World) (f : Nat → Option Addr) (cf : Nat → Nat) (ll : List (List Int)) : Prop := ∀ i h, ll[i]? = some h → w.ownsRow lo 3 1 (.slice (f i) h.length (cf i)) h.length (h.flatMap iRow)
theorem lists_newO {w0 w : World} {rs : List Res} (hw : Hp w0 rs w) {e : TypeId} {vo : Value} {iv : List (Value × List Int)} (ho : Res.own vo e 1 iv.length (iv.reverse.map (·.1)) ∈ rs) (hi : ∀ r, r ∈ inner iv → r ∈ rs) (hm : Res.reg 0 w0 ∈ rs) (hlen : ∀ p, p ∈ iv → p.2.length ≤ 100000) (hb : iv.length ≤ 100000) :
    ∃ a f c cf, vo = .slice a iv.length c ∧ LLA w0.heap.size w a f cf (iv.reverse.map (·.2)) ∧ LLO w0.heap.size w f cf (iv.reverse.map (·.2)) := by
  have h1 := own_new_mem hw ho hm
  rw [← flat_v (iv.reverse.map (·.1))] at h1
  obtain ⟨a, c, hv, _, hr⟩ := own_rowsA (row := vRow) (fun _ => rfl) h1 (by simp) (by omega)
  have key : ∀ i h, (iv.reverse.map (·.2))[i]? = some h → ∃ p, p ∈ iv ∧ (iv.reverse.map (·.1))[i]? = some p.1 ∧ p.2 = h := fun i h hih => by
    rw [List.getElem?_map] at hih
    cases hp : iv.reverse[i]? with
    | none => rw [hp] at hih; cases hih
    | some p =>
      rw [hp] at hih; simp at hih
      exact ⟨p, List.mem_reverse.1 (List.mem_of_getElem? hp), by rw [List.getElem?_map, hp]; rfl, hih⟩
  refine ⟨a, fun i => baseA ((iv.reverse.map (·.1)).getD i (.slice none 0 0)), c, fun i => capA ((iv.reverse.map (·.1)).getD i (.slice none 0 0)), hv, ⟨fun i h hih => ?_, by simp; omega⟩, fun i h hih => ?_⟩
  · obtain ⟨p, hpm, hg, rfl⟩ := key i h hih
    have h2 := own_new_mem hw (hi _ (List.mem_map.2 ⟨p, hpm, rfl⟩)) hm
    obtain ⟨a2, c2, hv2, _, hr2⟩ := own_rowsA (row := iRow) (fun _ => rfl) h2 rfl (by have := hlen p hpm; omega)
    have h3 := hr.el i p.1 hg
    have hgd : (iv.reverse.map (·.1)).getD i (.slice none 0 0) = p.1 := by rw [List.getD_eq_getElem?_getD, hg]; rfl
    refine ⟨h3.1, ?_, ?_⟩
    · rw [hgd, hv2]; have := h3.2; rw [hv2] at this; exact this
    · rw [hgd, hv2]; exact hr2
  · obtain ⟨p, hpm, hg, rfl⟩ := key i h hih
    have h2 := own_new_mem hw (hi _ (List.mem_map.2 ⟨p, hpm, rfl⟩)) hm
    obtain ⟨a2, c2, hv2, _, hr2⟩ := own_rowsA (row := iRow) (fun _ => rfl) h2 rfl (by have := hlen p hpm; omega)
    have hgd : (iv.reverse.map (·.1)).getD i (.slice none 0 0) = p.1 := by rw [List.getD_eq_getElem?_getD, hg]; rfl
    show w.ownsRow _ 3 1 (.slice (baseA ((iv.reverse.map (·.1)).getD i (.slice none 0 0))) p.2.length (capA ((iv.reverse.map (·.1)).getD i (.slice none 0 0)))) _ _
    rw [hgd, hv2]
    rw [hv2] at h2; exact h2
/-- what is handed back -/
def IncN (lo : Nat) (w' : World) (b : Bx) (ts : List Te) (z : (Option Addr × (Nat → Option Addr) × Nat × (Nat → Nat)) × Nat) : Prop := LLA lo w' z.1.1 z.1.2.1 z.1.2.2.2 (incL b) ∧ lo ≤ z.2 ∧ w'.heap[z.2]? = some (pairM (mapL b ts (incL b)))
theorem incomplete55o (w : World) (b : Bx) (a : Option Addr) (c : Nat) (hB : RowsA kdRow 3 0 w a b.kinds) (hok : bxB b = true) (at_ : Option Addr) (ct : Nat) (ts : List Te) (ht : RowsA teRow 7 0 w at_ ts) (hte : ∀ t, t ∈ ts → teB b t = true) (h8 : ts.length ≤ 8) : Calls Try.prog 55 #[.agg (bxRow b a c).toArray, .slice at_ ts.length ct] w fun e w' => ∃ z, e = .returned (.tuple #[.slice z.1.1 (incL b).length z.1.2.2.1, .map (some z.2)]) ∧ Below w.heap.size w w' ∧ IncN w.heap.size w' b ts z ∧ LLO w.heap.size w' z.1.2.1 z.1.2.2.2 (incL b) := by
  have hbp := bxB_parts hok
  have htlen := ht.len
  have hall := allL_le hok
  have ht8 : ts.length ≤ 8 := h8
  refine calls_of_SCm (args := [.agg (bxRow b a c).toArray, .slice at_ ts.length ct]) Try.func55 rfl Try.ntmps55 rfl ?_
  simp only [argL, Nat.zero_add]
  refine sc_seq ?_
  refine sc_region ?_
  refine sq_box RF rfl (fun b2 => ?_)
  refine sq_box RF rfl (fun b3 => ?_)
  refine sq_alloc Try.zeroValue84 rfl (fun b4 => ?_)
  refine sq_alloc Try.zeroValue91 rfl (fun b5 => ?_)
  refine sq_nil ?_
  refine sx_then ?_
  refine sc_seq ?_
  refine sc_region ?_
  refine sq_makeMap2 rfl (fun b9 => ?_)
  refine sq_store Try.sizeOf91 RF RF (by first | rfl | assumption) RM (by first | exact Nat.le_of_ble_eq_true rfl | simp | omega) ?_
  refine sq_nil ?_
  refine sx_then ?_
  refine sc_seq ?_
  refine sc_seq ?_
  refine sc_region ?_
  refine qs LD26 ?_
  refine sq_call_new (first := []) (caps := []) (Z := Addr) (fun p => .func (.func 70) #[] #[.pointer (some p)]) (fun lo w' p => w.heap.size ≤ lo ∧ CA lo w' p (bxRow b a c)) RF Try.call45 (EvL.cons RF EvL.nil) (fun w1 hw1 => (lists45 w1 b a c).mono (fun e w' ⟨p, he, hb, hc⟩ => ⟨p, he, hb, hw1.size, hc⟩)) rfl (fun lo wr pb hpb => ?_)
  refine sq_nil ?_
  refine sx_then ?_
  refine sc_block ?_
  refine sc_nil_own 79 1 ?_
  refine sc_rangeFunc (Z := Value × List (Value × List Int)) (ps := [12]) (lb := [.pointer (some pb)]) (fun z => .reg lo wr :: .reg 0 w :: .own z.1 79 1 z.2.length (z.2.reverse.map (·.1)) :: .blk b9 (pairM (mapL b ts (z.2.reverse.map (·.2)))) :: .blk b5 (.cells #[.map (some b9)] 91 (0, 0)) :: .blk b4 (.cells #[z.1] 84 (0, 0)) :: .blk b3 (.cells [.slice at_ ts.length ct].toArray 43 (0, 0)) :: .blk b2 (.cells (bxRow b a c).toArray 26 (0, 0)) ::  inner z.2) (fun z => z.1.oneCell' = true ∧ z.2.reverse.map (·.2) = incL b ∧ ∀ p, p ∈ z.2 → p.2.length ≤ 4) rfl RF Try.call70 ?_ ?_
  ·
    intro fn tm l D hts htL w1 hw1
    refine lists70q hw1 (.head _) hB hok pb hpb.2 { Z := Value × List (Value × List Int), M := 4096, UR := (fun z => .blk l (.loop (LP fn tm [12] _ _ D)) :: .blk D (.deferred (some [])) :: .own z.1 79 1 z.2.length (z.2.reverse.map (·.1)) :: .blk b9 (pairM (mapL b ts (z.2.reverse.map (·.2)))) :: .blk b5 (.cells #[.map (some b9)] 91 (0, 0)) :: .blk b4 (.cells #[z.1] 84 (0, 0)) :: .blk b3 (.cells [.slice at_ ts.length ct].toArray 43 (0, 0)) :: .blk b2 (.cells (bxRow b a c).toArray 26 (0, 0)) ::  inner z.2), Inv := (fun ds z => z.1.oneCell' = true ∧ z.2.reverse.map (·.2) = ds.filter (fun h => !wholeV h) ∧ ∀ p, p ∈ z.2 → p.2.length ≤ 4), Stp := fun _ => False, loop := (fun _ _ _ => .head _), one := rfl, round := ?_ } hall (.slice none 0 0, []) ⟨rfl, rfl, fun p hp => by cases hp⟩ (hw1.sel SR) ?_
    rotate_left
    · intro e w' hv y go h1 h2
      by_cases hgo : go = true
      · rw [if_pos hgo] at h1
        exact ⟨y, h1, hv, h2.sel SR⟩
      · rw [if_neg hgo] at h1; exact h1.elim
    rintro ds z h ⟨hz1, hz, hz4⟩ hh _ hds F w2 v hw2
    have hzl : z.2.length ≤ ds.length := by
      have := congrArg List.length hz
      rw [List.length_map, List.length_reverse] at this
      rw [this]; exact List.length_filter_le _ _
    rw [fold1]
    obtain ⟨hs2, hL2⟩ := one_param (p := 12) (u := v) hts htL (Nat.le_of_ble_eq_true rfl)
    refine round_of_SC (N := 42) hs2 hL2 hw2 ?_
    dsimp only [List.cons_append]
    refine sc_region ?_
    refine qs (y_assign RF) ?_
    refine sq_nil ?_
    refine sx_begin rfl RM rfl ?_
    refine sc_block ?_
    refine sc_seq ?_
    refine sc_seq ?_
    refine sc_region ?_
    refine qs (y_move RF) ?_
    refine qy (yc Try.call78 E1 (fun w1 hw1 => isWhole78v w1 v h (hw1.ok (Res.own v 3 1 h.length (h.flatMap iRow)) MM) (by have := hh.len; omega))) ?_
    refine sq_nil ?_
    refine sx_then ?_
    refine scp (fun hc0 => ?_) (fun hc0 => ?_)
    ·
      have hwh : wholeV h = true := hc0
      refine sc_exit ?_
      refine sx_then_exit ?_
      refine sx_blk_hit ?_
      refine sx_endround RM ?_
      intro w' hw'
      exact ⟨z, true, by rw [if_pos rfl]; exact ⟨hz1, by rw [List.filter_append, hz]; simp [hwh], hz4⟩, rfl, hw'.sel SR⟩
    ·
      have hwh : wholeV h = false := by simpa using hc0
      refine sc_skip ?_
      refine sx_then ?_
      refine sc_seq ?_
      refine sc_seq ?_
      refine sc_region ?_
      refine qs LD43 ?_
      refine qs (y_len Try.underlying43 RF) ?_
      refine qs (y_move RF) ?_
      refine sq_nil ?_
      refine sx_then ?_
      refine sc_block ?_
      rw [show mapL b ts (z.2.reverse.map (·.2)) = mapL b ts (z.2.reverse.map (·.2)) ++ rowM b ts h z.2.length 0 from (List.append_nil _).symm]
      refine sc_loop (σ := Nat)
        (fun s => [(2, .pointer (some ⟨b2, 0, none⟩)), (3, .pointer (some ⟨b3, 0, none⟩)), (4, .pointer (some ⟨b4, 0, none⟩)), (5, .pointer (some ⟨b5, 0, none⟩)), (6, v), (15, .slice at_ ts.length ct), (16, .int .i64 ts.length), (17, .int .i64 s)])
        (fun s => .own v 3 1 h.length (h.flatMap iRow) :: .reg 0 w :: .blk l (.loop { LP fn tm [12] _ _ D with state := .busy }) :: .blk D (.deferred (some [])) :: .own z.1 79 1 z.2.length (z.2.reverse.map (·.1)) :: .blk b9 (pairM (mapL b ts (z.2.reverse.map (·.2)) ++ rowM b ts h z.2.length s)) :: .blk b5 (.cells #[.map (some b9)] 91 (0, 0)) :: .blk b4 (.cells #[z.1] 84 (0, 0)) :: .blk b3 (.cells [.slice at_ ts.length ct].toArray 43 (0, 0)) :: .blk b2 (.cells (bxRow b a c).toArray 26 (0, 0)) ::  (inner z.2 ++ F))
        (fun s => s ≤ ts.length)
        (fun s => ts.length - s)
        (0) ?_ SU SR ?_
      · exact Nat.zero_le _
      rintro k hk
      dsimp only [List.map]
      refine sc_seq ?_
      refine sc_region ?_
      refine qs (y_lss RF RF) ?_
      refine sq_nil ?_
      refine sx_then ?_
      refine sc_seq ?_
      refine scp (fun hc1 => ?_) (fun hc1 => ?_)
      ·
        have hk' : k < ts.length := by omega
        have hsm := (ht.get te0 hk').1
        have hca := (ht.get te0 hk').2
        have hzl2 : (z.2.reverse.map (·.2)).length = z.2.length := by rw [List.length_map, List.length_reverse]
        have hrow := rowM_succ b ts h z.2.length k
        have hnew : ∀ q, q ∈ mapL b ts (z.2.reverse.map (·.2)) ++ rowM b ts h z.2.length k → q.1 ≠ (k, z.2.length) := by rw [← hzl2]; exact map_new
        have hbd : ∀ q, q ∈ mapL b ts (z.2.reverse.map (·.2)) ++ rowM b ts h z.2.length k → q.1.1 ≤ 1000000 ∧ q.1.2 ≤ 1000000 := fun q hq => (List.mem_append.1 hq).elim (fun h0 => by have := mapL_mem.1 h0; omega) (fun h0 => by obtain ⟨t', ht', rfl⟩ := List.mem_map.1 h0; have := List.mem_range.1 ht'; dsimp only; omega)
        refine sc_skip ?_
        refine sx_then ?_
        refine sc_seq ?_
        refine sc_block ?_
        refine sc_seq ?_
        refine sc_region ?_
        refine qs (y_move RF) ?_
        refine qs IA43 ?_
        refine qs (by first | exact y_load_ca Try.underlying29 rfl Try.sizeOf29 RF MM hca rfl | exact LD29) ?_
        refine sq_alloc Try.zeroValue29 rfl (fun b8 => ?_)
        refine qs (y_assign RF) ?_
        refine sq_store_all Try.sizeOf29 RF RF rfl RM rfl rfl ?_
        refine sq_nil ?_
        refine sx_then ?_
        refine sc_drawX ([.own z.1 79 1 z.2.length (z.2.reverse.map (·.1)), .blk b8 (.cells (teRow (ts.getD k te0)).toArray 29 (0, 0)), .blk b5 (.cells #[.map (some b9)] 91 (0, 0)), .blk b4 (.cells #[z.1] 84 (0, 0)), .blk b2 (.cells (bxRow b a c).toArray 26 (0, 0)), .own v 3 1 h.length (h.flatMap iRow), .reg 0 w]) (by kernel_rfl) ?_
        refine xj_s 0 RF (by kernel_rfl) SR LD91 rfl ?_
        refine xj_s 1 RF (by kernel_rfl) SR (y_move RF) rfl ?_
        refine xj_s 2 RF (by kernel_rfl) SR LD84 rfl ?_
        refine xj_s 3 RF (by kernel_rfl) SR (y_len_own Try.underlying84 RF (by repeat (first | exact .head _ | refine .tail _ ?_))) rfl ?_
        refine xj_s 4 RF (by kernel_rfl) SR (y_build_arr (cells := #[.int .i64 k, .int .i64 z.2.length]) Try.underlying94 Try.zeroValue94 Try.sizeOf3 (EvP.cons RF (EvP.cons RF EvP.nil)) (by kernel_rfl)) rfl ?_
        refine xj_s 5 RF (by kernel_rfl) SR LD26 rfl ?_
        refine xj_s 6 RF (by kernel_rfl) SR (y_move RF) rfl ?_
        refine xj_s 7 RF (by kernel_rfl) SR LD29 rfl ?_
        refine xj_s 9 RF (by kernel_rfl) SR FA29_24 rfl ?_
        refine xj_s 10 RF (by kernel_rfl) SR LD24 rfl ?_
        refine xj_one 8 RF (by kernel_rfl) ?_
        refine qy (yc Try.call47 E3 (fun w1 hw1 => reads47v w1 b a c (hB.at hw1 MM) hok v h (hw1.ok (Res.own v 3 1 h.length (h.flatMap iRow)) MM) hh (ts.getD k te0) (hte _ (List.mem_of_getElem? (get_of_lt te0 hk'))))) ?_
        refine sq_nil ?_
        refine sx_xp SR ?_
        refine xj_one 11 RF (by kernel_rfl) ?_
        refine qy (yc Try.call84 E2 (fun w1 hw1 => meets84 w1 (readV b (ts.getD k te0) h) (ts.getD k te0).pass)) ?_
        refine sq_nil ?_
        refine sx_xp SR ?_
        refine xj_one 12 RF (by kernel_rfl) ?_
        refine sq_mapPut2 (i := k) (j := z.2.length) (v := .bool (passV b (ts.getD k te0) h)) key94 (B := 1000000) key94_of hbd (by omega) (by omega) Try.underlying91 RF RM RF RF hnew ?_
        rw [List.append_assoc, ← hrow]
        refine sq_nil ?_
        refine sx_xpl (by kernel_rfl) ?_
        refine xj_done (by kernel_rfl) ?_
        refine sx_blk ?_
        refine sx_then ?_
        refine sc_region ?_
        refine qs (y_add RF RF (by omega)) ?_
        refine qs (y_move RF) ?_
        refine sq_nil ?_
        refine sx_round (k + 1) ?_ ?_ SU SR
        · omega
        · omega
      ·
        have hkn : k = ts.length := by omega
        subst hkn
        have hzl2 : (z.2.reverse.map (·.2)).length = z.2.length := by rw [List.length_map, List.length_reverse]
        have hmap : ∀ x : Value, mapL b ts (z.2.reverse.map (·.2)) ++ rowM b ts h z.2.length ts.length = mapL b ts (((x, h) :: z.2).reverse.map (·.2)) := fun x => by rw [List.reverse_cons, List.map_append]; exact (by rw [← hzl2]; exact (mapL_snoc b ts _ h).symm)
        refine sc_exit ?_
        refine sx_then_exit ?_
        refine sx_round_exit ?_
        refine sx_blk_hit ?_
        refine sx_then ?_
        refine sc_drawX ([.blk b4 (.cells #[z.1] 84 (0, 0)), .reg 0 w]) (by kernel_rfl) ?_
        refine xj_s 0 RF (by kernel_rfl) SR LD84 rfl ?_
        refine xj_s 1 RF (by kernel_rfl) SR (y_move RF) rfl ?_
        refine xj_one 2 RF (by kernel_rfl) ?_
        refine sq_call_own (first := []) (caps := []) (e := 3) (sz := 1) (n := h.length) (Z := Value) (fun x => x) (fun x => x) (fun _ => h.flatMap iRow) (fun x => x.oneCell' = true) RF Try.call85 (EvL.cons RF EvL.nil) (fun w1 hw1 => (clone85v w1 v h (hw1.ok (Res.own v 3 1 h.length (h.flatMap iRow)) MM) (by have := hh.len; omega) (by have := hh.len; omega)).mono (fun e w' ⟨x, h1, h2, h3, h4⟩ => ⟨x, h1, h2, h3, h4⟩)) rfl (fun vn hvn => ?_)
        refine sq_nil ?_
        refine sx_xp SR ?_
        refine xj_one 3 RF (by kernel_rfl) ?_
        refine sq_bsv Try.underlying84 ei79 RF hvn rfl (fun b33 => ?_)
        refine sq_nil ?_
        refine sx_xp SR ?_
        refine xj_one 4 RF (by kernel_rfl) ?_
        refine sq_append (news := [vn]) Try.underlying84 ei79 rfl (by decide) RF RM RF rfl (fun _ hw => news_blk hw MM) (by simpa using hvn) (by omega) rfl (fun v34 ho34 => ?_)
        refine sq_nil ?_
        refine sx_xp SR ?_
        rw [hmap vn, show z.2.reverse.map (·.1) ++ [vn] = ((vn, h) :: z.2).reverse.map (·.1) from by simp]
        refine xj_one 5 RF (by kernel_rfl) ?_
        refine sq_store Try.sizeOf84 RF RF (by first | rfl | assumption) RM (by first | exact Nat.le_of_ble_eq_true rfl | simp | omega) ?_
        refine sq_nil ?_
        refine sx_xpl (by kernel_rfl) ?_
        refine xj_done (by kernel_rfl) ?_
        refine sx_blk ?_
        refine sx_endround RM ?_
        intro w' hw'
        exact ⟨(v34, (vn, h) :: z.2), true, by rw [if_pos rfl]; exact ⟨ho34, by rw [List.reverse_cons, List.map_append, hz, List.filter_append]; simp [hwh], fun p hp => (List.mem_cons.1 hp).elim (fun e => by rw [e]; dsimp only; have := hh.len; omega) (hz4 p)⟩, rfl, hw'.sel SR⟩
  ·
    rintro D ⟨vo, iv⟩ ⟨hz1, hz, hz4⟩
    dsimp only at hz1 hz hz4 ⊢
    refine sx_blk ?_
    refine sx_then ?_
    refine sc_seq ?_
    refine sc_drawR (by kernel_rfl) ?_
    refine xj_s 0 RF (by kernel_rfl) SR LD84 rfl ?_
    refine xj_s 1 RF (by kernel_rfl) SR LD91 rfl ?_
    refine xj_one 2 RF (by kernel_rfl) ?_
    refine sq_store Try.sizeOf84 RF RF (by first | rfl | assumption) RM (by first | exact Nat.le_of_ble_eq_true rfl | simp | omega) ?_
    refine sq_nil ?_
    refine sx_xp SR ?_
    refine xj_one 3 RF (by kernel_rfl) ?_
    refine sq_store Try.sizeOf91 RF RF (by first | rfl | assumption) RM (by first | exact Nat.le_of_ble_eq_true rfl | simp | omega) ?_
    refine sq_nil ?_
    refine sx_xpl (by kernel_rfl) ?_
    refine xj_done (by kernel_rfl) ?_
    refine sx_then ?_
    refine sc_ret ?_
    refine sx_retM (.inl rfl) rfl RM _ (res_ss Try.results55 Try.underlying84 rfl Try.underlying91 rfl RF MM RF MM) ?_
    intro w' hw'
    have hL : iv.length = (incL b).length := by rw [← hz, List.length_map, List.length_reverse]
    obtain ⟨a2, f, c2, cf, hv, hLL, hLO⟩ := lists_newO hw' MM (fun r hr => by repeat (first | exact hr | refine .tail _ ?_)) MM (fun p hp => by have := hz4 p hp; omega) (by rw [hL]; exact Nat.le_trans (List.length_filter_le _ _) (by omega))
    rw [hz] at hLL hLO hw'
    exact ⟨((a2, f, c2, cf), b9), by rw [hv, hL]; rfl, hw'.below MM, ⟨hLL, blk_new hw' RM MM, hw'.ok (Res.blk b9 (pairM (mapL b ts (incL b)))) MM⟩, hLO⟩
theorem incomplete55 (w : World) (b : Bx) (a : Option Addr) (c : Nat) (hB : RowsA kdRow 3 0 w a b.kinds) (hok : bxB b = true) (at_ : Option Addr) (ct : Nat) (ts : List Te) (ht : RowsA teRow 7 0 w at_ ts) (hte : ∀ t, t ∈ ts → teB b t = true) (h8 : ts.length ≤ 8) : Calls Try.prog 55 #[.agg (bxRow b a c).toArray, .slice at_ ts.length ct] w fun e w' => ∃ z, e = .returned (.tuple #[.slice z.1.1 (incL b).length z.1.2.2.1, .map (some z.2)]) ∧ Below w.heap.size w w' ∧ IncN w.heap.size w' b ts z :=
  (incomplete55o w b a c hB hok at_ ct ts ht hte h8).mono fun _ _ ⟨z, he, hb, hn, _⟩ => ⟨z, he, hb, hn⟩
end Go.Proofs.Ytofjipmheckmjaa
