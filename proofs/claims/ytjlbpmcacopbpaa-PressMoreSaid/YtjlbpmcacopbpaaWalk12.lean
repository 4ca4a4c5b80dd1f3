/- The walk of all orders, whoever ranges over them; the library's reverse by its contract. -/
import Derived.Test.YtjlbpmcacopbpaaWalk8
import Derived.Test.YtjlbpmcacopbpaaLawN
namespace Go.Proofs.Ytjlbpmcacopbpaa
open Go Go.Eng Go.RowKit Go.Proofs Go.Sort
set_option maxRecDepth 100000
theorem y_slice_lo {X : Ctx} {L : List (Nat × Value)} {rs : List Res} {t ty e : TypeId} {x y : Operand} {k : IntKind} {b ln cp lo : Nat} (hu : X.P.underlying t = some (.slice e)) (hz : ∀ w, (Go.sizeOf e).run X.P w = .ok 1 w) (hx : ev L x = some (.slice (some ⟨b, 0, none⟩) ln cp)) (hy : ev L y = some (.int k (lo : Int))) (h : lo < ln) (h2 : ln ≤ cp) :
    OpS X L rs (.slice t x (some y) none none) ty (.slice (some ⟨b, lo, none⟩) (ln - lo) (cp - lo)) := .val fun o h1 _ a w ha _ => by
  have h3 : ¬ cp = lo := by omega
  simp [execOp, h1, ha.eval hx, ha.eval hy, Instr.sliceAt, run_underlying hu, Instr.slice, Instr.sliceBounds, Instr.sliceBound, asIntOf, show lo ≤ ln by omega, hz, h3, Addr.add_lit]
theorem take_put (cur : Array Value) (l : List Int) (s : Nat) (hc : cur.size = l.length) (ht : cur.toList = l.map (Value.int .i64)) (hs : s ≤ l.length) : (putCells (Value.int .i64) s (l.drop s).reverse.toArray cur).toList = (l.take s ++ (l.drop s).reverse).map (Value.int .i64) := by
  apply List.ext_getElem?
  intro j
  rw [List.map_append, Array.getElem?_toList]
  rcases Nat.lt_or_ge j s with h | h
  · rw [List.getElem?_append_left (by simp; omega)]
    have h1 : ¬ s ≤ j := by omega
    have h2 : j < cur.size := by omega
    have h3 : cur[j]? = (l.map (Value.int .i64))[j]? := by rw [← ht, Array.getElem?_toList]
    rw [Array.getElem?_eq_getElem h2] at h3
    simp only [putCells, Array.getElem?_mapIdx, Array.getElem?_eq_getElem h2, Option.map_some, h1, false_and, if_false]
    rw [h3]; simp [h]
  · rw [List.getElem?_append_right (by simp; omega)]
    rcases Nat.lt_or_ge j l.length with h2 | h2
    · have h3 : j < cur.size := by omega
      have h4 : s ≤ j ∧ j < s + (l.drop s).reverse.toArray.size := ⟨h, by simp; omega⟩
      simp only [putCells, Array.getElem?_mapIdx, Array.getElem?_eq_getElem h3, Option.map_some]
      rw [if_pos h4]
      have h5 : j - s < (l.drop s).reverse.length := by simp; omega
      simp only [List.length_map, List.length_take, Nat.min_eq_left hs]
      rw [List.getElem?_map, List.getElem?_eq_getElem h5]
      simp only [Option.map_some]
      congr 2
      rw [getElem!_pos _ _ (by simpa using h5)]
      simp
    · rw [Array.getElem?_eq_none (by simp [putCells]; omega), List.getElem?_eq_none (by simp; omega)]
/-- an own list, turned round from somewhere on -/
theorem reverse75 {w0 w : World} {rest : List Res} {b n s : Nat} {l : List Int} (hl : l.length = n) (hs : s ≤ n) (h64 : n ≤ 1000) (hw : Hp w0 (.own (.slice (some ⟨b, 0, none⟩) n n) 3 1 n (l.flatMap iRow) :: rest) w) : Calls Try.prog 75 #[.slice (some ⟨b, s, none⟩) (n - s) (n - s)] w fun e w' => e = .returned (.tuple #[]) ∧ Hp w0 (.own (.slice (some ⟨b, 0, none⟩) n n) 3 1 n ((l.take s ++ (l.drop s).reverse).flatMap iRow) :: rest) w' := by
  have ho : w.ownsRow 0 3 1 (.slice (some ⟨b, 0, none⟩) n n) n (l.flatMap iRow) := hw.ok (Res.own (.slice (some ⟨b, 0, none⟩) n n) 3 1 n (l.flatMap iRow)) (.head _)
  rcases ho.2 with ⟨hv, h0⟩ | ⟨g, cap, cur, hv, hb, hg, h1, h2, h3, h4⟩
  · cases hv
  · injection hv with e1 e2 e3
    injection e1 with e1
    injection e1 with e1 _ _
    subst e1 e3
    have hsz : cur.size = l.length := by omega
    have ht : cur.toList = l.map (Value.int .i64) := by rw [← flat_map, ← h4, List.take_of_length_le (by simp; omega)]
    have hdl : (l.drop s).length = n - s := by rw [List.length_drop]; omega
    have hH : Holds (Value.int .i64) w b s (l.drop s).toArray := fun j hj => by
      have hj' : s + j < l.length := by simp at hj; omega
      have hc : cur[s + j]? = some (Value.int .i64 (l[s + j])) := by rw [← Array.getElem?_toList, ht, List.getElem?_map, List.getElem?_eq_getElem hj']; rfl
      refine ⟨?_, by simp [World.frozen?, hg]⟩
      simp only [World.cell?, hg, Option.isSome_none, Bool.false_eq_true, if_false]
      rw [hc, getElem!_pos (l.drop s).toArray j hj]; simp
    have hc := Any.slices_Reverse_int Try.lays112 b s (n - s) (l.drop s) w hH (by omega)
    rw [hdl] at hc
    refine hc.mono fun e w' ⟨he, m, hw'⟩ => ⟨he, ?_⟩
    subst hw'
    have hb1 : (putRow (Value.int .i64) (Sort.ahead w m) b s (l.drop s).reverse.toArray).heap[b]? = some (.cells (putCells (Value.int .i64) s (l.drop s).reverse.toArray cur) 3 (0, 0)) := by
      simp [putRow, mapBlock, Sort.ahead, Array.getElem?_modify, hg, onCells]
    refine hp_own hw .here ⟨?_, .inr ⟨b, n, _, rfl, hb, hb1, h1, h2, by simp [putCells, h3], ?_⟩⟩ ⟨rfl, rfl, rfl, by simp [putRow, mapBlock, Sort.ahead], fun k hk hne => ?_⟩ (fun k hk => .inl hk)
    · rw [flat_len iRow_len]; simp; omega
    · rw [take_put cur l s hsz ht (by omega), flat_map, List.take_of_length_le (by simp; omega)]
    · have : b ≠ k := fun e => hne (by rw [e]; rfl)
      simp [putRow, mapBlock, Sort.ahead, Array.getElem?_modify, this]
def nI (l : List Nat) : List Int := l.map fun (i : Nat) => (i : Int)
theorem nI_len (l : List Nat) : (nI l).length = l.length := List.length_map _
theorem nI_get {l : List Nat} {i : Nat} (h : i < l.length) : (nI l)[i]? = some ((l.getD i 0 : Nat) : Int) := by
  unfold nI; rw [List.getElem?_map, get_of_lt 0 h]; rfl
theorem nI_set (l : List Nat) (i x : Nat) : (nI l).set i (x : Int) = nI (l.set i x) := by unfold nI; rw [List.map_set]
theorem nI_rev (l : List Nat) (s : Nat) : (nI l).take s ++ ((nI l).drop s).reverse = nI (l.take s ++ (l.drop s).reverse) := by unfold nI; simp [List.map_take, List.map_drop]
def OL (b n : Nat) (l : List Nat) : Res := .own (.slice (some ⟨b, 0, none⟩) n n) 3 1 n ((nI l).flatMap iRow)

/-- the orders before this one -/
def befL (cur q : List Nat) : Prop := lexL q cur
theorem bef_first (n : Nat) {q : List Nat} (hq : q.Perm (List.range n)) : ¬ befL (List.range n) q := fun h => by
  rcases first_of n q hq with h1 | h1
  · exact lexL_irrefl q (by unfold befL at h; rw [h1] at h; exact h)
  · exact lexL_irrefl _ (lexL_trans h h1)
theorem bef_next {n : Nat} {cur nxt q : List Nat} (hc : cur.Perm (List.range n)) (hn : Next cur nxt) (hq : q.Perm (List.range n)) : (befL cur q ∨ q = cur) ↔ befL nxt q := by
  have hqc : q.Perm cur := hq.trans hc.symm
  unfold befL
  constructor
  · rintro (h | rfl)
    · exact lexL_trans h hn.lt
    · exact hn.lt
  · intro h
    rcases lexL_total (hqc.length_eq) with h1 | h1 | h1
    · exact .inl h1
    · exact .inr h1
    · rcases hn.no q hqc h1 with h2 | h2
      · rw [h2] at h; exact absurd h (lexL_irrefl q)
      · exact absurd (lexL_trans h h2) (lexL_irrefl q)
theorem bef_last {n : Nat} {cur q : List Nat} (hc : cur.Perm (List.range n)) (hfall : ∀ p, p + 1 < cur.length → cur.getD (p + 1) 0 < cur.getD p 0) (hq : q.Perm (List.range n)) : (befL cur q ∨ q = cur) := by
  have hqc : q.Perm cur := hq.trans hc.symm
  rcases lexL_total (hqc.length_eq) with h1 | h1 | h1
  · exact .inl h1
  · exact .inr h1
  · exact absurd h1 (last_of hfall q hqc)
theorem getD_ne {cur : List Nat} {n : Nat} (hc : cur.Perm (List.range n)) {i k : Nat} (hi : i < n) (hk : k < n) (hne : i ≠ k) : cur.getD i 0 ≠ cur.getD k 0 := by
  have hl : cur.length = n := by rw [hc.length_eq, List.length_range]
  have hnd : cur.Nodup := hc.nodup_iff.2 List.nodup_range
  rw [List.getD_eq_getElem?_getD, List.getD_eq_getElem?_getD, List.getElem?_eq_getElem (by omega), List.getElem?_eq_getElem (by omega)]
  intro h
  exact hne ((List.getElem_inj hnd).1 h)
theorem perm_lt {cur : List Nat} {n : Nat} (hc : cur.Perm (List.range n)) : ∀ x, x ∈ cur → x < n := fun _ hx => List.mem_range.1 (hc.mem_iff.1 hx)
theorem make_rng (n : Nat) : nI (List.replicate n 0) = List.replicate n (0 : Int) := by unfold nI; simp
/-- so many of the numbers counted up -/
def upK (n k : Nat) : List Nat := List.range k ++ List.replicate (n - k) 0
theorem upK_len {n k : Nat} (h : k ≤ n) : (upK n k).length = n := by unfold upK; simp; omega
theorem upK_set {n k : Nat} (h : k < n) : (upK n k).set k k = upK n (k + 1) := by
  unfold upK
  obtain ⟨m, hm⟩ : ∃ m, n - k = m + 1 := ⟨n - k - 1, by omega⟩
  rw [hm, List.replicate_succ, show n - (k + 1) = m by omega, List.range_succ]
  have := set_at k 0 (List.replicate m 0) (List.range k)
  rw [List.length_range] at this
  rw [this]; simp
theorem orders64 (w : World) (n : Int) : Calls Try.prog 64 #[.int .i64 n] w fun e w' => ∃ p, e = .returned (.func (.func 74) #[] #[.pointer (some p)]) ∧ Below w.heap.size w w' ∧ CA w.heap.size w' p [.int .i64 n] := by
  refine calls_of_SC (args := [.int .i64 n]) Try.func64 rfl Try.ntmps64 rfl ?_
  simp only [argL]
  refine sc_seq ?_
  refine sc_region ?_
  refine sq_box RF rfl (fun b1 => ?_)
  refine qs (y_assign RF) ?_
  refine sq_nil ?_
  refine sx_then ?_
  refine sc_seq ?_
  refine sc_region ?_
  refine qs (y_makeFunc EvL.nil (EvL.cons RF EvL.nil)) ?_
  refine qs (y_assign RF) ?_
  refine sq_nil ?_
  refine sx_then ?_
  refine sc_ret ?_
  refine sx_ret1 (.inl rfl) rfl Try.results64 RF ?_
  intro w' hw'
  exact ⟨⟨b1, 0, none⟩, rfl, hw'.below MM, ⟨blk_new hw' RM MM, (CA.blk (vs := [Value.int .i64 n]) hw' MM).2⟩⟩
theorem orders74 {w0 w wr : World} {lo : Nat} {p : Addr} {n : Nat} (h7 : n ≤ 7) (hp : CA lo wr p [.int .i64 n]) {l : Nat} {lp : Loop} {Z : Type} (UR : Z → List Res) (Inv : (List Nat → Prop) → Z → Prop) (Stp : Z → Prop) (hcong : ∀ H H' z, (∀ q, q.Perm (List.range n) → (H q ↔ H' q)) → Inv H z → Inv H' z) (hloop : ∀ H z, Inv H z → Res.blk l (.loop lp) ∈ UR z) (hone : lp.params.size = 1)
    (hround : ∀ z cur b, cur.Perm (List.range n) → Inv (befL cur) z → ∀ F w, Hp w0 (OL b n cur :: (UR z ++ F)) w → RoundIn (FW none) 0 Try.prog l lp.fn ((lp.params.zip #[.slice (some ⟨b, 0, none⟩) n n]).foldl (fun tmps (t, a) => tmps.setIfInBounds t a) lp.tmps) lp.assign lp.body w fun e w' => ∃ z' go, (if go = true then Inv (fun q => befL cur q ∨ q = cur) z' else Stp z') ∧ e = .returned (.bool go) ∧ Hp w0 (OL b n cur :: (UR z' ++ F)) w')
    (z : Z) (hz : Inv (fun _ => False) z) (hw : Hp w0 (.reg lo wr :: .reg 0 w0 :: UR z) w) : Calls Try.prog 74 #[.func (.yield l) #[] #[], .pointer (some p)] w fun e w' => (∃ v, e = .returned v) ∧ ∃ z' go, (if go = true then Inv (fun _ => True) z' else Stp z') ∧ Hp w0 (.reg lo wr :: .reg 0 w0 :: UR z') w' := by
  refine calls_of_SCr (args := [.func (.yield l) #[] #[], .pointer (some p)]) Try.func74 rfl Try.ntmps74 rfl hw ?_
  simp only [argL, Nat.zero_add]
  refine sc_seq ?_
  refine sc_region ?_
  refine qs (by first | exact y_load_ca0 Try.underlying3 rfl RF MM hp rfl | exact LD3) ?_
  refine sq_make Try.underlying35 ei3 RF RF (by omega) (by omega) (by omega) rfl (fun b8 => ?_)
  rw [irep]
  refine sq_blk_own (n := n) (sz := 1) (xs := (List.replicate n (0 : Int)).flatMap iRow) RM (by rw [flat_len iRow_len, List.length_replicate]) (by unfold maxLen; omega) ?_
  rw [show List.replicate n (0 : Int) = nI (upK n 0) from by unfold upK; simp [nI]]
  refine qs (y_assign RF) ?_
  refine sq_nil ?_
  refine sx_then ?_
  refine sc_seq ?_
  refine sc_seq ?_
  refine sc_region ?_
  refine qs (y_move RF) ?_
  refine qs (y_len Try.underlying35 RF) ?_
  refine qs (y_move RF) ?_
  refine sq_nil ?_
  refine sx_then ?_
  refine sc_block ?_
  refine sc_loop (σ := Nat)
    (fun s => [(0, .func (.yield l) #[] #[]), (1, .pointer (some p)), (3, .slice (some ⟨b8, 0, none⟩) n n), (9, .slice (some ⟨b8, 0, none⟩) n n), (10, .int .i64 n), (11, .int .i64 s)])
    (fun s => (.own (.slice (some ⟨b8, 0, none⟩) n n) 3 1 n ((nI (upK n s)).flatMap iRow) :: .reg lo wr :: .reg 0 w0 :: UR z))
    (fun s => s ≤ n)
    (fun s => n - s)
    (0) ?_ SU SR ?_
  · exact Nat.zero_le _
  rintro k hk
  refine sc_seq ?_
  refine sc_region ?_
  refine qs (y_lss RF RF) ?_
  refine sq_nil ?_
  refine sx_then ?_
  refine sc_seq ?_
  refine scp (fun hc0 => ?_) (fun hc0 => ?_)
  ·
    have hk' : k < n := by omega
    refine sc_skip ?_
    refine sx_then ?_
    refine sc_seq ?_
    refine sc_block ?_
    refine sc_seq ?_
    refine sc_region ?_
    refine qs (y_move RF) ?_
    refine qs (y_assign RF) ?_
    refine sq_nil ?_
    refine sx_then ?_
    refine sc_region ?_
    refine qs (y_move RF) ?_
    refine qs (y_move RF) ?_
    refine qs (y_move RF) ?_
    refine qs (y_ia_own Try.underlying35 Try.sizeOf3 RF MM RF hk') ?_
    refine sq_store_own (v := .slice (some ⟨b8, 0, none⟩) n n) (i := k) (j := 0) (sz := 1) Try.sizeOf3 RF RF rfl RM hk' (by decide) ?_
    rw [iset, nI_set, upK_set hk']
    refine sq_nil ?_
    refine sx_blk ?_
    refine sx_then ?_
    refine sc_region ?_
    refine qs (y_add RF RF (by omega)) ?_
    refine qs (y_move RF) ?_
    refine sq_nil ?_
    refine sx_round (k + 1) ?_ ?_ SU SR
    · omega
    · omega
  ·
    have hkn : n = k := by omega
    subst hkn
    rw [show upK n n = List.range n from by unfold upK; simp]
    refine sc_exit ?_
    refine sx_then_exit ?_
    refine sx_round_exit ?_
    refine sx_blk_hit ?_
    refine sx_then ?_
    refine sc_block ?_
    refine sc_loop (σ := List Nat × Z)
      (fun s => [(0, .func (.yield l) #[] #[]), (1, .pointer (some p)), (3, .slice (some ⟨b8, 0, none⟩) n n)])
      (fun s => (.own (.slice (some ⟨b8, 0, none⟩) n n) 3 1 n ((nI (s.1)).flatMap iRow) :: .reg lo wr :: .reg 0 w0 :: UR s.2))
      (fun s => s.1.Perm (List.range n) ∧ Inv (befL s.1) s.2)
      (fun s => n ^ n - valL n s.1)
      ((List.range n, z)) ?_ SU SR ?_
    · exact ⟨List.Perm.refl _, hcong _ _ z (fun q hq => ⟨fun h => h.elim, fun h => bef_first n hq h⟩) hz⟩
    rintro ⟨cur, z⟩ ⟨hcur, hinv⟩
    dsimp only at hcur hinv ⊢
    have hcl : cur.length = n := by rw [hcur.length_eq, List.length_range]
    have hin : (nI cur).length = n := (nI_len cur).trans hcl
    refine sc_seq ?_
    refine sc_seq ?_
    refine sc_region ?_
    refine qs (y_move RF) ?_
    refine qs (y_move RF) ?_
    refine sq_yield (rs' := .own (.slice (some ⟨b8, 0, none⟩) n n) 3 1 n ((nI (cur)).flatMap iRow) :: .reg lo wr :: .reg 0 w0 :: UR z) (Z := Z × Bool) (fun y => .bool y.2) (fun y => .own (.slice (some ⟨b8, 0, none⟩) n n) 3 1 n ((nI (cur)).flatMap iRow) :: .reg lo wr :: .reg 0 w0 :: UR y.1) (fun y => if y.2 = true then Inv (fun q => befL cur q ∨ q = cur) y.1 else Stp y.1) RF E1 (.tail _ (.tail _ (.tail _ (hloop _ z hinv)))) (Sel.refl _) (by simpa using hone.symm) (fun w1 hw1 => (hround z cur b8 hcur hinv [.reg lo wr, .reg 0 w0] w1 (hw1.sel (Sel.cons .here (Sel.comm [.reg lo wr, .reg 0 w0] (UR z))))).mono (fun e w' ⟨z', go, h1, h2, h3⟩ => ⟨(z', go), h1, h2, h3.sel (Sel.cons .here (Sel.comm (UR z') [.reg lo wr, .reg 0 w0]))⟩)) rfl (fun y hy => ?_)
    refine sq_nil ?_
    refine sx_then ?_
    refine scp (fun hc1 => ?_) (fun hc1 => ?_)
    ·
      rw [if_pos hc1] at hy
      have hyI := hy
      refine sc_skip ?_
      refine sx_then ?_
      refine sc_block ?_
      refine sc_seq ?_
      refine sc_region ?_
      refine qs (by first | exact y_load_ca0 Try.underlying3 rfl RF MM hp rfl | exact LD3) ?_
      refine qs (y_sub RF RF (by omega)) ?_
      refine qs (y_assign RF) ?_
      refine sq_nil ?_
      refine sx_then ?_
      refine sc_seq ?_
      refine sc_block ?_
      refine sc_loop (σ := Nat)
        (fun s => [(0, .func (.yield l) #[] #[]), (1, .pointer (some p)), (3, .slice (some ⟨b8, 0, none⟩) n n), (5, .int .i64 ((n : Int) - 2 - (s : Int)))])
        (fun s => (.own (.slice (some ⟨b8, 0, none⟩) n n) 3 1 n ((nI (cur)).flatMap iRow) :: .reg lo wr :: .reg 0 w0 :: UR y.1))
        (fun s => (s + 1 ≤ n ∨ s = 0) ∧ ∀ q, n - 1 - s ≤ q → q + 1 < n → cur.getD (q + 1) 0 < cur.getD q 0)
        (fun s => n - s)
        (0) ?_ SU SR ?_
      · exact ⟨.inr rfl, fun q h1 h2 => by omega⟩
      rintro j ⟨hj, hfall⟩
      refine sc_seq ?_
      refine sc_seq ?_
      refine sc_midE (Z := {v : Bool // v = (decide (0 ≤ ((n : Int) - 2 - (j : Int))) && decide (cur.getD (n - 1 - j) 0 < cur.getD (n - 2 - j) 0))}) (fun v => [(0, .func (.yield l) #[] #[]), (1, .pointer (some p)), (3, .slice (some ⟨b8, 0, none⟩) n n), (5, .int .i64 ((n : Int) - 2 - (j : Int))), (37, .bool v.1)]) (fun _ => (.own (.slice (some ⟨b8, 0, none⟩) n n) 3 1 n ((nI (cur)).flatMap iRow) :: .reg lo wr :: .reg 0 w0 :: UR y.1)) ?_ ?_
      ·
        refine sc_drawX ([.own (.slice (some ⟨b8, 0, none⟩) n n) 3 1 n ((nI (cur)).flatMap iRow)]) (by kernel_rfl) ?_
        refine xj_s 0 RF (by kernel_rfl) SR (y_move RF) rfl ?_
        refine xj_s 1 RF (by kernel_rfl) SR (y_geq RF RF) rfl ?_
        refine xj_s 2 RF (by kernel_rfl) SR (y_move RF) rfl ?_
        first | refine xj_splitd (tt := 26) RF (fun hg8_2 => ?_) (fun hg8_2 => ?_) | refine xj_splitn (tt := 26) RF (fun hg8_2 => ?_) (fun hg8_2 => ?_) | refine xj_split (tt := 26) RF (fun hg8_2 => ?_) (fun hg8_2 => ?_)
        ·
          refine xj_gt 3 RF RF RF (by kernel_rfl) SR (y_move RF) rfl ?_
          refine xj_gt 4 RF RF RF (by kernel_rfl) SR (y_move RF) rfl ?_
          refine xj_gt 5 RF RF RF (by kernel_rfl) SR (y_ia_own (i := n - 2 - j) Try.underlying35 Try.sizeOf3 RF MM (by exact lk_int rfl (show ((n : Int) - 2 - (j : Int)) = ((n - 2 - j : Nat) : Int) by omega)) (by omega)) rfl ?_
          refine xj_gt 6 RF RF RF (by kernel_rfl) SR (by first | exact y_load_own0 (v := .slice (some ⟨b8, 0, none⟩) n n) (u := .int .i64 ((cur.getD (n - 2 - j) 0 : Nat) : Int)) Try.underlying3 rfl RF MM (show n - 2 - j < n by omega) (flat_iget (nI_get (by omega))) | exact LD3) rfl ?_
          refine xj_gt 7 RF RF RF (by kernel_rfl) SR (y_move RF) rfl ?_
          refine xj_gt 8 RF RF RF (by kernel_rfl) SR (y_move RF) rfl ?_
          refine xj_gt 9 RF RF RF (by kernel_rfl) SR (y_add RF RF (by omega)) rfl ?_
          refine xj_gt 10 RF RF RF (by kernel_rfl) SR (y_ia_own (i := n - 1 - j) Try.underlying35 Try.sizeOf3 RF MM (by exact lk_int rfl (show ((n : Int) - 2 - (j : Int)) + 1 = ((n - 1 - j : Nat) : Int) by omega)) (by omega)) rfl ?_
          refine xj_gt 11 RF RF RF (by kernel_rfl) SR (by first | exact y_load_own0 (v := .slice (some ⟨b8, 0, none⟩) n n) (u := .int .i64 ((cur.getD (n - 1 - j) 0 : Nat) : Int)) Try.underlying3 rfl RF MM (show n - 1 - j < n by omega) (flat_iget (nI_get (by omega))) | exact LD3) rfl ?_
          refine xj_gt 12 RF RF RF (by kernel_rfl) SR (y_gtr RF RF) rfl ?_
          refine xj_s 13 RF (by kernel_rfl) SR (y_pick_t RF RF) rfl ?_
          refine xj_done (by kernel_rfl) ?_
          exact sx_midE (⟨_, by rw [decide_eq_true (show 0 ≤ ((n : Int) - 2 - (j : Int)) by omega), Bool.true_and]⟩) SU SR
        ·
          refine xj_gf 3 RF RF RF rfl (by kernel_rfl) SR rfl ?_
          refine xj_gf 4 RF RF RF rfl (by kernel_rfl) SR rfl ?_
          refine xj_gf 5 RF RF RF rfl (by kernel_rfl) SR rfl ?_
          refine xj_gf 6 RF RF RF rfl (by kernel_rfl) SR rfl ?_
          refine xj_gf 7 RF RF RF rfl (by kernel_rfl) SR rfl ?_
          refine xj_gf 8 RF RF RF rfl (by kernel_rfl) SR rfl ?_
          refine xj_gf 9 RF RF RF rfl (by kernel_rfl) SR rfl ?_
          refine xj_gf 10 RF RF RF rfl (by kernel_rfl) SR rfl ?_
          refine xj_gf 11 RF RF RF rfl (by kernel_rfl) SR rfl ?_
          refine xj_gf 12 RF RF RF rfl (by kernel_rfl) SR rfl ?_
          refine xj_s 13 RF (by kernel_rfl) SR (y_pick_f RF RF) rfl ?_
          refine xj_done (by kernel_rfl) ?_
          exact sx_midE (⟨false, by rw [decide_eq_false (show ¬ 0 ≤ ((n : Int) - 2 - (j : Int)) by omega), Bool.false_and]⟩) SU SR
      rintro ⟨vb, hvb⟩
      try dsimp only
      refine sx_then ?_
      refine scp (fun hc2 => ?_) (fun hc2 => ?_)
      ·
        have hv2 : vb = true := hc2
        rw [hvb, Bool.and_eq_true] at hv2
        have hge := of_decide_eq_true hv2.1
        have hgt := of_decide_eq_true hv2.2
        refine sc_skip ?_
        refine sx_then ?_
        refine sc_block ?_
        refine sc_region ?_
        refine qs (y_move RF) ?_
        refine qs (y_sub RF RF (by omega)) ?_
        refine qs (y_assign RF) ?_
        refine sq_nil ?_
        refine sx_blk ?_
        refine sx_round (j + 1) ?_ ?_ SU SR
        · refine ⟨.inl (by omega), fun q h1 h2 => ?_⟩
          rcases Nat.lt_or_ge q (n - 1 - j) with h | h
          · have : q = n - 2 - j := by omega
            rw [this, show n - 2 - j + 1 = n - 1 - j by omega]; exact hgt
          · exact hfall q h h2
        · omega
      ·
        have hv2 : vb = false := hc2
        rw [hvb, Bool.and_eq_false_iff] at hv2
        refine sc_exit ?_
        refine sx_then_exit ?_
        refine sx_round_exit ?_
        refine sx_blk_hit ?_
        refine sx_then ?_
        refine sc_seq ?_
        refine sc_seq ?_
        refine sc_region ?_
        refine qs (y_move RF) ?_
        refine qs (y_lss RF RF) ?_
        refine sq_nil ?_
        refine sx_then ?_
        refine scp (fun hc3 => ?_) (fun hc3 => ?_)
        ·
          have hall : ∀ q, q.Perm (List.range n) → (befL cur q ∨ q = cur) := fun q hq => bef_last hcur (fun r hr => hfall r (by omega) (by omega)) hq
          refine sc_ret ?_
          refine sx_then_ret ?_
          refine sx_blk_ret ?_
          refine sx_round_ret ?_
          refine sx_blk_ret ?_
          refine sx_ret0 (.inl rfl) rfl Try.results74 ?_
          intro w' hw'
          exact ⟨⟨_, rfl⟩, y.1, true, by rw [if_pos rfl]; exact hcong _ _ _ (fun q hq => ⟨fun _ => trivial, fun _ => hall q hq⟩) hyI, hw'.sel (Sel.skip (Sel.refl _))⟩
        ·
          have hlt2 : cur.getD (n - 2 - j) 0 < cur.getD (n - 1 - j) 0 := by
            have h1 := getD_ne hcur (i := n - 2 - j) (k := n - 1 - j) (by omega) (by omega) (by omega)
            rcases hv2 with h2 | h2
            · have := of_decide_eq_false h2; omega
            · have := of_decide_eq_false h2; omega
          refine sc_skip ?_
          refine sx_then ?_
          refine sc_seq ?_
          refine sc_region ?_
          refine qs (by first | exact y_load_ca0 Try.underlying3 rfl RF MM hp rfl | exact LD3) ?_
          refine qs (y_sub RF RF (by omega)) ?_
          refine qs (y_assign RF) ?_
          refine sq_nil ?_
          refine sx_then ?_
          refine sc_seq ?_
          refine sc_block ?_
          refine sc_loop (σ := Nat)
            (fun s => [(0, .func (.yield l) #[] #[]), (1, .pointer (some p)), (3, .slice (some ⟨b8, 0, none⟩) n n), (5, .int .i64 ((n : Int) - 2 - (j : Int))), (6, .int .i64 s)])
            (fun s => (.own (.slice (some ⟨b8, 0, none⟩) n n) 3 1 n ((nI (cur)).flatMap iRow) :: .reg lo wr :: .reg 0 w0 :: UR y.1))
            (fun s => (n - 1 - j ≤ s ∧ s < n) ∧ ∀ q, s < q → q < n → cur.getD q 0 < cur.getD (n - 2 - j) 0)
            (fun s => s)
            (n - 1) ?_ SU SR ?_
          · exact ⟨⟨by omega, by omega⟩, fun q h1 h2 => by omega⟩
          rintro k ⟨hk, hall⟩
          refine sc_seq ?_
          refine sc_seq ?_
          refine sc_drawX ([.own (.slice (some ⟨b8, 0, none⟩) n n) 3 1 n ((nI (cur)).flatMap iRow)]) (by kernel_rfl) ?_
          refine xj_s 0 RF (by kernel_rfl) SR (y_move RF) rfl ?_
          refine xj_s 1 RF (by kernel_rfl) SR (y_move RF) rfl ?_
          refine xj_s 2 RF (by kernel_rfl) SR (y_ia_own Try.underlying35 Try.sizeOf3 RF MM RF (by omega)) rfl ?_
          refine xj_s 3 RF (by kernel_rfl) SR (by first | exact y_load_own0 (v := .slice (some ⟨b8, 0, none⟩) n n) (u := .int .i64 ((cur.getD (k) 0 : Nat) : Int)) Try.underlying3 rfl RF MM (show k < n by omega) (flat_iget (nI_get (by omega))) | exact LD3) rfl ?_
          refine xj_s 4 RF (by kernel_rfl) SR (y_move RF) rfl ?_
          refine xj_s 5 RF (by kernel_rfl) SR (y_move RF) rfl ?_
          refine xj_s 6 RF (by kernel_rfl) SR (y_ia_own (i := n - 2 - j) Try.underlying35 Try.sizeOf3 RF MM (by exact lk_int rfl (show ((n : Int) - 2 - (j : Int)) = ((n - 2 - j : Nat) : Int) by omega)) (by omega)) rfl ?_
          refine xj_s 7 RF (by kernel_rfl) SR (by first | exact y_load_own0 (v := .slice (some ⟨b8, 0, none⟩) n n) (u := .int .i64 ((cur.getD (n - 2 - j) 0 : Nat) : Int)) Try.underlying3 rfl RF MM (show n - 2 - j < n by omega) (flat_iget (nI_get (by omega))) | exact LD3) rfl ?_
          refine xj_s 8 RF (by kernel_rfl) SR (y_lss RF RF) rfl ?_
          refine xj_done (by kernel_rfl) ?_
          refine sx_then ?_
          refine scp (fun hc4 => ?_) (fun hc4 => ?_)
          ·
            refine sc_skip ?_
            refine sx_then ?_
            refine sc_block ?_
            refine sc_region ?_
            refine qs (y_move RF) ?_
            refine qs (y_sub RF RF (by omega)) ?_
            refine qs (y_assign RF) ?_
            refine sq_nil ?_
            refine sx_blk ?_
            refine sx_round (k - 1) ?_ ?_ SU SR
            · have hks : k ≠ n - 1 - j := fun e => by rw [e] at hc4; omega
              refine ⟨⟨by omega, by omega⟩, fun q h1 h2 => ?_⟩
              rcases Nat.lt_or_ge k q with h | h
              · exact hall q h h2
              · have : q = k := by omega
                rw [this]; omega
            · omega
          ·
            have hgt4 : cur.getD (n - 2 - j) 0 < cur.getD k 0 := by
              have h1 := getD_ne hcur (i := n - 2 - j) (k := k) (by omega) (by omega) (by omega)
              omega
            have hnx : Next cur (((cur.set (n - 2 - j) (cur.getD k 0)).set k (cur.getD (n - 2 - j) 0)).take (n - 1 - j) ++ (((cur.set (n - 2 - j) (cur.getD k 0)).set k (cur.getD (n - 2 - j) 0)).drop (n - 1 - j)).reverse) := by
              have := next_of (cur := cur) (s := n - 1 - j) (k := k) (by omega) hk.1 (by omega) (fun q h1 h2 => hfall q h1 (by omega)) (by rw [show n - 1 - j - 1 = n - 2 - j by omega]; exact hgt4) (fun q h1 h2 => by rw [show n - 1 - j - 1 = n - 2 - j by omega]; exact hall q h1 (by omega))
              rw [show n - 1 - j - 1 = n - 2 - j by omega] at this; exact this
            have hmea : n ^ n - valL n (((cur.set (n - 2 - j) (cur.getD k 0)).set k (cur.getD (n - 2 - j) 0)).take (n - 1 - j) ++ (((cur.set (n - 2 - j) (cur.getD k 0)).set k (cur.getD (n - 2 - j) 0)).drop (n - 1 - j)).reverse) < n ^ n - valL n cur := by
              have hm1 := valL_mono (M := n) (by rw [hnx.perm.length_eq]) (perm_lt hcur) hnx.lt
              have hm2 := valL_lt (M := n) (xs := (((cur.set (n - 2 - j) (cur.getD k 0)).set k (cur.getD (n - 2 - j) 0)).take (n - 1 - j) ++ (((cur.set (n - 2 - j) (cur.getD k 0)).set k (cur.getD (n - 2 - j) 0)).drop (n - 1 - j)).reverse)) (perm_lt (hnx.perm.trans hcur))
              rw [hnx.perm.length_eq, hcl] at hm2; omega
            refine sc_exit ?_
            refine sx_then_exit ?_
            refine sx_round_exit ?_
            refine sx_blk_hit ?_
            refine sx_then ?_
            refine sc_seq ?_
            refine sc_drawX ([.reg 0 w0]) (by kernel_rfl) ?_
            refine xj_s 0 RF (by kernel_rfl) SR (y_move RF) rfl ?_
            refine xj_s 1 RF (by kernel_rfl) SR (y_move RF) rfl ?_
            refine xj_s 2 RF (by kernel_rfl) SR (y_move RF) rfl ?_
            refine xj_s 3 RF (by kernel_rfl) SR (y_move RF) rfl ?_
            refine xj_s 4 RF (by kernel_rfl) SR (y_move RF) rfl ?_
            refine xj_s 5 RF (by kernel_rfl) SR (y_move RF) rfl ?_
            refine xj_s 6 RF (by kernel_rfl) SR (y_ia_el Try.underlying35 Try.sizeOf3 RF RF (by omega) rfl) rfl ?_
            refine xj_s 8 RF (by kernel_rfl) SR (y_move RF) rfl ?_
            refine xj_s 9 RF (by kernel_rfl) SR (y_move RF) rfl ?_
            refine xj_s 10 RF (by kernel_rfl) SR (y_ia_el (i := n - 2 - j) Try.underlying35 Try.sizeOf3 RF (by exact lk_int rfl (show ((n : Int) - 2 - (j : Int)) = ((n - 2 - j : Nat) : Int) by omega)) (by omega) rfl) rfl ?_
            refine xj_all (l := [7, 11]) (by kernel_rfl) (by simp) (Each.cons ⟨_, rfl, ?_⟩ (Each.cons ⟨_, rfl, ?_⟩ Each.nil))
            ·
              refine qs (by first | exact y_load_own0 (v := .slice (some ⟨b8, 0, none⟩) n n) (u := .int .i64 ((cur.getD (k) 0 : Nat) : Int)) Try.underlying3 rfl RF MM (show k < n by omega) (flat_iget (nI_get (by omega))) | exact LD3) ?_
              refine sq_nil ?_
              refine sx_xp SR ?_
              refine xj_one 11 RF (by kernel_rfl) ?_
              refine qs (by first | exact y_load_own0 (v := .slice (some ⟨b8, 0, none⟩) n n) (u := .int .i64 ((cur.getD (n - 2 - j) 0 : Nat) : Int)) Try.underlying3 rfl RF MM (show n - 2 - j < n by omega) (flat_iget (nI_get (by omega))) | exact LD3) ?_
              refine sq_nil ?_
              refine sx_xp SR ?_
              refine xj_s 12 RF (by kernel_rfl) SR (y_ia_el (i := n - 2 - j) Try.underlying35 Try.sizeOf3 RF (by exact lk_int rfl (show ((n : Int) - 2 - (j : Int)) = ((n - 2 - j : Nat) : Int) by omega)) (by omega) rfl) rfl ?_
              refine xj_one 13 RF (by kernel_rfl) ?_
              refine sq_store_own (v := .slice (some ⟨b8, 0, none⟩) n n) (i := n - 2 - j) (j := 0) (sz := 1) Try.sizeOf3 RF RF rfl RM (by omega) (by decide) ?_
              rw [iset, nI_set]
              refine sq_nil ?_
              refine sx_xp SR ?_
              refine xj_s 14 RF (by kernel_rfl) SR (y_ia_el Try.underlying35 Try.sizeOf3 RF RF (by omega) rfl) rfl ?_
              refine xj_one 15 RF (by kernel_rfl) ?_
              refine sq_store_own (v := .slice (some ⟨b8, 0, none⟩) n n) (i := k) (j := 0) (sz := 1) Try.sizeOf3 RF RF rfl RM (by omega) (by decide) ?_
              rw [iset, nI_set]
              refine sq_nil ?_
              refine sx_xpl (by kernel_rfl) ?_
              refine xj_done (by kernel_rfl) ?_
              refine sx_then ?_
              refine sc_region ?_
              refine qs (y_move RF) ?_
              refine qs (y_move RF) ?_
              refine qs (y_add RF RF (by omega)) ?_
              refine qs (y_slice_lo (lo := n - 1 - j) Try.underlying35 Try.sizeOf3 RF (by exact lk_int rfl (show ((n : Int) - 2 - (j : Int)) + 1 = ((n - 1 - j : Nat) : Int) by omega)) (by omega) (Nat.le_refl _)) ?_
              refine sq_call_fr (first := []) (caps := []) (vs := [.slice (some ⟨b8, n - 1 - j, none⟩) (n - (n - 1 - j)) (n - (n - 1 - j))]) (rs1 := [.own (.slice (some ⟨b8, 0, none⟩) n n) 3 1 n ((nI (((cur.set (n - 2 - j) (cur.getD k 0)).set k (cur.getD (n - 2 - j) 0)))).flatMap iRow)]) (Z := Unit) (fun _ => .tuple #[]) (fun _ => [.own (.slice (some ⟨b8, 0, none⟩) n n) 3 1 n ((nI ((((cur.set (n - 2 - j) (cur.getD k 0)).set k (cur.getD (n - 2 - j) 0)).take (n - 1 - j) ++ (((cur.set (n - 2 - j) (cur.getD k 0)).set k (cur.getD (n - 2 - j) 0)).drop (n - 1 - j)).reverse))).flatMap iRow)]) (fun _ => True) RF Try.call75 E1 (by repeat (first | exact Rems.nil | apply Rems.cons (by repeat (first | exact Rem.here | apply Rem.there)))) (fun w1 hw1 => (reverse75 (by rw [nI_len, List.length_set, List.length_set]; exact hcl) (by omega) (by omega) hw1).mono (fun e w' h => ⟨(), trivial, h.1, by rw [← nI_rev]; exact h.2⟩)) rfl (fun _ _ => ?_)
              refine sq_nil ?_
              refine sx_blk ?_
              refine sx_round (((((cur.set (n - 2 - j) (cur.getD k 0)).set k (cur.getD (n - 2 - j) 0)).take (n - 1 - j) ++ (((cur.set (n - 2 - j) (cur.getD k 0)).set k (cur.getD (n - 2 - j) 0)).drop (n - 1 - j)).reverse), y.1)) ?_ ?_ SU SR
              · refine ⟨hnx.perm.trans hcur, ?_⟩
                exact hcong _ _ y.1 (fun q hq => bef_next hcur hnx hq) hyI
              · exact hmea
            ·
              refine qs (by first | exact y_load_own0 (v := .slice (some ⟨b8, 0, none⟩) n n) (u := .int .i64 ((cur.getD (n - 2 - j) 0 : Nat) : Int)) Try.underlying3 rfl RF MM (show n - 2 - j < n by omega) (flat_iget (nI_get (by omega))) | exact LD3) ?_
              refine sq_nil ?_
              refine sx_xp SR ?_
              refine xj_one 7 RF (by kernel_rfl) ?_
              refine qs (by first | exact y_load_own0 (v := .slice (some ⟨b8, 0, none⟩) n n) (u := .int .i64 ((cur.getD (k) 0 : Nat) : Int)) Try.underlying3 rfl RF MM (show k < n by omega) (flat_iget (nI_get (by omega))) | exact LD3) ?_
              refine sq_nil ?_
              refine sx_xp SR ?_
              refine xj_s 12 RF (by kernel_rfl) SR (y_ia_el (i := n - 2 - j) Try.underlying35 Try.sizeOf3 RF (by exact lk_int rfl (show ((n : Int) - 2 - (j : Int)) = ((n - 2 - j : Nat) : Int) by omega)) (by omega) rfl) rfl ?_
              refine xj_one 13 RF (by kernel_rfl) ?_
              refine sq_store_own (v := .slice (some ⟨b8, 0, none⟩) n n) (i := n - 2 - j) (j := 0) (sz := 1) Try.sizeOf3 RF RF rfl RM (by omega) (by decide) ?_
              rw [iset, nI_set]
              refine sq_nil ?_
              refine sx_xp SR ?_
              refine xj_s 14 RF (by kernel_rfl) SR (y_ia_el Try.underlying35 Try.sizeOf3 RF RF (by omega) rfl) rfl ?_
              refine xj_one 15 RF (by kernel_rfl) ?_
              refine sq_store_own (v := .slice (some ⟨b8, 0, none⟩) n n) (i := k) (j := 0) (sz := 1) Try.sizeOf3 RF RF rfl RM (by omega) (by decide) ?_
              rw [iset, nI_set]
              refine sq_nil ?_
              refine sx_xpl (by kernel_rfl) ?_
              refine xj_done (by kernel_rfl) ?_
              refine sx_then ?_
              refine sc_region ?_
              refine qs (y_move RF) ?_
              refine qs (y_move RF) ?_
              refine qs (y_add RF RF (by omega)) ?_
              refine qs (y_slice_lo (lo := n - 1 - j) Try.underlying35 Try.sizeOf3 RF (by exact lk_int rfl (show ((n : Int) - 2 - (j : Int)) + 1 = ((n - 1 - j : Nat) : Int) by omega)) (by omega) (Nat.le_refl _)) ?_
              refine sq_call_fr (first := []) (caps := []) (vs := [.slice (some ⟨b8, n - 1 - j, none⟩) (n - (n - 1 - j)) (n - (n - 1 - j))]) (rs1 := [.own (.slice (some ⟨b8, 0, none⟩) n n) 3 1 n ((nI (((cur.set (n - 2 - j) (cur.getD k 0)).set k (cur.getD (n - 2 - j) 0)))).flatMap iRow)]) (Z := Unit) (fun _ => .tuple #[]) (fun _ => [.own (.slice (some ⟨b8, 0, none⟩) n n) 3 1 n ((nI ((((cur.set (n - 2 - j) (cur.getD k 0)).set k (cur.getD (n - 2 - j) 0)).take (n - 1 - j) ++ (((cur.set (n - 2 - j) (cur.getD k 0)).set k (cur.getD (n - 2 - j) 0)).drop (n - 1 - j)).reverse))).flatMap iRow)]) (fun _ => True) RF Try.call75 E1 (by repeat (first | exact Rems.nil | apply Rems.cons (by repeat (first | exact Rem.here | apply Rem.there)))) (fun w1 hw1 => (reverse75 (by rw [nI_len, List.length_set, List.length_set]; exact hcl) (by omega) (by omega) hw1).mono (fun e w' h => ⟨(), trivial, h.1, by rw [← nI_rev]; exact h.2⟩)) rfl (fun _ _ => ?_)
              refine sq_nil ?_
              refine sx_blk ?_
              refine sx_round (((((cur.set (n - 2 - j) (cur.getD k 0)).set k (cur.getD (n - 2 - j) 0)).take (n - 1 - j) ++ (((cur.set (n - 2 - j) (cur.getD k 0)).set k (cur.getD (n - 2 - j) 0)).drop (n - 1 - j)).reverse), y.1)) ?_ ?_ SU SR
              · refine ⟨hnx.perm.trans hcur, ?_⟩
                exact hcong _ _ y.1 (fun q hq => bef_next hcur hnx hq) hyI
              · exact hmea
    ·
      rw [if_neg (by simp [hc1])] at hy
      refine sc_exit ?_
      refine sx_then_exit ?_
      refine sx_round_exit ?_
      refine sx_blk_hit ?_
      refine sx_ret0 (.inr rfl) rfl Try.results74 ?_
      intro w' hw'
      exact ⟨⟨_, rfl⟩, y.1, false, by rw [if_neg (by simp)]; exact hy, hw'.sel (Sel.skip (Sel.refl _))⟩
end Go.Proofs.Ytjlbpmcacopbpaa
