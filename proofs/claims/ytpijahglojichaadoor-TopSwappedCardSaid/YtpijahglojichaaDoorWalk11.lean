/- The walks of the rules of prices, and of Prices. -/
import Derived.Test.YtpijahglojichaaDoorWalk9
namespace Go.Eng
open Go Go.RowKit
theorem CS.new {w0 w wr : World} {rs : List Res} {D : Nat → Prop} {p : Addr} {vs : List Value} (h : CS D wr p vs) (hne : vs ≠ []) (hw : Hp w0 rs w) (hm : Res.set D wr ∈ rs) (hr : Res.reg 0 w0 ∈ rs) : CA w0.heap.size w p vs := by
  refine ⟨?_, (h.at hw hm).2⟩
  have hap := pairwise_mem apart_sym hw.apart hm hr (by simp)
  obtain ⟨v, hv⟩ : ∃ v, vs[0]? = some v := by
    cases hx : vs with
    | nil => exact absurd hx hne
    | cons v l => exact ⟨v, rfl⟩
  have hD := (h 0 v hv).1
  rcases Nat.lt_or_ge p.block w0.heap.size with hlt | hge
  · exact absurd ⟨Nat.zero_le _, hlt⟩ (hap _ hD)
  · exact hge
theorem blk_CS {w : World} {b : Nat} {vs : List Value} {e : TypeId} {fz : Nat × Nat} (D : Nat → Prop) (h : (Res.blk b (.cells vs.toArray e fz)).ok w) : CS (fun k => D k ∨ (Res.blk b (.cells vs.toArray e fz)).dom k) w ⟨b, 0, none⟩ vs := fun j v hj => by
  refine ⟨.inr rfl, ?_⟩
  have hb : w.heap[b]? = some (.cells vs.toArray e fz) := h
  rw [Addr.add_lit, Nat.zero_add]
  simp [World.cell?, hb, hj]
section
variable {X : Ctx} {L : List (Nat × Value)} {rs : List Res} {t ty : TypeId} {x : Operand} {v : Value} {d0 : TypeDesc} {n : Nat}
theorem y_load_set {D : Nat → Prop} {wr : World} {p : Addr} {vs : List Value} (hu : X.P.underlying t = some d0) (hs : scal d0 = true) (hx : ev L x = some (.pointer (some p))) (hm : Res.set D wr ∈ rs) (hc : CS D wr p vs) (hv : vs[0]? = some v) : OpS X L rs (.load t x) ty v := .val fun o' h1 _ a w ha hw => by
  have := (hc.at hw hm).2 0 v hv
  rw [Addr.add_zero'] at this
  simp [execOp, h1, ha.eval hx, Instr.loadAt, Instr.sureAddr, run_loadVar_scal hu hs this]
theorem y_load_sets {D : Nat → Prop} {wr : World} {p : Addr} {vs : List Value} (hu : X.P.underlying t = some d0) (hs : scal d0 = false) (hz : ∀ w, (Go.sizeOf t).run X.P w = .ok n w) (hx : ev L x = some (.pointer (some p))) (hm : Res.set D wr ∈ rs) (hc : CS D wr p vs) (hl : vs.length = n) : OpS X L rs (.load t x) ty (.agg vs.toArray) := .val fun o' h1 _ a w ha hw => by
  have := run_loadVar_agg (P := X.P) (p := p) (w := w) hu hs hz hl (fun j v hj => (hc.at hw hm).2 j v hj)
  simp [execOp, h1, ha.eval hx, Instr.loadAt, Instr.sureAddr, this]
end
end Go.Eng
namespace Go.Proofs.YtpijahglojichaaDoor
open Go Go.Eng Go.RowKit Go.Proofs
set_option maxRecDepth 100000
/-- who wants what: one person after another -/
def rulesI (m : Mt) (i k : Nat) : List (Nat × Nat) := ((List.range k).filter (wantsB m i)).map fun k => (i, k)
theorem rulesI_succ (m : Mt) (i k : Nat) : rulesI m i (k + 1) = if wantsB m i k = true then rulesI m i k ++ [(i, k)] else rulesI m i k := by
  unfold rulesI
  rw [List.range_succ, List.filter_append, List.map_append]
  by_cases h : wantsB m i k = true
  · rw [if_pos h]; simp [h]
  · rw [if_neg h]; simp [h]
def rulesN (m : Mt) (n : Nat) : Nat → List (Nat × Nat)
  | 0 => []
  | i + 1 => rulesN m n i ++ rulesI m i n
def rulesL (m : Mt) : List (Nat × Nat) := rulesN m m.length m.length
theorem rulesI_mem {m : Mt} {i k : Nat} {x : Nat × Nat} (h : x ∈ rulesI m i k) : x.1 = i ∧ x.2 < k ∧ wantsB m x.1 x.2 = true := by
  unfold rulesI at h
  obtain ⟨j, hj, rfl⟩ := List.mem_map.1 h
  have := List.mem_filter.1 hj
  exact ⟨rfl, List.mem_range.1 this.1, this.2⟩
theorem rulesN_mem {m : Mt} {n : Nat} {x : Nat × Nat} : ∀ {i : Nat}, x ∈ rulesN m n i → x.1 < i ∧ x.2 < n ∧ wantsB m x.1 x.2 = true
  | 0, h => by cases h
  | i + 1, h => by
    unfold rulesN at h
    rcases List.mem_append.1 h with h | h
    · have := rulesN_mem h; exact ⟨by omega, this.2⟩
    · have := rulesI_mem h; exact ⟨by omega, this.2⟩
theorem rulesI_len (m : Mt) (i k : Nat) : (rulesI m i k).length ≤ k := by
  unfold rulesI
  rw [List.length_map]
  exact Nat.le_trans (List.length_filter_le _ _) (by simp)
theorem rulesN_len (m : Mt) (n : Nat) : ∀ i, (rulesN m n i).length ≤ n * i
  | 0 => Nat.zero_le _
  | i + 1 => by
    unfold rulesN
    rw [List.length_append, Nat.mul_succ]
    have := rulesN_len m n i
    have := rulesI_len m i n
    omega
/-- how far a price must be raised -/
def mustP (m : Mt) (o ps : List Int) (x : Nat × Nat) : Int := ps.getD (getN o x.1) 0 + wv m x.1 x.2 - wv m x.1 (getN o x.1)
def relaxP (m : Mt) (o : List Int) (ps : List Int) (x : Nat × Nat) : List Int := ps.set x.2 (max (ps.getD x.2 0) (mustP m o ps x))
def roundK (m : Mt) (o ps : List Int) (k : Nat) : List Int := ((rulesL m).take k).foldl (relaxP m o) ps
def roundP (m : Mt) (o ps : List Int) : List Int := (rulesL m).foldl (relaxP m o) ps
def priceN (m : Mt) (o : List Int) : Nat → List Int
  | 0 => List.replicate m.length 0
  | r + 1 => roundP m o (priceN m o r)
theorem relax_len (m : Mt) (o ps : List Int) (x : Nat × Nat) : (relaxP m o ps x).length = ps.length := by unfold relaxP; simp
theorem foldl_relax_len (m : Mt) (o : List Int) : ∀ (l : List (Nat × Nat)) (ps : List Int), (l.foldl (relaxP m o) ps).length = ps.length
  | [], _ => rfl
  | x :: l, ps => by rw [List.foldl_cons, foldl_relax_len m o l, relax_len]
theorem roundK_succ {m : Mt} {o ps : List Int} {k : Nat} {x : Nat × Nat} (h : (rulesL m)[k]? = some x) : roundK m o ps (k + 1) = relaxP m o (roundK m o ps k) x := by
  unfold roundK
  rw [List.take_add_one, h, List.foldl_append]; rfl
theorem roundK_all (m : Mt) (o ps : List Int) : roundK m o ps (rulesL m).length = roundP m o ps := by unfold roundK roundP; rw [List.take_length]
theorem priceN_len (m : Mt) (o : List Int) : ∀ r, (priceN m o r).length = m.length
  | 0 => by unfold priceN; simp
  | r + 1 => by unfold priceN roundP; rw [foldl_relax_len, priceN_len m o r]
def BdP (ps : List Int) (B : Int) : Prop := ∀ i, 0 ≤ ps.getD i 0 ∧ ps.getD i 0 ≤ B
theorem relax_bd {m : Mt} (hm : MkF m) {o ps : List Int} {B : Int} (h : BdP ps B) (x : Nat × Nat) : BdP (relaxP m o ps x) (B + 1000) := by
  intro i
  unfold relaxP
  have h1 := h i
  have h2 := h x.2
  have h3 := h (getN o x.1)
  have h4 := hm.bd x.1 x.2
  have h5 := hm.bd x.1 (getN o x.1)
  have e : mustP m o ps x = ps.getD (getN o x.1) 0 + wv m x.1 x.2 - wv m x.1 (getN o x.1) := rfl
  by_cases hi : x.2 = i
  · by_cases hl : i < ps.length
    · rw [List.getD_eq_getElem?_getD, List.getElem?_set, if_pos hi, if_pos (by omega)]
      dsimp only [Option.getD_some]; omega
    · rw [getD_big (by simp; omega)]; omega
  · rw [List.getD_eq_getElem?_getD, List.getElem?_set, if_neg hi, ← List.getD_eq_getElem?_getD]; omega
theorem foldl_bd {m : Mt} (hm : MkF m) {o : List Int} : ∀ (l : List (Nat × Nat)) {ps : List Int} {B : Int}, BdP ps B → BdP (l.foldl (relaxP m o) ps) (B + 1000 * (l.length : Int))
  | [], ps, B, h => by simpa using h
  | x :: l, ps, B, h => by
    have := foldl_bd hm (o := o) l (relax_bd hm (o := o) h x)
    rw [List.foldl_cons]
    intro i
    have := this i
    rw [List.length_cons]; omega
theorem roundK_bd {m : Mt} (hm : MkF m) {o ps : List Int} {B : Int} (h : BdP ps B) (k : Nat) (hk : k ≤ 49) : BdP (roundK m o ps k) (B + 49000) := fun i => by
  have := foldl_bd hm (o := o) ((rulesL m).take k) h i
  have hl : ((rulesL m).take k).length ≤ 49 := by rw [List.length_take]; omega
  unfold roundK; omega
theorem priceN_bd {m : Mt} (hm : MkF m) (o : List Int) : ∀ r, BdP (priceN m o r) (49000 * (r : Int))
  | 0 => fun i => by
    unfold priceN
    rw [List.getD_eq_getElem?_getD, List.getElem?_replicate]
    split <;> simp
  | r + 1 => fun i => by
    have hl : (rulesL m).length ≤ 49 := by
      have := rulesN_len m m.length m.length
      have := hm.n7
      have : m.length * m.length ≤ 7 * 7 := Nat.mul_le_mul (by omega) (by omega)
      unfold rulesL; omega
    have := foldl_bd hm (o := o) (rulesL m) (priceN_bd hm o r) i
    unfold priceN roundP
    omega
theorem rulesL_len {m : Mt} (hm : MkF m) : (rulesL m).length ≤ 49 := by
  have := rulesN_len m m.length m.length
  have := hm.n7
  have : m.length * m.length ≤ 7 * 7 := Nat.mul_le_mul (by omega) (by omega)
  unfold rulesL; omega
/-- a rule, where it lies -/
abbrev Rl := (Nat × Nat) × (Addr × Addr × Addr × Addr)
def ruRow (r : Rl) : List Value := [.int .i64 (r.1.2 : Int), .func (.func 83) #[] #[.pointer (some r.2.1), .pointer (some r.2.2.1), .pointer (some r.2.2.2.1), .pointer (some r.2.2.2.2)]]
structure RuS (z : MA) (m : Mt) (o : List Int) (D : Nat → Prop) (wr : World) (r : Rl) : Prop where
  own : CS D wr r.2.1 [.int .i64 (getN o r.1.1 : Int)]
  mkt : CS D wr r.2.2.1 (mV z m)
  who : CS D wr r.2.2.2.1 [.int .i64 (r.1.1 : Int)]
  what : CS D wr r.2.2.2.2 [.int .i64 (r.1.2 : Int)]
theorem RuS.grow {z m o D wr D' wr' r} (h : RuS z m o D wr r) (g : Grow D wr D' wr') : RuS z m o D' wr' r := ⟨h.own.grow g, h.mkt.grow g, h.who.grow g, h.what.grow g⟩
structure RuA (z : MA) (m : Mt) (o : List Int) (lo : Nat) (w : World) (r : Rl) : Prop where
  own : CA lo w r.2.1 [.int .i64 (getN o r.1.1 : Int)]
  mkt : CA lo w r.2.2.1 (mV z m)
  who : CA lo w r.2.2.2.1 [.int .i64 (r.1.1 : Int)]
  what : CA lo w r.2.2.2.2 [.int .i64 (r.1.2 : Int)]
def newRl (i k b2 b5 b6 b7 : Nat) : Rl := ((i, k), (⟨b6, 0, none⟩, ⟨b2, 0, none⟩, ⟨b5, 0, none⟩, ⟨b7, 0, none⟩))
theorem ruRow_len (r : Rl) : (ruRow r).length = 2 := rfl
theorem ru_one (l : List Rl) : ∀ u, u ∈ l.flatMap ruRow → u.oneCell' = true := flat_one (fun x u hu => by simp [ruRow] at hu; rcases hu with rfl | rfl <;> rfl) l

theorem ei93 : EI Tryd.prog 93 (.agg #[.int .i64 0, .nilFunc]) 2 16 := by unfold EI; kernel_rfl
theorem bt93 : BT Tryd.prog 93 [(0, 1), (1, 1)] (.agg #[.int .i64 0, .nilFunc]) := BT.of Tryd.underlying93 (by kernel_rfl) (by kernel_rfl)
theorem must83 (w : World) (a : Option Addr) (c : Nat) (ps : List Int) (hp : RowsA iRow 1 0 w a ps) (z : MA) (m : Mt) (hz : MtA 0 w z m) (hm : MkF m) (po pm pi pk : Addr) (i k u : Nat) (h1 : CA 0 w po [.int .i64 (u : Int)]) (h2 : CA 0 w pm (mV z m)) (h3 : CA 0 w pi [.int .i64 (i : Int)]) (h4 : CA 0 w pk [.int .i64 (k : Int)]) (hi : i < m.length) (hk : k < m.length) (hu : u < m.length) (hup : u < ps.length) (hb : 0 ≤ ps.getD u 0 ∧ ps.getD u 0 ≤ 1000000) :
    Calls Tryd.prog 83 #[.slice a ps.length c, .pointer (some po), .pointer (some pm), .pointer (some pi), .pointer (some pk)] w fun e w' => e = .returned (.int .i64 (ps.getD u 0 + wv m i k - wv m i u)) ∧ Below w.heap.size w w' := by
  have hrow := hm.row i hi
  obtain ⟨hs1, hc1, hs2, hc2⟩ := hz.cell hi (show k < (m.getD i []).length by omega)
  obtain ⟨_, _, hs3, hc3⟩ := hz.cell hi (show u < (m.getD i []).length by omega)
  have hsp := (hp.get 0 hup).1
  have hcp := (hp.get 0 hup).2
  have hb1 := hm.bd i k
  have hb2 := hm.bd i u
  refine calls_of_SC (args := [.slice a ps.length c, .pointer (some po), .pointer (some pm), .pointer (some pi), .pointer (some pk)]) Tryd.func83 rfl Tryd.ntmps83 rfl ?_
  simp only [argL, Nat.reduceAdd, Nat.zero_add]
  refine sc_seq ?_
  refine sc_region ?_
  refine qs (y_assign RF) ?_
  refine sq_nil ?_
  refine sx_then ?_
  refine sc_seq ?_
  refine sc_drawR (by kernel_rfl) ?_
  refine xj_s 0 RF (by kernel_rfl) SR (y_move RF) rfl ?_
  refine xj_s 1 RF (by kernel_rfl) SR (by first | exact y_load_ca0 Tryd.underlying3 rfl RF MM h1 rfl | exact LD3) rfl ?_
  refine xj_s 2 RF (by kernel_rfl) SR IA25 rfl ?_
  refine xj_s 3 RF (by kernel_rfl) SR (by first | exact y_load_ca0 Tryd.underlying3 rfl RF MM hcp rfl | exact LD3) rfl ?_
  refine xj_s 4 RF (by kernel_rfl) SR FA75_24 rfl ?_
  refine xj_s 5 RF (by kernel_rfl) SR FA24_22 rfl ?_
  refine xj_s 6 RF (by kernel_rfl) SR (by first | exact y_load_caj (j := 0) Tryd.underlying22 rfl RF MM h2 rfl | exact y_load_ca0 Tryd.underlying22 rfl (by rw [Addr.add_zero']; exact rfl) MM h2 rfl | exact y_load_cajj Tryd.underlying22 rfl RF MM h2 rfl | exact LD22) rfl ?_
  refine xj_s 7 RF (by kernel_rfl) SR (by first | exact y_load_ca0 Tryd.underlying3 rfl RF MM h3 rfl | exact LD3) rfl ?_
  refine xj_s 8 RF (by kernel_rfl) SR IA22 rfl ?_
  refine xj_s 9 RF (by kernel_rfl) SR (by first | exact y_load_ca0 Tryd.underlying25 rfl RF MM hc1 rfl | exact LD25) rfl ?_
  refine xj_s 10 RF (by kernel_rfl) SR (by first | exact y_load_ca0 Tryd.underlying3 rfl RF MM h4 rfl | exact LD3) rfl ?_
  refine xj_s 11 RF (by kernel_rfl) SR IA25 rfl ?_
  refine xj_s 12 RF (by kernel_rfl) SR (by first | exact y_load_ca0 Tryd.underlying3 rfl RF MM hc2 rfl | exact LD3) rfl ?_
  refine xj_s 13 RF (by kernel_rfl) SR (y_add RF RF (by omega)) rfl ?_
  refine xj_s 14 RF (by kernel_rfl) SR FA75_24 rfl ?_
  refine xj_s 15 RF (by kernel_rfl) SR FA24_22 rfl ?_
  refine xj_s 16 RF (by kernel_rfl) SR (by first | exact y_load_cajj Tryd.underlying22 rfl RF MM h2 rfl | exact LD22) rfl ?_
  refine xj_s 17 RF (by kernel_rfl) SR (by first | exact y_load_ca0 Tryd.underlying3 rfl RF MM h3 rfl | exact LD3) rfl ?_
  refine xj_s 18 RF (by kernel_rfl) SR IA22 rfl ?_
  refine xj_s 19 RF (by kernel_rfl) SR (by first | exact y_load_ca0 Tryd.underlying25 rfl RF MM hc1 rfl | exact LD25) rfl ?_
  refine xj_s 20 RF (by kernel_rfl) SR (by first | exact y_load_ca0 Tryd.underlying3 rfl RF MM h1 rfl | exact LD3) rfl ?_
  refine xj_s 21 RF (by kernel_rfl) SR IA25 rfl ?_
  refine xj_s 22 RF (by kernel_rfl) SR (by first | exact y_load_ca0 Tryd.underlying3 rfl RF MM hc3 rfl | exact LD3) rfl ?_
  refine xj_s 23 RF (by kernel_rfl) SR (y_sub RF RF (by omega)) rfl ?_
  refine xj_s 24 RF (by kernel_rfl) SR (y_assign RF) rfl ?_
  refine xj_done (by kernel_rfl) ?_
  refine sx_then ?_
  refine sc_ret ?_
  refine sx_ret1 (.inl rfl) rfl Tryd.results83 RF ?_
  intro w' hw'
  exact ⟨rfl, hw'.below MM⟩
theorem raises55 (w : World) (z : MA) (m : Mt) (hz : MtA 0 w z m) (hm : MkF m) (a : Option Addr) (c : Nat) (o : List Int) (ho : RowsA iRow 1 0 w a o) (hv : ordB o m.length = true) : Calls Tryd.prog 55 #[.agg (mV z m).toArray, .slice a o.length c] w fun e w' => ∃ q : (Option Addr × Nat) × List Rl, e = .returned (.slice q.1.1 q.2.length q.1.2) ∧ Below w.heap.size w w' ∧ RowsA ruRow 2 w.heap.size w' q.1.1 q.2 ∧ (∀ r, r ∈ q.2 → RuA z m o w.heap.size w' r) ∧ q.2.map (·.1) = rulesL m := by
  have hlen := ho.len
  have hol := ord_len hv
  have hn7 := hm.n7
  refine calls_of_SC (args := [.agg (mV z m).toArray, .slice a o.length c]) Tryd.func55 rfl Tryd.ntmps55 rfl ?_
  simp only [argL, Nat.zero_add]
  refine sc_seq ?_
  refine sc_region ?_
  refine sq_box RF rfl (fun b2 => ?_)
  refine qs (y_assign RF) ?_
  refine sq_nil ?_
  refine sx_then ?_
  refine sc_seq ?_
  refine sc_seq ?_
  refine sc_region ?_
  refine qs (y_move RF) ?_
  refine qs (y_len Tryd.underlying25 RF) ?_
  refine qs (y_move RF) ?_
  refine sq_nil ?_
  refine sx_then ?_
  refine sc_block ?_
  refine sc_nil_own 93 2 ?_
  refine sc_set0 (fun wS0 => ?_)
  refine sc_join (r := .blk b2 (.cells (mV z m).toArray 75 (0, 0))) RMS1 (fun wj0 hgj0 hkj0 => ?_)
  have hc2 := blk_CS (fun _ => False) hkj0
  refine sc_loop (σ := Nat × Value × List Rl × (Nat → Prop) × World)
    (fun s_ => [(1, .slice a o.length c), (2, .pointer (some ⟨b2, 0, none⟩)), (8, .slice a o.length c), (9, .int .i64 o.length), (4, s_.2.1), (10, .int .i64 s_.1)])
    (fun s_ => [.own s_.2.1 93 2 s_.2.2.1.length (s_.2.2.1.flatMap ruRow), .set s_.2.2.2.1 s_.2.2.2.2, .reg 0 w])
    (fun s_ => s_.1 ≤ o.length ∧ s_.2.1.oneCell' = true ∧ s_.2.2.1.map (·.1) = rulesN m m.length s_.1 ∧ CS s_.2.2.2.1 s_.2.2.2.2 ⟨b2, 0, none⟩ (mV z m) ∧ ∀ r, r ∈ s_.2.2.1 → RuS z m o s_.2.2.2.1 s_.2.2.2.2 r)
    (fun s_ => o.length - s_.1)
    ((0, .slice none 0 0, [], _, wj0)) ?_ SU SR ?_
  · exact ⟨Nat.zero_le _, rfl, rfl, hc2, fun r hr => by cases hr⟩
  rintro ⟨i, v, rl, Dd, wS⟩ ⟨hi, hv1, hrl, hmk, hru⟩
  dsimp only at hi hv1 hrl hmk hru ⊢
  refine sc_seq ?_
  refine sc_region ?_
  refine qs (y_lss RF RF) ?_
  refine sq_nil ?_
  refine sx_then ?_
  refine sc_seq ?_
  refine scp (fun hc0 => ?_) (fun hc0 => ?_)
  ·
    have hi' : i < o.length := by omega
    have him : i < m.length := by omega
    have hso := (ho.get 0 hi').1
    have hco := (ho.get 0 hi').2
    rw [(ord_get hv him).1] at hco
    have hrow := hm.row i him
    refine sc_skip ?_
    refine sx_then ?_
    refine sc_seq ?_
    refine sc_block ?_
    refine sc_seq ?_
    refine sc_region ?_
    refine qs (y_move RF) ?_
    refine qs IA25 ?_
    refine qs (by first | exact y_load_ca0 Tryd.underlying3 rfl RF MM hco rfl | exact LD3) ?_
    refine sq_alloc Tryd.zeroValue3 rfl (fun b5 => ?_)
    refine sq_alloc Tryd.zeroValue3 rfl (fun b6 => ?_)
    refine sq_store Tryd.sizeOf3 RF RF (by first | rfl | assumption) RM (by first | exact Nat.le_of_ble_eq_true rfl | simp | omega) ?_
    refine sq_store Tryd.sizeOf3 RF RF (by first | rfl | assumption) RM (by first | exact Nat.le_of_ble_eq_true rfl | simp | omega) ?_
    refine sq_nil ?_
    refine sx_then ?_
    refine sc_seq ?_
    refine sc_join (r := .blk b5 (.cells [Value.int .i64 (i : Int)].toArray 3 (0, 0))) RMS1 (fun wj1 hgj1 hkj1 => ?_)
    have hc5 := blk_CS Dd hkj1
    refine sc_join (r := .blk b6 (.cells [Value.int .i64 ((getN o i : Nat) : Int)].toArray 3 (0, 0))) RMS1 (fun wj2 hgj2 hkj2 => ?_)
    have hc6 := blk_CS (fun q => Dd q ∨ (Res.blk b5 (.cells [Value.int .i64 (i : Int)].toArray 3 (0, 0))).dom q) hkj2
    have hc5' := hc5.grow hgj2
    have hmk2 := (hmk.grow hgj1).grow hgj2
    have hru2 := fun r hr => ((hru r hr).grow hgj1).grow hgj2
    refine sc_region ?_
    refine qs (y_move RF) ?_
    refine qs (y_len Tryd.underlying25 RF) ?_
    refine qs (y_move RF) ?_
    refine sq_nil ?_
    refine sx_then ?_
    refine sc_block ?_
    refine sc_loop (σ := Nat × Value × List Rl × (Nat → Prop) × World)
      (fun s_ => [(1, .slice a o.length c), (2, .pointer (some ⟨b2, 0, none⟩)), (8, .slice a o.length c), (9, .int .i64 o.length), (4, s_.2.1), (10, .int .i64 i), (5, .pointer (some ⟨b5, 0, none⟩)), (6, .pointer (some ⟨b6, 0, none⟩)), (15, .slice a o.length c), (16, .int .i64 o.length), (17, .int .i64 s_.1)])
      (fun s_ => [.own s_.2.1 93 2 s_.2.2.1.length (s_.2.2.1.flatMap ruRow), .set s_.2.2.2.1 s_.2.2.2.2, .reg 0 w])
      (fun s_ => s_.1 ≤ o.length ∧ s_.2.1.oneCell' = true ∧ s_.2.2.1.map (·.1) = rulesN m m.length i ++ rulesI m i s_.1 ∧ CS s_.2.2.2.1 s_.2.2.2.2 ⟨b2, 0, none⟩ (mV z m) ∧ (∀ r, r ∈ s_.2.2.1 → RuS z m o s_.2.2.2.1 s_.2.2.2.2 r) ∧ CS s_.2.2.2.1 s_.2.2.2.2 ⟨b5, 0, none⟩ [Value.int .i64 (i : Int)] ∧ CS s_.2.2.2.1 s_.2.2.2.2 ⟨b6, 0, none⟩ [Value.int .i64 ((getN o i : Nat) : Int)])
      (fun s_ => o.length - s_.1)
      ((0, v, rl, _, wj2)) ?_ SU SR ?_
    · exact ⟨Nat.zero_le _, hv1, by dsimp only; rw [hrl]; simp [rulesI], hmk2, hru2, hc5', hc6⟩
    rintro ⟨k, v2, rl2, D3, w3⟩ ⟨hk, hv2, hrl2, h3m, h3r, h35, h36⟩
    dsimp only at hk hv2 hrl2 h3m h3r h35 h36 ⊢
    have hrlen : rl2.length ≤ 1000 := by
      have h1 : rl2.length = (rl2.map (·.1)).length := by simp
      rw [h1, hrl2, List.length_append]
      have h2 := rulesN_len m m.length i
      have h3 := rulesI_len m i k
      have h4 : m.length * i ≤ 7 * 7 := Nat.mul_le_mul (by omega) (by omega)
      omega
    refine sc_seq ?_
    refine sc_region ?_
    refine qs (y_lss RF RF) ?_
    refine sq_nil ?_
    refine sx_then ?_
    refine sc_seq ?_
    refine scp (fun hc1 => ?_) (fun hc1 => ?_)
    ·
      have hk' : k < o.length := by omega
      have hkm : k < m.length := by omega
      refine sc_skip ?_
      refine sx_then ?_
      refine sc_seq ?_
      refine sc_block ?_
      refine sc_seq ?_
      refine sc_region ?_
      refine qs (y_move RF) ?_
      refine sq_alloc Tryd.zeroValue3 rfl (fun b7 => ?_)
      refine sq_store Tryd.sizeOf3 RF RF (by first | rfl | assumption) RM (by first | exact Nat.le_of_ble_eq_true rfl | simp | omega) ?_
      refine sq_nil ?_
      refine sx_then ?_
      refine sc_seq ?_
      refine sc_region ?_
      refine qs (by first | exact y_load_sets Tryd.underlying75 rfl Tryd.sizeOf75 RF MM h3m rfl | exact LD75) ?_
      refine qs (by first | exact y_load_set Tryd.underlying3 rfl RF MM h35 rfl | exact LD3) ?_
      refine qs LD3 ?_
      refine qy (yc Tryd.call49 E3 (fun w1 hw1 => wants49 w1 z m (hz.at hw1 MM) i k him (by omega))) ?_
      refine sq_nil ?_
      refine sx_then ?_
      first | refine sc_if RF (fun hc2' => ?_) (fun hc2' => ?_) | refine sc_ifn RF (fun hc2' => ?_) (fun hc2' => ?_) | refine sc_cond RF (fun hc2' => ?_) (fun hc2' => ?_)
      ·
        refine sc_join (r := .blk b7 (.cells [Value.int .i64 (k : Int)].toArray 3 (0, 0))) RMS1 (fun wj3 hgj3 hkj3 => ?_)
        have hc7 := blk_CS D3 hkj3
        have hrn : RuS z m o _ wj3 (newRl i k b2 b5 b6 b7) := ⟨h36.grow hgj3, h3m.grow hgj3, h35.grow hgj3, hc7⟩
        refine sc_region ?_
        refine qs (y_move RF) ?_
        refine qs (by first | exact y_load_set Tryd.underlying3 rfl RF MM hc7 rfl | exact LD3) ?_
        refine qs (y_makeFunc EvL.nil (EvL.cons RF (EvL.cons RF (EvL.cons RF (EvL.cons RF EvL.nil))))) ?_
        refine qs (y_build (cells := (ruRow (newRl i k b2 b5 b6 b7)).toArray) bt93 (EvP.cons RF (EvP.cons RF EvP.nil)) (by kernel_rfl)) ?_
        refine sq_bs Tryd.underlying90 ei93 (EvI.cons RF EvI.nil) (by first | (simp [Value.cells]; done) | (simp [Value.cells]; rfl) | (simp [Value.cells]; and_intros <;> rfl)) rfl rfl rfl (fun b28 => ?_)
        refine sq_append (news := ruRow (newRl i k b2 b5 b6 b7)) Tryd.underlying90 ei93 rfl (by decide) RF RM RF rfl (fun _ hw => news_blk hw MM) (by simp [ruRow, newRl, Value.oneCell']) (by omega) rfl (fun v29 ho29 => ?_)
        rw [show rl2.flatMap ruRow ++ ruRow (newRl i k b2 b5 b6 b7) = (rl2 ++ [(newRl i k b2 b5 b6 b7)]).flatMap ruRow from by simp, show rl2.length + 1 = (rl2 ++ [(newRl i k b2 b5 b6 b7)]).length from by simp]
        refine qs (y_assign RF) ?_
        refine sq_nil ?_
        refine sx_blk ?_
        refine sx_then ?_
        refine sc_region ?_
        refine qs (y_add RF RF (by omega)) ?_
        refine qs (y_move RF) ?_
        refine sq_nil ?_
        refine sx_round ((k + 1, v29, rl2 ++ [(newRl i k b2 b5 b6 b7)], _, wj3)) ?_ ?_ SU SR
        · refine ⟨by dsimp only; omega, ho29, ?_, h3m.grow hgj3, fun r hr => ?_, h35.grow hgj3, h36.grow hgj3⟩
          · dsimp only
            rw [rulesI_succ, if_pos hc2', List.map_append, hrl2, List.append_assoc]; rfl
          · rcases List.mem_append.1 hr with hr | hr
            · exact (h3r r hr).grow hgj3
            · simp at hr; subst hr; exact hrn
        · dsimp only; omega
      ·
        refine sc_skip ?_
        refine sx_blk ?_
        refine sx_then ?_
        refine sc_region ?_
        refine qs (y_add RF RF (by omega)) ?_
        refine qs (y_move RF) ?_
        refine sq_nil ?_
        refine sx_round ((k + 1, v2, rl2, D3, w3)) ?_ ?_ SU SR
        · exact ⟨by dsimp only; omega, hv2, by dsimp only; rw [rulesI_succ, if_neg (by simp [hc2']), hrl2], h3m, h3r, h35, h36⟩
        · dsimp only; omega
    ·
      have hkn : k = o.length := by omega
      subst hkn
      refine sc_exit ?_
      refine sx_then_exit ?_
      refine sx_round_exit ?_
      refine sx_blk_hit ?_
      refine sx_blk ?_
      refine sx_then ?_
      refine sc_region ?_
      refine qs (y_add RF RF (by omega)) ?_
      refine qs (y_move RF) ?_
      refine sq_nil ?_
      refine sx_round ((i + 1, v2, rl2, D3, w3)) ?_ ?_ SU SR
      · exact ⟨by dsimp only; omega, hv2, by dsimp only; conv => { rhs; unfold rulesN }; rw [hrl2, ← hol], h3m, h3r⟩
      · dsimp only; omega
  ·
    have hin : i = o.length := by omega
    subst hin
    refine sc_exit ?_
    refine sx_then_exit ?_
    refine sx_round_exit ?_
    refine sx_blk_hit ?_
    refine sx_then ?_
    refine sc_seq ?_
    refine sc_region ?_
    refine qs (y_move RF) ?_
    refine qs (y_assign RF) ?_
    refine sq_nil ?_
    refine sx_then ?_
    refine sc_ret ?_
    refine sx_ret1 (.inl rfl) rfl Tryd.results55 RF ?_
    intro w' hw'
    have hoo := own_new_mem hw' (v := v) (xs := rl.flatMap ruRow) MM MM
    have hll : rl.length ≤ 1000 := by
      have h1 : rl.length = (rl.map (·.1)).length := by simp
      rw [h1, hrl]
      have h2 := rulesN_len m m.length o.length
      have h4 : m.length * o.length ≤ 7 * 7 := Nat.mul_le_mul (by omega) (by omega)
      omega
    obtain ⟨a2, c2, hv2, _, hr⟩ := own_rowsA (row := ruRow) ruRow_len hoo rfl (by omega)
    exact ⟨((a2, c2), rl), by rw [hv2], hw'.below MM, hr, fun r hr => ⟨(hru r hr).own.new (by simp) hw' MM MM, (hru r hr).mkt.new (by simp [mV]) hw' MM MM, (hru r hr).who.new (by simp) hw' MM MM, (hru r hr).what.new (by simp) hw' MM MM⟩, by rw [hrl]; unfold rulesL; rw [← hol]⟩
end Go.Proofs.YtpijahglojichaaDoor
