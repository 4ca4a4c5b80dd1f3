/- The walk of RaceTrue. -/
import Derived.Test.YtegdfpilhlcplaaWalk30
namespace Go.Proofs.Ytegdfpilhlcplaa
open Go Go.Eng Go.RowKit Go.Proofs
set_option maxRecDepth 100000
/-- the truths, in memory -/
structure HasA (w : World) (ah : Option Addr) (r : Rc) (bs : List Int) (L : Nat) (fh : Nat → Option Addr) (ch : Nat → Nat) : Prop where
  row : ∀ t, t < r.teams.length → ah.isSome = true ∧ CA 0 w (elt ah t 1) [.slice (fh t) (L + 1) (ch t)]
  ints : ∀ t, t < r.teams.length → IntsA 0 w (fh t) ((List.range (L + 1)).map (hasZ r bs t))
theorem HasA.at {w0 rs w w1 ah r bs L fh ch} (h : HasA w ah r bs L fh ch) (hw : Hp w0 rs w1) (hm : Res.reg 0 w ∈ rs) : HasA w1 ah r bs L fh ch :=
  ⟨fun t ht => ⟨(h.row t ht).1, CA.at (h.row t ht).2 hw hm⟩, fun t ht => (h.ints t ht).at hw hm⟩
theorem said_row (r : Rc) (bs : List Int) (k : Nat) : (saidL r bs k).flatMap wdRow ++ [.int .i64 (saidT r bs k), .int .i64 (saidM r bs k), .int .i64 (max 0 (saidH r bs k - (bs.getD k 0) / 256 % 9)), .int .i64 (min r.p (saidH r bs k + (bs.getD k 0) / 16 % 7))] = (saidL r bs (k + 1)).flatMap wdRow := by
  rw [saidL_succ, List.flatMap_append]; rfl
def innerH (L : Nat) (iv : List (Value × (Nat → Int))) : List Res := iv.map fun p => .own p.1 3 1 (L + 1) (intC (L + 1) p.2)
structure InH (r : Rc) (bs : List Int) (k : Nat) (iv : List (Value × (Nat → Int))) : Prop where
  len : iv.length = k
  val : ∀ i p, iv.reverse[i]? = some p → p.2 = hasZ r bs i
theorem InH.step {r : Rc} {bs : List Int} {k : Nat} {iv : List (Value × (Nat → Int))} (h : InH r bs k iv) (v : Value) : InH r bs (k + 1) ((v, hasZ r bs k) :: iv) := by
  refine ⟨by simp [h.len], fun i p hp => ?_⟩
  rw [List.reverse_cons] at hp
  rcases Nat.lt_or_ge i k with hi | hi
  · rw [List.getElem?_append_left (by simp [h.len, hi])] at hp
    exact h.val i p hp
  · have hlt := (List.getElem?_eq_some_iff.1 hp).1
    simp [h.len] at hlt
    have : i = k := by omega
    subst this
    rw [List.getElem?_append_right (by simp [h.len])] at hp
    simp [h.len] at hp
    subst hp; rfl
theorem InH.get {r : Rc} {bs : List Int} {k i L : Nat} {iv : List (Value × (Nat → Int))} (h : InH r bs k iv) (hi : i < k) : ∃ v, (iv.reverse.map (·.1))[i]? = some v ∧ Res.own v 3 1 (L + 1) (intC (L + 1) (hasZ r bs i)) ∈ innerH L iv := by
  obtain ⟨p, hp⟩ : ∃ p, iv.reverse[i]? = some p := ⟨_, List.getElem?_eq_getElem (by simp [h.len, hi])⟩
  refine ⟨p.1, by rw [List.getElem?_map, hp]; rfl, ?_⟩
  have hm : p ∈ iv := List.mem_reverse.1 (List.mem_of_getElem? hp)
  rw [← h.val i p hp]
  exact List.mem_map.2 ⟨p, hm, rfl⟩
def capA : Value → Nat
  | .slice _ _ c => c
  | _ => 0
theorem own_intC {w0 w : World} {rs : List Res} (h : Hp w0 rs w) {v : Value} {n : Nat} {g : Nat → Int} (hm : Res.own v 3 1 n (intC n g) ∈ rs) : v = .slice (baseA v) n (capA v) ∧ IntsA 0 w (baseA v) ((List.range n).map g) := by
  have ho : w.ownsRow 0 3 1 v n (intC n g) := h.ok _ hm
  obtain ⟨a, c, rfl, hI⟩ := own_ints (xs := (List.range n).map g) (by rw [List.map_map]; exact ho)
  exact ⟨rfl, hI⟩
theorem has_of {w0 w : World} {rs : List Res} (h : Hp w0 rs w) {r : Rc} {bs : List Int} {L : Nat} {vh : Value} {iv : List (Value × (Nat → Int))} (hI : InH r bs r.teams.length iv) (hm : Res.own vh 51 1 r.teams.length (iv.reverse.map (·.1)) ∈ rs) (hin : ∀ x, x ∈ innerH L iv → x ∈ rs) :
    ∃ ah ch, vh = .slice ah r.teams.length ch ∧ HasA w ah r bs L (fun t => baseA ((iv.reverse.map (·.1)).getD t (.bool false))) (fun t => capA ((iv.reverse.map (·.1)).getD t (.bool false))) := by
  have ho : w.ownsRow 0 51 1 vh r.teams.length (iv.reverse.map (·.1)) := h.ok _ hm
  obtain ⟨ah, ch, hv, hrow⟩ := own_row1 ho
  refine ⟨ah, ch, hv, fun t ht => ?_, fun t ht => ?_⟩
  · obtain ⟨v, hv1, hv2⟩ := hI.get (L := L) ht
    rw [getD_of hv1, ← (own_intC h (hin _ hv2)).1]
    exact hrow t v hv1
  · obtain ⟨v, hv1, hv2⟩ := hI.get (L := L) ht
    rw [getD_of hv1]
    exact (own_intC h (hin _ hv2)).2
theorem intC_snoc (k : Nat) (g : Nat → Int) : intC k g ++ [.int .i64 (g k)] = intC (k + 1) g := by unfold intC; rw [List.range_succ, List.map_append]; rfl
theorem intC_get' {n : Nat} {g : Nat → Int} {k : Nat} (h : k < n) : (intC n g)[k * 1]? = some (.int .i64 (g k)) := by rw [Nat.mul_one]; simp [intC, h]
/-- words, as a value -/
def WvB (w : World) (v : Value) (l : List Wd) : Prop := ∃ a c, v = .slice a l.length c ∧ l.length ≤ c ∧ WdsA 0 w a l
theorem own_wvb {w0 w : World} {rs : List Res} (h : Hp w0 rs w) {v : Value} {n : Nat} {l : List Wd} (hm : Res.own v 57 4 n (l.flatMap wdRow) ∈ rs) (hn : l.length = n) (h64 : l.length ≤ 9223372036854775807) : WvB w v l := by
  subst hn
  have ho : w.ownsRow 0 57 4 v l.length (l.flatMap wdRow) := h.ok _ hm
  obtain ⟨a, c, h1, h2, h3⟩ := own_rows wdRow_len ho
  exact ⟨a, c, h1, h2, ⟨h3, h64⟩⟩
theorem worked15y (w : World) (v : Value) (r : Rc) (t m : Nat) (hr : RcA 0 w v r) (hok : rcB r = true) (ht : t < r.teams.length) (hm : m ≤ 2000) : Calls Try.prog 15 #[v, .int .i64 t, .int .i64 m] w fun e w' => e = .returned (.tuple #[.int .i64 (wrk r t m), .int .i64 0]) ∧ Below w.heap.size w w' := by
  have h := worked15 w v r t m hr
  rw [if_neg (by simp [hok]), if_pos (by omega), Int.toNat_natCast, Int.toNat_natCast] at h
  exact h
theorem score34y (w : World) (r : Rc) (a : Option Addr) (c : Nat) (f : Nat → Option Addr) (cf : Nat → Nat) (t : Nat) (v : Value) (n : Nat) (h : Nat → Int) (m : Nat) (mz : Int) (hmz : mz = m) (hT : TmsA 0 w a r.teams f cf) (hok : rcB r = true) (ht : t < r.teams.length) (hv : v = .slice (baseA v) n (capA v)) (hh : IntsA 0 w (baseA v) ((List.range n).map h)) (hm : m < n) (hn : n ≤ 1001) (hbd : ∀ k, 0 ≤ h k ∧ h k ≤ 10000) :
    Calls Try.prog 34 #[.agg (rcVal r a c).toArray, .int .i64 t, v, .int .i64 mz] w fun e w' => e = .returned (.int .i64 (scV h r.p (penOf r t) m)) ∧ Below w.heap.size w w' := by
  subst hmz
  rw [hv]
  exact score34 w r a c f cf t _ n _ h m hT hok ht hh hm hn hbd
theorem bit_zero (x t : Nat) : decide (((((x : Int) / 2 ^ ((t : Nat) : Int).toNat).toNat &&& ((1 : Int)).toNat : Nat) : Int) = 0) = !x.testBit t := by
  rw [← bit_one]
  have h1 : ((1 : Int)).toNat = 1 := rfl
  rw [h1, Nat.and_one_is_mod]
  generalize ((x : Int) / 2 ^ ((t : Nat) : Int).toNat).toNat = y
  rcases Nat.mod_two_eq_zero_or_one y with h | h <;> rw [h] <;> rfl

theorem said33 (w : World) (r : Rc) (a : Option Addr) (c : Nat) (f : Nat → Option Addr) (cf : Nat → Nat) (ab : Option Addr) (cb : Nat) (bs : List Int) (L : Nat) (hL : r.lim = L) (ah : Option Addr) (cah : Nat) (fh : Nat → Option Addr) (ch : Nat → Nat) (K : Nat) (hK : K = min bs.length 40) (hT : TmsA 0 w a r.teams f cf) (hb : U16A 0 w ab bs) (hok : rcB r = true) (hbs : BsOk bs) (i1 : InI r.p) (i2 : InI r.lim) (i3 : InI r.rate) (hH : HasA w ah r bs L fh ch) : Calls Try.prog 33 #[.agg (rcVal r a c).toArray, .slice ah r.teams.length cah, .slice ab bs.length cb] w fun e w' => ∃ z, e = .returned z ∧ Below w.heap.size w w' ∧ w'.ownsRow w.heap.size 57 4 z K ((saidL r bs K).flatMap wdRow) := by
  have hlim := rcB_nums hok
  have hnb := hbs.1
  have hlen := hb.len
  have hlenT := hT.len
  refine calls_of_SC (args := [.agg (rcVal r a c).toArray, .slice ah r.teams.length cah, .slice ab bs.length cb]) Try.func33 rfl Try.ntmps33 rfl ?_
  simp only [argL, Nat.reduceAdd, Nat.zero_add]
  refine sc_seq ?_
  refine sc_region ?_
  refine sq_box (by exact rfl) rfl (fun b3 => ?_)
  refine sq_y (OpY.s (y_assign (by exact rfl))) rfl ?_
  refine sq_nil ?_
  refine sx_then ?_
  refine sc_seq ?_
  refine sc_region ?_
  refine sq_y (OpY.s (y_assign (by exact rfl))) rfl ?_
  refine sq_nil ?_
  refine sx_then ?_
  refine sc_seq ?_
  refine sc_seq ?_
  refine sc_region ?_
  refine sq_y (OpY.s (y_move (by exact rfl))) rfl ?_
  refine sq_y (OpY.s (y_len Try.underlying47 (by exact rfl))) rfl ?_
  refine sq_y (OpY.s (y_move (by exact rfl))) rfl ?_
  refine sq_nil ?_
  refine sx_then ?_
  refine sc_block ?_
  refine sc_nil_own 57 4 ?_
  refine sc_loop (σ := Nat × Value)
    (fun s => [(1, .slice ah r.teams.length cah), (2, .slice ab bs.length cb), (3, .pointer (some ⟨b3, 0, none⟩)), (7, s.2), (13, .int .i64 bs.length), (14, .int .i64 s.1)])
    (fun s => [.own s.2 57 4 s.1 ((saidL r bs s.1).flatMap wdRow), .blk b3 (.cells (rcVal r a c).toArray 24 (0, 0)), .reg 0 w])
    (fun s => s.1 ≤ bs.length ∧ s.1 ≤ 40)
    (fun s => bs.length - s.1)
    ((0, .slice none 0 0)) ?_ (by repeat (first | exact SubL.nil | refine SubL.cons (by first | exact rfl | exact lk_int rfl (by omega) | exact lk_eq rfl (by simp)) ?_)) (by repeat (first | exact Sel.nil | refine Sel.cons (by repeat (first | exact Rem.here | apply Rem.there)) ?_)) ?_
  · exact ⟨Nat.zero_le _, Nat.zero_le _⟩
  rintro ⟨k, v⟩ ⟨hk, hk40⟩
  dsimp only at hk hk40 ⊢
  refine sc_seq ?_
  refine sc_region ?_
  refine sq_y (OpY.s (y_lss (by exact rfl) (by exact rfl))) rfl ?_
  refine sq_nil ?_
  refine sx_then ?_
  refine sc_seq ?_
  first | refine sc_if (by exact rfl) (fun hc0 => ?_) (fun hc0 => ?_) | refine sc_ifn (by exact rfl) (fun hc0 => ?_) (fun hc0 => ?_) | refine sc_cond (by exact rfl) (fun hc0 => ?_) (fun hc0 => ?_)
  ·
    have hk' : k < bs.length := by omega
    have hrow := hb.el k _ (get_of_lt 0 hk')
    have hsm := hrow.1
    have hca := hrow.2
    have hx := hbs.get hk'
    refine sc_skip ?_
    refine sx_then ?_
    refine sc_seq ?_
    refine sc_block ?_
    refine sc_seq ?_
    refine sc_region ?_
    refine sq_y (OpY.s (y_move (by exact rfl))) rfl ?_
    refine sq_y (OpY.s (y_assign (by exact rfl))) rfl ?_
    refine sq_nil ?_
    refine sx_then ?_
    refine sc_seq ?_
    refine sc_seq ?_
    refine sc_region ?_
    refine sq_y (OpY.s (y_move (by exact rfl))) rfl ?_
    refine sq_y (OpY.s (y_geq (by exact rfl) (by exact rfl))) rfl ?_
    refine sq_nil ?_
    refine sx_then ?_
    first | refine sc_if (by exact rfl) (fun hc1 => ?_) (fun hc1 => ?_) | refine sc_ifn (by exact rfl) (fun hc1 => ?_) (fun hc1 => ?_) | refine sc_cond (by exact rfl) (fun hc1 => ?_) (fun hc1 => ?_)
    ·
      refine sc_exit ?_
      refine sx_then_exit ?_
      refine sx_blk_miss rfl ?_
      refine sx_then_exit ?_
      refine sx_round_exit ?_
      refine sx_blk_hit ?_
      refine sx_then ?_
      refine sc_seq ?_
      refine sc_region ?_
      refine sq_y (OpY.s (y_move (by exact rfl))) rfl ?_
      refine sq_y (OpY.s (y_assign (by exact rfl))) rfl ?_
      refine sq_nil ?_
      refine sx_then ?_
      refine sc_ret ?_
      refine sx_ret1 (.inl rfl) rfl Try.results33 (by exact rfl) ?_
      intro w' hw'
      have hkK : k = K := by omega
      subst hkK
      exact ⟨v, rfl, hw'.below (by repeat (first | exact .head _ | refine .tail _ ?_)), own_new hw' (.here) (by repeat (first | exact .head _ | refine .tail _ ?_))⟩
    ·
      have hrow2 := hb.el _ _ (byZ_get hbs (k + 1))
      have hsm2 := hrow2.1
      have hca2 := hrow2.2
      have hix2 : (k + 1) % bs.length < bs.length := Nat.mod_lt _ hnb
      have hy := hbs.by (k + 1)
      have hTe : bs.getD k 0 % ((r.teams.length : Nat) : Int) = (saidT r bs k : Nat) := by
        unfold saidT; rw [Int.toNat_of_nonneg (Int.emod_nonneg _ (by omega))]
      have hTl := Int.emod_lt_of_pos (bs.getD k 0) (show 0 < ((r.teams.length : Nat) : Int) by omega)
      have hTn := Int.emod_nonneg (bs.getD k 0) (show ((r.teams.length : Nat) : Int) ≠ 0 by omega)
      have hT' : saidT r bs k < r.teams.length := by omega
      have hq1 := Int.emod_nonneg (byZ bs (k + 1)) (show 2 * r.lim + 1 ≠ 0 by omega)
      have hq2 := Int.emod_lt_of_pos (byZ bs (k + 1)) (show 0 < 2 * r.lim + 1 by omega)
      have hMe : byZ bs (k + 1) % (2 * r.lim + 1) % 2001 = (saidM r bs k : Nat) := by
        unfold saidM; omega
      have hM' : saidM r bs k ≤ 2000 := by omega
      have hwk := wrk_le r (saidT r bs k) (saidM r bs k) (by omega)
      have hwl : wrk r (saidT r bs k) (saidM r bs k) < L + 1 := by omega
      have hrowT := hH.row _ hT'
      have hsmT := hrowT.1
      have hcaT := hrowT.2
      have hrowI := ints_get (hH.ints _ hT') hwl
      have hsmI := hrowI.1
      have hcaI : CA 0 w (elt (fh (saidT r bs k)) (wrk r (saidT r bs k) (saidM r bs k)) 1) [.int .i64 (saidH r bs k)] := hrowI.2
      have hHb : 0 ≤ saidH r bs k ∧ saidH r bs k ≤ r.p := (has_truth hbs (show 1 ≤ r.p by omega) (show 1 ≤ r.rate by omega) (saidT r bs k)).bd _
      refine sc_skip ?_
      refine sx_then ?_
      refine sc_seq ?_
      refine sc_drawX ([.blk b3 (.cells (rcVal r a c).toArray 24 (0, 0)), .reg 0 w]) (by kernel_rfl) ?_
      refine xj_s 0 (by exact rfl) (by kernel_rfl) (by repeat (first | exact Sel.nil | refine Sel.cons (by repeat (first | exact Rem.here | apply Rem.there)) ?_)) (y_move (by exact rfl)) rfl ?_
      refine xj_s 1 (by exact rfl) (by kernel_rfl) (by repeat (first | exact Sel.nil | refine Sel.cons (by repeat (first | exact Rem.here | apply Rem.there)) ?_)) (y_move (by exact rfl)) rfl ?_
      refine xj_s 2 (by exact rfl) (by kernel_rfl) (by repeat (first | exact Sel.nil | refine Sel.cons (by repeat (first | exact Rem.here | apply Rem.there)) ?_)) (by first | exact y_ia_blk Try.underlying47 Try.sizeOf48 (by exact rfl) (by exact rfl) (by omega) | exact y_ia_el Try.underlying47 Try.sizeOf48 (by exact rfl) (by exact rfl) (by omega) (by first | assumption | simp)) rfl ?_
      refine xj_s 3 (by exact rfl) (by kernel_rfl) (by repeat (first | exact Sel.nil | refine Sel.cons (by repeat (first | exact Rem.here | apply Rem.there)) ?_)) (by first | exact y_load_ca0 Try.underlying48 rfl (by exact rfl) (by repeat (first | exact .head _ | refine .tail _ ?_)) hca rfl | exact y_load_blk Try.underlying48 rfl (by exact rfl) (by repeat (first | exact .head _ | refine .tail _ ?_)) (by exact rfl) | exact y_load_caj Try.underlying48 rfl (by exact rfl) (by repeat (first | exact .head _ | refine .tail _ ?_)) (by assumption) (by exact rfl) | exact y_load_ca0 Try.underlying48 rfl (by exact rfl) (by repeat (first | exact .head _ | refine .tail _ ?_)) (by assumption) (by exact rfl)) rfl ?_
      refine xj_s 4 (by exact rfl) (by kernel_rfl) (by repeat (first | exact Sel.nil | refine Sel.cons (by repeat (first | exact Rem.here | apply Rem.there)) ?_)) (y_conv Try.underlying48 Try.underlying3 (by exact rfl) (wrap64_in (by omega) (by omega))) rfl ?_
      refine xj_s 5 (by exact rfl) (by kernel_rfl) (by repeat (first | exact Sel.nil | refine Sel.cons (by repeat (first | exact Rem.here | apply Rem.there)) ?_)) (by first | exact y_fab Try.underlying24 (by exact rfl) (by exact Try.sizeOf22) (by exact rfl) rfl | exact y_fa Try.underlying24 (by exact rfl) (by exact Try.sizeOf22) (by exact rfl) rfl) rfl ?_
      refine xj_s 6 (by exact rfl) (by kernel_rfl) (by repeat (first | exact Sel.nil | refine Sel.cons (by repeat (first | exact Rem.here | apply Rem.there)) ?_)) (by first | exact y_load_blk Try.underlying22 rfl (by exact rfl) (by repeat (first | exact .head _ | refine .tail _ ?_)) (by exact rfl) | exact y_load_caj Try.underlying22 rfl (by exact rfl) (by repeat (first | exact .head _ | refine .tail _ ?_)) (by assumption) (by exact rfl) | exact y_load_ca0 Try.underlying22 rfl (by exact rfl) (by repeat (first | exact .head _ | refine .tail _ ?_)) (by assumption) (by exact rfl)) rfl ?_
      refine xj_s 7 (by exact rfl) (by kernel_rfl) (by repeat (first | exact Sel.nil | refine Sel.cons (by repeat (first | exact Rem.here | apply Rem.there)) ?_)) (y_len Try.underlying22 (by exact rfl)) rfl ?_
      refine xj_s 8 (by exact rfl) (by kernel_rfl) (by repeat (first | exact Sel.nil | refine Sel.cons (by repeat (first | exact Rem.here | apply Rem.there)) ?_)) (y_rem (by exact rfl) (by exact rfl) (by omega) (by omega)) rfl ?_
      refine xj_s 9 (by exact rfl) (by kernel_rfl) (by repeat (first | exact Sel.nil | refine Sel.cons (by repeat (first | exact Rem.here | apply Rem.there)) ?_)) (y_move (by exact rfl)) rfl ?_
      refine xj_s 10 (by exact rfl) (by kernel_rfl) (by repeat (first | exact Sel.nil | refine Sel.cons (by repeat (first | exact Rem.here | apply Rem.there)) ?_)) (y_move (by exact rfl)) rfl ?_
      refine xj_s 11 (by exact rfl) (by kernel_rfl) (by repeat (first | exact Sel.nil | refine Sel.cons (by repeat (first | exact Rem.here | apply Rem.there)) ?_)) (y_add (by exact rfl) (by exact rfl) (by omega)) rfl ?_
      refine xj_s 12 (by exact rfl) (by kernel_rfl) (by repeat (first | exact Sel.nil | refine Sel.cons (by repeat (first | exact Rem.here | apply Rem.there)) ?_)) (y_move (by exact rfl)) rfl ?_
      refine xj_s 13 (by exact rfl) (by kernel_rfl) (by repeat (first | exact Sel.nil | refine Sel.cons (by repeat (first | exact Rem.here | apply Rem.there)) ?_)) (y_len Try.underlying47 (by exact rfl)) rfl ?_
      refine xj_s 14 (by exact rfl) (by kernel_rfl) (by repeat (first | exact Sel.nil | refine Sel.cons (by repeat (first | exact Rem.here | apply Rem.there)) ?_)) (y_rem (by exact rfl) (by exact rfl) (by omega) (by omega)) rfl ?_
      refine xj_s 15 (by exact rfl) (by kernel_rfl) (by repeat (first | exact Sel.nil | refine Sel.cons (by repeat (first | exact Rem.here | apply Rem.there)) ?_)) (by first | exact y_ia_blk Try.underlying47 Try.sizeOf48 (by exact rfl) (ev_int (by exact rfl) (by first | simp | (rw [Int.natCast_emod, Int.natCast_add]; rfl))) hix2 | exact y_ia_el Try.underlying47 Try.sizeOf48 (by exact rfl) (ev_int (by exact rfl) (by first | simp | (rw [Int.natCast_emod, Int.natCast_add]; rfl))) hix2 (by first | assumption | simp)) rfl ?_
      refine xj_s 16 (by exact rfl) (by kernel_rfl) (by repeat (first | exact Sel.nil | refine Sel.cons (by repeat (first | exact Rem.here | apply Rem.there)) ?_)) (by first | exact y_load_ca0 Try.underlying48 rfl (by exact rfl) (by repeat (first | exact .head _ | refine .tail _ ?_)) hca2 rfl | exact y_load_blk Try.underlying48 rfl (by exact rfl) (by repeat (first | exact .head _ | refine .tail _ ?_)) (by exact rfl) | exact y_load_caj Try.underlying48 rfl (by exact rfl) (by repeat (first | exact .head _ | refine .tail _ ?_)) (by assumption) (by exact rfl) | exact y_load_ca0 Try.underlying48 rfl (by exact rfl) (by repeat (first | exact .head _ | refine .tail _ ?_)) (by assumption) (by exact rfl)) rfl ?_
      refine xj_s 17 (by exact rfl) (by kernel_rfl) (by repeat (first | exact Sel.nil | refine Sel.cons (by repeat (first | exact Rem.here | apply Rem.there)) ?_)) (y_conv Try.underlying48 Try.underlying3 (by exact rfl) (wrap64_in (by omega) (by omega))) rfl ?_
      refine xj_s 18 (by exact rfl) (by kernel_rfl) (by repeat (first | exact Sel.nil | refine Sel.cons (by repeat (first | exact Rem.here | apply Rem.there)) ?_)) (by first | exact y_fab Try.underlying24 (by exact rfl) (by exact Try.sizeOf3) (by exact rfl) rfl | exact y_fa Try.underlying24 (by exact rfl) (by exact Try.sizeOf3) (by exact rfl) rfl) rfl ?_
      refine xj_s 19 (by exact rfl) (by kernel_rfl) (by repeat (first | exact Sel.nil | refine Sel.cons (by repeat (first | exact Rem.here | apply Rem.there)) ?_)) (by first | exact y_load_blk Try.underlying3 rfl (by exact rfl) (by repeat (first | exact .head _ | refine .tail _ ?_)) (by exact rfl) | exact y_load_caj Try.underlying3 rfl (by exact rfl) (by repeat (first | exact .head _ | refine .tail _ ?_)) (by assumption) (by exact rfl) | exact y_load_ca0 Try.underlying3 rfl (by exact rfl) (by repeat (first | exact .head _ | refine .tail _ ?_)) (by assumption) (by exact rfl)) rfl ?_
      refine xj_s 20 (by exact rfl) (by kernel_rfl) (by repeat (first | exact Sel.nil | refine Sel.cons (by repeat (first | exact Rem.here | apply Rem.there)) ?_)) (y_mul (by exact rfl) (by exact rfl) (by omega)) rfl ?_
      refine xj_s 21 (by exact rfl) (by kernel_rfl) (by repeat (first | exact Sel.nil | refine Sel.cons (by repeat (first | exact Rem.here | apply Rem.there)) ?_)) (y_add (by exact rfl) (by exact rfl) (by omega)) rfl ?_
      refine xj_s 22 (by exact rfl) (by kernel_rfl) (by repeat (first | exact Sel.nil | refine Sel.cons (by repeat (first | exact Rem.here | apply Rem.there)) ?_)) (y_rem (by exact rfl) (by exact rfl) (by omega) (by omega)) rfl ?_
      refine xj_s 23 (by exact rfl) (by kernel_rfl) (by repeat (first | exact Sel.nil | refine Sel.cons (by repeat (first | exact Rem.here | apply Rem.there)) ?_)) (y_rem (by exact rfl) (by exact rfl) (by omega) (by omega)) rfl ?_
      refine xj_s 24 (by exact rfl) (by kernel_rfl) (by repeat (first | exact Sel.nil | refine Sel.cons (by repeat (first | exact Rem.here | apply Rem.there)) ?_)) (y_assign (by exact rfl)) rfl ?_
      rw [hTe]
      refine xj_s 25 (by exact rfl) (by kernel_rfl) (by repeat (first | exact Sel.nil | refine Sel.cons (by repeat (first | exact Rem.here | apply Rem.there)) ?_)) (y_assign (by exact rfl)) rfl ?_
      rw [hMe]
      refine xj_done (by kernel_rfl) ?_
      refine sx_then ?_
      refine sc_seq ?_
      refine sc_draw rfl (by kernel_rfl) (by kernel_rfl) ?_
      refine qq_y (OpY.s (y_move (by exact rfl))) rfl ?_
      refine qq_y (OpY.s (y_move (by exact rfl))) rfl ?_
      refine qq_y (OpY.s (by first | exact y_ia_blk Try.underlying50 Try.sizeOf51 (by exact rfl) (by exact rfl) (by omega) | exact y_ia_el Try.underlying50 Try.sizeOf51 (by exact rfl) (by exact rfl) (by omega) (by first | assumption | simp))) rfl ?_
      refine qq_y (OpY.s (by first | exact y_load_ca0 Try.underlying51 rfl (by exact rfl) (by repeat (first | exact .head _ | refine .tail _ ?_)) hcaT rfl | exact y_load_blk Try.underlying51 rfl (by exact rfl) (by repeat (first | exact .head _ | refine .tail _ ?_)) (by exact rfl) | exact y_load_caj Try.underlying51 rfl (by exact rfl) (by repeat (first | exact .head _ | refine .tail _ ?_)) (by assumption) (by exact rfl) | exact y_load_ca0 Try.underlying51 rfl (by exact rfl) (by repeat (first | exact .head _ | refine .tail _ ?_)) (by assumption) (by exact rfl))) rfl ?_
      refine qq_y (OpY.s (by first | exact y_load_all Try.underlying24 rfl Try.sizeOf24 (by exact rfl) (by repeat (first | exact .head _ | refine .tail _ ?_)) (by exact rfl) | exact y_load_ca Try.underlying24 rfl Try.sizeOf24 (by exact rfl) (by repeat (first | exact .head _ | refine .tail _ ?_)) (by assumption) (by exact rfl))) rfl ?_
      refine qq_y (OpY.s (y_move (by exact rfl))) rfl ?_
      refine qq_y (OpY.s (y_move (by exact rfl))) rfl ?_
      refine qq_y (y_call (first := []) (caps := []) (by exact rfl) Try.call43 (EvL.cons (by exact rfl) (EvL.cons (by exact rfl) (EvL.cons (by exact rfl) EvL.nil))) (fun w1 hw1 => minutes43i w1 _ r (saidT r bs k) _ ((hT.at hw1 (by repeat (first | exact .head _ | refine .tail _ ?_))).rc i1 i2 i3) (by omega) hT' (by omega))) rfl ?_
      refine qq_y (OpY.s (by first | exact y_ia_blk Try.underlying51 Try.sizeOf3 (by exact rfl) (by exact rfl) hwl | exact y_ia_el Try.underlying51 Try.sizeOf3 (by exact rfl) (by exact rfl) hwl (by first | assumption | simp))) rfl ?_
      refine qq_y (OpY.s (by first | exact y_load_ca0 Try.underlying3 rfl (by exact rfl) (by repeat (first | exact .head _ | refine .tail _ ?_)) hcaI rfl | exact y_load_blk Try.underlying3 rfl (by exact rfl) (by repeat (first | exact .head _ | refine .tail _ ?_)) (by exact rfl) | exact y_load_caj Try.underlying3 rfl (by exact rfl) (by repeat (first | exact .head _ | refine .tail _ ?_)) (by assumption) (by exact rfl) | exact y_load_ca0 Try.underlying3 rfl (by exact rfl) (by repeat (first | exact .head _ | refine .tail _ ?_)) (by assumption) (by exact rfl))) rfl ?_
      refine qq_y (OpY.s (y_assign (by exact rfl))) rfl ?_
      refine qq_nil ?_
      refine sx_then ?_
      refine sc_drawX ([.blk b3 (.cells (rcVal r a c).toArray 24 (0, 0)), .reg 0 w]) (by kernel_rfl) ?_
      refine xj_s 0 (by exact rfl) (by kernel_rfl) (by repeat (first | exact Sel.nil | refine Sel.cons (by repeat (first | exact Rem.here | apply Rem.there)) ?_)) (y_move (by exact rfl)) rfl ?_
      refine xj_s 1 (by exact rfl) (by kernel_rfl) (by repeat (first | exact Sel.nil | refine Sel.cons (by repeat (first | exact Rem.here | apply Rem.there)) ?_)) (y_move (by exact rfl)) rfl ?_
      refine xj_s 2 (by exact rfl) (by kernel_rfl) (by repeat (first | exact Sel.nil | refine Sel.cons (by repeat (first | exact Rem.here | apply Rem.there)) ?_)) (y_move (by exact rfl)) rfl ?_
      refine xj_s 3 (by exact rfl) (by kernel_rfl) (by repeat (first | exact Sel.nil | refine Sel.cons (by repeat (first | exact Rem.here | apply Rem.there)) ?_)) (y_move (by exact rfl)) rfl ?_
      refine xj_s 4 (by exact rfl) (by kernel_rfl) (by repeat (first | exact Sel.nil | refine Sel.cons (by repeat (first | exact Rem.here | apply Rem.there)) ?_)) (y_move (by exact rfl)) rfl ?_
      refine xj_s 5 (by exact rfl) (by kernel_rfl) (by repeat (first | exact Sel.nil | refine Sel.cons (by repeat (first | exact Rem.here | apply Rem.there)) ?_)) (y_move (by exact rfl)) rfl ?_
      refine xj_s 6 (by exact rfl) (by kernel_rfl) (by repeat (first | exact Sel.nil | refine Sel.cons (by repeat (first | exact Rem.here | apply Rem.there)) ?_)) (by first | exact y_ia_blk Try.underlying47 Try.sizeOf48 (by exact rfl) (by exact rfl) (by omega) | exact y_ia_el Try.underlying47 Try.sizeOf48 (by exact rfl) (by exact rfl) (by omega) (by first | assumption | simp)) rfl ?_
      refine xj_s 7 (by exact rfl) (by kernel_rfl) (by repeat (first | exact Sel.nil | refine Sel.cons (by repeat (first | exact Rem.here | apply Rem.there)) ?_)) (by first | exact y_load_ca0 Try.underlying48 rfl (by exact rfl) (by repeat (first | exact .head _ | refine .tail _ ?_)) hca rfl | exact y_load_blk Try.underlying48 rfl (by exact rfl) (by repeat (first | exact .head _ | refine .tail _ ?_)) (by exact rfl) | exact y_load_caj Try.underlying48 rfl (by exact rfl) (by repeat (first | exact .head _ | refine .tail _ ?_)) (by assumption) (by exact rfl) | exact y_load_ca0 Try.underlying48 rfl (by exact rfl) (by repeat (first | exact .head _ | refine .tail _ ?_)) (by assumption) (by exact rfl)) rfl ?_
      refine xj_s 8 (by exact rfl) (by kernel_rfl) (by repeat (first | exact Sel.nil | refine Sel.cons (by repeat (first | exact Rem.here | apply Rem.there)) ?_)) (y_shr (by exact rfl) (by exact rfl) (by first | decide | (simp [IntKind.bits]; omega))) rfl ?_
      rw [show (2 : Int) ^ ((8 : Int)).toNat = 256 from rfl]
      refine xj_s 9 (by exact rfl) (by kernel_rfl) (by repeat (first | exact Sel.nil | refine Sel.cons (by repeat (first | exact Rem.here | apply Rem.there)) ?_)) (y_conv Try.underlying48 Try.underlying3 (by exact rfl) (wrap64_in (by omega) (by omega))) rfl ?_
      refine xj_s 10 (by exact rfl) (by kernel_rfl) (by repeat (first | exact Sel.nil | refine Sel.cons (by repeat (first | exact Rem.here | apply Rem.there)) ?_)) (y_rem (by exact rfl) (by exact rfl) (by omega) (by omega)) rfl ?_
      refine xj_s 11 (by exact rfl) (by kernel_rfl) (by repeat (first | exact Sel.nil | refine Sel.cons (by repeat (first | exact Rem.here | apply Rem.there)) ?_)) (y_sub (by exact rfl) (by exact rfl) (by omega)) rfl ?_
      refine xj_s 12 (by exact rfl) (by kernel_rfl) (by repeat (first | exact Sel.nil | refine Sel.cons (by repeat (first | exact Rem.here | apply Rem.there)) ?_)) (y_max (by exact rfl) (by exact rfl)) rfl ?_
      refine xj_s 13 (by exact rfl) (by kernel_rfl) (by repeat (first | exact Sel.nil | refine Sel.cons (by repeat (first | exact Rem.here | apply Rem.there)) ?_)) (by first | exact y_fab Try.underlying24 (by exact rfl) (by exact Try.sizeOf3) (by exact rfl) rfl | exact y_fa Try.underlying24 (by exact rfl) (by exact Try.sizeOf3) (by exact rfl) rfl) rfl ?_
      refine xj_s 14 (by exact rfl) (by kernel_rfl) (by repeat (first | exact Sel.nil | refine Sel.cons (by repeat (first | exact Rem.here | apply Rem.there)) ?_)) (by first | exact y_load_blk Try.underlying3 rfl (by exact rfl) (by repeat (first | exact .head _ | refine .tail _ ?_)) (by exact rfl) | exact y_load_caj Try.underlying3 rfl (by exact rfl) (by repeat (first | exact .head _ | refine .tail _ ?_)) (by assumption) (by exact rfl) | exact y_load_ca0 Try.underlying3 rfl (by exact rfl) (by repeat (first | exact .head _ | refine .tail _ ?_)) (by assumption) (by exact rfl)) rfl ?_
      refine xj_s 15 (by exact rfl) (by kernel_rfl) (by repeat (first | exact Sel.nil | refine Sel.cons (by repeat (first | exact Rem.here | apply Rem.there)) ?_)) (y_move (by exact rfl)) rfl ?_
      refine xj_s 16 (by exact rfl) (by kernel_rfl) (by repeat (first | exact Sel.nil | refine Sel.cons (by repeat (first | exact Rem.here | apply Rem.there)) ?_)) (y_move (by exact rfl)) rfl ?_
      refine xj_s 17 (by exact rfl) (by kernel_rfl) (by repeat (first | exact Sel.nil | refine Sel.cons (by repeat (first | exact Rem.here | apply Rem.there)) ?_)) (y_move (by exact rfl)) rfl ?_
      refine xj_s 18 (by exact rfl) (by kernel_rfl) (by repeat (first | exact Sel.nil | refine Sel.cons (by repeat (first | exact Rem.here | apply Rem.there)) ?_)) (by first | exact y_ia_blk Try.underlying47 Try.sizeOf48 (by exact rfl) (by exact rfl) (by omega) | exact y_ia_el Try.underlying47 Try.sizeOf48 (by exact rfl) (by exact rfl) (by omega) (by first | assumption | simp)) rfl ?_
      refine xj_s 19 (by exact rfl) (by kernel_rfl) (by repeat (first | exact Sel.nil | refine Sel.cons (by repeat (first | exact Rem.here | apply Rem.there)) ?_)) (by first | exact y_load_ca0 Try.underlying48 rfl (by exact rfl) (by repeat (first | exact .head _ | refine .tail _ ?_)) hca rfl | exact y_load_blk Try.underlying48 rfl (by exact rfl) (by repeat (first | exact .head _ | refine .tail _ ?_)) (by exact rfl) | exact y_load_caj Try.underlying48 rfl (by exact rfl) (by repeat (first | exact .head _ | refine .tail _ ?_)) (by assumption) (by exact rfl) | exact y_load_ca0 Try.underlying48 rfl (by exact rfl) (by repeat (first | exact .head _ | refine .tail _ ?_)) (by assumption) (by exact rfl)) rfl ?_
      refine xj_s 20 (by exact rfl) (by kernel_rfl) (by repeat (first | exact Sel.nil | refine Sel.cons (by repeat (first | exact Rem.here | apply Rem.there)) ?_)) (y_shr (by exact rfl) (by exact rfl) (by first | decide | (simp [IntKind.bits]; omega))) rfl ?_
      rw [show (2 : Int) ^ ((4 : Int)).toNat = 16 from rfl]
      refine xj_s 21 (by exact rfl) (by kernel_rfl) (by repeat (first | exact Sel.nil | refine Sel.cons (by repeat (first | exact Rem.here | apply Rem.there)) ?_)) (y_conv Try.underlying48 Try.underlying3 (by exact rfl) (wrap64_in (by omega) (by omega))) rfl ?_
      refine xj_s 22 (by exact rfl) (by kernel_rfl) (by repeat (first | exact Sel.nil | refine Sel.cons (by repeat (first | exact Rem.here | apply Rem.there)) ?_)) (y_rem (by exact rfl) (by exact rfl) (by omega) (by omega)) rfl ?_
      refine xj_s 23 (by exact rfl) (by kernel_rfl) (by repeat (first | exact Sel.nil | refine Sel.cons (by repeat (first | exact Rem.here | apply Rem.there)) ?_)) (y_add (by exact rfl) (by exact rfl) (by omega)) rfl ?_
      refine xj_s 24 (by exact rfl) (by kernel_rfl) (by repeat (first | exact Sel.nil | refine Sel.cons (by repeat (first | exact Rem.here | apply Rem.there)) ?_)) (y_min (by exact rfl) (by exact rfl)) rfl ?_
      refine xj_one 25 (by exact rfl) (by kernel_rfl) ?_
      refine sq_y (y_call (first := []) (caps := []) (by exact rfl) Try.call30 (EvL.cons (by exact rfl) (EvL.cons (by exact rfl) EvL.nil)) (fun w1 _ => span30 w1 _ _)) rfl ?_
      refine sq_nil ?_
      refine sx_xp (by repeat (first | exact Sel.nil | refine Sel.cons (by repeat (first | exact Rem.here | apply Rem.there)) ?_)) ?_
      refine xj_s 26 (by exact rfl) (by kernel_rfl) (by repeat (first | exact Sel.nil | refine Sel.cons (by repeat (first | exact Rem.here | apply Rem.there)) ?_)) (y_build bt57 (EvP.cons (by exact rfl) (EvP.cons (by exact rfl) (EvP.cons (by exact rfl) EvP.nil))) (by exact rfl)) rfl ?_
      refine xj_one 27 (by exact rfl) (by kernel_rfl) ?_
      refine sq_bs Try.underlying25 ei57 (EvI.cons (by exact rfl) EvI.nil) (by first | (simp [Value.cells]; done) | (simp [Value.cells]; rfl) | (simp [Value.cells]; and_intros <;> rfl)) rfl rfl rfl (fun b80 => ?_)
      refine sq_nil ?_
      refine sx_xp (by repeat (first | exact Sel.nil | refine Sel.cons (by repeat (first | exact Rem.here | apply Rem.there)) ?_)) ?_
      refine xj_one 28 (by exact rfl) (by kernel_rfl) ?_
      refine sq_append (news := [.int .i64 (saidT r bs k), .int .i64 (saidM r bs k), .int .i64 (max 0 (saidH r bs k - (bs.getD k 0) / 256 % 9)), .int .i64 (min r.p (saidH r bs k + (bs.getD k 0) / 16 % 7))]) Try.underlying25 ei57 rfl (by decide) (by exact rfl) (by repeat (first | exact Rem.here | apply Rem.there)) (by exact rfl) rfl (fun _ hw => news_blk hw (by repeat (first | exact .head _ | refine .tail _ ?_))) (by simp [Value.oneCell']) (by omega) rfl (fun v81 ho81 => ?_)
      refine sq_nil ?_
      refine sx_xp (by repeat (first | exact Sel.nil | refine Sel.cons (by repeat (first | exact Rem.here | apply Rem.there)) ?_)) ?_
      rw [said_row]
      refine xj_s 29 (by exact rfl) (by kernel_rfl) (by repeat (first | exact Sel.nil | refine Sel.cons (by repeat (first | exact Rem.here | apply Rem.there)) ?_)) (y_assign (by exact rfl)) rfl ?_
      refine xj_done (by kernel_rfl) ?_
      refine sx_blk ?_
      refine sx_then ?_
      refine sc_region ?_
      refine sq_y (OpY.s (y_add (by exact rfl) (by exact rfl) (by omega))) rfl ?_
      refine sq_y (OpY.s (y_move (by exact rfl))) rfl ?_
      refine sq_nil ?_
      refine sx_round ((k + 1, v81)) ?_ ?_ (by repeat (first | exact SubL.nil | refine SubL.cons (by first | exact rfl | exact lk_int rfl (by omega) | exact lk_eq rfl (by simp)) ?_)) (by repeat (first | exact Sel.nil | refine Sel.cons (by repeat (first | exact Rem.here | apply Rem.there)) ?_))
      · exact ⟨show k + 1 ≤ bs.length by omega, show k + 1 ≤ 40 by omega⟩
      · show bs.length - (k + 1) < bs.length - k; omega
  ·
    refine sc_exit ?_
    refine sx_then_exit ?_
    refine sx_round_exit ?_
    refine sx_blk_hit ?_
    refine sx_then ?_
    refine sc_seq ?_
    refine sc_region ?_
    refine sq_y (OpY.s (y_move (by exact rfl))) rfl ?_
    refine sq_y (OpY.s (y_assign (by exact rfl))) rfl ?_
    refine sq_nil ?_
    refine sx_then ?_
    refine sc_ret ?_
    refine sx_ret1 (.inl rfl) rfl Try.results33 (by exact rfl) ?_
    intro w' hw'
    have hkK : k = K := by omega
    subst hkK
    exact ⟨v, rfl, hw'.below (by repeat (first | exact .head _ | refine .tail _ ?_)), own_new hw' (.here) (by repeat (first | exact .head _ | refine .tail _ ?_))⟩
theorem true6a (w : World) (r : Rc) (a : Option Addr) (c : Nat) (f : Nat → Option Addr) (cf : Nat → Nat) (ab : Option Addr) (cb : Nat) (bs : List Int) (mz : Int) (hT : TmsA 0 w a r.teams f cf) (hb : U16A 0 w ab bs) (i1 : InI r.p) (i2 : InI r.lim) (i3 : InI r.rate) (h : bs.length = 0 ∨ rcB r = false) : Calls Try.prog 6 #[.agg (rcVal r a c).toArray, .slice ab bs.length cb, .int .u16 mz] w fun e w' => e = .returned (.bool true) ∧ Below w.heap.size w w' := by
  have hlen := hb.len
  refine calls_of_SC (args := [.agg (rcVal r a c).toArray, .slice ab bs.length cb, .int .u16 mz]) Try.func6 rfl Try.ntmps6 rfl ?_
  simp only [argL, Nat.reduceAdd, Nat.zero_add]
  refine sc_seq ?_
  refine sc_region ?_
  refine sq_box (by exact rfl) rfl (fun b3 => ?_)
  refine sq_y (OpY.s (y_assign (by exact rfl))) rfl ?_
  refine sq_nil ?_
  refine sx_then ?_
  refine sc_seq ?_
  refine sc_seq ?_
  refine sc_region ?_
  refine sq_y (OpY.s (by first | exact y_load_all Try.underlying24 rfl Try.sizeOf24 (by exact rfl) (by repeat (first | exact .head _ | refine .tail _ ?_)) (by exact rfl) | exact y_load_ca Try.underlying24 rfl Try.sizeOf24 (by exact rfl) (by repeat (first | exact .head _ | refine .tail _ ?_)) (by assumption) (by exact rfl))) rfl ?_
  refine sq_y (y_call (first := []) (caps := []) (by exact rfl) Try.call13 (EvL.cons (by exact rfl) (EvL.cons (by exact rfl) EvL.nil)) (fun w1 hw1 => great13 w1 r a c f cf none 0 [] (hT.at hw1 (by repeat (first | exact .head _ | refine .tail _ ?_))) (by decide))) rfl ?_
  refine sq_y (OpY.s (y_move (by exact rfl))) rfl ?_
  first | refine sq_splitd (tt := 34) (by exact rfl) (fun hg1_2 => ?_) (fun hg1_2 => ?_) | refine sq_splitn (tt := 34) (by exact rfl) (fun hg1_2 => ?_) (fun hg1_2 => ?_) | refine sq_split (tt := 34) (by exact rfl) (fun hg1_2 => ?_) (fun hg1_2 => ?_)
  ·
    refine sq_gf (by exact rfl) (by exact rfl) (by exact rfl) rfl ?_
    refine sq_gf (by exact rfl) (by exact rfl) (by exact rfl) rfl ?_
    refine sq_gf (by exact rfl) (by exact rfl) (by exact rfl) rfl ?_
    refine sq_y (OpY.s (y_pick_t (by exact rfl) (by exact rfl))) rfl ?_
    refine sq_y (OpY.s (y_move (by exact rfl))) rfl ?_
    refine sq_gf (by exact rfl) (by exact rfl) (by exact rfl) rfl ?_
    refine sq_gf (by exact rfl) (by exact rfl) (by exact rfl) rfl ?_
    refine sq_gf (by exact rfl) (by exact rfl) (by exact rfl) rfl ?_
    refine sq_y (OpY.s (y_pick_t (by exact rfl) (by exact rfl))) rfl ?_
    refine sq_nil ?_
    refine sx_then ?_
    refine sc_t (by exact rfl) ?_
    refine sc_seq ?_
    refine sc_region ?_
    refine sq_y (y_call (first := []) (caps := []) (by exact rfl) Try.call14 EvL.nil (fun w1 _ => alive14 w1)) rfl ?_
    refine sq_y (OpY.s (y_assign (by exact rfl))) rfl ?_
    refine sq_nil ?_
    refine sx_then ?_
    refine sc_ret ?_
    refine sx_then_ret ?_
    refine sx_ret1 (.inl rfl) rfl Try.results6 (by exact rfl) ?_
    intro w' hw'
    exact ⟨rfl, hw'.below (by repeat (first | exact .head _ | refine .tail _ ?_))⟩
  ·
    refine sq_gt (by exact rfl) (by exact rfl) (OpY.s (y_move (by exact rfl))) rfl ?_
    refine sq_gt (by exact rfl) (by exact rfl) (OpY.s (y_len Try.underlying47 (by exact rfl))) rfl ?_
    refine sq_gt (by exact rfl) (by exact rfl) (OpY.s (y_eql (by exact rfl) (by exact rfl))) rfl ?_
    refine sq_y (OpY.s (y_pick_f (by exact rfl) (by exact rfl))) rfl ?_
    refine sq_y (OpY.s (y_move (by exact rfl))) rfl ?_
    first | refine sq_splitd (tt := 39) (by exact rfl) (fun hg1_7 => ?_) (fun hg1_7 => ?_) | refine sq_splitn (tt := 39) (by exact rfl) (fun hg1_7 => ?_) (fun hg1_7 => ?_) | refine sq_split (tt := 39) (by exact rfl) (fun hg1_7 => ?_) (fun hg1_7 => ?_)
    ·
      refine sq_gf (by exact rfl) (by exact rfl) (by exact rfl) rfl ?_
      refine sq_gf (by exact rfl) (by exact rfl) (by exact rfl) rfl ?_
      refine sq_gf (by exact rfl) (by exact rfl) (by exact rfl) rfl ?_
      refine sq_y (OpY.s (y_pick_t (by exact rfl) (by exact rfl))) rfl ?_
      refine sq_nil ?_
      refine sx_then ?_
      refine sc_t (by exact rfl) ?_
      refine sc_seq ?_
      refine sc_region ?_
      refine sq_y (y_call (first := []) (caps := []) (by exact rfl) Try.call14 EvL.nil (fun w1 _ => alive14 w1)) rfl ?_
      refine sq_y (OpY.s (y_assign (by exact rfl))) rfl ?_
      refine sq_nil ?_
      refine sx_then ?_
      refine sc_ret ?_
      refine sx_then_ret ?_
      refine sx_ret1 (.inl rfl) rfl Try.results6 (by exact rfl) ?_
      intro w' hw'
      exact ⟨rfl, hw'.below (by repeat (first | exact .head _ | refine .tail _ ?_))⟩
    ·
      refine sq_gt (by exact rfl) (by exact rfl) (OpY.s (by first | exact y_load_all Try.underlying24 rfl Try.sizeOf24 (by exact rfl) (by repeat (first | exact .head _ | refine .tail _ ?_)) (by exact rfl) | exact y_load_ca Try.underlying24 rfl Try.sizeOf24 (by exact rfl) (by repeat (first | exact .head _ | refine .tail _ ?_)) (by assumption) (by exact rfl))) rfl ?_
      refine sq_gt (by exact rfl) (by exact rfl) (y_call (first := []) (caps := []) (by exact rfl) Try.call31 (EvL.cons (by exact rfl) EvL.nil) (fun w1 hw1 => race31 w1 _ r ((hT.at hw1 (by repeat (first | exact .head _ | refine .tail _ ?_))).rc i1 i2 i3))) rfl ?_
      refine sq_gt (by exact rfl) (by exact rfl) (OpY.s (y_not (by exact rfl))) rfl ?_
      refine sq_y (OpY.s (y_pick_f (by exact rfl) (by exact rfl))) rfl ?_
      refine sq_nil ?_
      refine sx_then ?_
      refine sc_t (lk_bool rfl (by rcases h with h | h <;> simp_all)) ?_
      refine sc_seq ?_
      refine sc_region ?_
      refine sq_y (y_call (first := []) (caps := []) (by exact rfl) Try.call14 EvL.nil (fun w1 _ => alive14 w1)) rfl ?_
      refine sq_y (OpY.s (y_assign (by exact rfl))) rfl ?_
      refine sq_nil ?_
      refine sx_then ?_
      refine sc_ret ?_
      refine sx_then_ret ?_
      refine sx_ret1 (.inl rfl) rfl Try.results6 (by exact rfl) ?_
      intro w' hw'
      exact ⟨rfl, hw'.below (by repeat (first | exact .head _ | refine .tail _ ?_))⟩
end Go.Proofs.Ytegdfpilhlcplaa
