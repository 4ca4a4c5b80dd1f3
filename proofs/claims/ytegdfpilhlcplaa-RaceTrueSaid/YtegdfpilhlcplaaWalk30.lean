/- The walks of the truth, and of what is said of it. -/
import Derived.Test.YtegdfpilhlcplaaLaw14
import Derived.Test.YtegdfpilhlcplaaWalk25
import Derived.Test.YtegdfpilhlcplaaEng11
namespace Go.Proofs.Ytegdfpilhlcplaa
open Go Go.Eng Go.RowKit Go.Proofs
set_option maxRecDepth 100000
/-- raw numbers -/
structure U16A (lo : Nat) (wr : World) (a : Option Addr) (xs : List Int) : Prop where
  el : ∀ i x, xs[i]? = some x → a.isSome = true ∧ CA lo wr (elt a i 1) [.int .u16 x]
  len : xs.length ≤ 9223372036854775807
theorem U16A.at {w0 rs w lo wr a l} (h : U16A lo wr a l) (hw : Hp w0 rs w) (hm : Res.reg lo wr ∈ rs) : U16A 0 w a l := ⟨fun i s hi => ⟨(h.el i s hi).1, CA.at (h.el i s hi).2 hw hm⟩, h.len⟩
theorem byZ_get {bs : List Int} (h : BsOk bs) (i : Nat) : bs[i % bs.length]? = some (byZ bs i) := get_of_lt 0 (Nat.mod_lt _ h.1)
theorem ei50 : EI Try.prog 51 (.slice none 0 0) 1 24 := ei51

theorem truth32 (w : World) (r : Rc) (a : Option Addr) (c : Nat) (f : Nat → Option Addr) (cf : Nat → Nat) (ab : Option Addr) (cb : Nat) (bs : List Int) (t L : Nat) (hL : r.lim = L) (ht : t < r.teams.length) (_hT : TmsA 0 w a r.teams f cf) (hb : U16A 0 w ab bs) (hok : rcB r = true) (hbs : BsOk bs) : Calls Try.prog 32 #[.agg (rcVal r a c).toArray, .int .i64 t, .slice ab bs.length cb] w fun e w' => ∃ z : Option Addr × Nat, e = .returned (.slice z.1 (L + 1) z.2) ∧ Below w.heap.size w w' ∧ w'.ownsRow w.heap.size 3 1 (.slice z.1 (L + 1) z.2) (L + 1) (intC (L + 1) (hasZ r bs t)) := by
  have hlim := rcB_nums hok
  have hnb := hbs.1
  have hlen := hb.len
  have hzM := hbs.by t
  have hrow := hb.el _ _ (byZ_get hbs t)
  have hsm := hrow.1
  have hca := hrow.2
  have hix : t % bs.length < bs.length := Nat.mod_lt _ hnb
  have hbd := has_bd hbs (show 1 ≤ r.p by omega) (show 1 ≤ r.rate by omega) t
  have hmb := most_bd hbs (show 1 ≤ r.p by omega) t
  refine calls_of_SC (args := [.agg (rcVal r a c).toArray, .int .i64 t, .slice ab bs.length cb]) Try.func32 rfl Try.ntmps32 rfl ?_
  simp only [argL, Nat.reduceAdd, Nat.zero_add]
  refine sc_seq ?_
  refine sc_region ?_
  refine sq_box (by exact rfl) rfl (fun b3 => ?_)
  refine sq_y (OpY.s (y_assign (by exact rfl))) rfl ?_
  refine sq_nil ?_
  refine sx_then ?_
  refine sc_seq ?_
  refine sc_region ?_
  refine sq_y (OpY.s (by first | exact y_fab Try.underlying24 (by exact rfl) (by exact Try.sizeOf3) (by exact rfl) rfl | exact y_fa Try.underlying24 (by exact rfl) (by exact Try.sizeOf3) (by exact rfl) rfl)) rfl ?_
  refine sq_y (OpY.s (by first | exact y_load_blk Try.underlying3 rfl (by exact rfl) (by repeat (first | exact .head _ | refine .tail _ ?_)) (by exact rfl) | exact y_load_caj Try.underlying3 rfl (by exact rfl) (by repeat (first | exact .head _ | refine .tail _ ?_)) (by assumption) (by exact rfl) | exact y_load_ca0 Try.underlying3 rfl (by exact rfl) (by repeat (first | exact .head _ | refine .tail _ ?_)) (by assumption) (by exact rfl))) rfl ?_
  refine sq_y (OpY.s (y_add (by exact rfl) (by exact rfl) (by omega))) rfl ?_
  refine sq_make (l := L + 1) (c := L + 1) Try.underlying51 ei3 (ev_int (by exact rfl) (by omega)) (ev_int (by exact rfl) (by omega)) (Nat.le_refl _) (by omega) (by omega) rfl (fun b15 => ?_)
  rw [made_int, show (intC (L + 1) fun _ => (0 : Int)) = intC (L + 1) fun i => if i < 1 then hasZ r bs t i else 0 from intC_congr fun i hi => by
    by_cases h : i < 1
    · rw [if_pos h, show i = 0 by omega]; rfl
    · rw [if_neg h]]
  refine sq_y (OpY.s (y_assign (by exact rfl))) rfl ?_
  refine sq_nil ?_
  refine sx_then ?_
  refine sc_seq ?_
  refine sc_region ?_
  refine sq_y (OpY.s (by first | exact y_fab Try.underlying24 (by exact rfl) (by exact Try.sizeOf3) (by exact rfl) rfl | exact y_fa Try.underlying24 (by exact rfl) (by exact Try.sizeOf3) (by exact rfl) rfl)) rfl ?_
  refine sq_y (OpY.s (by first | exact y_load_blk Try.underlying3 rfl (by exact rfl) (by repeat (first | exact .head _ | refine .tail _ ?_)) (by exact rfl) | exact y_load_caj Try.underlying3 rfl (by exact rfl) (by repeat (first | exact .head _ | refine .tail _ ?_)) (by assumption) (by exact rfl) | exact y_load_ca0 Try.underlying3 rfl (by exact rfl) (by repeat (first | exact .head _ | refine .tail _ ?_)) (by assumption) (by exact rfl))) rfl ?_
  refine sq_y (OpY.s (y_assign (by exact rfl))) rfl ?_
  refine sq_nil ?_
  refine sx_then ?_
  refine sc_seq ?_
  refine sc_seq ?_
  refine sc_region ?_
  refine sq_y (OpY.s (y_move (by exact rfl))) rfl ?_
  refine sq_y (OpY.s (y_move (by exact rfl))) rfl ?_
  refine sq_y (OpY.s (y_move (by exact rfl))) rfl ?_
  refine sq_y (OpY.s (y_len Try.underlying47 (by exact rfl))) rfl ?_
  refine sq_y (OpY.s (y_rem (by exact rfl) (by exact rfl) (by omega) (by omega))) rfl ?_
  refine sq_y (OpY.s (by first | exact y_ia_blk Try.underlying47 Try.sizeOf48 (by exact rfl) (ev_int (by exact rfl) (by simp)) hix | exact y_ia_el Try.underlying47 Try.sizeOf48 (by exact rfl) (ev_int (by exact rfl) (by simp)) hix (by first | assumption | simp))) rfl ?_
  refine sq_y (OpY.s (by first | exact y_load_ca0 Try.underlying48 rfl (by exact rfl) (by repeat (first | exact .head _ | refine .tail _ ?_)) hca rfl | exact y_load_blk Try.underlying48 rfl (by exact rfl) (by repeat (first | exact .head _ | refine .tail _ ?_)) (by exact rfl) | exact y_load_caj Try.underlying48 rfl (by exact rfl) (by repeat (first | exact .head _ | refine .tail _ ?_)) (by assumption) (by exact rfl) | exact y_load_ca0 Try.underlying48 rfl (by exact rfl) (by repeat (first | exact .head _ | refine .tail _ ?_)) (by assumption) (by exact rfl))) rfl ?_
  refine sq_y (OpY.s (y_rem (by exact rfl) (by exact rfl) (by omega) (by omega))) rfl ?_
  refine sq_y (OpY.s (y_eql (by exact rfl) (by exact rfl))) rfl ?_
  refine sq_nil ?_
  refine sx_then ?_
  first | refine sc_if (by exact rfl) (fun hc0 => ?_) (fun hc0 => ?_) | refine sc_ifn (by exact rfl) (fun hc0 => ?_) (fun hc0 => ?_) | refine sc_cond (by exact rfl) (fun hc0 => ?_) (fun hc0 => ?_)
  ·
    have hmo : byZ bs t % (r.p + 1) = mostZ r bs t := by unfold mostZ; rw [if_pos hc0]
    refine sc_draw rfl (by kernel_rfl) (by kernel_rfl) ?_
    refine qq_y (OpY.s (y_move (by exact rfl))) rfl ?_
    refine qq_y (OpY.s (y_move (by exact rfl))) rfl ?_
    refine qq_y (OpY.s (y_move (by exact rfl))) rfl ?_
    refine qq_y (OpY.s (y_len Try.underlying47 (by exact rfl))) rfl ?_
    refine qq_y (OpY.s (y_rem (by exact rfl) (by exact rfl) (by omega) (by omega))) rfl ?_
    refine qq_y (OpY.s (by first | exact y_ia_blk Try.underlying47 Try.sizeOf48 (by exact rfl) (ev_int (by exact rfl) (by simp)) hix | exact y_ia_el Try.underlying47 Try.sizeOf48 (by exact rfl) (ev_int (by exact rfl) (by simp)) hix (by first | assumption | simp))) rfl ?_
    refine qq_y (OpY.s (by first | exact y_load_ca0 Try.underlying48 rfl (by exact rfl) (by repeat (first | exact .head _ | refine .tail _ ?_)) hca rfl | exact y_load_blk Try.underlying48 rfl (by exact rfl) (by repeat (first | exact .head _ | refine .tail _ ?_)) (by exact rfl) | exact y_load_caj Try.underlying48 rfl (by exact rfl) (by repeat (first | exact .head _ | refine .tail _ ?_)) (by assumption) (by exact rfl) | exact y_load_ca0 Try.underlying48 rfl (by exact rfl) (by repeat (first | exact .head _ | refine .tail _ ?_)) (by assumption) (by exact rfl))) rfl ?_
    refine qq_y (OpY.s (y_conv Try.underlying48 Try.underlying3 (by exact rfl) (wrap64_in (by omega) (by omega)))) rfl ?_
    refine qq_y (OpY.s (by first | exact y_fab Try.underlying24 (by exact rfl) (by exact Try.sizeOf3) (by exact rfl) rfl | exact y_fa Try.underlying24 (by exact rfl) (by exact Try.sizeOf3) (by exact rfl) rfl)) rfl ?_
    refine qq_y (OpY.s (by first | exact y_load_blk Try.underlying3 rfl (by exact rfl) (by repeat (first | exact .head _ | refine .tail _ ?_)) (by exact rfl) | exact y_load_caj Try.underlying3 rfl (by exact rfl) (by repeat (first | exact .head _ | refine .tail _ ?_)) (by assumption) (by exact rfl) | exact y_load_ca0 Try.underlying3 rfl (by exact rfl) (by repeat (first | exact .head _ | refine .tail _ ?_)) (by assumption) (by exact rfl))) rfl ?_
    refine qq_y (OpY.s (y_add (by exact rfl) (by exact rfl) (by omega))) rfl ?_
    refine qq_y (OpY.s (y_rem (by exact rfl) (by exact rfl) (by omega) (by omega))) rfl ?_
    refine qq_y (OpY.s (y_assign (by exact rfl))) rfl ?_
    refine qq_nil ?_
    refine sx_then ?_
    refine sc_seq ?_
    refine sc_seq ?_
    refine sc_region ?_
    refine sq_y (OpY.s (y_assign (by exact rfl))) rfl ?_
    refine sq_nil ?_
    refine sx_then ?_
    refine sc_block ?_
    refine sc_loop (σ := Nat)
      (fun s => [(1, .int .i64 t), (2, .slice ab bs.length cb), (3, .pointer (some ⟨b3, 0, none⟩)), (7, .slice (some ⟨b15, 0, none⟩) (L + 1) (L + 1)), (8, .int .i64 (mostZ r bs t)), (9, .int .i64 ((s : Int) + 1))])
      (fun s => [.blk b15 (.cells (intC (L + 1) fun i => if i < (s + 1) then hasZ r bs t i else 0).toArray 3 (0, 0)), .blk b3 (.cells (rcVal r a c).toArray 24 (0, 0)), .reg 0 w])
      (fun s => s ≤ L)
      (fun s => L - s)
      (0) ?_ (by repeat (first | exact SubL.nil | refine SubL.cons (by first | exact rfl | exact lk_int rfl hmo | exact lk_int rfl (by omega)) ?_)) (by repeat (first | exact Sel.nil | refine Sel.cons (by repeat (first | exact Rem.here | apply Rem.there)) ?_)) ?_
    · exact Nat.zero_le _
    rintro k hk
    refine sc_seq ?_
    refine sc_seq ?_
    refine sc_region ?_
    refine sq_y (OpY.s (y_move (by exact rfl))) rfl ?_
    refine sq_y (OpY.s (by first | exact y_fab Try.underlying24 (by exact rfl) (by exact Try.sizeOf3) (by exact rfl) rfl | exact y_fa Try.underlying24 (by exact rfl) (by exact Try.sizeOf3) (by exact rfl) rfl)) rfl ?_
    refine sq_y (OpY.s (by first | exact y_load_blk Try.underlying3 rfl (by exact rfl) (by repeat (first | exact .head _ | refine .tail _ ?_)) (by exact rfl) | exact y_load_caj Try.underlying3 rfl (by exact rfl) (by repeat (first | exact .head _ | refine .tail _ ?_)) (by assumption) (by exact rfl) | exact y_load_ca0 Try.underlying3 rfl (by exact rfl) (by repeat (first | exact .head _ | refine .tail _ ?_)) (by assumption) (by exact rfl))) rfl ?_
    refine sq_y (OpY.s (y_leq (by exact rfl) (by exact rfl))) rfl ?_
    refine sq_nil ?_
    refine sx_then ?_
    first | refine sc_if (by exact rfl) (fun hc1 => ?_) (fun hc1 => ?_) | refine sc_ifn (by exact rfl) (fun hc1 => ?_) (fun hc1 => ?_) | refine sc_cond (by exact rfl) (fun hc1 => ?_) (fun hc1 => ?_)
    ·
      have hk' : k < L := by omega
      have hz := hbs.by (t + (k + 1))
      have hrow2 := hb.el _ _ (byZ_get hbs (t + (k + 1)))
      have hsm2 := hrow2.1
      have hca2 := hrow2.2
      have hix2 : (t + (k + 1)) % bs.length < bs.length := Nat.mod_lt _ hnb
      have hbk := hbd k
      have hadd : (t : Int) + ((k : Int) + 1) = ((t + (k + 1) : Nat) : Int) := by omega
      refine sc_skip ?_
      refine sx_then ?_
      refine sc_seq ?_
      refine sc_block ?_
      refine sc_seq ?_
      refine sc_region ?_
      refine sq_y (OpY.s (by first | exact y_fab Try.underlying24 (by exact rfl) (by exact Try.sizeOf3) (by exact rfl) rfl | exact y_fa Try.underlying24 (by exact rfl) (by exact Try.sizeOf3) (by exact rfl) rfl)) rfl ?_
      refine sq_y (OpY.s (by first | exact y_load_blk Try.underlying3 rfl (by exact rfl) (by repeat (first | exact .head _ | refine .tail _ ?_)) (by exact rfl) | exact y_load_caj Try.underlying3 rfl (by exact rfl) (by repeat (first | exact .head _ | refine .tail _ ?_)) (by assumption) (by exact rfl) | exact y_load_ca0 Try.underlying3 rfl (by exact rfl) (by repeat (first | exact .head _ | refine .tail _ ?_)) (by assumption) (by exact rfl))) rfl ?_
      refine sq_y (OpY.s (y_assign (by exact rfl))) rfl ?_
      refine sq_nil ?_
      refine sx_then ?_
      refine sc_seq ?_
      refine sc_seq ?_
      refine sc_region ?_
      refine sq_y (OpY.s (y_move (by exact rfl))) rfl ?_
      refine sq_y (OpY.s (y_move (by exact rfl))) rfl ?_
      refine sq_y (OpY.s (y_move (by exact rfl))) rfl ?_
      refine sq_y (OpY.s (y_add (by exact rfl) (by exact rfl) (by omega))) rfl ?_
      refine sq_y (OpY.s (y_move (by exact rfl))) rfl ?_
      refine sq_y (OpY.s (y_len Try.underlying47 (by exact rfl))) rfl ?_
      rw [hadd]
      refine sq_y (OpY.s (y_rem (by exact rfl) (by exact rfl) (by omega) (by omega))) rfl ?_
      refine sq_y (OpY.s (by first | exact y_ia_blk Try.underlying47 Try.sizeOf48 (by exact rfl) (ev_int (by exact rfl) (by simp)) hix2 | exact y_ia_el Try.underlying47 Try.sizeOf48 (by exact rfl) (ev_int (by exact rfl) (by simp)) hix2 (by first | assumption | simp))) rfl ?_
      refine sq_y (OpY.s (by first | exact y_load_ca0 Try.underlying48 rfl (by exact rfl) (by repeat (first | exact .head _ | refine .tail _ ?_)) hca2 rfl | exact y_load_blk Try.underlying48 rfl (by exact rfl) (by repeat (first | exact .head _ | refine .tail _ ?_)) (by exact rfl) | exact y_load_caj Try.underlying48 rfl (by exact rfl) (by repeat (first | exact .head _ | refine .tail _ ?_)) (by assumption) (by exact rfl) | exact y_load_ca0 Try.underlying48 rfl (by exact rfl) (by repeat (first | exact .head _ | refine .tail _ ?_)) (by assumption) (by exact rfl))) rfl ?_
      refine sq_y (OpY.s (y_assign (by exact rfl))) rfl ?_
      refine sq_nil ?_
      refine sx_then ?_
      refine sc_seq ?_
      refine sc_region ?_
      refine sq_y (OpY.s (y_move (by exact rfl))) rfl ?_
      refine sq_y (OpY.s (y_rem (by exact rfl) (by exact rfl) (by omega) (by omega))) rfl ?_
      refine sq_y (OpY.s (y_gtr (by exact rfl) (by exact rfl))) rfl ?_
      refine sq_nil ?_
      refine sx_then ?_
      first | refine sc_if (by exact rfl) (fun hc2 => ?_) (fun hc2 => ?_) | refine sc_ifn (by exact rfl) (fun hc2 => ?_) (fun hc2 => ?_) | refine sc_cond (by exact rfl) (fun hc2 => ?_) (fun hc2 => ?_)
      ·
        have hst : byZ bs (t + (k + 1)) % (r.rate + 1) = stepZ r bs t (k + 1) := by unfold stepZ; rw [if_pos hc2]
        have hsb := step_bd hbs (show 1 ≤ r.rate by omega) t (k + 1)
        refine sc_region ?_
        refine sq_y (OpY.s (y_move (by exact rfl))) rfl ?_
        refine sq_y (OpY.s (y_conv Try.underlying48 Try.underlying3 (by exact rfl) (wrap64_in (by omega) (by omega)))) rfl ?_
        refine sq_y (OpY.s (by first | exact y_fab Try.underlying24 (by exact rfl) (by exact Try.sizeOf3) (by exact rfl) rfl | exact y_fa Try.underlying24 (by exact rfl) (by exact Try.sizeOf3) (by exact rfl) rfl)) rfl ?_
        refine sq_y (OpY.s (by first | exact y_load_blk Try.underlying3 rfl (by exact rfl) (by repeat (first | exact .head _ | refine .tail _ ?_)) (by exact rfl) | exact y_load_caj Try.underlying3 rfl (by exact rfl) (by repeat (first | exact .head _ | refine .tail _ ?_)) (by assumption) (by exact rfl) | exact y_load_ca0 Try.underlying3 rfl (by exact rfl) (by repeat (first | exact .head _ | refine .tail _ ?_)) (by assumption) (by exact rfl))) rfl ?_
        refine sq_y (OpY.s (y_add (by exact rfl) (by exact rfl) (by omega))) rfl ?_
        refine sq_y (OpY.s (y_rem (by exact rfl) (by exact rfl) (by omega) (by omega))) rfl ?_
        refine sq_y (OpY.s (y_assign (by exact rfl))) rfl ?_
        refine sq_nil ?_
        refine sx_then ?_
        refine sc_region ?_
        refine sq_y (OpY.s (y_move (by exact rfl))) rfl ?_
        refine sq_y (OpY.s (y_move (by exact rfl))) rfl ?_
        refine sq_y (OpY.s (y_move (by exact rfl))) rfl ?_
        refine sq_y (OpY.s (y_move (by exact rfl))) rfl ?_
        refine sq_y (OpY.s (y_move (by exact rfl))) rfl ?_
        refine sq_y (OpY.s (y_sub (by exact rfl) (by exact rfl) (by omega))) rfl ?_
        refine sq_y (OpY.s (by first | exact y_ia_blk Try.underlying51 Try.sizeOf3 (by exact rfl) (ev_int (m := (k : Int)) (by exact rfl) (by omega)) (by omega) | exact y_ia_el Try.underlying51 Try.sizeOf3 (by exact rfl) (ev_int (m := (k : Int)) (by exact rfl) (by omega)) (by omega) (by first | assumption | simp))) rfl ?_
        refine sq_y (OpY.s (by first | exact y_load_blk Try.underlying3 rfl (by exact rfl) (by repeat (first | exact .head _ | refine .tail _ ?_)) ((intC_get (show k < L + 1 by omega)).trans (by rw [if_pos (show k < k + 1 by omega)])) | exact y_load_blk Try.underlying3 rfl (by exact rfl) (by repeat (first | exact .head _ | refine .tail _ ?_)) (by exact rfl) | exact y_load_caj Try.underlying3 rfl (by exact rfl) (by repeat (first | exact .head _ | refine .tail _ ?_)) (by assumption) (by exact rfl) | exact y_load_ca0 Try.underlying3 rfl (by exact rfl) (by repeat (first | exact .head _ | refine .tail _ ?_)) (by assumption) (by exact rfl))) rfl ?_
        refine sq_y (OpY.s (y_move (by exact rfl))) rfl ?_
        refine sq_y (OpY.s (y_add (by exact rfl) (by exact rfl) (by omega))) rfl ?_
        refine sq_y (OpY.s (y_min (by exact rfl) (by exact rfl))) rfl ?_
        refine sq_y (OpY.s (by first | exact y_ia_blk Try.underlying51 Try.sizeOf3 (by exact rfl) (ev_int (m := ((k + 1 : Nat) : Int)) (by exact rfl) (by omega)) (by omega) | exact y_ia_el Try.underlying51 Try.sizeOf3 (by exact rfl) (ev_int (m := ((k + 1 : Nat) : Int)) (by exact rfl) (by omega)) (by omega) (by first | assumption | simp))) rfl ?_
        refine sq_store_eq (cs' := (intC (L + 1) fun i => if i < (k + 2) then hasZ r bs t i else 0).toArray) Try.sizeOf3 (by exact rfl) (by exact rfl) rfl (by repeat (first | exact Rem.here | apply Rem.there)) (by rw [intC_size]; omega) (intC_set (m := k + 1) (by
          intro i hi
          by_cases e : i = k + 1
          · rw [if_pos e, e, if_pos (by omega)]
            show min (mostZ r bs t) (hasZ r bs t k + stepZ r bs t (k + 1)) = _
            rw [← hst]
          · rw [if_neg e]
            by_cases h : i < k + 1
            · rw [if_pos h, if_pos (by omega)]
            · rw [if_neg h, if_neg (by omega)])) ?_
        refine sq_nil ?_
        refine sx_blk ?_
        refine sx_then ?_
        refine sc_region ?_
        refine sq_y (OpY.s (y_move (by exact rfl))) rfl ?_
        refine sq_y (OpY.s (y_add (by exact rfl) (by exact rfl) (by omega))) rfl ?_
        refine sq_y (OpY.s (y_assign (by exact rfl))) rfl ?_
        refine sq_nil ?_
        refine sx_round (k + 1) ?_ ?_ (by repeat (first | exact SubL.nil | refine SubL.cons (by first | exact rfl | exact lk_int rfl (by omega)) ?_)) (by repeat (first | exact Sel.nil | refine Sel.cons (by repeat (first | exact Rem.here | apply Rem.there)) ?_))
        · show k + 1 ≤ L; omega
        · show L - (k + 1) < L - k; omega
      ·
        have hst : r.rate = stepZ r bs t (k + 1) := by unfold stepZ; rw [if_neg hc2]
        have hsb := step_bd hbs (show 1 ≤ r.rate by omega) t (k + 1)
        refine sc_skip ?_
        refine sx_then ?_
        refine sc_region ?_
        refine sq_y (OpY.s (y_move (by exact rfl))) rfl ?_
        refine sq_y (OpY.s (y_move (by exact rfl))) rfl ?_
        refine sq_y (OpY.s (y_move (by exact rfl))) rfl ?_
        refine sq_y (OpY.s (y_move (by exact rfl))) rfl ?_
        refine sq_y (OpY.s (y_move (by exact rfl))) rfl ?_
        refine sq_y (OpY.s (y_sub (by exact rfl) (by exact rfl) (by omega))) rfl ?_
        refine sq_y (OpY.s (by first | exact y_ia_blk Try.underlying51 Try.sizeOf3 (by exact rfl) (ev_int (m := (k : Int)) (by exact rfl) (by omega)) (by omega) | exact y_ia_el Try.underlying51 Try.sizeOf3 (by exact rfl) (ev_int (m := (k : Int)) (by exact rfl) (by omega)) (by omega) (by first | assumption | simp))) rfl ?_
        refine sq_y (OpY.s (by first | exact y_load_blk Try.underlying3 rfl (by exact rfl) (by repeat (first | exact .head _ | refine .tail _ ?_)) ((intC_get (show k < L + 1 by omega)).trans (by rw [if_pos (show k < k + 1 by omega)])) | exact y_load_blk Try.underlying3 rfl (by exact rfl) (by repeat (first | exact .head _ | refine .tail _ ?_)) (by exact rfl) | exact y_load_caj Try.underlying3 rfl (by exact rfl) (by repeat (first | exact .head _ | refine .tail _ ?_)) (by assumption) (by exact rfl) | exact y_load_ca0 Try.underlying3 rfl (by exact rfl) (by repeat (first | exact .head _ | refine .tail _ ?_)) (by assumption) (by exact rfl))) rfl ?_
        refine sq_y (OpY.s (y_move (by exact rfl))) rfl ?_
        refine sq_y (OpY.s (y_add (by exact rfl) (by exact rfl) (by omega))) rfl ?_
        refine sq_y (OpY.s (y_min (by exact rfl) (by exact rfl))) rfl ?_
        refine sq_y (OpY.s (by first | exact y_ia_blk Try.underlying51 Try.sizeOf3 (by exact rfl) (ev_int (m := ((k + 1 : Nat) : Int)) (by exact rfl) (by omega)) (by omega) | exact y_ia_el Try.underlying51 Try.sizeOf3 (by exact rfl) (ev_int (m := ((k + 1 : Nat) : Int)) (by exact rfl) (by omega)) (by omega) (by first | assumption | simp))) rfl ?_
        refine sq_store_eq (cs' := (intC (L + 1) fun i => if i < (k + 2) then hasZ r bs t i else 0).toArray) Try.sizeOf3 (by exact rfl) (by exact rfl) rfl (by repeat (first | exact Rem.here | apply Rem.there)) (by rw [intC_size]; omega) (intC_set (m := k + 1) (by
          intro i hi
          by_cases e : i = k + 1
          · rw [if_pos e, e, if_pos (by omega)]
            show min (mostZ r bs t) (hasZ r bs t k + stepZ r bs t (k + 1)) = _
            rw [← hst]
          · rw [if_neg e]
            by_cases h : i < k + 1
            · rw [if_pos h, if_pos (by omega)]
            · rw [if_neg h, if_neg (by omega)])) ?_
        refine sq_nil ?_
        refine sx_blk ?_
        refine sx_then ?_
        refine sc_region ?_
        refine sq_y (OpY.s (y_move (by exact rfl))) rfl ?_
        refine sq_y (OpY.s (y_add (by exact rfl) (by exact rfl) (by omega))) rfl ?_
        refine sq_y (OpY.s (y_assign (by exact rfl))) rfl ?_
        refine sq_nil ?_
        refine sx_round (k + 1) ?_ ?_ (by repeat (first | exact SubL.nil | refine SubL.cons (by first | exact rfl | exact lk_int rfl (by omega)) ?_)) (by repeat (first | exact Sel.nil | refine Sel.cons (by repeat (first | exact Rem.here | apply Rem.there)) ?_))
        · show k + 1 ≤ L; omega
        · show L - (k + 1) < L - k; omega
    ·
      refine sc_exit ?_
      refine sx_then_exit ?_
      refine sx_round_exit ?_
      refine sx_blk_hit ?_
      refine sx_then ?_
      refine sc_seq ?_
      have hkL : k = L := by omega
      subst hkL
      rw [show (intC (k + 1) fun i => if i < k + 1 then hasZ r bs t i else 0) = intC (k + 1) (hasZ r bs t) from intC_congr fun i hi => if_pos hi]
      refine sc_blk_own (e := 3) (n := k + 1) (sz := 1) (xs := intC (k + 1) (hasZ r bs t)) (by repeat (first | exact Rem.here | apply Rem.there)) (by simp [intC]) (by unfold maxLen; omega) ?_
      refine sc_region ?_
      refine sq_y (OpY.s (y_move (by exact rfl))) rfl ?_
      refine sq_y (OpY.s (y_assign (by exact rfl))) rfl ?_
      refine sq_nil ?_
      refine sx_then ?_
      refine sc_ret ?_
      refine sx_ret1 (.inl rfl) rfl Try.results32 (by exact rfl) ?_
      intro w' hw'
      exact ⟨(some ⟨b15, 0, none⟩, k + 1), rfl, hw'.below (by repeat (first | exact .head _ | refine .tail _ ?_)), own_new hw' (.here) (by repeat (first | exact .head _ | refine .tail _ ?_))⟩
  ·
    have hmo : r.p = mostZ r bs t := by unfold mostZ; rw [if_neg hc0]
    refine sc_skip ?_
    refine sx_then ?_
    refine sc_seq ?_
    refine sc_seq ?_
    refine sc_region ?_
    refine sq_y (OpY.s (y_assign (by exact rfl))) rfl ?_
    refine sq_nil ?_
    refine sx_then ?_
    refine sc_block ?_
    refine sc_loop (σ := Nat)
      (fun s => [(1, .int .i64 t), (2, .slice ab bs.length cb), (3, .pointer (some ⟨b3, 0, none⟩)), (7, .slice (some ⟨b15, 0, none⟩) (L + 1) (L + 1)), (8, .int .i64 (mostZ r bs t)), (9, .int .i64 ((s : Int) + 1))])
      (fun s => [.blk b15 (.cells (intC (L + 1) fun i => if i < (s + 1) then hasZ r bs t i else 0).toArray 3 (0, 0)), .blk b3 (.cells (rcVal r a c).toArray 24 (0, 0)), .reg 0 w])
      (fun s => s ≤ L)
      (fun s => L - s)
      (0) ?_ (by repeat (first | exact SubL.nil | refine SubL.cons (by first | exact rfl | exact lk_int rfl hmo | exact lk_int rfl (by omega)) ?_)) (by repeat (first | exact Sel.nil | refine Sel.cons (by repeat (first | exact Rem.here | apply Rem.there)) ?_)) ?_
    · exact Nat.zero_le _
    rintro k hk
    refine sc_seq ?_
    refine sc_seq ?_
    refine sc_region ?_
    refine sq_y (OpY.s (y_move (by exact rfl))) rfl ?_
    refine sq_y (OpY.s (by first | exact y_fab Try.underlying24 (by exact rfl) (by exact Try.sizeOf3) (by exact rfl) rfl | exact y_fa Try.underlying24 (by exact rfl) (by exact Try.sizeOf3) (by exact rfl) rfl)) rfl ?_
    refine sq_y (OpY.s (by first | exact y_load_blk Try.underlying3 rfl (by exact rfl) (by repeat (first | exact .head _ | refine .tail _ ?_)) (by exact rfl) | exact y_load_caj Try.underlying3 rfl (by exact rfl) (by repeat (first | exact .head _ | refine .tail _ ?_)) (by assumption) (by exact rfl) | exact y_load_ca0 Try.underlying3 rfl (by exact rfl) (by repeat (first | exact .head _ | refine .tail _ ?_)) (by assumption) (by exact rfl))) rfl ?_
    refine sq_y (OpY.s (y_leq (by exact rfl) (by exact rfl))) rfl ?_
    refine sq_nil ?_
    refine sx_then ?_
    first | refine sc_if (by exact rfl) (fun hc1 => ?_) (fun hc1 => ?_) | refine sc_ifn (by exact rfl) (fun hc1 => ?_) (fun hc1 => ?_) | refine sc_cond (by exact rfl) (fun hc1 => ?_) (fun hc1 => ?_)
    ·
      have hk' : k < L := by omega
      have hz := hbs.by (t + (k + 1))
      have hrow2 := hb.el _ _ (byZ_get hbs (t + (k + 1)))
      have hsm2 := hrow2.1
      have hca2 := hrow2.2
      have hix2 : (t + (k + 1)) % bs.length < bs.length := Nat.mod_lt _ hnb
      have hbk := hbd k
      have hadd : (t : Int) + ((k : Int) + 1) = ((t + (k + 1) : Nat) : Int) := by omega
      refine sc_skip ?_
      refine sx_then ?_
      refine sc_seq ?_
      refine sc_block ?_
      refine sc_seq ?_
      refine sc_region ?_
      refine sq_y (OpY.s (by first | exact y_fab Try.underlying24 (by exact rfl) (by exact Try.sizeOf3) (by exact rfl) rfl | exact y_fa Try.underlying24 (by exact rfl) (by exact Try.sizeOf3) (by exact rfl) rfl)) rfl ?_
      refine sq_y (OpY.s (by first | exact y_load_blk Try.underlying3 rfl (by exact rfl) (by repeat (first | exact .head _ | refine .tail _ ?_)) (by exact rfl) | exact y_load_caj Try.underlying3 rfl (by exact rfl) (by repeat (first | exact .head _ | refine .tail _ ?_)) (by assumption) (by exact rfl) | exact y_load_ca0 Try.underlying3 rfl (by exact rfl) (by repeat (first | exact .head _ | refine .tail _ ?_)) (by assumption) (by exact rfl))) rfl ?_
      refine sq_y (OpY.s (y_assign (by exact rfl))) rfl ?_
      refine sq_nil ?_
      refine sx_then ?_
      refine sc_seq ?_
      refine sc_seq ?_
      refine sc_region ?_
      refine sq_y (OpY.s (y_move (by exact rfl))) rfl ?_
      refine sq_y (OpY.s (y_move (by exact rfl))) rfl ?_
      refine sq_y (OpY.s (y_move (by exact rfl))) rfl ?_
      refine sq_y (OpY.s (y_add (by exact rfl) (by exact rfl) (by omega))) rfl ?_
      refine sq_y (OpY.s (y_move (by exact rfl))) rfl ?_
      refine sq_y (OpY.s (y_len Try.underlying47 (by exact rfl))) rfl ?_
      rw [hadd]
      refine sq_y (OpY.s (y_rem (by exact rfl) (by exact rfl) (by omega) (by omega))) rfl ?_
      refine sq_y (OpY.s (by first | exact y_ia_blk Try.underlying47 Try.sizeOf48 (by exact rfl) (ev_int (by exact rfl) (by simp)) hix2 | exact y_ia_el Try.underlying47 Try.sizeOf48 (by exact rfl) (ev_int (by exact rfl) (by simp)) hix2 (by first | assumption | simp))) rfl ?_
      refine sq_y (OpY.s (by first | exact y_load_ca0 Try.underlying48 rfl (by exact rfl) (by repeat (first | exact .head _ | refine .tail _ ?_)) hca2 rfl | exact y_load_blk Try.underlying48 rfl (by exact rfl) (by repeat (first | exact .head _ | refine .tail _ ?_)) (by exact rfl) | exact y_load_caj Try.underlying48 rfl (by exact rfl) (by repeat (first | exact .head _ | refine .tail _ ?_)) (by assumption) (by exact rfl) | exact y_load_ca0 Try.underlying48 rfl (by exact rfl) (by repeat (first | exact .head _ | refine .tail _ ?_)) (by assumption) (by exact rfl))) rfl ?_
      refine sq_y (OpY.s (y_assign (by exact rfl))) rfl ?_
      refine sq_nil ?_
      refine sx_then ?_
      refine sc_seq ?_
      refine sc_region ?_
      refine sq_y (OpY.s (y_move (by exact rfl))) rfl ?_
      refine sq_y (OpY.s (y_rem (by exact rfl) (by exact rfl) (by omega) (by omega))) rfl ?_
      refine sq_y (OpY.s (y_gtr (by exact rfl) (by exact rfl))) rfl ?_
      refine sq_nil ?_
      refine sx_then ?_
      first | refine sc_if (by exact rfl) (fun hc2 => ?_) (fun hc2 => ?_) | refine sc_ifn (by exact rfl) (fun hc2 => ?_) (fun hc2 => ?_) | refine sc_cond (by exact rfl) (fun hc2 => ?_) (fun hc2 => ?_)
      ·
        have hst : byZ bs (t + (k + 1)) % (r.rate + 1) = stepZ r bs t (k + 1) := by unfold stepZ; rw [if_pos hc2]
        have hsb := step_bd hbs (show 1 ≤ r.rate by omega) t (k + 1)
        refine sc_region ?_
        refine sq_y (OpY.s (y_move (by exact rfl))) rfl ?_
        refine sq_y (OpY.s (y_conv Try.underlying48 Try.underlying3 (by exact rfl) (wrap64_in (by omega) (by omega)))) rfl ?_
        refine sq_y (OpY.s (by first | exact y_fab Try.underlying24 (by exact rfl) (by exact Try.sizeOf3) (by exact rfl) rfl | exact y_fa Try.underlying24 (by exact rfl) (by exact Try.sizeOf3) (by exact rfl) rfl)) rfl ?_
        refine sq_y (OpY.s (by first | exact y_load_blk Try.underlying3 rfl (by exact rfl) (by repeat (first | exact .head _ | refine .tail _ ?_)) (by exact rfl) | exact y_load_caj Try.underlying3 rfl (by exact rfl) (by repeat (first | exact .head _ | refine .tail _ ?_)) (by assumption) (by exact rfl) | exact y_load_ca0 Try.underlying3 rfl (by exact rfl) (by repeat (first | exact .head _ | refine .tail _ ?_)) (by assumption) (by exact rfl))) rfl ?_
        refine sq_y (OpY.s (y_add (by exact rfl) (by exact rfl) (by omega))) rfl ?_
        refine sq_y (OpY.s (y_rem (by exact rfl) (by exact rfl) (by omega) (by omega))) rfl ?_
        refine sq_y (OpY.s (y_assign (by exact rfl))) rfl ?_
        refine sq_nil ?_
        refine sx_then ?_
        refine sc_region ?_
        refine sq_y (OpY.s (y_move (by exact rfl))) rfl ?_
        refine sq_y (OpY.s (y_move (by exact rfl))) rfl ?_
        refine sq_y (OpY.s (y_move (by exact rfl))) rfl ?_
        refine sq_y (OpY.s (y_move (by exact rfl))) rfl ?_
        refine sq_y (OpY.s (y_move (by exact rfl))) rfl ?_
        refine sq_y (OpY.s (y_sub (by exact rfl) (by exact rfl) (by omega))) rfl ?_
        refine sq_y (OpY.s (by first | exact y_ia_blk Try.underlying51 Try.sizeOf3 (by exact rfl) (ev_int (m := (k : Int)) (by exact rfl) (by omega)) (by omega) | exact y_ia_el Try.underlying51 Try.sizeOf3 (by exact rfl) (ev_int (m := (k : Int)) (by exact rfl) (by omega)) (by omega) (by first | assumption | simp))) rfl ?_
        refine sq_y (OpY.s (by first | exact y_load_blk Try.underlying3 rfl (by exact rfl) (by repeat (first | exact .head _ | refine .tail _ ?_)) ((intC_get (show k < L + 1 by omega)).trans (by rw [if_pos (show k < k + 1 by omega)])) | exact y_load_blk Try.underlying3 rfl (by exact rfl) (by repeat (first | exact .head _ | refine .tail _ ?_)) (by exact rfl) | exact y_load_caj Try.underlying3 rfl (by exact rfl) (by repeat (first | exact .head _ | refine .tail _ ?_)) (by assumption) (by exact rfl) | exact y_load_ca0 Try.underlying3 rfl (by exact rfl) (by repeat (first | exact .head _ | refine .tail _ ?_)) (by assumption) (by exact rfl))) rfl ?_
        refine sq_y (OpY.s (y_move (by exact rfl))) rfl ?_
        refine sq_y (OpY.s (y_add (by exact rfl) (by exact rfl) (by omega))) rfl ?_
        refine sq_y (OpY.s (y_min (by exact rfl) (by exact rfl))) rfl ?_
        refine sq_y (OpY.s (by first | exact y_ia_blk Try.underlying51 Try.sizeOf3 (by exact rfl) (ev_int (m := ((k + 1 : Nat) : Int)) (by exact rfl) (by omega)) (by omega) | exact y_ia_el Try.underlying51 Try.sizeOf3 (by exact rfl) (ev_int (m := ((k + 1 : Nat) : Int)) (by exact rfl) (by omega)) (by omega) (by first | assumption | simp))) rfl ?_
        refine sq_store_eq (cs' := (intC (L + 1) fun i => if i < (k + 2) then hasZ r bs t i else 0).toArray) Try.sizeOf3 (by exact rfl) (by exact rfl) rfl (by repeat (first | exact Rem.here | apply Rem.there)) (by rw [intC_size]; omega) (intC_set (m := k + 1) (by
          intro i hi
          by_cases e : i = k + 1
          · rw [if_pos e, e, if_pos (by omega)]
            show min (mostZ r bs t) (hasZ r bs t k + stepZ r bs t (k + 1)) = _
            rw [← hst]
          · rw [if_neg e]
            by_cases h : i < k + 1
            · rw [if_pos h, if_pos (by omega)]
            · rw [if_neg h, if_neg (by omega)])) ?_
        refine sq_nil ?_
        refine sx_blk ?_
        refine sx_then ?_
        refine sc_region ?_
        refine sq_y (OpY.s (y_move (by exact rfl))) rfl ?_
        refine sq_y (OpY.s (y_add (by exact rfl) (by exact rfl) (by omega))) rfl ?_
        refine sq_y (OpY.s (y_assign (by exact rfl))) rfl ?_
        refine sq_nil ?_
        refine sx_round (k + 1) ?_ ?_ (by repeat (first | exact SubL.nil | refine SubL.cons (by first | exact rfl | exact lk_int rfl (by omega)) ?_)) (by repeat (first | exact Sel.nil | refine Sel.cons (by repeat (first | exact Rem.here | apply Rem.there)) ?_))
        · show k + 1 ≤ L; omega
        · show L - (k + 1) < L - k; omega
      ·
        have hst : r.rate = stepZ r bs t (k + 1) := by unfold stepZ; rw [if_neg hc2]
        have hsb := step_bd hbs (show 1 ≤ r.rate by omega) t (k + 1)
        refine sc_skip ?_
        refine sx_then ?_
        refine sc_region ?_
        refine sq_y (OpY.s (y_move (by exact rfl))) rfl ?_
        refine sq_y (OpY.s (y_move (by exact rfl))) rfl ?_
        refine sq_y (OpY.s (y_move (by exact rfl))) rfl ?_
        refine sq_y (OpY.s (y_move (by exact rfl))) rfl ?_
        refine sq_y (OpY.s (y_move (by exact rfl))) rfl ?_
        refine sq_y (OpY.s (y_sub (by exact rfl) (by exact rfl) (by omega))) rfl ?_
        refine sq_y (OpY.s (by first | exact y_ia_blk Try.underlying51 Try.sizeOf3 (by exact rfl) (ev_int (m := (k : Int)) (by exact rfl) (by omega)) (by omega) | exact y_ia_el Try.underlying51 Try.sizeOf3 (by exact rfl) (ev_int (m := (k : Int)) (by exact rfl) (by omega)) (by omega) (by first | assumption | simp))) rfl ?_
        refine sq_y (OpY.s (by first | exact y_load_blk Try.underlying3 rfl (by exact rfl) (by repeat (first | exact .head _ | refine .tail _ ?_)) ((intC_get (show k < L + 1 by omega)).trans (by rw [if_pos (show k < k + 1 by omega)])) | exact y_load_blk Try.underlying3 rfl (by exact rfl) (by repeat (first | exact .head _ | refine .tail _ ?_)) (by exact rfl) | exact y_load_caj Try.underlying3 rfl (by exact rfl) (by repeat (first | exact .head _ | refine .tail _ ?_)) (by assumption) (by exact rfl) | exact y_load_ca0 Try.underlying3 rfl (by exact rfl) (by repeat (first | exact .head _ | refine .tail _ ?_)) (by assumption) (by exact rfl))) rfl ?_
        refine sq_y (OpY.s (y_move (by exact rfl))) rfl ?_
        refine sq_y (OpY.s (y_add (by exact rfl) (by exact rfl) (by omega))) rfl ?_
        refine sq_y (OpY.s (y_min (by exact rfl) (by exact rfl))) rfl ?_
        refine sq_y (OpY.s (by first | exact y_ia_blk Try.underlying51 Try.sizeOf3 (by exact rfl) (ev_int (m := ((k + 1 : Nat) : Int)) (by exact rfl) (by omega)) (by omega) | exact y_ia_el Try.underlying51 Try.sizeOf3 (by exact rfl) (ev_int (m := ((k + 1 : Nat) : Int)) (by exact rfl) (by omega)) (by omega) (by first | assumption | simp))) rfl ?_
        refine sq_store_eq (cs' := (intC (L + 1) fun i => if i < (k + 2) then hasZ r bs t i else 0).toArray) Try.sizeOf3 (by exact rfl) (by exact rfl) rfl (by repeat (first | exact Rem.here | apply Rem.there)) (by rw [intC_size]; omega) (intC_set (m := k + 1) (by
          intro i hi
          by_cases e : i = k + 1
          · rw [if_pos e, e, if_pos (by omega)]
            show min (mostZ r bs t) (hasZ r bs t k + stepZ r bs t (k + 1)) = _
            rw [← hst]
          · rw [if_neg e]
            by_cases h : i < k + 1
            · rw [if_pos h, if_pos (by omega)]
            · rw [if_neg h, if_neg (by omega)])) ?_
        refine sq_nil ?_
        refine sx_blk ?_
        refine sx_then ?_
        refine sc_region ?_
        refine sq_y (OpY.s (y_move (by exact rfl))) rfl ?_
        refine sq_y (OpY.s (y_add (by exact rfl) (by exact rfl) (by omega))) rfl ?_
        refine sq_y (OpY.s (y_assign (by exact rfl))) rfl ?_
        refine sq_nil ?_
        refine sx_round (k + 1) ?_ ?_ (by repeat (first | exact SubL.nil | refine SubL.cons (by first | exact rfl | exact lk_int rfl (by omega)) ?_)) (by repeat (first | exact Sel.nil | refine Sel.cons (by repeat (first | exact Rem.here | apply Rem.there)) ?_))
        · show k + 1 ≤ L; omega
        · show L - (k + 1) < L - k; omega
    ·
      refine sc_exit ?_
      refine sx_then_exit ?_
      refine sx_round_exit ?_
      refine sx_blk_hit ?_
      refine sx_then ?_
      refine sc_seq ?_
      have hkL : k = L := by omega
      subst hkL
      rw [show (intC (k + 1) fun i => if i < k + 1 then hasZ r bs t i else 0) = intC (k + 1) (hasZ r bs t) from intC_congr fun i hi => if_pos hi]
      refine sc_blk_own (e := 3) (n := k + 1) (sz := 1) (xs := intC (k + 1) (hasZ r bs t)) (by repeat (first | exact Rem.here | apply Rem.there)) (by simp [intC]) (by unfold maxLen; omega) ?_
      refine sc_region ?_
      refine sq_y (OpY.s (y_move (by exact rfl))) rfl ?_
      refine sq_y (OpY.s (y_assign (by exact rfl))) rfl ?_
      refine sq_nil ?_
      refine sx_then ?_
      refine sc_ret ?_
      refine sx_ret1 (.inl rfl) rfl Try.results32 (by exact rfl) ?_
      intro w' hw'
      exact ⟨(some ⟨b15, 0, none⟩, k + 1), rfl, hw'.below (by repeat (first | exact .head _ | refine .tail _ ?_)), own_new hw' (.here) (by repeat (first | exact .head _ | refine .tail _ ?_))⟩
end Go.Proofs.Ytegdfpilhlcplaa
