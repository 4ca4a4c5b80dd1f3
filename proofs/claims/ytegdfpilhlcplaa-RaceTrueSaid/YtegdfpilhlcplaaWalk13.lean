/- The walk of the specification's bounds. -/
import Derived.Test.YtegdfpilhlcplaaWalk12
import Derived.Test.YtegdfpilhlcplaaLaw4
namespace Go.Proofs.Ytegdfpilhlcplaa
open Go Go.Eng Go.RowKit Go.Proofs
set_option maxRecDepth 100000
theorem minutes43i (w : World) (v : Value) (r : Rc) (team : Nat) (mz : Int) (hr : RcA 0 w v r) (hlim : 0 ≤ r.lim) (hteam : team < r.teams.length) (hm : 0 ≤ mz ∧ mz ≤ 2000) : Calls Try.prog 43 #[v, .int .i64 team, .int .i64 mz] w fun e w' => e = .returned (.int .i64 (wrk r team mz.toNat)) ∧ Below w.heap.size w w' := by
  obtain ⟨m, rfl⟩ := Int.eq_ofNat_of_zero_le hm.1
  exact minutes43 w v r team m hr hlim hteam (by omega)
theorem made_int (n : Nat) : madeCells (Value.int .i64 0).cells (n * 1) = (intC n fun _ => 0).toArray := by
  rw [Nat.mul_one]
  show madeCells #[.int .i64 0] n = _
  rw [madeCells_one]; congr 1
  apply List.ext_getElem
  · simp [intC]
  · intro i h1 h2; simp [intC]
theorem intC_ints {lo : Nat} {w : World} {b n : Nat} {g : Nat → Int} (hb : lo ≤ b) (h : CA 0 w ⟨b, 0, none⟩ (intC n g)) : IntsA lo w (some ⟨b, 0, none⟩) ((List.range n).map g) := fun i x hi => by
  refine ⟨rfl, ?_⟩
  have hin : i < n := by have := (List.getElem?_eq_some_iff.1 hi).1; simpa using this
  have hx : x = g i := by rw [List.getElem?_map, List.getElem?_range hin] at hi; simpa using hi.symm
  subst hx
  have e1 : elt (some ⟨b, 0, none⟩) i 1 = (⟨b, i, none⟩ : Addr) := by simp [elt, Addr.add_lit]
  rw [e1]
  refine ⟨hb, fun j v hj => ?_⟩
  rcases j with _ | j
  · simp at hj; subst hj
    have := h.2 i (.int .i64 (g i)) (by simp [intC, hin])
    rw [Addr.add_lit, Nat.zero_add] at this
    rw [Addr.add_zero']; exact this
  · simp at hj

theorem bounds49 (w : World) (r : Rc) (a : Option Addr) (c : Nat) (f : Nat → Option Addr) (cf : Nat → Nat) (al : Option Addr) (cl : Nat) (ls : List Wd) (team : Nat) (hteam : team < r.teams.length) (hok : rcB r = true) (hwd : ∀ d, d ∈ ls → wdB r d = true) (hT : TmsA 0 w a r.teams f cf) (hl : WdsA 0 w al ls) (i1 : InI r.p) (i2 : InI r.lim) (i3 : InI r.rate) :
    Calls Try.prog 49 #[.agg (rcVal r a c).toArray, .slice al ls.length cl, .int .i64 team] w fun e w' => ∃ z : Nat × Nat, e = .returned (.tuple #[.slice (some ⟨z.1, 0, none⟩) (r.lim.toNat + 1) (r.lim.toNat + 1), .slice (some ⟨z.2, 0, none⟩) (r.lim.toNat + 1) (r.lim.toNat + 1), .bool (isB r team ls)]) ∧ Below w.heap.size w w' ∧
      IntsA w.heap.size w' (some ⟨z.1, 0, none⟩) ((List.range (r.lim.toNat + 1)).map (lowB r team ls)) ∧ IntsA w.heap.size w' (some ⟨z.2, 0, none⟩) ((List.range (r.lim.toNat + 1)).map (highB r team ls)) := by
  have hlen := hl.len
  have hlim := rcB_nums hok
  obtain ⟨L, hL⟩ := Int.eq_ofNat_of_zero_le (show 0 ≤ r.lim by omega)
  have hLn : r.lim.toNat = L := by omega
  rw [hLn]
  refine calls_of_SC (args := [.agg (rcVal r a c).toArray, .slice al ls.length cl, .int .i64 team]) Try.func49 rfl Try.ntmps49 rfl ?_
  simp only [argL, Nat.reduceAdd, Nat.zero_add]
  refine sc_seq ?_
  refine sc_region ?_
  refine sq_box (by exact rfl) rfl (fun b3 => ?_)
  refine sq_y (OpY.s (y_assign (by exact rfl))) rfl ?_
  refine sq_y (OpY.s (y_assign (by exact rfl))) rfl ?_
  refine sq_y (OpY.s (y_assign (by exact rfl))) rfl ?_
  refine sq_nil ?_
  refine sx_then ?_
  refine sc_seq ?_
  refine sc_midE (Z := Nat × Nat) (fun z => [(1, .slice al ls.length cl), (2, .int .i64 team), (3, .pointer (some ⟨b3, 0, none⟩)), (9, .slice (some ⟨z.1, 0, none⟩) (L + 1) (L + 1)), (10, .slice (some ⟨z.2, 0, none⟩) (L + 1) (L + 1))]) (fun z => [.blk z.1 (.cells (intC (L + 1) (fun _ => 0)).toArray 3 (0, 0)), .blk z.2 (.cells (intC (L + 1) (fun _ => 0)).toArray 3 (0, 0)), .blk b3 (.cells (rcVal r a c).toArray 24 (0, 0)), .reg 0 w]) ?_ ?_
  ·
    refine sc_drawX ([.blk b3 (.cells (rcVal r a c).toArray 24 (0, 0)), .reg 0 w]) (by kernel_rfl) ?_
    refine xj_s 0 (by exact rfl) (by kernel_rfl) (by repeat (first | exact Sel.nil | refine Sel.cons (by repeat (first | exact Rem.here | apply Rem.there)) ?_)) (by first | exact y_fab Try.underlying24 (by exact rfl) (by exact Try.sizeOf3) (by exact rfl) rfl | exact y_fa Try.underlying24 (by exact rfl) (by exact Try.sizeOf3) (by exact rfl) rfl) rfl ?_
    refine xj_s 1 (by exact rfl) (by kernel_rfl) (by repeat (first | exact Sel.nil | refine Sel.cons (by repeat (first | exact Rem.here | apply Rem.there)) ?_)) (by first | exact y_load_blk Try.underlying3 rfl (by exact rfl) (by repeat (first | exact .head _ | refine .tail _ ?_)) (by exact rfl) | exact y_load_caj Try.underlying3 rfl (by exact rfl) (by repeat (first | exact .head _ | refine .tail _ ?_)) (by assumption) (by exact rfl) | exact y_load_ca0 Try.underlying3 rfl (by exact rfl) (by repeat (first | exact .head _ | refine .tail _ ?_)) (by assumption) (by exact rfl)) rfl ?_
    refine xj_s 2 (by exact rfl) (by kernel_rfl) (by repeat (first | exact Sel.nil | refine Sel.cons (by repeat (first | exact Rem.here | apply Rem.there)) ?_)) (y_add (by exact rfl) (by exact rfl) (by omega)) rfl ?_
    refine xj_s 4 (by exact rfl) (by kernel_rfl) (by repeat (first | exact Sel.nil | refine Sel.cons (by repeat (first | exact Rem.here | apply Rem.there)) ?_)) (by first | exact y_fab Try.underlying24 (by exact rfl) (by exact Try.sizeOf3) (by exact rfl) rfl | exact y_fa Try.underlying24 (by exact rfl) (by exact Try.sizeOf3) (by exact rfl) rfl) rfl ?_
    refine xj_s 5 (by exact rfl) (by kernel_rfl) (by repeat (first | exact Sel.nil | refine Sel.cons (by repeat (first | exact Rem.here | apply Rem.there)) ?_)) (by first | exact y_load_blk Try.underlying3 rfl (by exact rfl) (by repeat (first | exact .head _ | refine .tail _ ?_)) (by exact rfl) | exact y_load_caj Try.underlying3 rfl (by exact rfl) (by repeat (first | exact .head _ | refine .tail _ ?_)) (by assumption) (by exact rfl) | exact y_load_ca0 Try.underlying3 rfl (by exact rfl) (by repeat (first | exact .head _ | refine .tail _ ?_)) (by assumption) (by exact rfl)) rfl ?_
    refine xj_s 6 (by exact rfl) (by kernel_rfl) (by repeat (first | exact Sel.nil | refine Sel.cons (by repeat (first | exact Rem.here | apply Rem.there)) ?_)) (y_add (by exact rfl) (by exact rfl) (by omega)) rfl ?_
    refine xj_all (l := [3, 7]) (by kernel_rfl) (by simp) (Each.cons ⟨_, rfl, ?_⟩ (Each.cons ⟨_, rfl, ?_⟩ Each.nil))
    ·
      refine sq_make Try.underlying51 ei3 (l := L + 1) (c := L + 1) (ev_int (by exact rfl) (by omega)) (ev_int (by exact rfl) (by omega)) (by omega) (by omega) (by omega) rfl (fun b21 => ?_)
      rw [made_int]
      refine sq_nil ?_
      refine sx_xp (by repeat (first | exact Sel.nil | refine Sel.cons (by repeat (first | exact Rem.here | apply Rem.there)) ?_)) ?_
      refine xj_s 8 (by exact rfl) (by kernel_rfl) (by repeat (first | exact Sel.nil | refine Sel.cons (by repeat (first | exact Rem.here | apply Rem.there)) ?_)) (y_assign (by exact rfl)) rfl ?_
      refine xj_one 7 (by exact rfl) (by kernel_rfl) ?_
      refine sq_make Try.underlying51 ei3 (l := L + 1) (c := L + 1) (ev_int (by exact rfl) (by omega)) (ev_int (by exact rfl) (by omega)) (by omega) (by omega) (by omega) rfl (fun b25 => ?_)
      rw [made_int]
      refine sq_nil ?_
      refine sx_xp (by repeat (first | exact Sel.nil | refine Sel.cons (by repeat (first | exact Rem.here | apply Rem.there)) ?_)) ?_
      refine xj_s 9 (by exact rfl) (by kernel_rfl) (by repeat (first | exact Sel.nil | refine Sel.cons (by repeat (first | exact Rem.here | apply Rem.there)) ?_)) (y_assign (by exact rfl)) rfl ?_
      refine xj_done (by kernel_rfl) ?_
      exact sx_midE ((b21, b25)) (by repeat (first | exact SubL.nil | refine SubL.cons (by first | exact rfl | exact lk_int rfl (by omega) | exact lk_eq rfl (by simp)) ?_)) (by repeat (first | exact Sel.nil | refine Sel.cons (by repeat (first | exact Rem.here | apply Rem.there)) ?_))
    ·
      refine sq_make Try.underlying51 ei3 (l := L + 1) (c := L + 1) (ev_int (by exact rfl) (by omega)) (ev_int (by exact rfl) (by omega)) (by omega) (by omega) (by omega) rfl (fun b25 => ?_)
      rw [made_int]
      refine sq_nil ?_
      refine sx_xp (by repeat (first | exact Sel.nil | refine Sel.cons (by repeat (first | exact Rem.here | apply Rem.there)) ?_)) ?_
      refine xj_one 3 (by exact rfl) (by kernel_rfl) ?_
      refine sq_make Try.underlying51 ei3 (l := L + 1) (c := L + 1) (ev_int (by exact rfl) (by omega)) (ev_int (by exact rfl) (by omega)) (by omega) (by omega) (by omega) rfl (fun b21 => ?_)
      rw [made_int]
      refine sq_nil ?_
      refine sx_xp (by repeat (first | exact Sel.nil | refine Sel.cons (by repeat (first | exact Rem.here | apply Rem.there)) ?_)) ?_
      refine xj_s 8 (by exact rfl) (by kernel_rfl) (by repeat (first | exact Sel.nil | refine Sel.cons (by repeat (first | exact Rem.here | apply Rem.there)) ?_)) (y_assign (by exact rfl)) rfl ?_
      refine xj_s 9 (by exact rfl) (by kernel_rfl) (by repeat (first | exact Sel.nil | refine Sel.cons (by repeat (first | exact Rem.here | apply Rem.there)) ?_)) (y_assign (by exact rfl)) rfl ?_
      refine xj_done (by kernel_rfl) ?_
      exact sx_midE ((b21, b25)) (by repeat (first | exact SubL.nil | refine SubL.cons (by first | exact rfl | exact lk_int rfl (by omega) | exact lk_eq rfl (by simp)) ?_)) (by repeat (first | exact Sel.nil | refine Sel.cons (by repeat (first | exact Rem.here | apply Rem.there)) ?_))
  rintro ⟨bL, bH⟩
  dsimp only
  refine sx_then ?_
  refine sc_seq ?_
  refine sc_seq ?_
  refine sc_region ?_
  refine sq_y (OpY.s (y_assign (by exact rfl))) rfl ?_
  refine sq_nil ?_
  refine sx_then ?_
  refine sc_block ?_
  have e0 : intC (L + 1) (fun _ => 0) = intC (L + 1) (fun w => if w < 0 then hi0 r w else 0) := intC_congr fun i hi => by simp
  refine sc_sub (L' := [(1, .slice al ls.length cl), (2, .int .i64 team), (3, .pointer (some ⟨b3, 0, none⟩)), (9, .slice (some ⟨bL, 0, none⟩) (L + 1) (L + 1)), (10, .slice (some ⟨bH, 0, none⟩) (L + 1) (L + 1)), (11, .int .i64 (0 : Nat))]) (rs' := [.blk bL (.cells (intC (L + 1) (fun _ => 0)).toArray 3 (0, 0)), .blk bH (.cells (intC (L + 1) (fun w => if w < 0 then hi0 r w else 0)).toArray 3 (0, 0)), .blk b3 (.cells (rcVal r a c).toArray 24 (0, 0)), .reg 0 w]) (by repeat (first | exact SubL.nil | refine SubL.cons (by first | exact rfl | exact lk_int rfl (by omega) | exact lk_eq rfl (by simp)) ?_)) (by rw [← e0]; exact (by repeat (first | exact Sel.nil | refine Sel.cons (by repeat (first | exact Rem.here | apply Rem.there)) ?_))) ?_
  refine sc_loop (σ := Nat)
    (fun s => [(1, .slice al ls.length cl), (2, .int .i64 team), (3, .pointer (some ⟨b3, 0, none⟩)), (9, .slice (some ⟨bL, 0, none⟩) (L + 1) (L + 1)), (10, .slice (some ⟨bH, 0, none⟩) (L + 1) (L + 1)), (11, .int .i64 s)])
    (fun s => [.blk bL (.cells (intC (L + 1) (fun _ => 0)).toArray 3 (0, 0)), .blk bH (.cells (intC (L + 1) (fun w => if w < s then hi0 r w else 0)).toArray 3 (0, 0)), .blk b3 (.cells (rcVal r a c).toArray 24 (0, 0)), .reg 0 w])
    (fun s => s ≤ L + 1)
    (fun s => L + 1 - s)
    (0) ?_ (by repeat (first | exact SubL.nil | refine SubL.cons (by first | exact rfl | exact lk_int rfl (by omega) | exact lk_eq rfl (by simp)) ?_)) (by repeat (first | exact Sel.nil | refine Sel.cons (by repeat (first | exact Rem.here | apply Rem.there)) ?_)) ?_
  · exact Nat.zero_le _
  rintro s hs
  refine sc_seq ?_
  refine sc_seq ?_
  refine sc_region ?_
  refine sq_y (OpY.s (y_move (by exact rfl))) rfl ?_
  refine sq_y (OpY.s (by first | exact y_fab Try.underlying24 (by exact rfl) (by exact Try.sizeOf3) (by exact rfl) rfl | exact y_fa Try.underlying24 (by exact rfl) (by exact Try.sizeOf3) (by exact rfl) rfl)) rfl ?_
  refine sq_y (OpY.s (by first | exact y_load_blk Try.underlying3 rfl (by exact rfl) (by repeat (first | exact .head _ | refine .tail _ ?_)) (by exact rfl) | exact y_load_caj Try.underlying3 rfl (by exact rfl) (by repeat (first | exact .head _ | refine .tail _ ?_)) (by assumption) (by exact rfl) | exact y_load_ca0 Try.underlying3 rfl (by exact rfl) (by repeat (first | exact .head _ | refine .tail _ ?_)) (by assumption) (by exact rfl))) rfl ?_
  refine sq_y (OpY.s (y_leq (by exact rfl) (by exact rfl))) rfl ?_
  refine sq_nil ?_
  refine sx_then ?_
  first | refine sc_if (by exact rfl) (fun hc0 => ?_) (fun hc0 => ?_) | refine sc_ifn (by exact rfl) (fun hc0 => ?_) (fun hc0 => ?_) | refine sc_cond (by exact rfl) (fun hc0 => ?_) (fun hc0 => ?_)
  ·
    have hsr := mul_bd (a := (s : Int)) (b := r.rate) (A := 1000) (B := 100) (by omega) (by omega)
    refine sc_skip ?_
    refine sx_then ?_
    refine sc_seq ?_
    refine sc_block ?_
    refine sc_region ?_
    refine sq_y (OpY.s (y_move (by exact rfl))) rfl ?_
    refine sq_y (OpY.s (y_move (by exact rfl))) rfl ?_
    refine sq_y (OpY.s (by first | exact y_fab Try.underlying24 (by exact rfl) (by exact Try.sizeOf3) (by exact rfl) rfl | exact y_fa Try.underlying24 (by exact rfl) (by exact Try.sizeOf3) (by exact rfl) rfl)) rfl ?_
    refine sq_y (OpY.s (by first | exact y_load_blk Try.underlying3 rfl (by exact rfl) (by repeat (first | exact .head _ | refine .tail _ ?_)) (by exact rfl) | exact y_load_caj Try.underlying3 rfl (by exact rfl) (by repeat (first | exact .head _ | refine .tail _ ?_)) (by assumption) (by exact rfl) | exact y_load_ca0 Try.underlying3 rfl (by exact rfl) (by repeat (first | exact .head _ | refine .tail _ ?_)) (by assumption) (by exact rfl))) rfl ?_
    refine sq_y (OpY.s (y_move (by exact rfl))) rfl ?_
    refine sq_y (OpY.s (by first | exact y_fab Try.underlying24 (by exact rfl) (by exact Try.sizeOf3) (by exact rfl) rfl | exact y_fa Try.underlying24 (by exact rfl) (by exact Try.sizeOf3) (by exact rfl) rfl)) rfl ?_
    refine sq_y (OpY.s (by first | exact y_load_blk Try.underlying3 rfl (by exact rfl) (by repeat (first | exact .head _ | refine .tail _ ?_)) (by exact rfl) | exact y_load_caj Try.underlying3 rfl (by exact rfl) (by repeat (first | exact .head _ | refine .tail _ ?_)) (by assumption) (by exact rfl) | exact y_load_ca0 Try.underlying3 rfl (by exact rfl) (by repeat (first | exact .head _ | refine .tail _ ?_)) (by assumption) (by exact rfl))) rfl ?_
    refine sq_y (OpY.s (y_mul (by exact rfl) (by exact rfl) (by omega))) rfl ?_
    refine sq_y (OpY.s (y_min (by exact rfl) (by exact rfl))) rfl ?_
    refine sq_y (OpY.s (by first | exact y_ia_blk Try.underlying51 Try.sizeOf3 (by exact rfl) (by exact rfl) (by omega) | exact y_ia_el Try.underlying51 Try.sizeOf3 (by exact rfl) (by exact rfl) (by omega) (by first | assumption | simp))) rfl ?_
    refine sq_store_eq Try.sizeOf3 (by exact rfl) (by exact rfl) rfl (by repeat (first | exact Rem.here | apply Rem.there)) (by rw [intC_size]; omega) (intC_set (g' := fun w => if w < s + 1 then hi0 r w else 0) (fun i hi => ?_)) ?_
    · by_cases e : i = s
      · subst e; rw [if_pos rfl, if_pos (by omega)]; rfl
      · rw [if_neg e]; by_cases h : i < s
        · rw [if_pos h, if_pos (by omega)]
        · rw [if_neg h, if_neg (by omega)]
    refine sq_nil ?_
    refine sx_blk ?_
    refine sx_then ?_
    refine sc_region ?_
    refine sq_y (OpY.s (y_move (by exact rfl))) rfl ?_
    refine sq_y (OpY.s (y_add (by exact rfl) (by exact rfl) (by omega))) rfl ?_
    refine sq_y (OpY.s (y_assign (by exact rfl))) rfl ?_
    refine sq_nil ?_
    refine sx_round (s + 1) ?_ ?_ (by repeat (first | exact SubL.nil | refine SubL.cons (by first | exact rfl | exact lk_int rfl (by omega) | exact lk_eq rfl (by simp)) ?_)) (by repeat (first | exact Sel.nil | refine Sel.cons (by repeat (first | exact Rem.here | apply Rem.there)) ?_))
    · omega
    · omega
  ·
    have e1 : intC (L + 1) (fun w => if w < s then hi0 r w else 0) = intC (L + 1) (hi0 r) := intC_congr fun i hi => by rw [if_pos (by omega)]
    rw [e1]
    refine sc_exit ?_
    refine sx_then_exit ?_
    refine sx_round_exit ?_
    refine sx_blk_hit ?_
    refine sx_then ?_
    refine sc_seq ?_
    refine sc_seq ?_
    refine sc_region ?_
    refine sq_y (OpY.s (y_assign (by exact rfl))) rfl ?_
    refine sq_nil ?_
    refine sx_then ?_
    refine sc_block ?_
    refine sc_loop (σ := Nat)
      (fun s => [(1, .slice al ls.length cl), (2, .int .i64 team), (3, .pointer (some ⟨b3, 0, none⟩)), (9, .slice (some ⟨bL, 0, none⟩) (L + 1) (L + 1)), (10, .slice (some ⟨bH, 0, none⟩) (L + 1) (L + 1)), (12, .int .i64 s)])
      (fun s => [.blk bL (.cells (intC (L + 1) (lo1 r team (ls.take s))).toArray 3 (0, 0)), .blk bH (.cells (intC (L + 1) (hi1 r team (ls.take s))).toArray 3 (0, 0)), .blk b3 (.cells (rcVal r a c).toArray 24 (0, 0)), .reg 0 w])
      (fun s => s ≤ ls.length)
      (fun s => ls.length - s)
      (0) ?_ (by repeat (first | exact SubL.nil | refine SubL.cons (by first | exact rfl | exact lk_int rfl (by omega) | exact lk_eq rfl (by simp)) ?_)) (by repeat (first | exact Sel.nil | refine Sel.cons (by repeat (first | exact Rem.here | apply Rem.there)) ?_)) ?_
    · exact Nat.zero_le _
    rintro k hk
    refine sc_seq ?_
    refine sc_seq ?_
    refine sc_region ?_
    refine sq_y (OpY.s (y_move (by exact rfl))) rfl ?_
    refine sq_y (OpY.s (y_move (by exact rfl))) rfl ?_
    refine sq_y (OpY.s (y_len Try.underlying25 (by exact rfl))) rfl ?_
    refine sq_y (OpY.s (y_lss (by exact rfl) (by exact rfl))) rfl ?_
    refine sq_nil ?_
    refine sx_then ?_
    first | refine sc_if (by exact rfl) (fun hc1 => ?_) (fun hc1 => ?_) | refine sc_ifn (by exact rfl) (fun hc1 => ?_) (fun hc1 => ?_) | refine sc_cond (by exact rfl) (fun hc1 => ?_) (fun hc1 => ?_)
    ·
      have hk' : k < ls.length := by omega
      obtain ⟨d, hd⟩ : ∃ d, ls[k]? = some d := ⟨_, List.getElem?_eq_getElem hk'⟩
      have hsm := (hl.el k d hd).1
      have hca := (hl.el k d hd).2
      have hdp := wdB_parts (hwd d (List.mem_of_getElem? hd))
      have hwk := wrk_le r team d.minute.toNat (by omega)
      refine sc_skip ?_
      refine sx_then ?_
      refine sc_seq ?_
      refine sc_block ?_
      refine sc_seq ?_
      refine sc_region ?_
      refine sq_y (OpY.s (y_move (by exact rfl))) rfl ?_
      refine sq_y (OpY.s (y_move (by exact rfl))) rfl ?_
      refine sq_y (OpY.s (by first | exact y_ia_blk Try.underlying25 Try.sizeOf57 (by exact rfl) (by exact rfl) (by omega) | exact y_ia_el Try.underlying25 Try.sizeOf57 (by exact rfl) (by exact rfl) (by omega) (by first | assumption | simp))) rfl ?_
      refine sq_y (OpY.s (by first | exact y_fab Try.underlying57 (by exact rfl) (by exact Try.sizeOf3) (by exact rfl) rfl | exact y_fa Try.underlying57 (by exact rfl) (by exact Try.sizeOf3) (by exact rfl) rfl)) rfl ?_
      refine sq_y (OpY.s (by first | exact y_load_blk Try.underlying3 rfl (by exact rfl) (by repeat (first | exact .head _ | refine .tail _ ?_)) (by exact rfl) | exact y_load_caj Try.underlying3 rfl (by exact rfl) (by repeat (first | exact .head _ | refine .tail _ ?_)) (by assumption) (by exact rfl) | exact y_load_ca0 Try.underlying3 rfl (by exact rfl) (by repeat (first | exact .head _ | refine .tail _ ?_)) (by assumption) (by exact rfl))) rfl ?_
      refine sq_y (OpY.s (y_move (by exact rfl))) rfl ?_
      refine sq_y (OpY.s (y_eql (by exact rfl) (by exact rfl))) rfl ?_
      refine sq_nil ?_
      refine sx_then ?_
      first | refine sc_if (by exact rfl) (fun hc2 => ?_) (fun hc2 => ?_) | refine sc_ifn (by exact rfl) (fun hc2 => ?_) (fun hc2 => ?_) | refine sc_cond (by exact rfl) (fun hc2 => ?_) (fun hc2 => ?_)
      ·
        refine sc_seq ?_
        refine sc_draw rfl (by kernel_rfl) (by kernel_rfl) ?_
        refine qq_y (OpY.s (by first | exact y_load_all Try.underlying24 rfl Try.sizeOf24 (by exact rfl) (by repeat (first | exact .head _ | refine .tail _ ?_)) (by exact rfl) | exact y_load_ca Try.underlying24 rfl Try.sizeOf24 (by exact rfl) (by repeat (first | exact .head _ | refine .tail _ ?_)) (by assumption) (by exact rfl))) rfl ?_
        refine qq_y (OpY.s (y_move (by exact rfl))) rfl ?_
        refine qq_y (OpY.s (y_move (by exact rfl))) rfl ?_
        refine qq_y (OpY.s (y_move (by exact rfl))) rfl ?_
        refine qq_y (OpY.s (by first | exact y_ia_blk Try.underlying25 Try.sizeOf57 (by exact rfl) (by exact rfl) (by omega) | exact y_ia_el Try.underlying25 Try.sizeOf57 (by exact rfl) (by exact rfl) (by omega) (by first | assumption | simp))) rfl ?_
        refine qq_y (OpY.s (by first | exact y_fab Try.underlying57 (by exact rfl) (by exact Try.sizeOf3) (by exact rfl) rfl | exact y_fa Try.underlying57 (by exact rfl) (by exact Try.sizeOf3) (by exact rfl) rfl)) rfl ?_
        refine qq_y (OpY.s (by first | exact y_load_blk Try.underlying3 rfl (by exact rfl) (by repeat (first | exact .head _ | refine .tail _ ?_)) (by exact rfl) | exact y_load_caj Try.underlying3 rfl (by exact rfl) (by repeat (first | exact .head _ | refine .tail _ ?_)) (by assumption) (by exact rfl) | exact y_load_ca0 Try.underlying3 rfl (by exact rfl) (by repeat (first | exact .head _ | refine .tail _ ?_)) (by assumption) (by exact rfl))) rfl ?_
        refine qq_y (y_call (first := []) (caps := []) (by exact rfl) Try.call43 (EvL.cons (by exact rfl) (EvL.cons (by exact rfl) (EvL.cons (by exact rfl) EvL.nil))) (fun w1 hw1 => minutes43i w1 _ r team _ ((hT.at hw1 (by repeat (first | exact .head _ | refine .tail _ ?_))).rc i1 i2 i3) (by omega) hteam hdp.2.1)) rfl ?_
        refine qq_y (OpY.s (y_assign (by exact rfl))) rfl ?_
        refine qq_nil ?_
        refine sx_then ?_
        refine sc_seq ?_
        refine sc_drawX ([.blk bL (.cells (intC (L + 1) (lo1 r team (ls.take k))).toArray 3 (0, 0)), .blk bH (.cells (intC (L + 1) (hi1 r team (ls.take k))).toArray 3 (0, 0)), .blk b3 (.cells (rcVal r a c).toArray 24 (0, 0)), .reg 0 w]) (by kernel_rfl) ?_
        refine xj_s 0 (by exact rfl) (by kernel_rfl) (by repeat (first | exact Sel.nil | refine Sel.cons (by repeat (first | exact Rem.here | apply Rem.there)) ?_)) (y_move (by exact rfl)) rfl ?_
        refine xj_s 1 (by exact rfl) (by kernel_rfl) (by repeat (first | exact Sel.nil | refine Sel.cons (by repeat (first | exact Rem.here | apply Rem.there)) ?_)) (y_move (by exact rfl)) rfl ?_
        refine xj_s 2 (by exact rfl) (by kernel_rfl) (by repeat (first | exact Sel.nil | refine Sel.cons (by repeat (first | exact Rem.here | apply Rem.there)) ?_)) (y_move (by exact rfl)) rfl ?_
        refine xj_s 3 (by exact rfl) (by kernel_rfl) (by repeat (first | exact Sel.nil | refine Sel.cons (by repeat (first | exact Rem.here | apply Rem.there)) ?_)) (y_move (by exact rfl)) rfl ?_
        refine xj_s 4 (by exact rfl) (by kernel_rfl) (by repeat (first | exact Sel.nil | refine Sel.cons (by repeat (first | exact Rem.here | apply Rem.there)) ?_)) (by first | exact y_ia_blk Try.underlying51 Try.sizeOf3 (by exact rfl) (by exact rfl) (by omega) | exact y_ia_el Try.underlying51 Try.sizeOf3 (by exact rfl) (by exact rfl) (by omega) (by first | assumption | simp)) rfl ?_
        refine xj_s 5 (by exact rfl) (by kernel_rfl) (by repeat (first | exact Sel.nil | refine Sel.cons (by repeat (first | exact Rem.here | apply Rem.there)) ?_)) (by first | exact y_load_blk Try.underlying3 rfl (by exact rfl) (by repeat (first | exact .head _ | refine .tail _ ?_)) (intC_get (by omega)) | exact y_load_blk Try.underlying3 rfl (by exact rfl) (by repeat (first | exact .head _ | refine .tail _ ?_)) (by exact rfl) | exact y_load_caj Try.underlying3 rfl (by exact rfl) (by repeat (first | exact .head _ | refine .tail _ ?_)) (by assumption) (by exact rfl) | exact y_load_ca0 Try.underlying3 rfl (by exact rfl) (by repeat (first | exact .head _ | refine .tail _ ?_)) (by assumption) (by exact rfl)) rfl ?_
        refine xj_s 6 (by exact rfl) (by kernel_rfl) (by repeat (first | exact Sel.nil | refine Sel.cons (by repeat (first | exact Rem.here | apply Rem.there)) ?_)) (y_move (by exact rfl)) rfl ?_
        refine xj_s 7 (by exact rfl) (by kernel_rfl) (by repeat (first | exact Sel.nil | refine Sel.cons (by repeat (first | exact Rem.here | apply Rem.there)) ?_)) (y_move (by exact rfl)) rfl ?_
        refine xj_s 8 (by exact rfl) (by kernel_rfl) (by repeat (first | exact Sel.nil | refine Sel.cons (by repeat (first | exact Rem.here | apply Rem.there)) ?_)) (by first | exact y_ia_blk Try.underlying25 Try.sizeOf57 (by exact rfl) (by exact rfl) (by omega) | exact y_ia_el Try.underlying25 Try.sizeOf57 (by exact rfl) (by exact rfl) (by omega) (by first | assumption | simp)) rfl ?_
        refine xj_s 9 (by exact rfl) (by kernel_rfl) (by repeat (first | exact Sel.nil | refine Sel.cons (by repeat (first | exact Rem.here | apply Rem.there)) ?_)) (by first | exact y_fab Try.underlying57 (by exact rfl) (by exact Try.sizeOf32) (by exact rfl) rfl | exact y_fa Try.underlying57 (by exact rfl) (by exact Try.sizeOf32) (by exact rfl) rfl) rfl ?_
        refine xj_s 10 (by exact rfl) (by kernel_rfl) (by repeat (first | exact Sel.nil | refine Sel.cons (by repeat (first | exact Rem.here | apply Rem.there)) ?_)) (by first | exact y_fab Try.underlying32 (by exact rfl) (by exact Try.sizeOf3) (by exact rfl) rfl | exact y_fa Try.underlying32 (by exact rfl) (by exact Try.sizeOf3) (by exact rfl) rfl) rfl ?_
        refine xj_s 11 (by exact rfl) (by kernel_rfl) (by repeat (first | exact Sel.nil | refine Sel.cons (by repeat (first | exact Rem.here | apply Rem.there)) ?_)) (by first | exact y_load_caj (p := elt al k 4) (j := 2) Try.underlying3 rfl (by exact rfl) (by repeat (first | exact .head _ | refine .tail _ ?_)) hca rfl | exact y_load_blk Try.underlying3 rfl (by exact rfl) (by repeat (first | exact .head _ | refine .tail _ ?_)) (by exact rfl) | exact y_load_caj Try.underlying3 rfl (by exact rfl) (by repeat (first | exact .head _ | refine .tail _ ?_)) (by assumption) (by exact rfl) | exact y_load_ca0 Try.underlying3 rfl (by exact rfl) (by repeat (first | exact .head _ | refine .tail _ ?_)) (by assumption) (by exact rfl)) rfl ?_
        refine xj_s 12 (by exact rfl) (by kernel_rfl) (by repeat (first | exact Sel.nil | refine Sel.cons (by repeat (first | exact Rem.here | apply Rem.there)) ?_)) (y_max (by exact rfl) (by exact rfl)) rfl ?_
        refine xj_s 13 (by exact rfl) (by kernel_rfl) (by repeat (first | exact Sel.nil | refine Sel.cons (by repeat (first | exact Rem.here | apply Rem.there)) ?_)) (by first | exact y_ia_blk Try.underlying51 Try.sizeOf3 (by exact rfl) (by exact rfl) (by omega) | exact y_ia_el Try.underlying51 Try.sizeOf3 (by exact rfl) (by exact rfl) (by omega) (by first | assumption | simp)) rfl ?_
        refine xj_one 14 (by exact rfl) (by kernel_rfl) ?_
        refine sq_store_eq Try.sizeOf3 (by exact rfl) (by exact rfl) rfl (by repeat (first | exact Rem.here | apply Rem.there)) (by rw [intC_size]; omega) (intC_set (g' := lo1 r team (ls.take (k + 1))) (fun i hi => ?_)) ?_
        · rw [lo1_take hd]; unfold updL
          by_cases e : i = wrk r team d.minute.toNat
          · rw [if_pos ⟨hc2, e⟩, if_pos e, e]
          · rw [if_neg (fun h => e h.2), if_neg e]
        refine sq_nil ?_
        refine sx_xpl (by kernel_rfl) ?_
        refine xj_done (by kernel_rfl) ?_
        refine sx_then ?_
        refine sc_drawX ([.blk bL (.cells (intC (L + 1) (lo1 r team (ls.take (k + 1)))).toArray 3 (0, 0)), .blk bH (.cells (intC (L + 1) (hi1 r team (ls.take k))).toArray 3 (0, 0)), .blk b3 (.cells (rcVal r a c).toArray 24 (0, 0)), .reg 0 w]) (by kernel_rfl) ?_
        refine xj_s 0 (by exact rfl) (by kernel_rfl) (by repeat (first | exact Sel.nil | refine Sel.cons (by repeat (first | exact Rem.here | apply Rem.there)) ?_)) (y_move (by exact rfl)) rfl ?_
        refine xj_s 1 (by exact rfl) (by kernel_rfl) (by repeat (first | exact Sel.nil | refine Sel.cons (by repeat (first | exact Rem.here | apply Rem.there)) ?_)) (y_move (by exact rfl)) rfl ?_
        refine xj_s 2 (by exact rfl) (by kernel_rfl) (by repeat (first | exact Sel.nil | refine Sel.cons (by repeat (first | exact Rem.here | apply Rem.there)) ?_)) (y_move (by exact rfl)) rfl ?_
        refine xj_s 3 (by exact rfl) (by kernel_rfl) (by repeat (first | exact Sel.nil | refine Sel.cons (by repeat (first | exact Rem.here | apply Rem.there)) ?_)) (y_move (by exact rfl)) rfl ?_
        refine xj_s 4 (by exact rfl) (by kernel_rfl) (by repeat (first | exact Sel.nil | refine Sel.cons (by repeat (first | exact Rem.here | apply Rem.there)) ?_)) (by first | exact y_ia_blk Try.underlying51 Try.sizeOf3 (by exact rfl) (by exact rfl) (by omega) | exact y_ia_el Try.underlying51 Try.sizeOf3 (by exact rfl) (by exact rfl) (by omega) (by first | assumption | simp)) rfl ?_
        refine xj_s 5 (by exact rfl) (by kernel_rfl) (by repeat (first | exact Sel.nil | refine Sel.cons (by repeat (first | exact Rem.here | apply Rem.there)) ?_)) (by first | exact y_load_blk Try.underlying3 rfl (by exact rfl) (by repeat (first | exact .head _ | refine .tail _ ?_)) (intC_get (by omega)) | exact y_load_blk Try.underlying3 rfl (by exact rfl) (by repeat (first | exact .head _ | refine .tail _ ?_)) (by exact rfl) | exact y_load_caj Try.underlying3 rfl (by exact rfl) (by repeat (first | exact .head _ | refine .tail _ ?_)) (by assumption) (by exact rfl) | exact y_load_ca0 Try.underlying3 rfl (by exact rfl) (by repeat (first | exact .head _ | refine .tail _ ?_)) (by assumption) (by exact rfl)) rfl ?_
        refine xj_s 6 (by exact rfl) (by kernel_rfl) (by repeat (first | exact Sel.nil | refine Sel.cons (by repeat (first | exact Rem.here | apply Rem.there)) ?_)) (y_move (by exact rfl)) rfl ?_
        refine xj_s 7 (by exact rfl) (by kernel_rfl) (by repeat (first | exact Sel.nil | refine Sel.cons (by repeat (first | exact Rem.here | apply Rem.there)) ?_)) (y_move (by exact rfl)) rfl ?_
        refine xj_s 8 (by exact rfl) (by kernel_rfl) (by repeat (first | exact Sel.nil | refine Sel.cons (by repeat (first | exact Rem.here | apply Rem.there)) ?_)) (by first | exact y_ia_blk Try.underlying25 Try.sizeOf57 (by exact rfl) (by exact rfl) (by omega) | exact y_ia_el Try.underlying25 Try.sizeOf57 (by exact rfl) (by exact rfl) (by omega) (by first | assumption | simp)) rfl ?_
        refine xj_s 9 (by exact rfl) (by kernel_rfl) (by repeat (first | exact Sel.nil | refine Sel.cons (by repeat (first | exact Rem.here | apply Rem.there)) ?_)) (by first | exact y_fab Try.underlying57 (by exact rfl) (by exact Try.sizeOf32) (by exact rfl) rfl | exact y_fa Try.underlying57 (by exact rfl) (by exact Try.sizeOf32) (by exact rfl) rfl) rfl ?_
        refine xj_s 10 (by exact rfl) (by kernel_rfl) (by repeat (first | exact Sel.nil | refine Sel.cons (by repeat (first | exact Rem.here | apply Rem.there)) ?_)) (by first | exact y_fab Try.underlying32 (by exact rfl) (by exact Try.sizeOf3) (by exact rfl) rfl | exact y_fa Try.underlying32 (by exact rfl) (by exact Try.sizeOf3) (by exact rfl) rfl) rfl ?_
        refine xj_s 11 (by exact rfl) (by kernel_rfl) (by repeat (first | exact Sel.nil | refine Sel.cons (by repeat (first | exact Rem.here | apply Rem.there)) ?_)) (by first | exact y_load_caj (p := elt al k 4) (j := 3) Try.underlying3 rfl (by exact rfl) (by repeat (first | exact .head _ | refine .tail _ ?_)) hca rfl | exact y_load_blk Try.underlying3 rfl (by exact rfl) (by repeat (first | exact .head _ | refine .tail _ ?_)) (by exact rfl) | exact y_load_caj Try.underlying3 rfl (by exact rfl) (by repeat (first | exact .head _ | refine .tail _ ?_)) (by assumption) (by exact rfl) | exact y_load_ca0 Try.underlying3 rfl (by exact rfl) (by repeat (first | exact .head _ | refine .tail _ ?_)) (by assumption) (by exact rfl)) rfl ?_
        refine xj_s 12 (by exact rfl) (by kernel_rfl) (by repeat (first | exact Sel.nil | refine Sel.cons (by repeat (first | exact Rem.here | apply Rem.there)) ?_)) (y_min (by exact rfl) (by exact rfl)) rfl ?_
        refine xj_s 13 (by exact rfl) (by kernel_rfl) (by repeat (first | exact Sel.nil | refine Sel.cons (by repeat (first | exact Rem.here | apply Rem.there)) ?_)) (by first | exact y_ia_blk Try.underlying51 Try.sizeOf3 (by exact rfl) (by exact rfl) (by omega) | exact y_ia_el Try.underlying51 Try.sizeOf3 (by exact rfl) (by exact rfl) (by omega) (by first | assumption | simp)) rfl ?_
        refine xj_one 14 (by exact rfl) (by kernel_rfl) ?_
        refine sq_store_eq Try.sizeOf3 (by exact rfl) (by exact rfl) rfl (by repeat (first | exact Rem.here | apply Rem.there)) (by rw [intC_size]; omega) (intC_set (g' := hi1 r team (ls.take (k + 1))) (fun i hi => ?_)) ?_
        · rw [hi1_take hd]; unfold updH
          by_cases e : i = wrk r team d.minute.toNat
          · rw [if_pos ⟨hc2, e⟩, if_pos e, e]
          · rw [if_neg (fun h => e h.2), if_neg e]
        refine sq_nil ?_
        refine sx_xpl (by kernel_rfl) ?_
        refine xj_done (by kernel_rfl) ?_
        refine sx_blk ?_
        refine sx_then ?_
        refine sc_region ?_
        refine sq_y (OpY.s (y_move (by exact rfl))) rfl ?_
        refine sq_y (OpY.s (y_add (by exact rfl) (by exact rfl) (by omega))) rfl ?_
        refine sq_y (OpY.s (y_assign (by exact rfl))) rfl ?_
        refine sq_nil ?_
        refine sx_round (k + 1) ?_ ?_ (by repeat (first | exact SubL.nil | refine SubL.cons (by first | exact rfl | exact lk_int rfl (by omega) | exact lk_eq rfl (by simp)) ?_)) (by repeat (first | exact Sel.nil | refine Sel.cons (by repeat (first | exact Rem.here | apply Rem.there)) ?_))
        · omega
        · omega
      ·
        have e2 : lo1 r team (ls.take k) = lo1 r team (ls.take (k + 1)) := by rw [lo1_take hd, updL_no hc2]
        have e3 : hi1 r team (ls.take k) = hi1 r team (ls.take (k + 1)) := by rw [hi1_take hd, updH_no hc2]
        rw [e2, e3]
        refine sc_skip ?_
        refine sx_blk ?_
        refine sx_then ?_
        refine sc_region ?_
        refine sq_y (OpY.s (y_move (by exact rfl))) rfl ?_
        refine sq_y (OpY.s (y_add (by exact rfl) (by exact rfl) (by omega))) rfl ?_
        refine sq_y (OpY.s (y_assign (by exact rfl))) rfl ?_
        refine sq_nil ?_
        refine sx_round (k + 1) ?_ ?_ (by repeat (first | exact SubL.nil | refine SubL.cons (by first | exact rfl | exact lk_int rfl (by omega) | exact lk_eq rfl (by simp)) ?_)) (by repeat (first | exact Sel.nil | refine Sel.cons (by repeat (first | exact Rem.here | apply Rem.there)) ?_))
        · omega
        · omega
    ·
      have hkn : k = ls.length := by omega
      rw [hkn, List.take_length]
      refine sc_exit ?_
      refine sx_then_exit ?_
      refine sx_round_exit ?_
      refine sx_blk_hit ?_
      refine sx_then ?_
      refine sc_seq ?_
      refine sc_seq ?_
      refine sc_region ?_
      refine sq_y (OpY.s (y_assign (by exact rfl))) rfl ?_
      refine sq_nil ?_
      refine sx_then ?_
      refine sc_block ?_
      have eL : intC (L + 1) (lo1 r team ls) = intC (L + 1) (fwdS (fun a b => max a b) (lo1 r team ls) (0 + 1)) := intC_congr fun i hi => by
        unfold fwdS; split
        · rw [show i = 0 by omega]; rfl
        · rfl
      have eH : intC (L + 1) (hi1 r team ls) = intC (L + 1) (fwdS (fun a b => min a (b + r.rate)) (hi1 r team ls) (0 + 1)) := intC_congr fun i hi => by
        unfold fwdS; split
        · rw [show i = 0 by omega]; rfl
        · rfl
      
      refine sc_sub (L' := [(1, .slice al ls.length cl), (2, .int .i64 team), (3, .pointer (some ⟨b3, 0, none⟩)), (9, .slice (some ⟨bL, 0, none⟩) (L + 1) (L + 1)), (10, .slice (some ⟨bH, 0, none⟩) (L + 1) (L + 1)), (14, .int .i64 ((0 + 1 : Nat) : Int))]) (rs' := [.blk bL (.cells (intC (L + 1) (fwdS (fun a b => max a b) (lo1 r team ls) (0 + 1))).toArray 3 (0, 0)), .blk bH (.cells (intC (L + 1) (fwdS (fun a b => min a (b + r.rate)) (hi1 r team ls) (0 + 1))).toArray 3 (0, 0)), .blk b3 (.cells (rcVal r a c).toArray 24 (0, 0)), .reg 0 w]) (by repeat (first | exact SubL.nil | refine SubL.cons (by first | exact rfl | exact lk_int rfl (by omega) | exact lk_eq rfl (by simp)) ?_)) (by rw [← eL, ← eH]; exact (by repeat (first | exact Sel.nil | refine Sel.cons (by repeat (first | exact Rem.here | apply Rem.there)) ?_))) ?_
      refine sc_loop (σ := Nat)
        (fun s => [(1, .slice al ls.length cl), (2, .int .i64 team), (3, .pointer (some ⟨b3, 0, none⟩)), (9, .slice (some ⟨bL, 0, none⟩) (L + 1) (L + 1)), (10, .slice (some ⟨bH, 0, none⟩) (L + 1) (L + 1)), (14, .int .i64 ((s + 1 : Nat) : Int))])
        (fun s => [.blk bL (.cells (intC (L + 1) (fwdS (fun a b => max a b) (lo1 r team ls) (s + 1))).toArray 3 (0, 0)), .blk bH (.cells (intC (L + 1) (fwdS (fun a b => min a (b + r.rate)) (hi1 r team ls) (s + 1))).toArray 3 (0, 0)), .blk b3 (.cells (rcVal r a c).toArray 24 (0, 0)), .reg 0 w])
        (fun s => s ≤ L)
        (fun s => L + 1 - s)
        (0) ?_ (by repeat (first | exact SubL.nil | refine SubL.cons (by first | exact rfl | exact lk_int rfl (by omega) | exact lk_eq rfl (by simp)) ?_)) (by repeat (first | exact Sel.nil | refine Sel.cons (by repeat (first | exact Rem.here | apply Rem.there)) ?_)) ?_
      · exact Nat.zero_le _
      rintro q hq
      refine sc_seq ?_
      refine sc_seq ?_
      refine sc_region ?_
      refine sq_y (OpY.s (y_move (by exact rfl))) rfl ?_
      refine sq_y (OpY.s (by first | exact y_fab Try.underlying24 (by exact rfl) (by exact Try.sizeOf3) (by exact rfl) rfl | exact y_fa Try.underlying24 (by exact rfl) (by exact Try.sizeOf3) (by exact rfl) rfl)) rfl ?_
      refine sq_y (OpY.s (by first | exact y_load_blk Try.underlying3 rfl (by exact rfl) (by repeat (first | exact .head _ | refine .tail _ ?_)) (by exact rfl) | exact y_load_caj Try.underlying3 rfl (by exact rfl) (by repeat (first | exact .head _ | refine .tail _ ?_)) (by assumption) (by exact rfl) | exact y_load_ca0 Try.underlying3 rfl (by exact rfl) (by repeat (first | exact .head _ | refine .tail _ ?_)) (by assumption) (by exact rfl))) rfl ?_
      refine sq_y (OpY.s (y_leq (by exact rfl) (by exact rfl))) rfl ?_
      refine sq_nil ?_
      refine sx_then ?_
      first | refine sc_if (by exact rfl) (fun hc3 => ?_) (fun hc3 => ?_) | refine sc_ifn (by exact rfl) (fun hc3 => ?_) (fun hc3 => ?_) | refine sc_cond (by exact rfl) (fun hc3 => ?_) (fun hc3 => ?_)
      ·
        have hb1 := lowF_bd (team := team) hok hwd q
        have hb2 := highF_bd (team := team) hok hwd q
        have hf2 : fwdS (fun a b => min a (b + r.rate)) (hi1 r team ls) (q + 1) q = highF r team ls q := by unfold fwdS; rw [if_pos (by omega)]; rfl
        refine sc_skip ?_
        refine sx_then ?_
        refine sc_seq ?_
        refine sc_block ?_
        refine sc_seq ?_
        refine sc_drawX ([.blk bL (.cells (intC (L + 1) (fwdS (fun a b => max a b) (lo1 r team ls) (q + 1))).toArray 3 (0, 0)), .blk bH (.cells (intC (L + 1) (fwdS (fun a b => min a (b + r.rate)) (hi1 r team ls) (q + 1))).toArray 3 (0, 0)), .blk b3 (.cells (rcVal r a c).toArray 24 (0, 0)), .reg 0 w]) (by kernel_rfl) ?_
        refine xj_s 0 (by exact rfl) (by kernel_rfl) (by repeat (first | exact Sel.nil | refine Sel.cons (by repeat (first | exact Rem.here | apply Rem.there)) ?_)) (y_move (by exact rfl)) rfl ?_
        refine xj_s 1 (by exact rfl) (by kernel_rfl) (by repeat (first | exact Sel.nil | refine Sel.cons (by repeat (first | exact Rem.here | apply Rem.there)) ?_)) (y_move (by exact rfl)) rfl ?_
        refine xj_s 2 (by exact rfl) (by kernel_rfl) (by repeat (first | exact Sel.nil | refine Sel.cons (by repeat (first | exact Rem.here | apply Rem.there)) ?_)) (y_move (by exact rfl)) rfl ?_
        refine xj_s 3 (by exact rfl) (by kernel_rfl) (by repeat (first | exact Sel.nil | refine Sel.cons (by repeat (first | exact Rem.here | apply Rem.there)) ?_)) (y_move (by exact rfl)) rfl ?_
        refine xj_s 4 (by exact rfl) (by kernel_rfl) (by repeat (first | exact Sel.nil | refine Sel.cons (by repeat (first | exact Rem.here | apply Rem.there)) ?_)) (by first | exact y_ia_blk Try.underlying51 Try.sizeOf3 (by exact rfl) (by exact rfl) (by omega) | exact y_ia_el Try.underlying51 Try.sizeOf3 (by exact rfl) (by exact rfl) (by omega) (by first | assumption | simp)) rfl ?_
        refine xj_s 5 (by exact rfl) (by kernel_rfl) (by repeat (first | exact Sel.nil | refine Sel.cons (by repeat (first | exact Rem.here | apply Rem.there)) ?_)) (by first | exact y_load_blk Try.underlying3 rfl (by exact rfl) (by repeat (first | exact .head _ | refine .tail _ ?_)) (intC_get (by omega)) | exact y_load_blk Try.underlying3 rfl (by exact rfl) (by repeat (first | exact .head _ | refine .tail _ ?_)) (by exact rfl) | exact y_load_caj Try.underlying3 rfl (by exact rfl) (by repeat (first | exact .head _ | refine .tail _ ?_)) (by assumption) (by exact rfl) | exact y_load_ca0 Try.underlying3 rfl (by exact rfl) (by repeat (first | exact .head _ | refine .tail _ ?_)) (by assumption) (by exact rfl)) rfl ?_
        refine xj_s 6 (by exact rfl) (by kernel_rfl) (by repeat (first | exact Sel.nil | refine Sel.cons (by repeat (first | exact Rem.here | apply Rem.there)) ?_)) (y_move (by exact rfl)) rfl ?_
        refine xj_s 7 (by exact rfl) (by kernel_rfl) (by repeat (first | exact Sel.nil | refine Sel.cons (by repeat (first | exact Rem.here | apply Rem.there)) ?_)) (y_move (by exact rfl)) rfl ?_
        refine xj_s 8 (by exact rfl) (by kernel_rfl) (by repeat (first | exact Sel.nil | refine Sel.cons (by repeat (first | exact Rem.here | apply Rem.there)) ?_)) (y_sub (by exact rfl) (by exact rfl) (by omega)) rfl ?_
        refine xj_s 9 (by exact rfl) (by kernel_rfl) (by repeat (first | exact Sel.nil | refine Sel.cons (by repeat (first | exact Rem.here | apply Rem.there)) ?_)) (by first | exact y_ia_blk Try.underlying51 Try.sizeOf3 (by exact rfl) (ev_int (by exact rfl) (show _ = ((q : Nat) : Int) by omega)) (by omega) | exact y_ia_el Try.underlying51 Try.sizeOf3 (by exact rfl) (ev_int (by exact rfl) (show _ = ((q : Nat) : Int) by omega)) (by omega) (by first | assumption | simp)) rfl ?_
        refine xj_s 10 (by exact rfl) (by kernel_rfl) (by repeat (first | exact Sel.nil | refine Sel.cons (by repeat (first | exact Rem.here | apply Rem.there)) ?_)) (by first | exact y_load_blk Try.underlying3 rfl (by exact rfl) (by repeat (first | exact .head _ | refine .tail _ ?_)) (intC_get (by omega)) | exact y_load_blk Try.underlying3 rfl (by exact rfl) (by repeat (first | exact .head _ | refine .tail _ ?_)) (by exact rfl) | exact y_load_caj Try.underlying3 rfl (by exact rfl) (by repeat (first | exact .head _ | refine .tail _ ?_)) (by assumption) (by exact rfl) | exact y_load_ca0 Try.underlying3 rfl (by exact rfl) (by repeat (first | exact .head _ | refine .tail _ ?_)) (by assumption) (by exact rfl)) rfl ?_
        refine xj_s 11 (by exact rfl) (by kernel_rfl) (by repeat (first | exact Sel.nil | refine Sel.cons (by repeat (first | exact Rem.here | apply Rem.there)) ?_)) (y_max (by exact rfl) (by exact rfl)) rfl ?_
        refine xj_s 12 (by exact rfl) (by kernel_rfl) (by repeat (first | exact Sel.nil | refine Sel.cons (by repeat (first | exact Rem.here | apply Rem.there)) ?_)) (by first | exact y_ia_blk Try.underlying51 Try.sizeOf3 (by exact rfl) (by exact rfl) (by omega) | exact y_ia_el Try.underlying51 Try.sizeOf3 (by exact rfl) (by exact rfl) (by omega) (by first | assumption | simp)) rfl ?_
        refine xj_one 13 (by exact rfl) (by kernel_rfl) ?_
        refine sq_store_eq Try.sizeOf3 (by exact rfl) (by exact rfl) rfl (by repeat (first | exact Rem.here | apply Rem.there)) (by rw [intC_size]; omega) (intC_set (g' := fwdS (fun a b => max a b) (lo1 r team ls) (q + 1 + 1)) (fun i hi => ?_)) ?_
        · by_cases e : i = q + 1
          · subst e; rw [if_pos rfl]; simp [fwdS, fw]
          · rw [if_neg e]; unfold fwdS; by_cases h : i < q + 1
            · rw [if_pos h, if_pos (by omega)]
            · rw [if_neg h, if_neg (by omega)]
        refine sq_nil ?_
        refine sx_xpl (by kernel_rfl) ?_
        refine xj_done (by kernel_rfl) ?_
        refine sx_then ?_
        refine sc_drawX ([.blk bL (.cells (intC (L + 1) (fwdS (fun a b => max a b) (lo1 r team ls) (q + 1 + 1))).toArray 3 (0, 0)), .blk bH (.cells (intC (L + 1) (fwdS (fun a b => min a (b + r.rate)) (hi1 r team ls) (q + 1))).toArray 3 (0, 0)), .blk b3 (.cells (rcVal r a c).toArray 24 (0, 0)), .reg 0 w]) (by kernel_rfl) ?_
        refine xj_s 0 (by exact rfl) (by kernel_rfl) (by repeat (first | exact Sel.nil | refine Sel.cons (by repeat (first | exact Rem.here | apply Rem.there)) ?_)) (y_move (by exact rfl)) rfl ?_
        refine xj_s 1 (by exact rfl) (by kernel_rfl) (by repeat (first | exact Sel.nil | refine Sel.cons (by repeat (first | exact Rem.here | apply Rem.there)) ?_)) (y_move (by exact rfl)) rfl ?_
        refine xj_s 2 (by exact rfl) (by kernel_rfl) (by repeat (first | exact Sel.nil | refine Sel.cons (by repeat (first | exact Rem.here | apply Rem.there)) ?_)) (y_move (by exact rfl)) rfl ?_
        refine xj_s 3 (by exact rfl) (by kernel_rfl) (by repeat (first | exact Sel.nil | refine Sel.cons (by repeat (first | exact Rem.here | apply Rem.there)) ?_)) (y_move (by exact rfl)) rfl ?_
        refine xj_s 4 (by exact rfl) (by kernel_rfl) (by repeat (first | exact Sel.nil | refine Sel.cons (by repeat (first | exact Rem.here | apply Rem.there)) ?_)) (by first | exact y_ia_blk Try.underlying51 Try.sizeOf3 (by exact rfl) (by exact rfl) (by omega) | exact y_ia_el Try.underlying51 Try.sizeOf3 (by exact rfl) (by exact rfl) (by omega) (by first | assumption | simp)) rfl ?_
        refine xj_s 5 (by exact rfl) (by kernel_rfl) (by repeat (first | exact Sel.nil | refine Sel.cons (by repeat (first | exact Rem.here | apply Rem.there)) ?_)) (by first | exact y_load_blk Try.underlying3 rfl (by exact rfl) (by repeat (first | exact .head _ | refine .tail _ ?_)) (intC_get (by omega)) | exact y_load_blk Try.underlying3 rfl (by exact rfl) (by repeat (first | exact .head _ | refine .tail _ ?_)) (by exact rfl) | exact y_load_caj Try.underlying3 rfl (by exact rfl) (by repeat (first | exact .head _ | refine .tail _ ?_)) (by assumption) (by exact rfl) | exact y_load_ca0 Try.underlying3 rfl (by exact rfl) (by repeat (first | exact .head _ | refine .tail _ ?_)) (by assumption) (by exact rfl)) rfl ?_
        refine xj_s 6 (by exact rfl) (by kernel_rfl) (by repeat (first | exact Sel.nil | refine Sel.cons (by repeat (first | exact Rem.here | apply Rem.there)) ?_)) (y_move (by exact rfl)) rfl ?_
        refine xj_s 7 (by exact rfl) (by kernel_rfl) (by repeat (first | exact Sel.nil | refine Sel.cons (by repeat (first | exact Rem.here | apply Rem.there)) ?_)) (y_move (by exact rfl)) rfl ?_
        refine xj_s 8 (by exact rfl) (by kernel_rfl) (by repeat (first | exact Sel.nil | refine Sel.cons (by repeat (first | exact Rem.here | apply Rem.there)) ?_)) (y_sub (by exact rfl) (by exact rfl) (by omega)) rfl ?_
        refine xj_s 9 (by exact rfl) (by kernel_rfl) (by repeat (first | exact Sel.nil | refine Sel.cons (by repeat (first | exact Rem.here | apply Rem.there)) ?_)) (by first | exact y_ia_blk Try.underlying51 Try.sizeOf3 (by exact rfl) (ev_int (by exact rfl) (show _ = ((q : Nat) : Int) by omega)) (by omega) | exact y_ia_el Try.underlying51 Try.sizeOf3 (by exact rfl) (ev_int (by exact rfl) (show _ = ((q : Nat) : Int) by omega)) (by omega) (by first | assumption | simp)) rfl ?_
        refine xj_s 10 (by exact rfl) (by kernel_rfl) (by repeat (first | exact Sel.nil | refine Sel.cons (by repeat (first | exact Rem.here | apply Rem.there)) ?_)) (by first | exact y_load_blk Try.underlying3 rfl (by exact rfl) (by repeat (first | exact .head _ | refine .tail _ ?_)) (intC_get (by omega)) | exact y_load_blk Try.underlying3 rfl (by exact rfl) (by repeat (first | exact .head _ | refine .tail _ ?_)) (by exact rfl) | exact y_load_caj Try.underlying3 rfl (by exact rfl) (by repeat (first | exact .head _ | refine .tail _ ?_)) (by assumption) (by exact rfl) | exact y_load_ca0 Try.underlying3 rfl (by exact rfl) (by repeat (first | exact .head _ | refine .tail _ ?_)) (by assumption) (by exact rfl)) rfl ?_
        refine xj_s 11 (by exact rfl) (by kernel_rfl) (by repeat (first | exact Sel.nil | refine Sel.cons (by repeat (first | exact Rem.here | apply Rem.there)) ?_)) (by first | exact y_fab Try.underlying24 (by exact rfl) (by exact Try.sizeOf3) (by exact rfl) rfl | exact y_fa Try.underlying24 (by exact rfl) (by exact Try.sizeOf3) (by exact rfl) rfl) rfl ?_
        refine xj_s 12 (by exact rfl) (by kernel_rfl) (by repeat (first | exact Sel.nil | refine Sel.cons (by repeat (first | exact Rem.here | apply Rem.there)) ?_)) (by first | exact y_load_blk Try.underlying3 rfl (by exact rfl) (by repeat (first | exact .head _ | refine .tail _ ?_)) (by exact rfl) | exact y_load_caj Try.underlying3 rfl (by exact rfl) (by repeat (first | exact .head _ | refine .tail _ ?_)) (by assumption) (by exact rfl) | exact y_load_ca0 Try.underlying3 rfl (by exact rfl) (by repeat (first | exact .head _ | refine .tail _ ?_)) (by assumption) (by exact rfl)) rfl ?_
        refine xj_s 13 (by exact rfl) (by kernel_rfl) (by repeat (first | exact Sel.nil | refine Sel.cons (by repeat (first | exact Rem.here | apply Rem.there)) ?_)) (y_add (by exact rfl) (by exact rfl) (by rw [hf2]; omega)) rfl ?_
        refine xj_s 14 (by exact rfl) (by kernel_rfl) (by repeat (first | exact Sel.nil | refine Sel.cons (by repeat (first | exact Rem.here | apply Rem.there)) ?_)) (y_min (by exact rfl) (by exact rfl)) rfl ?_
        refine xj_s 15 (by exact rfl) (by kernel_rfl) (by repeat (first | exact Sel.nil | refine Sel.cons (by repeat (first | exact Rem.here | apply Rem.there)) ?_)) (by first | exact y_ia_blk Try.underlying51 Try.sizeOf3 (by exact rfl) (by exact rfl) (by omega) | exact y_ia_el Try.underlying51 Try.sizeOf3 (by exact rfl) (by exact rfl) (by omega) (by first | assumption | simp)) rfl ?_
        refine xj_one 16 (by exact rfl) (by kernel_rfl) ?_
        refine sq_store_eq Try.sizeOf3 (by exact rfl) (by exact rfl) rfl (by repeat (first | exact Rem.here | apply Rem.there)) (by rw [intC_size]; omega) (intC_set (g' := fwdS (fun a b => min a (b + r.rate)) (hi1 r team ls) (q + 1 + 1)) (fun i hi => ?_)) ?_
        · by_cases e : i = q + 1
          · subst e; rw [if_pos rfl]; simp [fwdS, fw]
          · rw [if_neg e]; unfold fwdS; by_cases h : i < q + 1
            · rw [if_pos h, if_pos (by omega)]
            · rw [if_neg h, if_neg (by omega)]
        refine sq_nil ?_
        refine sx_xpl (by kernel_rfl) ?_
        refine xj_done (by kernel_rfl) ?_
        refine sx_blk ?_
        refine sx_then ?_
        refine sc_region ?_
        refine sq_y (OpY.s (y_move (by exact rfl))) rfl ?_
        refine sq_y (OpY.s (y_add (by exact rfl) (by exact rfl) (by omega))) rfl ?_
        refine sq_y (OpY.s (y_assign (by exact rfl))) rfl ?_
        refine sq_nil ?_
        refine sx_round (q + 1) ?_ ?_ (by repeat (first | exact SubL.nil | refine SubL.cons (by first | exact rfl | exact lk_int rfl (by omega) | exact lk_eq rfl (by simp)) ?_)) (by repeat (first | exact Sel.nil | refine Sel.cons (by repeat (first | exact Rem.here | apply Rem.there)) ?_))
        · omega
        · omega
      ·
        have hqL : q = L := by omega
        refine sc_exit ?_
        refine sx_then_exit ?_
        refine sx_round_exit ?_
        refine sx_blk_hit ?_
        refine sx_then ?_
        refine sc_seq ?_
        refine sc_seq ?_
        refine sc_region ?_
        refine sq_y (OpY.s (by first | exact y_fab Try.underlying24 (by exact rfl) (by exact Try.sizeOf3) (by exact rfl) rfl | exact y_fa Try.underlying24 (by exact rfl) (by exact Try.sizeOf3) (by exact rfl) rfl)) rfl ?_
        refine sq_y (OpY.s (by first | exact y_load_blk Try.underlying3 rfl (by exact rfl) (by repeat (first | exact .head _ | refine .tail _ ?_)) (by exact rfl) | exact y_load_caj Try.underlying3 rfl (by exact rfl) (by repeat (first | exact .head _ | refine .tail _ ?_)) (by assumption) (by exact rfl) | exact y_load_ca0 Try.underlying3 rfl (by exact rfl) (by repeat (first | exact .head _ | refine .tail _ ?_)) (by assumption) (by exact rfl))) rfl ?_
        refine sq_y (OpY.s (y_sub (by exact rfl) (by exact rfl) (by omega))) rfl ?_
        refine sq_y (OpY.s (y_assign (by exact rfl))) rfl ?_
        refine sq_nil ?_
        refine sx_then ?_
        refine sc_block ?_
        have eL : intC (L + 1) (fwdS (fun a b => max a b) (lo1 r team ls) (q + 1)) = intC (L + 1) (bwdS (fun a b => max a (b - r.rate)) (lowF r team ls) L L) := intC_congr fun i hi => by
          unfold fwdS bwdS; rw [if_pos (by omega)]; split
          · rw [show i = L by omega, bw_top]; rfl
          · rfl
        have eH : intC (L + 1) (fwdS (fun a b => min a (b + r.rate)) (hi1 r team ls) (q + 1)) = intC (L + 1) (bwdS (fun a b => min a b) (highF r team ls) L L) := intC_congr fun i hi => by
          unfold fwdS bwdS; rw [if_pos (by omega)]; split
          · rw [show i = L by omega, bw_top]; rfl
          · rfl
        
        refine sc_sub (L' := [(1, .slice al ls.length cl), (2, .int .i64 team), (3, .pointer (some ⟨b3, 0, none⟩)), (9, .slice (some ⟨bL, 0, none⟩) (L + 1) (L + 1)), (10, .slice (some ⟨bH, 0, none⟩) (L + 1) (L + 1)), (15, .int .i64 ((L : Int) - 1))]) (rs' := [.blk bL (.cells (intC (L + 1) (bwdS (fun a b => max a (b - r.rate)) (lowF r team ls) L L)).toArray 3 (0, 0)), .blk bH (.cells (intC (L + 1) (bwdS (fun a b => min a b) (highF r team ls) L L)).toArray 3 (0, 0)), .blk b3 (.cells (rcVal r a c).toArray 24 (0, 0)), .reg 0 w]) (by repeat (first | exact SubL.nil | refine SubL.cons (by first | exact rfl | exact lk_int rfl (by omega) | exact lk_eq rfl (by simp)) ?_)) (by rw [← eL, ← eH]; exact (by repeat (first | exact Sel.nil | refine Sel.cons (by repeat (first | exact Rem.here | apply Rem.there)) ?_))) ?_
        refine sc_loop (σ := Nat)
          (fun s => [(1, .slice al ls.length cl), (2, .int .i64 team), (3, .pointer (some ⟨b3, 0, none⟩)), (9, .slice (some ⟨bL, 0, none⟩) (L + 1) (L + 1)), (10, .slice (some ⟨bH, 0, none⟩) (L + 1) (L + 1)), (15, .int .i64 ((s : Int) - 1))])
          (fun s => [.blk bL (.cells (intC (L + 1) (bwdS (fun a b => max a (b - r.rate)) (lowF r team ls) L s)).toArray 3 (0, 0)), .blk bH (.cells (intC (L + 1) (bwdS (fun a b => min a b) (highF r team ls) L s)).toArray 3 (0, 0)), .blk b3 (.cells (rcVal r a c).toArray 24 (0, 0)), .reg 0 w])
          (fun s => s ≤ L)
          (fun s => s)
          (L) ?_ (by repeat (first | exact SubL.nil | refine SubL.cons (by first | exact rfl | exact lk_int rfl (by omega) | exact lk_eq rfl (by simp)) ?_)) (by repeat (first | exact Sel.nil | refine Sel.cons (by repeat (first | exact Rem.here | apply Rem.there)) ?_)) ?_
        · exact Nat.le_refl _
        rintro s hs
        refine sc_seq ?_
        refine sc_seq ?_
        refine sc_region ?_
        refine sq_y (OpY.s (y_move (by exact rfl))) rfl ?_
        refine sq_y (OpY.s (y_geq (by exact rfl) (by exact rfl))) rfl ?_
        refine sq_nil ?_
        refine sx_then ?_
        first | refine sc_if (by exact rfl) (fun hc4 => ?_) (fun hc4 => ?_) | refine sc_ifn (by exact rfl) (fun hc4 => ?_) (fun hc4 => ?_) | refine sc_cond (by exact rfl) (fun hc4 => ?_) (fun hc4 => ?_)
        ·
          obtain ⟨q, rfl⟩ : ∃ q, s = q + 1 := ⟨s - 1, by omega⟩
          have hb1 := lowB_bd (team := team) hok hwd (q + 1)
          have hf1 : bwdS (fun a b => max a (b - r.rate)) (lowF r team ls) L (q + 1) (q + 1) = lowB r team ls (q + 1) := by unfold bwdS lowB; rw [if_pos (by omega), hLn]
          refine sc_skip ?_
          refine sx_then ?_
          refine sc_seq ?_
          refine sc_block ?_
          refine sc_seq ?_
          refine sc_drawX ([.blk bL (.cells (intC (L + 1) (bwdS (fun a b => max a (b - r.rate)) (lowF r team ls) L (q + 1))).toArray 3 (0, 0)), .blk bH (.cells (intC (L + 1) (bwdS (fun a b => min a b) (highF r team ls) L (q + 1))).toArray 3 (0, 0)), .blk b3 (.cells (rcVal r a c).toArray 24 (0, 0)), .reg 0 w]) (by kernel_rfl) ?_
          refine xj_s 0 (by exact rfl) (by kernel_rfl) (by repeat (first | exact Sel.nil | refine Sel.cons (by repeat (first | exact Rem.here | apply Rem.there)) ?_)) (y_move (by exact rfl)) rfl ?_
          refine xj_s 1 (by exact rfl) (by kernel_rfl) (by repeat (first | exact Sel.nil | refine Sel.cons (by repeat (first | exact Rem.here | apply Rem.there)) ?_)) (y_move (by exact rfl)) rfl ?_
          refine xj_s 2 (by exact rfl) (by kernel_rfl) (by repeat (first | exact Sel.nil | refine Sel.cons (by repeat (first | exact Rem.here | apply Rem.there)) ?_)) (y_move (by exact rfl)) rfl ?_
          refine xj_s 3 (by exact rfl) (by kernel_rfl) (by repeat (first | exact Sel.nil | refine Sel.cons (by repeat (first | exact Rem.here | apply Rem.there)) ?_)) (y_move (by exact rfl)) rfl ?_
          refine xj_s 4 (by exact rfl) (by kernel_rfl) (by repeat (first | exact Sel.nil | refine Sel.cons (by repeat (first | exact Rem.here | apply Rem.there)) ?_)) (by first | exact y_ia_blk Try.underlying51 Try.sizeOf3 (by exact rfl) (ev_int (by exact rfl) (show _ = ((q : Nat) : Int) by omega)) (by omega) | exact y_ia_el Try.underlying51 Try.sizeOf3 (by exact rfl) (ev_int (by exact rfl) (show _ = ((q : Nat) : Int) by omega)) (by omega) (by first | assumption | simp)) rfl ?_
          refine xj_s 5 (by exact rfl) (by kernel_rfl) (by repeat (first | exact Sel.nil | refine Sel.cons (by repeat (first | exact Rem.here | apply Rem.there)) ?_)) (by first | exact y_load_blk Try.underlying3 rfl (by exact rfl) (by repeat (first | exact .head _ | refine .tail _ ?_)) (intC_get (by omega)) | exact y_load_blk Try.underlying3 rfl (by exact rfl) (by repeat (first | exact .head _ | refine .tail _ ?_)) (by exact rfl) | exact y_load_caj Try.underlying3 rfl (by exact rfl) (by repeat (first | exact .head _ | refine .tail _ ?_)) (by assumption) (by exact rfl) | exact y_load_ca0 Try.underlying3 rfl (by exact rfl) (by repeat (first | exact .head _ | refine .tail _ ?_)) (by assumption) (by exact rfl)) rfl ?_
          refine xj_s 6 (by exact rfl) (by kernel_rfl) (by repeat (first | exact Sel.nil | refine Sel.cons (by repeat (first | exact Rem.here | apply Rem.there)) ?_)) (y_move (by exact rfl)) rfl ?_
          refine xj_s 7 (by exact rfl) (by kernel_rfl) (by repeat (first | exact Sel.nil | refine Sel.cons (by repeat (first | exact Rem.here | apply Rem.there)) ?_)) (y_move (by exact rfl)) rfl ?_
          refine xj_s 8 (by exact rfl) (by kernel_rfl) (by repeat (first | exact Sel.nil | refine Sel.cons (by repeat (first | exact Rem.here | apply Rem.there)) ?_)) (y_add (by exact rfl) (by exact rfl) (by omega)) rfl ?_
          refine xj_s 9 (by exact rfl) (by kernel_rfl) (by repeat (first | exact Sel.nil | refine Sel.cons (by repeat (first | exact Rem.here | apply Rem.there)) ?_)) (by first | exact y_ia_blk Try.underlying51 Try.sizeOf3 (by exact rfl) (ev_int (by exact rfl) (show _ = ((q + 1 : Nat) : Int) by omega)) (by omega) | exact y_ia_el Try.underlying51 Try.sizeOf3 (by exact rfl) (ev_int (by exact rfl) (show _ = ((q + 1 : Nat) : Int) by omega)) (by omega) (by first | assumption | simp)) rfl ?_
          refine xj_s 10 (by exact rfl) (by kernel_rfl) (by repeat (first | exact Sel.nil | refine Sel.cons (by repeat (first | exact Rem.here | apply Rem.there)) ?_)) (by first | exact y_load_blk Try.underlying3 rfl (by exact rfl) (by repeat (first | exact .head _ | refine .tail _ ?_)) (intC_get (by omega)) | exact y_load_blk Try.underlying3 rfl (by exact rfl) (by repeat (first | exact .head _ | refine .tail _ ?_)) (by exact rfl) | exact y_load_caj Try.underlying3 rfl (by exact rfl) (by repeat (first | exact .head _ | refine .tail _ ?_)) (by assumption) (by exact rfl) | exact y_load_ca0 Try.underlying3 rfl (by exact rfl) (by repeat (first | exact .head _ | refine .tail _ ?_)) (by assumption) (by exact rfl)) rfl ?_
          refine xj_s 11 (by exact rfl) (by kernel_rfl) (by repeat (first | exact Sel.nil | refine Sel.cons (by repeat (first | exact Rem.here | apply Rem.there)) ?_)) (by first | exact y_fab Try.underlying24 (by exact rfl) (by exact Try.sizeOf3) (by exact rfl) rfl | exact y_fa Try.underlying24 (by exact rfl) (by exact Try.sizeOf3) (by exact rfl) rfl) rfl ?_
          refine xj_s 12 (by exact rfl) (by kernel_rfl) (by repeat (first | exact Sel.nil | refine Sel.cons (by repeat (first | exact Rem.here | apply Rem.there)) ?_)) (by first | exact y_load_blk Try.underlying3 rfl (by exact rfl) (by repeat (first | exact .head _ | refine .tail _ ?_)) (by exact rfl) | exact y_load_caj Try.underlying3 rfl (by exact rfl) (by repeat (first | exact .head _ | refine .tail _ ?_)) (by assumption) (by exact rfl) | exact y_load_ca0 Try.underlying3 rfl (by exact rfl) (by repeat (first | exact .head _ | refine .tail _ ?_)) (by assumption) (by exact rfl)) rfl ?_
          refine xj_s 13 (by exact rfl) (by kernel_rfl) (by repeat (first | exact Sel.nil | refine Sel.cons (by repeat (first | exact Rem.here | apply Rem.there)) ?_)) (y_sub (by exact rfl) (by exact rfl) (by rw [hf1]; omega)) rfl ?_
          refine xj_s 14 (by exact rfl) (by kernel_rfl) (by repeat (first | exact Sel.nil | refine Sel.cons (by repeat (first | exact Rem.here | apply Rem.there)) ?_)) (y_max (by exact rfl) (by exact rfl)) rfl ?_
          refine xj_s 15 (by exact rfl) (by kernel_rfl) (by repeat (first | exact Sel.nil | refine Sel.cons (by repeat (first | exact Rem.here | apply Rem.there)) ?_)) (by first | exact y_ia_blk Try.underlying51 Try.sizeOf3 (by exact rfl) (ev_int (by exact rfl) (show _ = ((q : Nat) : Int) by omega)) (by omega) | exact y_ia_el Try.underlying51 Try.sizeOf3 (by exact rfl) (ev_int (by exact rfl) (show _ = ((q : Nat) : Int) by omega)) (by omega) (by first | assumption | simp)) rfl ?_
          refine xj_one 16 (by exact rfl) (by kernel_rfl) ?_
          refine sq_store_eq Try.sizeOf3 (by exact rfl) (by exact rfl) rfl (by repeat (first | exact Rem.here | apply Rem.there)) (by rw [intC_size]; omega) (intC_set (g' := bwdS (fun a b => max a (b - r.rate)) (lowF r team ls) L q) (fun i hi => ?_)) ?_
          · by_cases e : i = q
            · subst e; rw [if_pos rfl]; unfold bwdS; rw [if_pos (Nat.le_refl _), bw_step _ _ (by omega), if_neg (by omega), if_pos (by omega)]
            · rw [if_neg e]; unfold bwdS; by_cases h : q + 1 ≤ i
              · rw [if_pos h, if_pos (by omega)]
              · rw [if_neg h, if_neg (by omega)]
          refine sq_nil ?_
          refine sx_xpl (by kernel_rfl) ?_
          refine xj_done (by kernel_rfl) ?_
          refine sx_then ?_
          refine sc_drawX ([.blk bL (.cells (intC (L + 1) (bwdS (fun a b => max a (b - r.rate)) (lowF r team ls) L q)).toArray 3 (0, 0)), .blk bH (.cells (intC (L + 1) (bwdS (fun a b => min a b) (highF r team ls) L (q + 1))).toArray 3 (0, 0)), .blk b3 (.cells (rcVal r a c).toArray 24 (0, 0)), .reg 0 w]) (by kernel_rfl) ?_
          refine xj_s 0 (by exact rfl) (by kernel_rfl) (by repeat (first | exact Sel.nil | refine Sel.cons (by repeat (first | exact Rem.here | apply Rem.there)) ?_)) (y_move (by exact rfl)) rfl ?_
          refine xj_s 1 (by exact rfl) (by kernel_rfl) (by repeat (first | exact Sel.nil | refine Sel.cons (by repeat (first | exact Rem.here | apply Rem.there)) ?_)) (y_move (by exact rfl)) rfl ?_
          refine xj_s 2 (by exact rfl) (by kernel_rfl) (by repeat (first | exact Sel.nil | refine Sel.cons (by repeat (first | exact Rem.here | apply Rem.there)) ?_)) (y_move (by exact rfl)) rfl ?_
          refine xj_s 3 (by exact rfl) (by kernel_rfl) (by repeat (first | exact Sel.nil | refine Sel.cons (by repeat (first | exact Rem.here | apply Rem.there)) ?_)) (y_move (by exact rfl)) rfl ?_
          refine xj_s 4 (by exact rfl) (by kernel_rfl) (by repeat (first | exact Sel.nil | refine Sel.cons (by repeat (first | exact Rem.here | apply Rem.there)) ?_)) (by first | exact y_ia_blk Try.underlying51 Try.sizeOf3 (by exact rfl) (ev_int (by exact rfl) (show _ = ((q : Nat) : Int) by omega)) (by omega) | exact y_ia_el Try.underlying51 Try.sizeOf3 (by exact rfl) (ev_int (by exact rfl) (show _ = ((q : Nat) : Int) by omega)) (by omega) (by first | assumption | simp)) rfl ?_
          refine xj_s 5 (by exact rfl) (by kernel_rfl) (by repeat (first | exact Sel.nil | refine Sel.cons (by repeat (first | exact Rem.here | apply Rem.there)) ?_)) (by first | exact y_load_blk Try.underlying3 rfl (by exact rfl) (by repeat (first | exact .head _ | refine .tail _ ?_)) (intC_get (by omega)) | exact y_load_blk Try.underlying3 rfl (by exact rfl) (by repeat (first | exact .head _ | refine .tail _ ?_)) (by exact rfl) | exact y_load_caj Try.underlying3 rfl (by exact rfl) (by repeat (first | exact .head _ | refine .tail _ ?_)) (by assumption) (by exact rfl) | exact y_load_ca0 Try.underlying3 rfl (by exact rfl) (by repeat (first | exact .head _ | refine .tail _ ?_)) (by assumption) (by exact rfl)) rfl ?_
          refine xj_s 6 (by exact rfl) (by kernel_rfl) (by repeat (first | exact Sel.nil | refine Sel.cons (by repeat (first | exact Rem.here | apply Rem.there)) ?_)) (y_move (by exact rfl)) rfl ?_
          refine xj_s 7 (by exact rfl) (by kernel_rfl) (by repeat (first | exact Sel.nil | refine Sel.cons (by repeat (first | exact Rem.here | apply Rem.there)) ?_)) (y_move (by exact rfl)) rfl ?_
          refine xj_s 8 (by exact rfl) (by kernel_rfl) (by repeat (first | exact Sel.nil | refine Sel.cons (by repeat (first | exact Rem.here | apply Rem.there)) ?_)) (y_add (by exact rfl) (by exact rfl) (by omega)) rfl ?_
          refine xj_s 9 (by exact rfl) (by kernel_rfl) (by repeat (first | exact Sel.nil | refine Sel.cons (by repeat (first | exact Rem.here | apply Rem.there)) ?_)) (by first | exact y_ia_blk Try.underlying51 Try.sizeOf3 (by exact rfl) (ev_int (by exact rfl) (show _ = ((q + 1 : Nat) : Int) by omega)) (by omega) | exact y_ia_el Try.underlying51 Try.sizeOf3 (by exact rfl) (ev_int (by exact rfl) (show _ = ((q + 1 : Nat) : Int) by omega)) (by omega) (by first | assumption | simp)) rfl ?_
          refine xj_s 10 (by exact rfl) (by kernel_rfl) (by repeat (first | exact Sel.nil | refine Sel.cons (by repeat (first | exact Rem.here | apply Rem.there)) ?_)) (by first | exact y_load_blk Try.underlying3 rfl (by exact rfl) (by repeat (first | exact .head _ | refine .tail _ ?_)) (intC_get (by omega)) | exact y_load_blk Try.underlying3 rfl (by exact rfl) (by repeat (first | exact .head _ | refine .tail _ ?_)) (by exact rfl) | exact y_load_caj Try.underlying3 rfl (by exact rfl) (by repeat (first | exact .head _ | refine .tail _ ?_)) (by assumption) (by exact rfl) | exact y_load_ca0 Try.underlying3 rfl (by exact rfl) (by repeat (first | exact .head _ | refine .tail _ ?_)) (by assumption) (by exact rfl)) rfl ?_
          refine xj_s 11 (by exact rfl) (by kernel_rfl) (by repeat (first | exact Sel.nil | refine Sel.cons (by repeat (first | exact Rem.here | apply Rem.there)) ?_)) (y_min (by exact rfl) (by exact rfl)) rfl ?_
          refine xj_s 12 (by exact rfl) (by kernel_rfl) (by repeat (first | exact Sel.nil | refine Sel.cons (by repeat (first | exact Rem.here | apply Rem.there)) ?_)) (by first | exact y_ia_blk Try.underlying51 Try.sizeOf3 (by exact rfl) (ev_int (by exact rfl) (show _ = ((q : Nat) : Int) by omega)) (by omega) | exact y_ia_el Try.underlying51 Try.sizeOf3 (by exact rfl) (ev_int (by exact rfl) (show _ = ((q : Nat) : Int) by omega)) (by omega) (by first | assumption | simp)) rfl ?_
          refine xj_one 13 (by exact rfl) (by kernel_rfl) ?_
          refine sq_store_eq Try.sizeOf3 (by exact rfl) (by exact rfl) rfl (by repeat (first | exact Rem.here | apply Rem.there)) (by rw [intC_size]; omega) (intC_set (g' := bwdS (fun a b => min a b) (highF r team ls) L q) (fun i hi => ?_)) ?_
          · by_cases e : i = q
            · subst e; rw [if_pos rfl]; unfold bwdS; rw [if_pos (Nat.le_refl _), bw_step _ _ (by omega), if_neg (by omega), if_pos (by omega)]
            · rw [if_neg e]; unfold bwdS; by_cases h : q + 1 ≤ i
              · rw [if_pos h, if_pos (by omega)]
              · rw [if_neg h, if_neg (by omega)]
          refine sq_nil ?_
          refine sx_xpl (by kernel_rfl) ?_
          refine xj_done (by kernel_rfl) ?_
          refine sx_blk ?_
          refine sx_then ?_
          refine sc_region ?_
          refine sq_y (OpY.s (y_move (by exact rfl))) rfl ?_
          refine sq_y (OpY.s (y_sub (by exact rfl) (by exact rfl) (by omega))) rfl ?_
          refine sq_y (OpY.s (y_assign (by exact rfl))) rfl ?_
          refine sq_nil ?_
          refine sx_round (q) ?_ ?_ (by repeat (first | exact SubL.nil | refine SubL.cons (by first | exact rfl | exact lk_int rfl (by omega) | exact lk_eq rfl (by simp)) ?_)) (by repeat (first | exact Sel.nil | refine Sel.cons (by repeat (first | exact Rem.here | apply Rem.there)) ?_))
          · omega
          · omega
        ·
          refine sc_exit ?_
          refine sx_then_exit ?_
          refine sx_round_exit ?_
          refine sx_blk_hit ?_
          refine sx_then ?_
          refine sc_seq ?_
          refine sc_region ?_
          refine sq_y (OpY.s (y_assign (by exact rfl))) rfl ?_
          refine sq_nil ?_
          refine sx_then ?_
          refine sc_seq ?_
          refine sc_seq ?_
          refine sc_region ?_
          refine sq_y (OpY.s (y_assign (by exact rfl))) rfl ?_
          refine sq_nil ?_
          refine sx_then ?_
          refine sc_block ?_
          have eL : intC (L + 1) (bwdS (fun a b => max a (b - r.rate)) (lowF r team ls) L s) = intC (L + 1) (lowB r team ls) := intC_congr fun i hi => by unfold bwdS lowB; rw [if_pos (by omega), hLn]
          have eH : intC (L + 1) (bwdS (fun a b => min a b) (highF r team ls) L s) = intC (L + 1) (highB r team ls) := intC_congr fun i hi => by unfold bwdS highB; rw [if_pos (by omega), hLn]
          
          refine sc_sub (L' := [(1, .slice al ls.length cl), (2, .int .i64 team), (3, .pointer (some ⟨b3, 0, none⟩)), (9, .slice (some ⟨bL, 0, none⟩) (L + 1) (L + 1)), (10, .slice (some ⟨bH, 0, none⟩) (L + 1) (L + 1)), (16, .bool true), (17, .int .i64 (0 : Nat))]) (rs' := [.blk bL (.cells (intC (L + 1) (lowB r team ls)).toArray 3 (0, 0)), .blk bH (.cells (intC (L + 1) (highB r team ls)).toArray 3 (0, 0)), .blk b3 (.cells (rcVal r a c).toArray 24 (0, 0)), .reg 0 w]) (by repeat (first | exact SubL.nil | refine SubL.cons (by first | exact rfl | exact lk_int rfl (by omega) | exact lk_eq rfl (by simp)) ?_)) (by rw [← eL, ← eH]; exact (by repeat (first | exact Sel.nil | refine Sel.cons (by repeat (first | exact Rem.here | apply Rem.there)) ?_))) ?_
          refine sc_loop (σ := Nat)
            (fun s => [(1, .slice al ls.length cl), (2, .int .i64 team), (3, .pointer (some ⟨b3, 0, none⟩)), (9, .slice (some ⟨bL, 0, none⟩) (L + 1) (L + 1)), (10, .slice (some ⟨bH, 0, none⟩) (L + 1) (L + 1)), (16, .bool ((List.range s).all fun w => decide (lowB r team ls w ≤ highB r team ls w))), (17, .int .i64 s)])
            (fun s => [.blk bL (.cells (intC (L + 1) (lowB r team ls)).toArray 3 (0, 0)), .blk bH (.cells (intC (L + 1) (highB r team ls)).toArray 3 (0, 0)), .blk b3 (.cells (rcVal r a c).toArray 24 (0, 0)), .reg 0 w])
            (fun s => s ≤ L + 1)
            (fun s => L + 1 - s)
            (0) ?_ (by repeat (first | exact SubL.nil | refine SubL.cons (by first | exact rfl | exact lk_int rfl (by omega) | exact lk_eq rfl (by simp)) ?_)) (by repeat (first | exact Sel.nil | refine Sel.cons (by repeat (first | exact Rem.here | apply Rem.there)) ?_)) ?_
          · exact Nat.zero_le _
          rintro s hs
          refine sc_seq ?_
          refine sc_seq ?_
          refine sc_region ?_
          refine sq_y (OpY.s (y_move (by exact rfl))) rfl ?_
          refine sq_y (OpY.s (by first | exact y_fab Try.underlying24 (by exact rfl) (by exact Try.sizeOf3) (by exact rfl) rfl | exact y_fa Try.underlying24 (by exact rfl) (by exact Try.sizeOf3) (by exact rfl) rfl)) rfl ?_
          refine sq_y (OpY.s (by first | exact y_load_blk Try.underlying3 rfl (by exact rfl) (by repeat (first | exact .head _ | refine .tail _ ?_)) (by exact rfl) | exact y_load_caj Try.underlying3 rfl (by exact rfl) (by repeat (first | exact .head _ | refine .tail _ ?_)) (by assumption) (by exact rfl) | exact y_load_ca0 Try.underlying3 rfl (by exact rfl) (by repeat (first | exact .head _ | refine .tail _ ?_)) (by assumption) (by exact rfl))) rfl ?_
          refine sq_y (OpY.s (y_leq (by exact rfl) (by exact rfl))) rfl ?_
          refine sq_nil ?_
          refine sx_then ?_
          first | refine sc_if (by exact rfl) (fun hc5 => ?_) (fun hc5 => ?_) | refine sc_ifn (by exact rfl) (fun hc5 => ?_) (fun hc5 => ?_) | refine sc_cond (by exact rfl) (fun hc5 => ?_) (fun hc5 => ?_)
          ·
            refine sc_skip ?_
            refine sx_then ?_
            refine sc_seq ?_
            refine sc_block ?_
            refine sc_merge 16 (.bool ((List.range (s + 1)).all fun w => decide (lowB r team ls w ≤ highB r team ls w))) ?_ ?_
            ·
              refine sc_draw rfl (by kernel_rfl) (by kernel_rfl) ?_
              refine qq_y (OpY.s (y_move (by exact rfl))) rfl ?_
              refine qq_y (OpY.s (y_move (by exact rfl))) rfl ?_
              first | refine qq_splitd (tt := 169) (by exact rfl) (fun hg27_1 => ?_) (fun hg27_1 => ?_) | refine qq_splitn (tt := 169) (by exact rfl) (fun hg27_1 => ?_) (fun hg27_1 => ?_) | refine qq_split (tt := 169) (by exact rfl) (fun hg27_1 => ?_) (fun hg27_1 => ?_)
              ·
                refine qq_gt (by exact rfl) (by exact rfl) (OpY.s (y_move (by exact rfl))) rfl ?_
                refine qq_gt (by exact rfl) (by exact rfl) (OpY.s (y_move (by exact rfl))) rfl ?_
                refine qq_gt (by exact rfl) (by exact rfl) (OpY.s (by first | exact y_ia_blk Try.underlying51 Try.sizeOf3 (by exact rfl) (by exact rfl) (by omega) | exact y_ia_el Try.underlying51 Try.sizeOf3 (by exact rfl) (by exact rfl) (by omega) (by first | assumption | simp))) rfl ?_
                refine qq_gt (by exact rfl) (by exact rfl) (OpY.s (by first | exact y_load_blk Try.underlying3 rfl (by exact rfl) (by repeat (first | exact .head _ | refine .tail _ ?_)) (intC_get (by omega)) | exact y_load_blk Try.underlying3 rfl (by exact rfl) (by repeat (first | exact .head _ | refine .tail _ ?_)) (by exact rfl) | exact y_load_caj Try.underlying3 rfl (by exact rfl) (by repeat (first | exact .head _ | refine .tail _ ?_)) (by assumption) (by exact rfl) | exact y_load_ca0 Try.underlying3 rfl (by exact rfl) (by repeat (first | exact .head _ | refine .tail _ ?_)) (by assumption) (by exact rfl))) rfl ?_
                refine qq_gt (by exact rfl) (by exact rfl) (OpY.s (y_move (by exact rfl))) rfl ?_
                refine qq_gt (by exact rfl) (by exact rfl) (OpY.s (y_move (by exact rfl))) rfl ?_
                refine qq_gt (by exact rfl) (by exact rfl) (OpY.s (by first | exact y_ia_blk Try.underlying51 Try.sizeOf3 (by exact rfl) (by exact rfl) (by omega) | exact y_ia_el Try.underlying51 Try.sizeOf3 (by exact rfl) (by exact rfl) (by omega) (by first | assumption | simp))) rfl ?_
                refine qq_gt (by exact rfl) (by exact rfl) (OpY.s (by first | exact y_load_blk Try.underlying3 rfl (by exact rfl) (by repeat (first | exact .head _ | refine .tail _ ?_)) (intC_get (by omega)) | exact y_load_blk Try.underlying3 rfl (by exact rfl) (by repeat (first | exact .head _ | refine .tail _ ?_)) (by exact rfl) | exact y_load_caj Try.underlying3 rfl (by exact rfl) (by repeat (first | exact .head _ | refine .tail _ ?_)) (by assumption) (by exact rfl) | exact y_load_ca0 Try.underlying3 rfl (by exact rfl) (by repeat (first | exact .head _ | refine .tail _ ?_)) (by assumption) (by exact rfl))) rfl ?_
                refine qq_gt (by exact rfl) (by exact rfl) (OpY.s (y_leq (by exact rfl) (by exact rfl))) rfl ?_
                refine qq_y (OpY.s (y_pick_t (by exact rfl) (by exact rfl))) rfl ?_
                refine qq_y (OpY.s (y_assign (by exact rfl))) rfl ?_
                refine qq_nil ?_
                refine sx_merge ?_ ?_
                · exact lk_bool rfl (by rw [List.range_succ, List.all_append]; simp [*])
                · exact (by repeat (first | exact SubX.refl _ _ | refine SubX.skipT ?_ | refine SubX.skip rfl ?_))
              ·
                refine qq_gf (by exact rfl) (by exact rfl) (by exact rfl) rfl ?_
                refine qq_gf (by exact rfl) (by exact rfl) (by exact rfl) rfl ?_
                refine qq_gf (by exact rfl) (by exact rfl) (by exact rfl) rfl ?_
                refine qq_gf (by exact rfl) (by exact rfl) (by exact rfl) rfl ?_
                refine qq_gf (by exact rfl) (by exact rfl) (by exact rfl) rfl ?_
                refine qq_gf (by exact rfl) (by exact rfl) (by exact rfl) rfl ?_
                refine qq_gf (by exact rfl) (by exact rfl) (by exact rfl) rfl ?_
                refine qq_gf (by exact rfl) (by exact rfl) (by exact rfl) rfl ?_
                refine qq_gf (by exact rfl) (by exact rfl) (by exact rfl) rfl ?_
                refine qq_y (OpY.s (y_pick_f (by exact rfl) (by exact rfl))) rfl ?_
                refine qq_y (OpY.s (y_assign (by exact rfl))) rfl ?_
                refine qq_nil ?_
                refine sx_merge ?_ ?_
                · exact lk_bool rfl (by rw [List.range_succ, List.all_append]; simp [*])
                · exact (by repeat (first | exact SubX.refl _ _ | refine SubX.skipT ?_ | refine SubX.skip rfl ?_))
            refine sx_blk ?_
            refine sx_then ?_
            refine sc_region ?_
            refine sq_y (OpY.s (y_move (by exact rfl))) rfl ?_
            refine sq_y (OpY.s (y_add (by exact rfl) (by exact rfl) (by omega))) rfl ?_
            refine sq_y (OpY.s (y_assign (by exact rfl))) rfl ?_
            refine sq_nil ?_
            refine sx_round (s + 1) ?_ ?_ (by repeat (first | exact SubL.nil | refine SubL.cons (by first | exact rfl | exact lk_int rfl (by omega) | exact lk_eq rfl (by simp)) ?_)) (by repeat (first | exact Sel.nil | refine Sel.cons (by repeat (first | exact Rem.here | apply Rem.there)) ?_))
            · omega
            · omega
          ·
            have hsL : s = L + 1 := by omega
            refine sc_exit ?_
            refine sx_then_exit ?_
            refine sx_round_exit ?_
            refine sx_blk_hit ?_
            refine sx_then ?_
            refine sc_seq ?_
            refine sc_region ?_
            refine sq_y (OpY.s (y_move (by exact rfl))) rfl ?_
            refine sq_y (OpY.s (y_move (by exact rfl))) rfl ?_
            refine sq_y (OpY.s (y_move (by exact rfl))) rfl ?_
            refine sq_y (OpY.s (y_assign (by exact rfl))) rfl ?_
            refine sq_y (OpY.s (y_assign (by exact rfl))) rfl ?_
            refine sq_y (OpY.s (y_assign (by exact rfl))) rfl ?_
            refine sq_nil ?_
            refine sx_then ?_
            refine sc_ret ?_
            refine sx_ret3 (.inl rfl) rfl Try.results49 (by exact rfl) (by exact rfl) (by exact rfl) ?_
            intro w' hw'
            refine ⟨(bL, bH), ?_, hw'.below (by repeat (first | exact .head _ | refine .tail _ ?_)), intC_ints (blk_new hw' (by repeat (first | exact Rem.here | apply Rem.there)) (by repeat (first | exact .head _ | refine .tail _ ?_))) (CA.blk hw' (by repeat (first | exact .head _ | refine .tail _ ?_))), intC_ints (blk_new hw' (by repeat (first | exact Rem.here | apply Rem.there)) (by repeat (first | exact .head _ | refine .tail _ ?_))) (CA.blk hw' (by repeat (first | exact .head _ | refine .tail _ ?_)))⟩
            unfold isB; rw [hLn, hsL]
end Go.Proofs.Ytegdfpilhlcplaa
