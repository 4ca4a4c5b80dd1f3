/- The walk of whether some truth fits: for tales in which at most one admits something. -/
import Derived.Test.YtpijahglojichaaDoorWalkL5
import Derived.Test.YtpijahglojichaaDoorWalk9
namespace Go.Proofs.YtpijahglojichaaDoor
open Go Go.Eng Go.RowKit Go.Proofs
set_option maxRecDepth 100000
/-- all are silent, but one: so many pieces -/
def admL (np q n : Nat) : List Int := (List.range np).map fun p => if p = q then (n : Int) else -1
theorem admL_len (np q n : Nat) : (admL np q n).length = np := by simp [admL]
theorem admL_get {np q n p : Nat} (h : p < np) : (admL np q n).getD p 0 = if p = q then (n : Int) else -1 := by
  unfold admL; rw [List.getD_eq_getElem?_getD]; simp [h]
/-- the slots of the first so many persons -/
def slotL (q n p : Nat) : List Int := if q < p then List.replicate n (q : Int) else []
theorem slotL_next (q n p : Nat) : slotL q n p ++ List.replicate (if p = q then (n : Int) else -1).toNat (p : Int) = slotL q n (p + 1) := by
  unfold slotL
  by_cases h : p = q
  · subst h; rw [if_pos rfl, if_neg (by omega), if_pos (by omega), Int.toNat_natCast]; rfl
  · rw [if_neg h]
    by_cases h2 : q < p
    · rw [if_pos h2, if_pos (by omega)]; show _ ++ List.replicate 0 _ = _; simp
    · rw [if_neg h2, if_neg (by omega)]; rfl
def cntS (np q n : Nat) : Nat := if q < np then n else 0
theorem slotL_len (np q n : Nat) : (slotL q n np).length = cntS np q n := by
  unfold slotL cntS
  split
  · rw [List.length_replicate]
  · rfl
theorem slotL_get {np q n s : Nat} (h : s < cntS np q n) : (slotL q n np).getD s 0 = (q : Int) := by
  unfold cntS at h
  unfold slotL
  split at h
  · rename_i h1; rw [if_pos h1, List.getD_eq_getElem?_getD, List.getElem?_replicate, if_pos h]; rfl
  · omega
/-- the slots that a piece can go to -/
def rowJ (cs : List Nat) (q k s : Nat) : List Int := if (cs.getD k 0).testBit q = true then rngI s else []
theorem rowJ_next (cs : List Nat) (q k s : Nat) : rowJ cs q k (s + 1) = if (cs.getD k 0).testBit q = true then rowJ cs q k s ++ [(s : Int)] else rowJ cs q k s := by
  unfold rowJ
  split
  · rw [rngI_succ]
  · rfl
theorem rowJ_zero (cs : List Nat) (q k : Nat) : rowJ cs q k 0 = [] := by unfold rowJ; split <;> rfl
theorem rowJ_len (cs : List Nat) (q k s : Nat) : (rowJ cs q k s).length ≤ s := by
  unfold rowJ
  split
  · rw [rngI_len]; exact Nat.le_refl _
  · exact Nat.zero_le _
def allR (cs : List Nat) (q c : Nat) : Nat → List (List Int)
  | 0 => []
  | k + 1 => allR cs q c k ++ [rowJ cs q k c]
def mustR (cs : List Nat) (fr q c : Nat) : Nat → List (List Int)
  | 0 => []
  | k + 1 => if cs.getD k 0 &&& fr = 0 then mustR cs fr q c k ++ [rowJ cs q k c] else mustR cs fr q c k
theorem allR_len (cs : List Nat) (q c : Nat) : ∀ k, (allR cs q c k).length = k
  | 0 => rfl
  | k + 1 => by show (_ ++ [_]).length = _; rw [List.length_append, allR_len cs q c k]; rfl
theorem mustR_len (cs : List Nat) (fr q c : Nat) : ∀ k, (mustR cs fr q c k).length ≤ k
  | 0 => Nat.le_refl _
  | k + 1 => by
    have := mustR_len cs fr q c k
    unfold mustR
    split
    · rw [List.length_append, List.length_singleton]; omega
    · omega
theorem rowJ_full (cs : List Nat) (q k c : Nat) : rowJ cs q k c = [] ∨ rowJ cs q k c = rngI c := by
  unfold rowJ; split
  · exact .inr rfl
  · exact .inl rfl
theorem full_mem {R : List (List Int)} {n : Nat} (h : ∀ r, r ∈ R → r = [] ∨ r = rngI n) : FullR R n := fun _ hr => h _ (getD_mem hr)
theorem allR_full (cs : List Nat) (q c : Nat) : ∀ k r, r ∈ allR cs q c k → r = [] ∨ r = rngI c
  | 0, _, h => by cases h
  | k + 1, r, h => by
    rcases List.mem_append.1 (show r ∈ allR cs q c k ++ [rowJ cs q k c] from h) with h | h
    · exact allR_full cs q c k r h
    · rw [List.mem_singleton.1 h]; exact rowJ_full cs q k c
theorem mustR_full (cs : List Nat) (fr q c : Nat) : ∀ k r, r ∈ mustR cs fr q c k → r = [] ∨ r = rngI c
  | 0, _, h => by cases h
  | k + 1, r, h => by
    unfold mustR at h
    split at h
    · rcases List.mem_append.1 h with h | h
      · exact mustR_full cs fr q c k r h
      · rw [List.mem_singleton.1 h]; exact rowJ_full cs q k c
    · exact mustR_full cs fr q c k r h
def fitsB (cs : List Nat) (fr q c p : Nat) : Bool := decide (cntM (mustR cs fr q c p) c (mustR cs fr q c p).length = (mustR cs fr q c p).length) && decide (cntM (allR cs q c p) c (allR cs q c p).length = c)
theorem matched97n (w : World) (R : List (List Int)) (n m : Nat) (hm : R.length = m) (ra : Option Addr) (rc : Nat) (f : Nat → Option Addr) (cf : Nat → Nat) (hR : LsA 0 w ra f cf R) (hn : n ≤ 16) (hF : FullR R n) : Calls Tryd.prog 97 #[.slice ra m rc, .int .i64 (n : Int)] w fun e w' => e = .returned (.int .i64 (cntM R n R.length : Int)) ∧ Below w.heap.size w w' := by
  subst hm; exact matched97 w R n ra rc f cf hR hn hF
theorem bkA (z : TlA) (t : Tl) {cs : List Nat} {i : Nat} (h : i < cs.length) : (bkV z t cs).toArray[0 + 4 + i * 1]? = some (.int .i64 ((cs.getD i 0 : Nat) : Int)) := by
  rw [show 0 + 4 + i * 1 = 4 + i by omega, List.getElem?_toArray]; exact bkV_get z t h
def slRow (x : (Option Addr × Nat) × List Int) : List Value := [slV x]
theorem sl_flat (iv : Iv) : iv.flatMap slRow = iv.map slV := by
  induction iv with
  | nil => rfl
  | cons a l ih => rw [List.flatMap_cons, ih]; rfl
/-- own slices of kept rows, in memory -/
theorem iv_at {w0 w wS : World} {rs : List Res} {D : Nat → Prop} (hw : Hp w0 rs w) {a : Option Addr} {c : Nat} {e : TypeId} {iv : Iv} (hm : Res.own (.slice a iv.length c) e 1 iv.length (iv.map slV) ∈ rs) (hs : Res.set D wS ∈ rs) (hI : ∀ x, x ∈ iv → RowsS iRow 1 D wS x.1.1 x.2) (h64 : iv.length ≤ 9223372036854775807) : LsA 0 w a (fun i => (iv.getD i ((none, 0), [])).1.1) (fun i => (iv.getD i ((none, 0), [])).1.2) (iv.map (·.2)) := by
  obtain ⟨a', c', hv, _, hr⟩ := own_rowsA (row := slRow) (l := iv) (fun _ => rfl) (by rw [sl_flat]; exact hw.ok _ hm) rfl h64
  injection hv with h1; subst h1
  refine ⟨fun i r hi => ?_, by rw [List.length_map]; exact h64⟩
  rw [List.getElem?_map] at hi
  obtain ⟨x, hx, rfl⟩ := Option.map_eq_some_iff.1 hi
  have hg : iv.getD i ((none, 0), []) = x := by rw [List.getD_eq_getElem?_getD, hx]; rfl
  show _ ∧ CA 0 w _ [.slice (iv.getD i ((none, 0), [])).1.1 x.2.length (iv.getD i ((none, 0), [])).1.2] ∧ RowsA iRow 1 0 w (iv.getD i ((none, 0), [])).1.1 x.2
  rw [hg]
  have he := hr.el i x hx
  exact ⟨he.1, he.2, (hI x (List.mem_of_getElem? hx)).at hw hs⟩

theorem fits69 (w : World) (z : TlA) (t : Tl) (hz : TlAt 0 w z t) (np q n : Nat) (had : t.admits = admL np q n) (hnp : np ≤ 6) (hq : q ≤ 6) (hn : n ≤ 16) (hp : t.pieces ≤ 16) (cs : List Nat) (hcs : cs.length = 16) (hc8 : ∀ k, cs.getD k 0 < 256) : Calls Tryd.prog 69 #[.agg (bkV z t cs).toArray] w fun e w' => e = .returned (.bool (fitsB cs (freeN t.admits t.admits.length) q (cntS np q n) t.pieces)) ∧ Below w.heap.size w w' := by
  have hbl := bkV_len z t hcs
  have hal : t.admits.length = np := by rw [had, admL_len]
  have hfr := freeN_lt t.admits t.admits.length (by omega)
  have hcn : (cntS np q n) ≤ 16 := by unfold cntS; split <;> omega
  refine calls_of_SC (args := [.agg (bkV z t cs).toArray]) Tryd.func69 rfl Tryd.ntmps69 rfl ?_
  simp only [argL]
  refine sc_seq ?_
  refine sc_region ?_
  refine sq_box RF rfl (fun b1 => ?_)
  refine qs (y_assign RF) ?_
  refine sq_nil ?_
  refine sx_then ?_
  refine sc_seq ?_
  refine sc_region ?_
  refine qs (y_assign RF) ?_
  refine sq_nil ?_
  refine sx_then ?_
  refine sc_seq ?_
  refine sc_seq ?_
  refine sc_nil_own 3 1 ?_
  refine sc_region ?_
  refine qs FA118_61 ?_
  refine qs FA61_25 ?_
  refine qs LD25 ?_
  refine qs (y_len Tryd.underlying25 RF) ?_
  refine qs (y_move RF) ?_
  refine sq_nil ?_
  refine sx_then ?_
  refine sc_block ?_
  refine sc_loop (σ := Nat × Value)
    (fun s_ => [(1, .pointer (some ⟨b1, 0, none⟩)), (3, s_.2), (15, .slice z.aa t.admits.length z.ac), (16, .int .i64 t.admits.length), (17, .int .i64 s_.1)])
    (fun s_ => [.own s_.2 3 1 (slotL q n s_.1).length ((slotL q n s_.1).flatMap iRow), .blk b1 (.cells (bkV z t cs).toArray 118 (0, 0)), .reg 0 w])
    (fun s_ => s_.1 ≤ np ∧ s_.2.oneCell' = true)
    (fun s_ => np - s_.1)
    ((0, .slice none 0 0)) ?_ SU SR ?_
  · exact ⟨Nat.zero_le _, rfl⟩
  rintro ⟨i, v3⟩ ⟨hi, hv31⟩
  dsimp only at hi hv31 ⊢
  refine sc_seq ?_
  refine sc_region ?_
  refine qs (y_lss RF RF) ?_
  refine sq_nil ?_
  refine sx_then ?_
  refine sc_seq ?_
  refine scp (fun hc0 => ?_) (fun hc0 => ?_)
  ·
    have hi' : i < np := by omega
    have hsi := (hz.ad.get 0 (show i < t.admits.length by omega)).1
    have hci := (hz.ad.get 0 (show i < t.admits.length by omega)).2
    rw [show t.admits.getD i 0 = if i = q then (n : Int) else -1 by rw [had]; exact admL_get hi'] at hci
    obtain ⟨ad, had2⟩ : ∃ ad : Int, ad = if i = q then (n : Int) else -1 := ⟨_, rfl⟩
    rw [← had2] at hci
    have hadb : -1 ≤ ad ∧ ad ≤ 16 := by rw [had2]; split <;> omega
    have hsl16 : (slotL q n i).length ≤ 16 := by
      unfold slotL
      split
      · rw [List.length_replicate]; exact hn
      · exact Nat.zero_le _
    refine sc_skip ?_
    refine sx_then ?_
    refine sc_seq ?_
    refine sc_block ?_
    refine sc_seq ?_
    refine sc_region ?_
    refine qs (y_move RF) ?_
    refine qs IA25 ?_
    refine qs (by first | exact y_load_ca0 Tryd.underlying3 rfl RF MM hci rfl | exact LD3) ?_
    refine qs (y_assign RF) ?_
    refine qs (y_assign RF) ?_
    refine sq_nil ?_
    refine sx_then ?_
    refine sc_seq ?_
    refine sc_region ?_
    refine qs (y_move RF) ?_
    refine qs (y_move RF) ?_
    refine sq_nil ?_
    refine sx_then ?_
    refine sc_block ?_
    rw [show slotL q n i = (slotL q n i ++ List.replicate 0 (i : Int)) from by simp]
    refine sc_loop (σ := Nat × Value)
      (fun s_ => [(1, .pointer (some ⟨b1, 0, none⟩)), (3, s_.2), (4, .int .i64 (i : Int)), (15, .slice z.aa t.admits.length z.ac), (16, .int .i64 t.admits.length), (17, .int .i64 i), (22, .int .i64 ad), (23, .int .i64 s_.1)])
      (fun s_ => [.own s_.2 3 1 (slotL q n i ++ List.replicate s_.1 (i : Int)).length ((slotL q n i ++ List.replicate s_.1 (i : Int)).flatMap iRow), .blk b1 (.cells (bkV z t cs).toArray 118 (0, 0)), .reg 0 w])
      (fun s_ => s_.1 ≤ ad.toNat ∧ s_.2.oneCell' = true)
      (fun s_ => ad.toNat - s_.1)
      ((0, v3)) ?_ SU SR ?_
    · exact ⟨Nat.zero_le _, hv31⟩
    rintro ⟨s, v3'⟩ ⟨hs, hv3'⟩
    dsimp only at hs hv3' ⊢
    refine sc_seq ?_
    refine sc_region ?_
    refine qs (y_lss RF RF) ?_
    refine sq_nil ?_
    refine sx_then ?_
    refine sc_seq ?_
    refine scp (fun hc1 => ?_) (fun hc1 => ?_)
    ·
      have hs' : s < ad.toNat := by omega
      refine sc_skip ?_
      refine sx_then ?_
      refine sc_seq ?_
      refine sc_block ?_
      refine sc_region ?_
      refine qs (y_move RF) ?_
      refine qs (y_move RF) ?_
      refine sq_bs Tryd.underlying25 ei3 (EvI.cons RF EvI.nil) (by first | (simp [Value.cells]; done) | (simp [Value.cells]; rfl) | (simp [Value.cells]; and_intros <;> rfl)) rfl rfl rfl (fun b27 => ?_)
      refine sq_append (news := [Value.int .i64 (i : Int)]) Tryd.underlying25 ei3 rfl (by decide) RF RM RF rfl (fun _ hw => news_blk hw MM) (by simp [Value.oneCell']) (by rw [List.length_append, List.length_replicate]; omega) rfl (fun v28 ho28 => ?_)
      rw [show (slotL q n i ++ List.replicate s (i : Int)).flatMap iRow ++ [Value.int .i64 (i : Int)] = (slotL q n i ++ List.replicate (s + 1) (i : Int)).flatMap iRow from by rw [List.replicate_succ', ← List.append_assoc, List.flatMap_append (xs := slotL q n i ++ List.replicate s (i : Int))]; rfl, show (slotL q n i ++ List.replicate s (i : Int)).length + 1 = (slotL q n i ++ List.replicate (s + 1) (i : Int)).length from by simp; omega]
      refine qs (y_assign RF) ?_
      refine sq_nil ?_
      refine sx_blk ?_
      refine sx_then ?_
      refine sc_region ?_
      refine qs (y_add RF RF (by omega)) ?_
      refine qs (y_move RF) ?_
      refine sq_nil ?_
      refine sx_round ((s + 1, v28)) ?_ ?_ SU SR
      · exact ⟨by dsimp only; omega, ho28⟩
      · dsimp only; omega
    ·
      have hsn : s = ad.toNat := by omega
      subst hsn
      refine sc_exit ?_
      refine sx_then_exit ?_
      refine sx_round_exit ?_
      refine sx_blk_hit ?_
      refine sx_blk ?_
      refine sx_then ?_
      refine sc_region ?_
      refine qs (y_add RF RF (by omega)) ?_
      refine qs (y_move RF) ?_
      refine sq_nil ?_
      rw [had2, slotL_next]
      exact sx_round (i + 1, v3') ⟨by dsimp only; omega, hv3'⟩ (by dsimp only; omega) SU SR
  ·
    have hin : i = np := by omega
    subst i
    refine sc_exit ?_
    refine sx_then_exit ?_
    refine sx_round_exit ?_
    refine sx_blk_hit ?_
    refine sx_then ?_
    refine sc_seq ?_
    refine sc_own_dest (v := v3) (e := 3) (sz := 1) (m := (slotL q n np).length) (xs := (slotL q n np).flatMap iRow) MM (fun a3 c3 hv3 hmc3 hn3 => ?_)
    subst hv3
    have hsl := slotL_len np q n
    refine sc_region ?_
    refine qs (by first | exact y_load_all Tryd.underlying118 rfl Tryd.sizeOf118 RF MM hbl | exact LD118) ?_
    refine qy (yc Tryd.call96 E1 (fun w1 hw1 => free96 w1 z t (hz.at hw1 MM) (by omega) cs hcs)) ?_
    refine qs (y_assign RF) ?_
    refine sq_nil ?_
    refine sx_then ?_
    refine sc_seq ?_
    refine sc_region ?_
    refine qs (y_assign RF) ?_
    refine qs (y_assign RF) ?_
    refine sq_nil ?_
    refine sx_then ?_
    refine sc_seq ?_
    refine sc_seq ?_
    refine sc_nil_own 25 1 ?_
    refine sc_nil_own 25 1 ?_
    refine sc_set0 (fun wS0 => ?_)
    refine sc_region ?_
    refine qs FA118_61 ?_
    refine qs FA61_3 ?_
    refine qs LD3 ?_
    refine qs (y_move RF) ?_
    refine sq_nil ?_
    refine sx_then ?_
    refine sc_block ?_
    refine sc_loop (σ := Nat × Value × Value × Iv × Iv × (Nat → Prop) × World)
      (fun s_ => [(1, .pointer (some ⟨b1, 0, none⟩)), (3, (.slice a3 (slotL q n np).length c3)), (6, .int .i64 ((freeN t.admits t.admits.length) : Int)), (7, s_.2.1), (8, s_.2.2.1), (35, .int .i64 (t.pieces : Int)), (36, .int .i64 s_.1)])
      (fun s_ => [.own s_.2.2.1 25 1 s_.2.2.2.2.1.length (s_.2.2.2.2.1.map slV), .own s_.2.1 25 1 s_.2.2.2.1.length (s_.2.2.2.1.map slV), .set s_.2.2.2.2.2.1 s_.2.2.2.2.2.2, .own (.slice a3 (slotL q n np).length c3) 3 1 (slotL q n np).length ((slotL q n np).flatMap iRow), .blk b1 (.cells (bkV z t cs).toArray 118 (0, 0)), .reg 0 w])
      (fun s_ => s_.1 ≤ t.pieces ∧ s_.2.1.oneCell' = true ∧ s_.2.2.1.oneCell' = true ∧ s_.2.2.2.1.map (·.2) = mustR cs (freeN t.admits t.admits.length) q (cntS np q n) s_.1 ∧ s_.2.2.2.2.1.map (·.2) = allR cs q (cntS np q n) s_.1 ∧ (∀ x, x ∈ s_.2.2.2.1 → RowsS iRow 1 s_.2.2.2.2.2.1 s_.2.2.2.2.2.2 x.1.1 x.2) ∧ (∀ x, x ∈ s_.2.2.2.2.1 → RowsS iRow 1 s_.2.2.2.2.2.1 s_.2.2.2.2.2.2 x.1.1 x.2))
      (fun s_ => t.pieces - s_.1)
      ((0, .slice none 0 0, .slice none 0 0, [], [], fun _ => False, wS0)) ?_ SU SR ?_
    · exact ⟨Nat.zero_le _, rfl, rfl, rfl, rfl, (fun x h => by cases h), (fun x h => by cases h)⟩
    rintro ⟨k, v7, v8, im, ia, Dq, wS⟩ ⟨hk, hv71, hv81, hmm, hma, hIm, hIa⟩
    dsimp only at hk hv71 hv81 hmm hma hIm hIa ⊢
    refine sc_seq ?_
    refine sc_region ?_
    refine qs (y_lss RF RF) ?_
    refine sq_nil ?_
    refine sx_then ?_
    refine sc_seq ?_
    refine scp (fun hc2 => ?_) (fun hc2 => ?_)
    ·
      have hk' : k < t.pieces := by omega
      have hlm : im.length ≤ k := by have := mustR_len cs (freeN t.admits t.admits.length) q (cntS np q n) k; rw [← hmm, List.length_map] at this; exact this
      have hla : ia.length = k := by have := allR_len cs q (cntS np q n) k; rw [← hma, List.length_map] at this; exact this
      refine sc_skip ?_
      refine sx_then ?_
      refine sc_seq ?_
      refine sc_block ?_
      refine sc_seq ?_
      refine sc_region ?_
      refine qs (y_move RF) ?_
      refine qs (y_assign RF) ?_
      refine sq_nil ?_
      refine sx_then ?_
      refine sc_seq ?_
      refine sc_region ?_
      refine qs (y_assign RF) ?_
      refine sq_nil ?_
      refine sx_then ?_
      refine sc_seq ?_
      refine sc_seq ?_
      refine sc_nil_own 3 1 ?_
      refine sc_region ?_
      refine qs (y_move RF) ?_
      refine qs (y_len Tryd.underlying25 RF) ?_
      refine qs (y_move RF) ?_
      refine sq_nil ?_
      refine sx_then ?_
      refine sc_block ?_
      rw [show Res.own (.slice none 0 0) 3 1 0 [] = .own (.slice none 0 0) 3 1 (rowJ cs q k 0).length ((rowJ cs q k 0).flatMap iRow) from by rw [rowJ_zero]; rfl]
      refine sc_loop (σ := Nat × Value)
        (fun s_ => [(1, .pointer (some ⟨b1, 0, none⟩)), (3, (.slice a3 (slotL q n np).length c3)), (6, .int .i64 ((freeN t.admits t.admits.length) : Int)), (7, v7), (8, v8), (35, .int .i64 (t.pieces : Int)), (36, .int .i64 k), (9, .int .i64 k), (10, s_.2), (39, (.slice a3 (slotL q n np).length c3)), (40, .int .i64 (cntS np q n)), (41, .int .i64 s_.1)])
        (fun s_ => [.own s_.2 3 1 (rowJ cs q k s_.1).length ((rowJ cs q k s_.1).flatMap iRow), .own v8 25 1 ia.length (ia.map slV), .own v7 25 1 im.length (im.map slV), .set Dq wS, .own (.slice a3 (slotL q n np).length c3) 3 1 (slotL q n np).length ((slotL q n np).flatMap iRow), .blk b1 (.cells (bkV z t cs).toArray 118 (0, 0)), .reg 0 w])
        (fun s_ => s_.1 ≤ (cntS np q n) ∧ s_.2.oneCell' = true)
        (fun s_ => (cntS np q n) - s_.1)
        ((0, .slice none 0 0)) ?_ SU SR ?_
      · exact ⟨Nat.zero_le _, rfl⟩
      rintro ⟨s, v10⟩ ⟨hs, hv101⟩
      dsimp only at hs hv101 ⊢
      refine sc_seq ?_
      refine sc_region ?_
      refine qs (y_lss RF RF) ?_
      refine sq_nil ?_
      refine sx_then ?_
      refine sc_seq ?_
      refine scp (fun hc3 => ?_) (fun hc3 => ?_)
      ·
        have hs' : s < (slotL q n np).length := by omega
        have hrl := rowJ_len cs q k s
        refine sc_skip ?_
        refine sx_then ?_
        refine sc_seq ?_
        refine sc_block ?_
        refine sc_seq ?_
        refine sc_region ?_
        refine qs (y_move RF) ?_
        refine qs (y_ia_own (v := (.slice a3 (slotL q n np).length c3)) (i := s) Tryd.underlying25 Tryd.sizeOf3 RF MM RF hs') ?_
        refine qs (by first | exact y_load_own0 (v := (.slice a3 (slotL q n np).length c3)) (u := .int .i64 (q : Int)) Tryd.underlying3 rfl RF MM hs' (flat_iget (by rw [get_of_lt 0 hs', slotL_get (np := np) (q := q) (n := n) (s := s) (by omega)])) | exact LD3) ?_
        refine qs (y_assign RF) ?_
        refine qs (y_assign RF) ?_
        refine sq_nil ?_
        refine sx_then ?_
        refine sc_seq ?_
        refine sc_region ?_
        refine qs (y_move RF) ?_
        refine qs FA118_116 ?_
        refine qs (y_ia_arr Tryd.underlying116 Tryd.sizeOf3 RF RF (by omega)) ?_
        refine qs (by first | exact y_load_blk Tryd.underlying3 rfl RF MM (bkA z t (cs := cs) (i := k) (by omega)) | exact LD3) ?_
        refine qs (y_move RF) ?_
        refine qs (y_shr RF RF (by first | omega | (simp [IntKind.bits]; omega))) ?_
        refine qs (y_and RF RF (by have h8 := hc8 k; have : (0:Int) ≤ ((cs.getD k 0) : Int) / 2 ^ ((q : Int)).toNat := Int.ediv_nonneg (by omega) (Int.le_of_lt (Int.pow_pos (by decide))); have h2 : ((cs.getD k 0) : Int) / 2 ^ ((q : Int)).toNat ≤ ((cs.getD k 0) : Int) := Int.ediv_le_self _ (by omega); omega) (by decide)) ?_
        refine qs (y_eql RF RF) ?_
        obtain ⟨bt, hbt⟩ : ∃ b : Bool, b = (cs.getD k 0).testBit q := ⟨_, rfl⟩
        rw [bit_at, ← hbt]
        refine sq_nil ?_
        refine sx_then ?_
        refine scp (fun hc4 => ?_) (fun hc4 => ?_)
        ·
          have hbit : (cs.getD k 0).testBit q = true := by rw [← hbt]; exact hc4
          refine sc_region ?_
          refine qs (y_move RF) ?_
          refine qs (y_move RF) ?_
          refine sq_bs Tryd.underlying25 ei3 (EvI.cons RF EvI.nil) (by first | (simp [Value.cells]; done) | (simp [Value.cells]; rfl) | (simp [Value.cells]; and_intros <;> rfl)) rfl rfl rfl (fun b56 => ?_)
          refine sq_append (news := [Value.int .i64 (s : Int)]) Tryd.underlying25 ei3 rfl (by decide) RF RM RF rfl (fun _ hw => news_blk hw MM) (by simp [Value.oneCell']) (by omega) rfl (fun v57 ho57 => ?_)
          rw [show (rowJ cs q k s).flatMap iRow ++ [Value.int .i64 (s : Int)] = (rowJ cs q k (s + 1)).flatMap iRow from by rw [rowJ_next, if_pos hbit, List.flatMap_append]; rfl, show (rowJ cs q k s).length + 1 = (rowJ cs q k (s + 1)).length from by rw [rowJ_next, if_pos hbit, List.length_append]; rfl]
          refine qs (y_assign RF) ?_
          refine sq_nil ?_
          refine sx_blk ?_
          refine sx_then ?_
          refine sc_region ?_
          refine qs (y_add RF RF (by omega)) ?_
          refine qs (y_move RF) ?_
          refine sq_nil ?_
          refine sx_round ((s + 1, v57)) ?_ ?_ SU SR
          · exact ⟨by dsimp only; omega, ho57⟩
          · dsimp only; omega
        ·
          have hbit : ¬ (cs.getD k 0).testBit q = true := by rw [← hbt, hc4]; decide
          refine sc_skip ?_
          refine sx_blk ?_
          refine sx_then ?_
          refine sc_region ?_
          refine qs (y_add RF RF (by omega)) ?_
          refine qs (y_move RF) ?_
          refine sq_nil ?_
          rw [show (rowJ cs q k s) = (rowJ cs q k (s + 1)) from by rw [rowJ_next, if_neg hbit]]
          exact sx_round (s + 1, v10) ⟨by dsimp only; omega, hv101⟩ (by dsimp only; omega) SU SR
      ·
        have hsn : s = (cntS np q n) := by omega
        subst s
        refine sc_exit ?_
        refine sx_then_exit ?_
        refine sx_round_exit ?_
        refine sx_blk_hit ?_
        refine sx_then ?_
        refine sc_seq ?_
        refine sc_own_dest (v := v10) (e := 3) (sz := 1) (m := (rowJ cs q k (cntS np q n)).length) (xs := (rowJ cs q k (cntS np q n)).flatMap iRow) MM (fun a10 c10 hv10 hmc10 hn10 => ?_)
        subst hv10
        refine sc_join (r := .own (.slice a10 (rowJ cs q k (cntS np q n)).length c10) 3 1 (rowJ cs q k (cntS np q n)).length ((rowJ cs q k (cntS np q n)).flatMap iRow)) RMS1 (fun wj hgj hoj => ?_)
        have hrj := own_atS (D := Dq) hoj rfl (by have := rowJ_len cs q k (cntS np q n); omega)
        have hIm' := fun x hx => (hIm x hx).grow hgj
        have hIa' := fun x hx => (hIa x hx).grow hgj
        refine sc_region ?_
        refine qs (y_move RF) ?_
        refine qs (y_move RF) ?_
        refine sq_bs Tryd.underlying22 ei25 (EvI.cons RF EvI.nil) (by first | (simp [Value.cells]; done) | (simp [Value.cells]; rfl) | (simp [Value.cells]; and_intros <;> rfl)) rfl rfl rfl (fun b61 => ?_)
        refine sq_append (news := [slV ((a10, c10), (rowJ cs q k (cntS np q n)))]) Tryd.underlying22 ei25 rfl (by decide) RF RM RF rfl (fun _ hw => news_blk hw MM) (by simp [slV, Value.oneCell']) (by omega) rfl (fun v62 ho62 => ?_)
        rw [show ia.map slV ++ [slV ((a10, c10), (rowJ cs q k (cntS np q n)))] = (ia ++ [((a10, c10), (rowJ cs q k (cntS np q n)))]).map slV from by simp, show ia.length + 1 = (ia ++ [((a10, c10), (rowJ cs q k (cntS np q n)))]).length from by simp]
        refine qs (y_assign RF) ?_
        refine sq_nil ?_
        refine sx_then ?_
        refine sc_seq ?_
        refine sc_region ?_
        refine qs (y_move RF) ?_
        refine qs FA118_116 ?_
        refine qs (y_ia_arr Tryd.underlying116 Tryd.sizeOf3 RF RF (by omega)) ?_
        refine qs (by first | exact y_load_blk Tryd.underlying3 rfl RF MM (bkA z t (cs := cs) (i := k) (by omega)) | exact LD3) ?_
        refine qs (y_move RF) ?_
        refine qs (y_and RF RF (by have h8 := hc8 k; omega) (by omega)) ?_
        rw [Int.toNat_natCast, Int.toNat_natCast]
        refine qs (y_eql RF RF) ?_
        refine sq_nil ?_
        refine sx_then ?_
        refine scp (fun hc5 => ?_) (fun hc5 => ?_)
        ·
          have hz0 : (cs.getD k 0) &&& (freeN t.admits t.admits.length) = 0 := by omega
          refine sc_region ?_
          refine qs (y_move RF) ?_
          refine qs (y_move RF) ?_
          refine sq_bs Tryd.underlying22 ei25 (EvI.cons RF EvI.nil) (by first | (simp [Value.cells]; done) | (simp [Value.cells]; rfl) | (simp [Value.cells]; and_intros <;> rfl)) rfl rfl rfl (fun b72 => ?_)
          refine sq_append (news := [slV ((a10, c10), (rowJ cs q k (cntS np q n)))]) Tryd.underlying22 ei25 rfl (by decide) RF RM RF rfl (fun _ hw => news_blk hw MM) (by simp [slV, Value.oneCell']) (by omega) rfl (fun v73 ho73 => ?_)
          rw [show im.map slV ++ [slV ((a10, c10), (rowJ cs q k (cntS np q n)))] = (im ++ [((a10, c10), (rowJ cs q k (cntS np q n)))]).map slV from by simp, show im.length + 1 = (im ++ [((a10, c10), (rowJ cs q k (cntS np q n)))]).length from by simp]
          refine qs (y_assign RF) ?_
          refine sq_nil ?_
          refine sx_blk ?_
          refine sx_then ?_
          refine sc_region ?_
          refine qs (y_add RF RF (by omega)) ?_
          refine qs (y_move RF) ?_
          refine sq_nil ?_
          exact sx_round (k + 1, v73, v62, (im ++ [((a10, c10), (rowJ cs q k (cntS np q n)))]), ia ++ [((a10, c10), (rowJ cs q k (cntS np q n)))], (fun j => Dq j ∨ (Res.own (.slice a10 (rowJ cs q k (cntS np q n)).length c10) 3 1 (rowJ cs q k (cntS np q n)).length ((rowJ cs q k (cntS np q n)).flatMap iRow)).dom j), wj) ⟨by dsimp only; omega, ho73, ho62, by rw [List.map_append, hmm]; exact (if_pos hz0).symm, by rw [List.map_append, hma]; rfl, (fun x hx => by rcases List.mem_append.1 hx with hx | hx; exact hIm' x hx; rw [List.mem_singleton.1 hx]; exact hrj), fun x hx => by rcases List.mem_append.1 hx with hx | hx; exact hIa' x hx; rw [List.mem_singleton.1 hx]; exact hrj⟩ (by dsimp only; omega) SU SR
        ·
          have hz0 : ¬ (cs.getD k 0) &&& (freeN t.admits t.admits.length) = 0 := by omega
          refine sc_skip ?_
          refine sx_blk ?_
          refine sx_then ?_
          refine sc_region ?_
          refine qs (y_add RF RF (by omega)) ?_
          refine qs (y_move RF) ?_
          refine sq_nil ?_
          exact sx_round (k + 1, v7, v62, im, ia ++ [((a10, c10), (rowJ cs q k (cntS np q n)))], (fun j => Dq j ∨ (Res.own (.slice a10 (rowJ cs q k (cntS np q n)).length c10) 3 1 (rowJ cs q k (cntS np q n)).length ((rowJ cs q k (cntS np q n)).flatMap iRow)).dom j), wj) ⟨by dsimp only; omega, hv71, ho62, by rw [hmm]; exact (if_neg hz0).symm, by rw [List.map_append, hma]; rfl, hIm', fun x hx => by rcases List.mem_append.1 hx with hx | hx; exact hIa' x hx; rw [List.mem_singleton.1 hx]; exact hrj⟩ (by dsimp only; omega) SU SR
    ·
      have hkn : k = t.pieces := by omega
      subst k
      refine sc_exit ?_
      refine sx_then_exit ?_
      refine sx_round_exit ?_
      refine sx_blk_hit ?_
      refine sx_then ?_
      refine sc_seq ?_
      refine sc_own_dest (v := v7) (e := 25) (sz := 1) (m := im.length) (xs := im.map slV) MM (fun a7 c7 hv7 hmc7 hn7 => ?_)
      subst hv7
      refine sc_own_dest (v := v8) (e := 25) (sz := 1) (m := ia.length) (xs := ia.map slV) MM (fun a8 c8 hv8 hmc8 hn8 => ?_)
      subst hv8
      have hlm : im.length = (mustR cs (freeN t.admits t.admits.length) q (cntS np q n) t.pieces).length := by rw [← hmm, List.length_map]
      have hla : ia.length = (allR cs q (cntS np q n) t.pieces).length := by rw [← hma, List.length_map]
      have hlm2 := mustR_len cs (freeN t.admits t.admits.length) q (cntS np q n) t.pieces
      have hla2 := allR_len cs q (cntS np q n) t.pieces
      refine sc_region ?_
      refine qs (y_move RF) ?_
      refine qs (y_move RF) ?_
      refine qs (y_len Tryd.underlying25 RF) ?_
      refine qy (yc Tryd.call97 E2 (fun w1 hw1 => by rw [hsl]; exact matched97n w1 (mustR cs (freeN t.admits t.admits.length) q (cntS np q n) t.pieces) (cntS np q n) im.length hlm.symm a7 c7 _ _ (by rw [← hmm]; exact iv_at hw1 MM MM hIm (by omega)) hcn (full_mem (mustR_full _ _ _ _ _)))) ?_
      refine qs (y_move RF) ?_
      refine qs (y_len Tryd.underlying22 RF) ?_
      refine qs (y_eql RF RF) ?_
      refine qs (y_move RF) ?_
      refine sp 82 (fun hg26_7 => ?_) (fun hg26_7 => ?_)
      ·
        refine qg (y_move RF) ?_
        refine qg (y_move RF) ?_
        refine qg (y_len Tryd.underlying25 RF) ?_
        refine sq_gt RF RF (y_call (first := []) (caps := []) RF Tryd.call97 (EvL.cons RF (EvL.cons RF EvL.nil)) (fun w1 hw1 => by rw [hsl]; exact matched97n w1 (allR cs q (cntS np q n) t.pieces) (cntS np q n) ia.length hla.symm a8 c8 _ _ (by rw [← hma]; exact iv_at hw1 MM MM hIa (by omega)) hcn (full_mem (allR_full _ _ _ _)))) rfl ?_
        refine qg (y_move RF) ?_
        refine qg (y_len Tryd.underlying25 RF) ?_
        refine qg (y_eql RF RF) ?_
        refine qs (y_pick_t RF RF) ?_
        refine qs (y_assign RF) ?_
        refine sq_nil ?_
        refine sx_then ?_
        refine sc_ret ?_
        refine sx_ret1 (.inl rfl) rfl Tryd.results69 RF ?_
        intro w' hw'
        refine ⟨?_, hw'.below MM⟩
        have h1 : fitsB cs (freeN t.admits t.admits.length) q (cntS np q n) t.pieces = decide (cntM (allR cs q (cntS np q n) t.pieces) (cntS np q n) (allR cs q (cntS np q n) t.pieces).length = (cntS np q n)) := by
          unfold fitsB
          rw [decide_eq_true (show cntM (mustR cs (freeN t.admits t.admits.length) q (cntS np q n) t.pieces) (cntS np q n) (mustR cs (freeN t.admits t.admits.length) q (cntS np q n) t.pieces).length = (mustR cs (freeN t.admits t.admits.length) q (cntS np q n) t.pieces).length by omega), Bool.true_and]
        rw [h1]
        congr 2
        exact decide_eq_decide.2 (by omega)
      ·
        refine qf ?_
        refine qf ?_
        refine qf ?_
        refine qf ?_
        refine qf ?_
        refine qf ?_
        refine qf ?_
        refine qs (y_pick_f RF RF) ?_
        refine qs (y_assign RF) ?_
        refine sq_nil ?_
        refine sx_then ?_
        refine sc_ret ?_
        refine sx_ret1 (.inl rfl) rfl Tryd.results69 RF ?_
        intro w' hw'
        refine ⟨?_, hw'.below MM⟩
        unfold fitsB
        rw [decide_eq_false (show ¬ cntM (mustR cs (freeN t.admits t.admits.length) q (cntS np q n) t.pieces) (cntS np q n) (mustR cs (freeN t.admits t.admits.length) q (cntS np q n) t.pieces).length = (mustR cs (freeN t.admits t.admits.length) q (cntS np q n) t.pieces).length by omega), Bool.false_and]
end Go.Proofs.YtpijahglojichaaDoor
