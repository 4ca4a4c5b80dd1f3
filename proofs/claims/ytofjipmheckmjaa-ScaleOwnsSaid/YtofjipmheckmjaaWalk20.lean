/- The walk of Enough. -/
import Derived.Test.YtofjipmheckmjaaWalk15
namespace Go.Proofs.Ytofjipmheckmjaa
open Go Go.Eng Go.RowKit Go.Proofs
set_option maxRecDepth 100000
/-- what the first tests of a set cost -/
def costK (ts : List Te) (s : Nat) : Nat → Int
  | 0 => 0
  | k + 1 => costK ts s k + if inS s k = true then (ts.getD k te0).cost else 0
def goodS (b : Bx) (ts : List Te) (s : Nat) : Bool := (slipF b ts s).isNone
/-- the sets that are enough, of the first -/
def gL (b : Bx) (ts : List Te) : Nat → List Ch
  | 0 => []
  | k + 1 => if goodS b ts k = true then gL b ts k ++ [⟨k, costK ts k ts.length⟩] else gL b ts k
theorem gL_succ (b : Bx) (ts : List Te) (k : Nat) : gL b ts (k + 1) = if goodS b ts k = true then gL b ts k ++ [⟨k, costK ts k ts.length⟩] else gL b ts k := rfl
theorem gL_len (b : Bx) (ts : List Te) : ∀ k, (gL b ts k).length ≤ k
  | 0 => Nat.le_refl _
  | k + 1 => by
    have := gL_len b ts k
    rw [gL_succ]
    split
    · simp; omega
    · omega
def enoughR (b : Bx) (ts : List Te) : Int × Int × Int := if chk b [] ts ≠ 0 then (0, 0, chk b [] ts) else if (gL b ts (pw2 ts.length)).length = 0 then (0, 0, 4) else ((bestC (gL b ts (pw2 ts.length))).at_, (bestC (gL b ts (pw2 ts.length))).cost, 0)
theorem bit_val (x t : Nat) : (((((x : Int) / 2 ^ ((t : Nat) : Int).toNat).toNat &&& ((1 : Int)).toNat : Nat) : Int)) = if inS x t = true then 1 else 0 := by
  have h := bit_one x t
  have h1 : ∀ y : Nat, y &&& ((1 : Int)).toNat = y % 2 := fun y => by rw [show ((1 : Int)).toNat = 1 from rfl, Nat.and_one_is_mod]
  rw [h1] at h ⊢
  rw [← h]
  split
  · rename_i h2; exact of_decide_eq_true h2
  · rename_i h2
    have : ¬ _ := fun e => h2 (decide_eq_true e)
    omega
theorem cost_step (ts : List Te) (s k : Nat) : costK ts s k + (ts.getD k te0).cost * (((((s : Int) / 2 ^ ((k : Nat) : Int).toNat).toNat &&& ((1 : Int)).toNat : Nat) : Int)) = costK ts s (k + 1) := by
  rw [bit_val]
  show _ = costK ts s k + if _ then _ else _
  split <;> simp
theorem cost_bd {b : Bx} {ts : List Te} (h : ∀ t, t ∈ ts → teB b t = true) (s : Nat) : ∀ k, k ≤ ts.length → 0 ≤ costK ts s k ∧ costK ts s k ≤ 10000 * k
  | 0, _ => ⟨Int.le_refl _, Int.le_refl _⟩
  | k + 1, hk => by
    have ih := cost_bd h s k (by omega)
    have ht := (teB_parts (h _ (List.mem_of_getElem? (get_of_lt te0 (show k < ts.length by omega))))).2.2.2
    show 0 ≤ costK ts s k + (if _ then _ else _) ∧ costK ts s k + (if _ then _ else _) ≤ _
    split <;> omega
theorem cost_mul {b : Bx} {ts : List Te} (h : ∀ t, t ∈ ts → teB b t = true) (s k : Nat) (hk : k < ts.length) : 0 ≤ (ts.getD k te0).cost * (((((s : Int) / 2 ^ ((k : Nat) : Int).toNat).toNat &&& ((1 : Int)).toNat : Nat) : Int)) ∧ (ts.getD k te0).cost * (((((s : Int) / 2 ^ ((k : Nat) : Int).toNat).toNat &&& ((1 : Int)).toNat : Nat) : Int)) ≤ 10000 := by
  have ht := (teB_parts (h _ (List.mem_of_getElem? (get_of_lt te0 hk)))).2.2.2
  rw [bit_val]
  split <;> omega
theorem slipF_inc (b : Bx) (ts : List Te) (s : Int) : slipF b ts s = (incL b).find? (okSet b ts s) := by
  unfold slipF incL
  rw [List.find?_filter]
  congr 1
  funext h
  cases wholeV h <;> simp
theorem good_yes {b : Bx} {ts : List Te} {s : Nat} (h : ∀ q y, q < (incL b).length → (incL b)[q]? = some y → okSet b ts s y = false) : goodS b ts s = true := by
  unfold goodS; rw [slipF_inc, find_no h]; rfl
theorem good_no {b : Bx} {ts : List Te} {s p : Nat} {y : List Int} (hy : (incL b)[p]? = some y) (h : okSet b ts s y = true) : goodS b ts s = false := by
  unfold goodS; rw [slipF_inc]
  cases hf : (incL b).find? (okSet b ts s) with
  | some _ => rfl
  | none => exact absurd h (List.find?_eq_none.1 hf y (List.mem_of_getElem? hy))
/-- is a list caught by one of the first tests of a set? -/
def caughtK (b : Bx) (ts : List Te) (s : Nat) (h : List Int) (k : Nat) : Bool := (List.range k).any fun t => inS s t && !passV b (ts.getD t te0) h
theorem caughtK_succ (b : Bx) (ts : List Te) (s : Nat) (h : List Int) (k : Nat) : caughtK b ts s h (k + 1) = (caughtK b ts s h k || (inS s k && !passV b (ts.getD k te0) h)) := by
  unfold caughtK; rw [List.range_succ, List.any_append]; simp
theorem caughtK_all (b : Bx) (ts : List Te) (s : Nat) (h : List Int) : okSet b ts s h = !caughtK b ts s h ts.length := by
  unfold okSet caughtK
  rw [Bool.eq_iff_iff, List.all_eq_true]
  simp only [Bool.not_eq_true', List.any_eq_false]
  constructor <;> intro h1 t ht <;> have h2 := h1 t ht
  · cases hi : inS s t <;> simp_all
  · cases hi : inS s t <;> simp_all

theorem enough23 (w : World) (b : Bx) (a : Option Addr) (c : Nat) (hB : RowsA kdRow 3 0 w a b.kinds) (at_ : Option Addr) (ct : Nat) (ts : List Te) (ht : RowsA teRow 7 0 w at_ ts) : Calls Try.prog 23 #[.agg (bxRow b a c).toArray, .slice at_ ts.length ct] w fun e w' => e = .returned (.tuple #[.int .i64 (enoughR b ts).1, .int .i64 (enoughR b ts).2.1, .int .i64 (enoughR b ts).2.2]) ∧ Below w.heap.size w w' := by
  have htlen := ht.len
  refine calls_of_SC (args := [.agg (bxRow b a c).toArray, .slice at_ ts.length ct]) Try.func23 rfl Try.ntmps23 rfl ?_
  simp only [argL, Nat.zero_add]
  refine sc_seq ?_
  refine sc_region ?_
  refine sq_box RF rfl (fun b2 => ?_)
  refine qs (y_assign RF) ?_
  refine qs (y_assign RF) ?_
  refine qs (y_assign RF) ?_
  refine sq_nil ?_
  refine sx_then ?_
  refine sc_scope ?_
  refine sc_seq ?_
  refine sc_seq ?_
  refine sc_region ?_
  refine qs LD26 ?_
  refine qs (y_move RF) ?_
  refine qy (yc Try.call54 E3 (fun w1 hw1 => check54 w1 b a c (hB.at hw1 MM) none 0 [] (RowsA.nil 0 w1) at_ ct ts (ht.at hw1 MM))) ?_
  refine qs (y_assign RF) ?_
  refine sq_nil ?_
  refine sx_then ?_
  refine sc_seq ?_
  refine sc_region ?_
  refine qs (y_move RF) ?_
  refine qs (y_neq RF RF) ?_
  refine sq_nil ?_
  refine sx_then ?_
  refine scp (fun hc0 => ?_) (fun hc0 => ?_)
  ·
    refine sc_seq ?_
    refine sc_region ?_
    refine qs (y_move RF) ?_
    refine qs (y_assign RF) ?_
    refine qs (y_assign RF) ?_
    refine qs (y_assign RF) ?_
    refine sq_nil ?_
    refine sx_then ?_
    refine sc_ret ?_
    refine sx_then_ret ?_
    refine sx_scope_ret ?_
    refine sx_ret3 (.inl rfl) rfl Try.results23 RF RF RF ?_
    intro w' hw'
    refine ⟨?_, hw'.below MM⟩
    unfold enoughR; rw [if_pos (by simpa using hc0)]
  ·
    refine sc_skip ?_
    refine sx_then ?_
    refine sc_seq ?_
    have hz0 : chk b [] ts = 0 := by simpa using hc0
    have hz := chk_zero hz0
    have hall := allL_le hz.1
    have h8 := hz.2.2.1
    have hpw : pw2 ts.length ≤ 256 := Nat.pow_le_pow_right (n := 2) (by omega) h8
    have hpw1 := pw2_pos ts.length
    have hsh := pw2_shl ts.length
    refine sc_region ?_
    refine qs LD26 ?_
    refine qs (y_move RF) ?_
    refine sq_call_new (first := []) (caps := []) (Z := (Option Addr × (Nat → Option Addr) × Nat × (Nat → Nat)) × Nat) (fun z => .tuple #[.slice z.1.1 (incL b).length z.1.2.2.1, .map (some z.2)]) (fun lo w' z => w.heap.size ≤ lo ∧ IncN lo w' b ts z) RF Try.call55 (EvL.cons RF (EvL.cons RF EvL.nil)) (fun w1 hw1 => (incomplete55 w1 b a c (hB.at hw1 MM) hz.1 at_ ct ts (ht.at hw1 MM) hz.2.2.2.2 hz.2.2.1).mono (fun e w' ⟨z, he, hb, hL⟩ => ⟨z, he, hb, hw1.size, hL⟩)) rfl (fun lo wr zi hzi => ?_)
    refine qs (y_move RF) ?_
    refine qs (y_extract RF RF) ?_
    refine qs (y_extract RF RF) ?_
    refine qs (y_assign RF) ?_
    refine qs (y_assign RF) ?_
    refine sq_nil ?_
    refine sx_then ?_
    refine sc_seq ?_
    have hL := hzi.2.1
    have hllen := hL.len
    have hilen : (incL b).length ≤ 4096 := Nat.le_trans (List.length_filter_le _ _) hall
    refine sc_nil_own 99 2 ?_
    refine sc_region ?_
    refine qs (y_assign RF) ?_
    refine sq_nil ?_
    refine sx_then ?_
    refine sc_seq ?_
    refine sc_label ?_
    refine sx_then ?_
    refine sc_seq ?_
    refine sc_seq ?_
    refine sc_region ?_
    refine qs (y_move RF) ?_
    refine qs (y_len Try.underlying43 RF) ?_
    refine qs (y_shl RF RF (by omega) (by rw [hsh]; omega)) ?_
    rw [hsh]
    refine qs (y_move RF) ?_
    refine sq_nil ?_
    refine sx_then ?_
    refine sc_block ?_
    refine sc_loop (σ := Nat × Value)
      (fun s => [(1, .slice at_ ts.length ct), (8, .slice zi.1.1 (incL b).length zi.1.2.2.1), (9, .map (some zi.2)), (10, s.2), (34, .int .i64 (pw2 ts.length : Nat)), (35, .int .i64 s.1)])
      (fun s => .own s.2 99 2 (gL b ts s.1).length ((gL b ts s.1).flatMap chRow) :: [.reg lo wr, .blk b2 (.cells (bxRow b a c).toArray 26 (0, 0)), .reg 0 w])
      (fun s => s.1 ≤ pw2 ts.length ∧ s.2.oneCell' = true)
      (fun s => pw2 ts.length - s.1)
      ((0, .slice none 0 0)) ?_ SU SR ?_
    · exact ⟨Nat.zero_le _, rfl⟩
    rintro ⟨k, v10⟩ ⟨hk, hv10⟩
    dsimp only at hk hv10 ⊢
    refine sc_seq ?_
    refine sc_region ?_
    refine qs (y_lss RF RF) ?_
    refine sq_nil ?_
    refine sx_then ?_
    refine sc_seq ?_
    refine scp (fun hc1 => ?_) (fun hc1 => ?_)
    ·
      refine sc_skip ?_
      refine sx_then ?_
      refine sc_seq ?_
      refine sc_block ?_
      refine sc_seq ?_
      refine sc_region ?_
      refine qs (y_move RF) ?_
      refine qs (y_assign RF) ?_
      refine sq_nil ?_
      refine sx_then ?_
      refine sc_seq ?_
      refine sc_region ?_
      refine qs (y_move RF) ?_
      refine qs (y_build (cells := (chRow ⟨k, costK ts k 0⟩).toArray) bt99 (EvP.cons RF EvP.nil) (by kernel_rfl)) ?_
      refine sq_alloc Try.zeroValue99 rfl (fun b12 => ?_)
      refine sq_store_all Try.sizeOf99 RF RF rfl RM rfl rfl ?_
      refine sq_nil ?_
      refine sx_then ?_
      refine sc_seq ?_
      refine sc_seq ?_
      refine sc_region ?_
      refine qs (y_move RF) ?_
      refine qs (y_len Try.underlying43 RF) ?_
      refine qs (y_move RF) ?_
      refine sq_nil ?_
      refine sx_then ?_
      refine sc_block ?_
      refine sc_loop (σ := Nat)
        (fun s => [(1, .slice at_ ts.length ct), (8, .slice zi.1.1 (incL b).length zi.1.2.2.1), (9, .map (some zi.2)), (10, v10), (34, .int .i64 (pw2 ts.length : Nat)), (35, .int .i64 k), (11, .int .i64 k), (12, .pointer (some ⟨b12, 0, none⟩)), (40, .slice at_ ts.length ct), (41, .int .i64 ts.length), (42, .int .i64 s)])
        (fun s => .blk b12 (.cells (chRow ⟨k, costK ts k s⟩).toArray 99 (0, 0)) :: .own v10 99 2 (gL b ts k).length ((gL b ts k).flatMap chRow) :: [.reg lo wr, .blk b2 (.cells (bxRow b a c).toArray 26 (0, 0)), .reg 0 w])
        (fun s => s ≤ ts.length)
        (fun s => ts.length - s)
        (0) ?_ SU SR ?_
      · exact Nat.zero_le _
      rintro j hj
      refine sc_seq ?_
      refine sc_region ?_
      refine qs (y_lss RF RF) ?_
      refine sq_nil ?_
      refine sx_then ?_
      refine sc_seq ?_
      refine scp (fun hc2 => ?_) (fun hc2 => ?_)
      ·
        have hj' : j < ts.length := by omega
        have hsm := (ht.get te0 hj').1
        have hca := (ht.get te0 hj').2
        refine sc_skip ?_
        refine sx_then ?_
        refine sc_seq ?_
        refine sc_block ?_
        refine sc_seq ?_
        refine sc_region ?_
        refine qs (y_move RF) ?_
        refine qs IA43 ?_
        refine qs (by first | exact y_load_ca Try.underlying29 rfl Try.sizeOf29 RF MM hca rfl | exact LD29) ?_
        refine sq_alloc Try.zeroValue29 rfl (fun b14 => ?_)
        refine qs (y_assign RF) ?_
        refine sq_store_all Try.sizeOf29 RF RF rfl RM rfl rfl ?_
        refine sq_nil ?_
        refine sx_then ?_
        refine sc_drawR (by kernel_rfl) ?_
        refine xj_s 0 RF (by kernel_rfl) SR FA99_3 rfl ?_
        refine xj_s 1 RF (by kernel_rfl) SR LD3 rfl ?_
        refine xj_s 2 RF (by kernel_rfl) SR FA29_3 rfl ?_
        refine xj_s 3 RF (by kernel_rfl) SR LD3 rfl ?_
        refine xj_s 4 RF (by kernel_rfl) SR (y_move RF) rfl ?_
        refine xj_s 5 RF (by kernel_rfl) SR (y_move RF) rfl ?_
        refine xj_s 6 RF (by kernel_rfl) SR (y_shr RF RF (by simp [IntKind.bits]; omega)) rfl ?_
        refine xj_s 7 RF (by kernel_rfl) SR (y_and RF RF (shr_bd (by omega) j) (by omega)) rfl ?_
        refine xj_s 8 RF (by kernel_rfl) SR (y_mul RF RF (by have := cost_mul hz.2.2.2.2 k j hj'; omega)) rfl ?_
        refine xj_s 9 RF (by kernel_rfl) SR (y_add RF RF (by have := cost_mul hz.2.2.2.2 k j hj'; have := cost_bd hz.2.2.2.2 k j (by omega); dsimp only; omega)) rfl ?_
        rw [cost_step]
        refine xj_s 10 RF (by kernel_rfl) SR FA99_3 rfl ?_
        refine xj_one 11 RF (by kernel_rfl) ?_
        refine sq_store Try.sizeOf3 RF RF (by first | rfl | assumption) RM (by first | exact Nat.le_of_ble_eq_true rfl | simp | omega) ?_
        refine sq_nil ?_
        refine sx_xpl (by kernel_rfl) ?_
        refine xj_done (by kernel_rfl) ?_
        refine sx_blk ?_
        refine sx_then ?_
        refine sc_region ?_
        refine qs (y_add RF RF (by omega)) ?_
        refine qs (y_move RF) ?_
        refine sq_nil ?_
        refine sx_round (j + 1) ?_ ?_ SU SR
        · omega
        · omega
      ·
        have hjn : j = ts.length := by omega
        subst hjn
        refine sc_exit ?_
        refine sx_then_exit ?_
        refine sx_round_exit ?_
        refine sx_blk_hit ?_
        refine sx_then ?_
        refine sc_seq ?_
        refine sc_seq ?_
        refine sc_region ?_
        refine qs (y_move RF) ?_
        refine qs (y_len Try.underlying84 RF) ?_
        refine qs (y_move RF) ?_
        refine sq_nil ?_
        refine sx_then ?_
        refine sc_block ?_
        refine sc_loop (σ := Nat)
          (fun s => [(1, .slice at_ ts.length ct), (8, .slice zi.1.1 (incL b).length zi.1.2.2.1), (9, .map (some zi.2)), (10, v10), (34, .int .i64 (pw2 ts.length : Nat)), (35, .int .i64 k), (11, .int .i64 k), (12, .pointer (some ⟨b12, 0, none⟩)), (59, .slice zi.1.1 (incL b).length zi.1.2.2.1), (60, .int .i64 (incL b).length), (61, .int .i64 s)])
          (fun s => .blk b12 (.cells (chRow ⟨k, costK ts k ts.length⟩).toArray 99 (0, 0)) :: .own v10 99 2 (gL b ts k).length ((gL b ts k).flatMap chRow) :: [.reg lo wr, .blk b2 (.cells (bxRow b a c).toArray 26 (0, 0)), .reg 0 w])
          (fun s => s ≤ (incL b).length ∧ ∀ q y, q < s → (incL b)[q]? = some y → okSet b ts k y = false)
          (fun s => (incL b).length - s)
          (0) ?_ SU SR ?_
        · exact ⟨Nat.zero_le _, fun q y hq => absurd hq (Nat.not_lt_zero q)⟩
        rintro p ⟨hp, hno⟩
        refine sc_seq ?_
        refine sc_region ?_
        refine qs (y_lss RF RF) ?_
        refine sq_nil ?_
        refine sx_then ?_
        refine sc_seq ?_
        refine scp (fun hc3 => ?_) (fun hc3 => ?_)
        ·
          have hp' : p < (incL b).length := by omega
          obtain ⟨h, hph⟩ : ∃ h, (incL b)[p]? = some h := ⟨_, List.getElem?_eq_getElem hp'⟩
          have hgd : (incL b).getD p [] = h := getD_of hph
          refine sc_skip ?_
          refine sx_then ?_
          refine sc_seq ?_
          refine sc_block ?_
          refine sc_seq ?_
          refine sc_region ?_
          refine qs (y_move RF) ?_
          refine qs (y_assign RF) ?_
          refine sq_nil ?_
          refine sx_then ?_
          refine sc_seq ?_
          refine sc_region ?_
          refine qs (y_assign RF) ?_
          refine sq_nil ?_
          refine sx_then ?_
          refine sc_seq ?_
          refine sc_seq ?_
          refine sc_region ?_
          refine qs (y_move RF) ?_
          refine qs (y_len Try.underlying43 RF) ?_
          refine qs (y_move RF) ?_
          refine sq_nil ?_
          refine sx_then ?_
          refine sc_block ?_
          refine sc_loop (σ := Nat × Bool)
            (fun s => [(1, .slice at_ ts.length ct), (8, .slice zi.1.1 (incL b).length zi.1.2.2.1), (9, .map (some zi.2)), (10, v10), (34, .int .i64 (pw2 ts.length : Nat)), (35, .int .i64 k), (11, .int .i64 k), (12, .pointer (some ⟨b12, 0, none⟩)), (59, .slice zi.1.1 (incL b).length zi.1.2.2.1), (60, .int .i64 (incL b).length), (61, .int .i64 p), (15, .int .i64 p), (16, .bool s.2), (64, .slice at_ ts.length ct), (65, .int .i64 ts.length), (66, .int .i64 s.1)])
            (fun s => .blk b12 (.cells (chRow ⟨k, costK ts k ts.length⟩).toArray 99 (0, 0)) :: .own v10 99 2 (gL b ts k).length ((gL b ts k).flatMap chRow) :: [.reg lo wr, .blk b2 (.cells (bxRow b a c).toArray 26 (0, 0)), .reg 0 w])
            (fun s => s.1 ≤ ts.length ∧ s.2 = caughtK b ts k h s.1)
            (fun s => ts.length - s.1)
            ((0, false)) ?_ SU SR ?_
          · exact ⟨Nat.zero_le _, rfl⟩
          rintro ⟨j, g⟩ ⟨hj, hg⟩
          dsimp only at hj hg ⊢
          refine sc_seq ?_
          refine sc_region ?_
          refine qs (y_lss RF RF) ?_
          refine sq_nil ?_
          refine sx_then ?_
          refine sc_seq ?_
          refine scp (fun hc4 => ?_) (fun hc4 => ?_)
          ·
            have ht' : j < ts.length := by omega
            have hin : ((j, p), Value.bool (passV b (ts.getD j te0) h)) ∈ mapL b ts (incL b) := mapL_mem.2 ⟨hp', ht', by dsimp only; rw [hgd]⟩
            have hone : ∀ v', ((j, p), v') ∈ mapL b ts (incL b) → v' = .bool (passV b (ts.getD j te0) h) := fun v' hv' => by have := (mapL_mem.1 hv').2.2; dsimp only at this; rw [hgd] at this; exact this
            refine sc_skip ?_
            refine sx_then ?_
            refine sc_seq ?_
            refine sc_block ?_
            refine sc_seq ?_
            refine sc_region ?_
            refine qs (y_move RF) ?_
            refine qs (y_assign RF) ?_
            refine sq_nil ?_
            refine sx_then ?_
            refine sc_region ?_
            refine qs (y_move RF) ?_
            refine qs (y_move RF) ?_
            refine sp 70 (fun hg22_1 => ?_) (fun hg22_1 => ?_)
            ·
              refine qf ?_
              refine qf ?_
              refine qf ?_
              refine qf ?_
              refine qf ?_
              refine qf ?_
              refine sq_gu RF RF rfl ?_
              refine sq_gu RF RF rfl ?_
              refine sq_gu RF RF rfl ?_
              refine sq_gu RF RF rfl ?_
              refine sq_gu RF RF rfl ?_
              refine sq_gu RF RF rfl ?_
              refine qf ?_
              refine qs (y_pick_t RF RF) ?_
              refine qs (y_assign RF) ?_
              refine sq_nil ?_
              refine sx_blk ?_
              refine sx_then ?_
              refine sc_region ?_
              refine qs (y_add RF RF (by omega)) ?_
              refine qs (y_move RF) ?_
              refine sq_nil ?_
              refine sx_round ((j + 1, true)) ?_ ?_ SU SR
              · refine ⟨by omega, ?_⟩
                dsimp only
                rw [caughtK_succ, ← hg, hg22_1]; rfl
              · omega
            ·
              refine qg (y_move RF) ?_
              refine qg (y_move RF) ?_
              refine qg (y_shr RF RF (by simp [IntKind.bits]; omega)) ?_
              refine qg (y_and RF RF (shr_bd (by omega) j) (by omega)) ?_
              refine qg (y_eql RF RF) ?_
              rw [bit_one]
              refine qg (y_move RF) ?_
              refine spb 76 (fun hg22_7 => ?_) (fun hg22_7 => ?_)
              ·
                refine qg (y_move RF) ?_
                refine qg (y_move RF) ?_
                refine qg (y_move RF) ?_
                refine qg (y_build_arr (cells := #[.int .i64 j, .int .i64 p]) Try.underlying94 Try.zeroValue94 Try.sizeOf3 (EvP.cons RF (EvP.cons RF EvP.nil)) (by kernel_rfl)) ?_
                refine qg (y_lookup2 (i := j) (j := p) (v := .bool (passV b (ts.getD j te0) h)) key94 (B := 1000000) key94_of (map_bd hz.1 hz.2.2.1) (by omega) (by omega) Try.underlying91 RF (fun _ hw => heap_reg hw MM hzi.2.2.1 hzi.2.2.2) RF hin hone) ?_
                refine qg (y_not RF) ?_
                refine qg (y_pick_t RF RF) ?_
                refine qs (y_pick_f RF RF) ?_
                refine qs (y_assign RF) ?_
                refine sq_nil ?_
                refine sx_blk ?_
                refine sx_then ?_
                refine sc_region ?_
                refine qs (y_add RF RF (by omega)) ?_
                refine qs (y_move RF) ?_
                refine sq_nil ?_
                refine sx_round ((j + 1, !passV b (ts.getD j te0) h)) ?_ ?_ SU SR
                · refine ⟨by omega, ?_⟩
                  dsimp only
                  rw [caughtK_succ, ← hg, hg22_1, hg22_7]; rfl
                · omega
              ·
                refine qf ?_
                refine qf ?_
                refine qf ?_
                refine qf ?_
                refine qf ?_
                refine qf ?_
                refine qg (y_pick_f RF RF) ?_
                refine qs (y_pick_f RF RF) ?_
                refine qs (y_assign RF) ?_
                refine sq_nil ?_
                refine sx_blk ?_
                refine sx_then ?_
                refine sc_region ?_
                refine qs (y_add RF RF (by omega)) ?_
                refine qs (y_move RF) ?_
                refine sq_nil ?_
                refine sx_round ((j + 1, false)) ?_ ?_ SU SR
                · refine ⟨by omega, ?_⟩
                  dsimp only
                  rw [caughtK_succ, ← hg, hg22_1, hg22_7]; rfl
                · omega
          ·
            have hjn : j = ts.length := by omega
            subst hjn
            subst hg
            refine sc_exit ?_
            refine sx_then_exit ?_
            refine sx_round_exit ?_
            refine sx_blk_hit ?_
            refine sx_then ?_
            refine sc_seq ?_
            refine sc_region ?_
            refine qs (y_move RF) ?_
            refine qs (y_not RF) ?_
            refine sq_nil ?_
            refine sx_then ?_
            refine scp (fun hc5 => ?_) (fun hc5 => ?_)
            ·
              have hbad : goodS b ts k = false := good_no hph (by rw [caughtK_all]; simpa using hc5)
              rw [show gL b ts k = gL b ts (k + 1) from by rw [gL_succ, if_neg (by rw [hbad]; decide)]]
              refine sc_exit ?_
              refine sx_blk_miss rfl ?_
              refine sx_then_exit ?_
              refine sx_round_exit ?_
              refine sx_blk_miss rfl ?_
              refine sx_then_exit ?_
              refine sx_blk_hit ?_
              refine sx_then ?_
              refine sc_region ?_
              refine qs (y_add RF RF (by omega)) ?_
              refine qs (y_move RF) ?_
              refine sq_nil ?_
              refine sx_round ((k + 1, v10)) ?_ ?_ SU SR
              · exact ⟨by omega, hv10⟩
              · omega
            ·
              refine sc_skip ?_
              refine sx_blk ?_
              refine sx_then ?_
              refine sc_region ?_
              refine qs (y_add RF RF (by omega)) ?_
              refine qs (y_move RF) ?_
              refine sq_nil ?_
              refine sx_round (p + 1) ?_ ?_ SU SR
              · refine ⟨by omega, fun q y hq hy => ?_⟩
                rcases Nat.lt_succ_iff_lt_or_eq.1 hq with h9 | rfl
                · exact hno q y h9 hy
                · rw [hph] at hy; injection hy with hy; subst hy
                  rw [caughtK_all]; simpa using hc5
              · omega
        ·
          have hpn : p = (incL b).length := by omega
          subst hpn
          have hgood : goodS b ts k = true := good_yes hno
          have hglen := gL_len b ts k
          refine sc_exit ?_
          refine sx_then_exit ?_
          refine sx_round_exit ?_
          refine sx_blk_hit ?_
          refine sx_then ?_
          refine sc_region ?_
          refine qs (y_move RF) ?_
          refine qs LD99 ?_
          refine sq_bs Try.underlying97 ei99 (EvI.cons RF EvI.nil) (by first | (simp [Value.cells]; done) | (simp [Value.cells]; rfl) | (simp [Value.cells]; and_intros <;> rfl)) rfl rfl rfl (fun b91 => ?_)
          refine sq_append (news := chRow ⟨k, costK ts k ts.length⟩) Try.underlying97 ei99 rfl (by decide) RF RM RF rfl (fun _ hw => news_blk hw MM) (by simp [chRow, Value.oneCell']) (by omega) rfl (fun v92 ho92 => ?_)
          rw [show (gL b ts k).flatMap chRow ++ chRow ⟨k, costK ts k ts.length⟩ = (gL b ts (k + 1)).flatMap chRow from by rw [gL_succ, if_pos hgood, List.flatMap_append]; simp, show (gL b ts k).length + 1 = (gL b ts (k + 1)).length from by rw [gL_succ, if_pos hgood]; simp]
          refine qs (y_assign RF) ?_
          refine sq_nil ?_
          refine sx_blk ?_
          refine sx_then ?_
          refine sc_region ?_
          refine qs (y_add RF RF (by omega)) ?_
          refine qs (y_move RF) ?_
          refine sq_nil ?_
          refine sx_round ((k + 1, v92)) ?_ ?_ SU SR
          · exact ⟨by omega, ho92⟩
          · omega
    ·
      have hkn : k = pw2 ts.length := by omega
      subst hkn
      refine sc_exit ?_
      refine sx_then_exit ?_
      refine sx_round_exit ?_
      refine sx_blk_hit ?_
      refine sx_then ?_
      refine sc_seq ?_
      refine sc_region ?_
      refine qs (y_move RF) ?_
      refine qy (yc Try.call58 E1 (fun w1 hw1 => best58v w1 v10 _ (hw1.ok (Res.own v10 99 2 (gL b ts (pw2 ts.length)).length ((gL b ts (pw2 ts.length)).flatMap chRow)) MM) (by have := gL_len b ts (pw2 ts.length); omega))) ?_
      refine qs (y_move RF) ?_
      refine qs (y_extract RF RF) ?_
      refine qs (y_extract RF RF) ?_
      refine sq_alloc Try.zeroValue99 rfl (fun b18 => ?_)
      refine sq_store_all Try.sizeOf99 RF RF rfl RM rfl rfl ?_
      refine qs (y_assign RF) ?_
      refine sq_nil ?_
      refine sx_then ?_
      refine sc_seq ?_
      refine sc_seq ?_
      refine sc_region ?_
      refine qs (y_move RF) ?_
      refine qs (y_not RF) ?_
      refine sq_nil ?_
      refine sx_then ?_
      refine scp (fun hc6 => ?_) (fun hc6 => ?_)
      ·
        refine sc_seq ?_
        refine sc_region ?_
        refine qs (y_assign RF) ?_
        refine qs (y_assign RF) ?_
        refine qs (y_assign RF) ?_
        refine sq_nil ?_
        refine sx_then ?_
        refine sc_ret ?_
        refine sx_then_ret ?_
        refine sx_scope_ret ?_
        refine sx_ret3 (.inl rfl) rfl Try.results23 RF RF RF ?_
        intro w' hw'
        refine ⟨?_, hw'.below MM⟩
        have h0 : (gL b ts (pw2 ts.length)).length = 0 := by simpa using hc6
        unfold enoughR; rw [if_neg (by simpa using hz0), if_pos h0]
      ·
        refine sc_skip ?_
        refine sx_then ?_
        refine sc_seq ?_
        refine sc_drawR (by kernel_rfl) ?_
        refine xj_s 0 RF (by kernel_rfl) SR FA99_3 rfl ?_
        refine xj_s 1 RF (by kernel_rfl) SR LD3 rfl ?_
        refine xj_s 2 RF (by kernel_rfl) SR FA99_3 rfl ?_
        refine xj_s 3 RF (by kernel_rfl) SR LD3 rfl ?_
        refine xj_s 4 RF (by kernel_rfl) SR (y_assign RF) rfl ?_
        refine xj_s 5 RF (by kernel_rfl) SR (y_assign RF) rfl ?_
        refine xj_s 6 RF (by kernel_rfl) SR (y_assign RF) rfl ?_
        refine xj_done (by kernel_rfl) ?_
        refine sx_then ?_
        refine sc_ret ?_
        refine sx_scope_ret ?_
        refine sx_ret3 (.inl rfl) rfl Try.results23 RF RF RF ?_
        intro w' hw'
        refine ⟨?_, hw'.below MM⟩
        have h0 : ¬ (gL b ts (pw2 ts.length)).length = 0 := by have h4 := hc6; omega
        unfold enoughR; rw [if_neg h0, if_neg (by simpa using hz0), if_neg h0]; rfl
end Go.Proofs.Ytofjipmheckmjaa
