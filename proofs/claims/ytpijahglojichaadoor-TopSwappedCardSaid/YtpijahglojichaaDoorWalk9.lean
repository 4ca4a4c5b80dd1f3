/- The walks of Rings, and of what goes round a ring. -/
import Derived.Test.YtpijahglojichaaDoorWalk8
import Derived.Test.YtpijahglojichaaDoorLawR
namespace Go.Eng
open Go Go.RowKit
theorem reg_rowsS {α : Type} {row : α → List Value} {sz lo : Nat} {wr w : World} {a : Option Addr} {l : List α} (D : Nat → Prop) (h : RowsA row sz lo wr a l) (hok : (Res.reg lo wr).ok w) : RowsS row sz (fun k => D k ∨ (Res.reg lo wr).dom k) w a l :=
  ⟨fun i x hi => ⟨(h.el i x hi).1, fun j v hj => by
    have hc := (h.el i x hi).2.2 j v hj
    have hlo := (h.el i x hi).2.1
    have hlt := block_lt_of_cell hc
    rw [Addr.add_block] at hlt
    exact ⟨.inr ⟨hlo, hlt⟩, (World.cell?_of_block (w := wr) (by rw [Addr.add_block]; exact hok.2 _ hlo hlt)).trans hc⟩⟩, h.len⟩
end Go.Eng
namespace Go.Proofs.YtpijahglojichaaDoor
open Go Go.Eng Go.RowKit Go.Proofs
set_option maxRecDepth 100000
def boolC (S : Nat → Bool) : List Value := (List.range 7).map fun k => Value.bool (S k)
theorem boolC_get (S : Nat → Bool) {k : Nat} (h : k < 7) : (boolC S).toArray[0 + k * 1]? = some (.bool (S k)) := by
  rw [Nat.zero_add, Nat.mul_one]; simp [boolC, h]
theorem boolC_set (S : Nat → Bool) {k : Nat} (_ : k < 7) : (boolC S).toArray.setIfInBounds (0 + k * 1) (.bool true) = (boolC fun x => S x || (k == x)).toArray := by
  apply Array.ext_getElem?
  intro i
  rw [Nat.zero_add, Nat.mul_one]
  by_cases hi : i < 7
  · by_cases e : k = i
    · subst e; simp [boolC, hi]
    · rw [Array.getElem?_setIfInBounds_ne e]; simp [boolC, hi, e]
  · rw [Array.getElem?_eq_none (by simp [boolC]; omega), Array.getElem?_eq_none (by simp [boolC]; omega)]
theorem boolC_size (S : Nat → Bool) : (boolC S).toArray.size = 7 := by simp [boolC]
/-- so many persons of a ring -/
def rl (g : Nat → Nat) (i j : Nat) : List Int := (List.range j).map fun t => ((it g t i : Nat) : Int)
theorem rl_succ (g : Nat → Nat) (i j : Nat) : rl g i (j + 1) = rl g i j ++ [((it g j i : Nat) : Int)] := by unfold rl; rw [List.range_succ, List.map_append]; rfl
theorem rl_len (g : Nat → Nat) (i j : Nat) : (rl g i j).length = j := by unfold rl; simp
def seenJ (g : Nat → Nat) (n i j : Nat) : Nat → Bool := fun x => seenB g n i x || (List.range j).any fun t => it g t i == x
theorem seenJ_succ (g : Nat → Nat) (n i j : Nat) : (fun x => seenJ g n i j x || (it g j i == x)) = seenJ g n i (j + 1) := by
  funext x
  unfold seenJ
  rw [List.range_succ, List.any_append, Bool.or_assoc]; simp
theorem boolC_zero {g : Nat → Nat} {n : Nat} (h : Pm g n) : (Value.agg #[.bool false, .bool false, .bool false, .bool false, .bool false, .bool false, .bool false]).cells = (boolC (seenB g n 0)).toArray := by
  rw [show seenB g n 0 = fun _ => false from funext fun x => h.seen_zero x]; rfl
theorem seenJ_zero (g : Nat → Nat) (n i : Nat) : seenJ g n i 0 = seenB g n i := by funext x; unfold seenJ; simp
theorem ring_done {g : Nat → Nat} {n i j : Nat} (h : Pm g n) (hi : i < n) (hj : j ≤ per g n i) (hz : j ≠ 0 → seenB g n i i = false) (hs : seenJ g n i j (it g j i) = true) : rl g i j = ringAt g n i ∧ seenJ g n i j = seenB g n (i + 1) := by
  have hself := seen_self h hi
  have hpos := (h.perF hi).pos
  by_cases h1 : seenB g n i (it g j i) = true
  · rw [h.seen_same hi ⟨j, rfl⟩] at h1
    have hj0 : j = 0 := by
      rcases Nat.eq_zero_or_pos j with h2 | h2
      · exact h2
      · rw [hz (by omega)] at h1; cases h1
    subst hj0
    have hne : ¬ leastC g n i = (i : Int) := fun e => by rw [hself, decide_eq_true e] at h1; cases h1
    refine ⟨by unfold ringAt; rw [if_neg hne]; rfl, ?_⟩
    rw [seenJ_zero]
    funext x
    rw [h.seen_next hi x, decide_eq_false hne, Bool.false_and, Bool.or_false]
  · have h2 : ((List.range j).any fun t => it g t i == it g j i) = true := by
      unfold seenJ at hs
      cases hq : seenB g n i (it g j i) with
      | true => exact absurd hq h1
      | false => rw [hq, Bool.false_or] at hs; exact hs
    have hjp := (ring_stop h hi hj).1 h2
    subst hjp
    have h3 := hz (by omega)
    rw [hself] at h3
    have he : leastC g n i = (i : Int) := by simpa using h3
    refine ⟨by unfold ringAt; rw [if_pos he]; rfl, ?_⟩
    funext x
    rw [h.seen_next hi x, decide_eq_true he, Bool.true_and]; rfl
theorem ring_on {g : Nat → Nat} {n i j : Nat} (h : Pm g n) (hi : i < n) (hj : j ≤ per g n i) (hs : seenJ g n i j (it g j i) = false) : j + 1 ≤ per g n i ∧ seenB g n i i = false := by
  unfold seenJ at hs
  rw [Bool.or_eq_false_iff, h.seen_same hi ⟨j, rfl⟩] at hs
  refine ⟨?_, hs.1⟩
  rcases Nat.lt_or_eq_of_le hj with h1 | h1
  · exact h1
  · rw [(ring_stop h hi hj).2 h1] at hs; exact absurd hs.2 (by decide)
/-- lists with where they lie -/
abbrev Iv := List ((Option Addr × Nat) × List Int)
def slV (q : (Option Addr × Nat) × List Int) : Value := .slice q.1.1 q.2.length q.1.2
theorem slV_one (iv : Iv) : ∀ u, u ∈ iv.map slV → u.oneCell' = true := fun u hu => by
  obtain ⟨q, _, rfl⟩ := List.mem_map.1 hu; rfl
def vRow (v : Value) : List Value := [v]
theorem flat_v (l : List Value) : l.flatMap vRow = l := by
  induction l with
  | nil => rfl
  | cons a l ih => rw [List.flatMap_cons, ih]; rfl
theorem iv_lsA {w0 w wr : World} {rs : List Res} {D : Nat → Prop} {v : Value} {e : TypeId} {iv : Iv} (hw : Hp w0 rs w) (hm : Res.own v e 1 iv.length (iv.map slV) ∈ rs) (hs : Res.set D wr ∈ rs) (hr : Res.reg 0 w0 ∈ rs) (hI : ∀ q, q ∈ iv → RowsS iRow 1 D wr q.1.1 q.2) (hb : iv.length ≤ 1000000) : ∃ q : (Option Addr × Nat) × (Nat → Option Addr) × (Nat → Nat), v = .slice q.1.1 iv.length q.1.2 ∧ LsA w0.heap.size w q.1.1 q.2.1 q.2.2 (iv.map (·.2)) := by
  have ho := own_new_mem hw hm hr
  rw [← flat_v (iv.map slV)] at ho
  obtain ⟨a, c, hv, _, hrr⟩ := own_rowsA (row := vRow) (fun _ => rfl) ho (by simp) (by omega)
  refine ⟨((a, c), (fun i => (iv.getD i ((none, 0), [])).1.1), fun i => (iv.getD i ((none, 0), [])).1.2), hv, ⟨fun i r hi => ?_, by simp; omega⟩⟩
  rw [List.getElem?_map] at hi
  obtain ⟨q, hq, rfl⟩ := Option.map_eq_some_iff.1 hi
  have h1 := hrr.el i (slV q) (by rw [List.getElem?_map, hq]; rfl)
  have h2 := hI q (List.mem_of_getElem? hq)
  have hg : iv.getD i ((none, 0), []) = q := getD_of hq
  dsimp only
  rw [hg]
  exact ⟨h1.1, h1.2, h2.new (fun x => by unfold iRow; simp) hw hs hr⟩

theorem Rings18 (w : World) (a : Option Addr) (c : Nat) (o : List Int) (ho : RowsA iRow 1 0 w a o) (h1000 : o.length ≤ 1000) : Calls Tryd.prog 18 #[.slice a o.length c] w fun e w' => ∃ q : (Option Addr × Nat) × (Nat → Option Addr) × (Nat → Nat), e = .returned (.tuple #[.slice q.1.1 (ringsR o).1.length q.1.2, .int .i64 (ringsR o).2]) ∧ Below w.heap.size w w' ∧ LsA w.heap.size w' q.1.1 q.2.1 q.2.2 (ringsR o).1 := by
  have hlen := ho.len
  refine calls_of_SC (args := [.slice a o.length c]) Tryd.func18 rfl Tryd.ntmps18 rfl ?_
  simp only [argL]
  refine sc_seq ?_
  refine sc_region ?_
  refine qs (y_assign RF) ?_
  refine qs (y_assign RF) ?_
  refine sq_nil ?_
  refine sx_then ?_
  refine sc_seq ?_
  refine sc_seq ?_
  refine sc_midE (Z := {v : Bool // (o.length ≤ 7 ∧ ordB o o.length = true → v = false) ∧ (v = false → o.length ≤ 7 ∧ ordB o o.length = true)}) (fun v => [(0, .slice a o.length c), (2, .slice none 0 0), (3, .int .i64 0), (17, .bool v.1)]) (fun _ => [.reg 0 w]) ?_ ?_
  ·
    refine sc_region ?_
    refine qs (y_move RF) ?_
    refine qs (y_len Tryd.underlying25 RF) ?_
    refine qs (y_gtr RF RF) ?_
    refine qs (y_move RF) ?_
    refine sp 11 (fun hg1_3 => ?_) (fun hg1_3 => ?_)
    ·
      refine qf ?_
      refine qf ?_
      refine qf ?_
      refine qf ?_
      refine qf ?_
      refine qs (y_pick_t RF RF) ?_
      refine sq_nil ?_
      exact sx_midE (⟨true, (fun h => by omega), (fun h => by cases h)⟩) SU SR
    ·
      refine qg (y_move RF) ?_
      refine qg (y_move RF) ?_
      refine qg (y_len Tryd.underlying25 RF) ?_
      refine sq_gt RF RF (y_call (first := []) (caps := []) RF Tryd.call42 (EvL.cons RF (EvL.cons RF EvL.nil)) (fun w1 hw1 => isExchange42 w1 a c o (ho.at hw1 MM) h1000 o.length)) rfl ?_
      refine qg (y_not RF) ?_
      refine qs (y_pick_f RF RF) ?_
      refine sq_nil ?_
      exact sx_midE (⟨!ordB o o.length, (fun h => by rw [h.2]; rfl), (fun h => ⟨by omega, by simpa using h⟩)⟩) SU SR
  rintro ⟨vb, hvb, hvb2⟩
  try dsimp only
  refine sx_then ?_
  refine scp (fun hc0 => ?_) (fun hc0 => ?_)
  ·
    refine sc_seq ?_
    refine sc_region ?_
    refine qs (y_assign RF) ?_
    refine qs (y_assign RF) ?_
    refine sq_nil ?_
    refine sx_then ?_
    refine sc_ret ?_
    refine sx_then_ret ?_
    refine sx_ret2 (.inl rfl) rfl Tryd.results18 RF RF ?_
    intro w' hw'
    have hbad : ringsR o = ([], 2) := by
      unfold ringsR
      exact if_neg (fun h => by have := hvb h; rw [this] at hc0; cases hc0)
    rw [hbad]
    exact ⟨((none, 0), (fun _ => none), fun _ => 0), rfl, hw'.below MM, ⟨fun i r hi => by simp at hi, by simp⟩⟩
  ·
    have hgood : o.length ≤ 7 ∧ ordB o o.length = true := hvb2 hc0
    obtain ⟨ho7, hord⟩ := hgood
    have hpm := ord_pm hord
    refine sc_skip ?_
    refine sx_then ?_
    refine sc_seq ?_
    refine sc_region ?_
    refine sq_alloc (z := .agg #[.bool false, .bool false, .bool false, .bool false, .bool false, .bool false, .bool false]) Tryd.zeroValue50 rfl (fun b4 => ?_)
    rw [boolC_zero hpm]
    refine sq_nil ?_
    refine sx_then ?_
    refine sc_seq ?_
    refine sc_seq ?_
    refine sc_nil_own 25 1 ?_
    refine sc_set0 (fun wS0 => ?_)
    refine sc_region ?_
    refine qs (y_move RF) ?_
    refine qs (y_len Tryd.underlying25 RF) ?_
    refine qs (y_move RF) ?_
    refine sq_nil ?_
    refine sx_then ?_
    refine sc_block ?_
    refine sc_loop (σ := Nat × Value × Iv × (Nat → Prop) × World)
      (fun s_ => [(0, .slice a o.length c), (3, .int .i64 0), (4, .pointer (some ⟨b4, 0, none⟩)), (18, .slice a o.length c), (19, .int .i64 o.length), (2, s_.2.1), (20, .int .i64 s_.1)])
      (fun s_ => [.own s_.2.1 25 1 s_.2.2.1.length (s_.2.2.1.map slV), .set s_.2.2.2.1 s_.2.2.2.2, .blk b4 (.cells (boolC (seenB (getN o) o.length s_.1)).toArray 50 (0, 0)), .reg 0 w])
      (fun s_ => s_.1 ≤ o.length ∧ s_.2.1.oneCell' = true ∧ s_.2.2.1.map (·.2) = ringsN (getN o) o.length s_.1 ∧ s_.2.2.1.length ≤ s_.1 ∧ ∀ q, q ∈ s_.2.2.1 → RowsS iRow 1 s_.2.2.2.1 s_.2.2.2.2 q.1.1 q.2)
      (fun s_ => o.length - s_.1)
      ((0, .slice none 0 0, [], (fun _ => False), wS0)) ?_ (by refine SubL.cons rfl (SubL.cons rfl (SubL.cons rfl (SubL.cons rfl (SubL.cons rfl (SubL.cons rfl (SubL.cons rfl SubL.nil)))))))  SR ?_
    · exact ⟨Nat.zero_le _, rfl, rfl, Nat.le_refl _, fun q hq => by cases hq⟩
    rintro ⟨i, vO, iv, Dd, wS⟩ ⟨hi, hvO, hiv, hil, hI⟩
    dsimp only at hi hvO hiv hil hI ⊢
    refine sc_seq ?_
    refine sc_region ?_
    refine qs (y_lss RF RF) ?_
    refine sq_nil ?_
    refine sx_then ?_
    refine sc_seq ?_
    refine scp (fun hc1 => ?_) (fun hc1 => ?_)
    ·
      have hi' : i < o.length := by omega
      refine sc_skip ?_
      refine sx_then ?_
      refine sc_seq ?_
      refine sc_block ?_
      refine sc_seq ?_
      refine sc_region ?_
      refine qs (y_move RF) ?_
      refine qs (y_assign RF) ?_
      refine sq_nil ?_
      refine sx_then ?_
      refine sc_seq ?_
      refine sc_region ?_
      refine qs (y_assign RF) ?_
      refine sq_nil ?_
      refine sx_then ?_
      refine sc_seq ?_
      refine sc_seq ?_
      refine sc_nil_own 3 1 ?_
      refine sc_region ?_
      refine qs (y_move RF) ?_
      refine qs (y_assign RF) ?_
      refine sq_nil ?_
      refine sx_then ?_
      refine sc_block ?_
      rw [← seenJ_zero]
      refine sc_loop (σ := Nat × Value)
        (fun s_ => [(0, .slice a o.length c), (3, .int .i64 0), (4, .pointer (some ⟨b4, 0, none⟩)), (18, .slice a o.length c), (19, .int .i64 o.length), (2, vO), (20, .int .i64 i), (5, .int .i64 i), (6, s_.2), (7, .int .i64 ((it (getN o) s_.1 i : Nat) : Int))])
        (fun s_ => [.own s_.2 3 1 (rl (getN o) i s_.1).length ((rl (getN o) i s_.1).flatMap iRow), .own vO 25 1 iv.length (iv.map slV), .set Dd wS, .blk b4 (.cells (boolC (seenJ (getN o) o.length i s_.1)).toArray 50 (0, 0)), .reg 0 w])
        (fun s_ => s_.1 ≤ per (getN o) o.length i ∧ (s_.1 ≠ 0 → seenB (getN o) o.length i i = false) ∧ s_.2.oneCell' = true)
        (fun s_ => per (getN o) o.length i - s_.1)
        ((0, .slice none 0 0)) ?_ SU SR ?_
      · exact ⟨Nat.zero_le _, fun h => absurd rfl h, rfl⟩
      rintro ⟨j, v⟩ ⟨hj, hz, hv1⟩
      dsimp only at hj hz hv1 ⊢
      have hpl := (hpm.perF hi').le
      have hk7 : it (getN o) j i < o.length := hpm.it_lt j hi'
      refine sc_seq ?_
      refine sc_seq ?_
      refine sc_region ?_
      refine qs (y_move RF) ?_
      have hk7 : it (getN o) j i < o.length := hpm.it_lt j hi'
      refine qs (y_ia_arr Tryd.underlying50 Tryd.sizeOf4 RF RF (by omega)) ?_
      refine qs (by first | exact y_load_blk (cs := (boolC (seenJ (getN o) o.length i j)).toArray) Tryd.underlying4 rfl RF MM (boolC_get _ (by omega)) | exact LD4) ?_
      refine qs (y_not RF) ?_
      refine sq_nil ?_
      refine sx_then ?_
      refine scp (fun hc2 => ?_) (fun hc2 => ?_)
      ·
        obtain ⟨hjp, hsi⟩ := ring_on hpm hi' hj (by simpa using hc2)
        have hso := (ho.get 0 hk7).1
        have hco := (ho.get 0 hk7).2
        rw [(ord_get hord hk7).1] at hco
        refine sc_skip ?_
        refine sx_then ?_
        refine sc_seq ?_
        refine sc_block ?_
        refine sc_seq ?_
        refine sc_region ?_
        refine qs (y_move RF) ?_
        refine qs (y_ia_arr Tryd.underlying50 Tryd.sizeOf4 RF RF (by omega)) ?_
        refine sq_store_eq (cs' := (boolC (seenJ (getN o) o.length i (j + 1))).toArray) Tryd.sizeOf4 RF RF rfl RM (by rw [boolC_size]; omega) (by rw [boolC_set _ (by omega), seenJ_succ]) ?_
        refine sq_nil ?_
        refine sx_then ?_
        refine sc_region ?_
        refine qs (y_move RF) ?_
        refine qs (y_move RF) ?_
        refine sq_bs Tryd.underlying25 ei3 (EvI.cons RF EvI.nil) (by first | (simp [Value.cells]; done) | (simp [Value.cells]; rfl) | (simp [Value.cells]; and_intros <;> rfl)) rfl rfl rfl (fun b36 => ?_)
        refine sq_append (news := [Value.int .i64 ((it (getN o) j i : Nat) : Int)]) Tryd.underlying25 ei3 rfl (by decide) RF RM RF rfl (fun _ hw => news_blk hw MM) (by simp [Value.oneCell']) (by rw [rl_len]; omega) rfl (fun v37 ho37 => ?_)
        rw [show (rl (getN o) i j).flatMap iRow ++ [Value.int .i64 ((it (getN o) j i : Nat) : Int)] = (rl (getN o) i (j + 1)).flatMap iRow from by rw [rl_succ, List.flatMap_append]; rfl, show (rl (getN o) i j).length + 1 = (rl (getN o) i (j + 1)).length from by rw [rl_len, rl_len]]
        refine qs (y_assign RF) ?_
        refine sq_nil ?_
        refine sx_blk ?_
        refine sx_then ?_
        refine sc_region ?_
        refine qs (y_move RF) ?_
        refine qs (y_move RF) ?_
        refine qs IA25 ?_
        refine qs (by first | exact y_load_ca0 Tryd.underlying3 rfl RF MM hco rfl | exact LD3) ?_
        refine qs (y_assign RF) ?_
        refine sq_nil ?_
        refine sx_round ((j + 1, v37)) ?_ ?_ SU SR
        · exact ⟨hjp, fun _ => hsi, ho37⟩
        · dsimp only; omega
      ·
        obtain ⟨hR, hS⟩ := ring_done hpm hi' hj hz (by simpa using hc2)
        rw [hR, hS]
        have hrlen : (ringAt (getN o) o.length i).length ≤ 7 := by rw [← hR, rl_len]; have := (hpm.perF hi').le; omega
        refine sc_exit ?_
        refine sx_then_exit ?_
        refine sx_round_exit ?_
        refine sx_blk_hit ?_
        refine sx_then ?_
        refine sc_seq ?_
        refine sc_region ?_
        refine qs (y_move RF) ?_
        refine qs (y_len_own (m := (ringAt (getN o) o.length i).length) Tryd.underlying25 RF MM) ?_
        refine qs (y_gtr RF RF) ?_
        refine sq_nil ?_
        refine sx_then ?_
        refine scp (fun hc3 => ?_) (fun hc3 => ?_)
        ·
          refine sc_own_dest (e := 3) (sz := 1) (m := (ringAt (getN o) o.length i).length) (xs := (ringAt (getN o) o.length i).flatMap iRow) MM (fun a6 c6 hv6 hmc6 hn6 => ?_)
          subst hv6
          refine sc_join (r := .own (.slice a6 (ringAt (getN o) o.length i).length c6) 3 1 (ringAt (getN o) o.length i).length ((ringAt (getN o) o.length i).flatMap iRow)) RMS1 (fun wj hgj hoj => ?_)
          have hrj := own_atS (D := Dd) hoj rfl (by omega)
          refine sc_region ?_
          refine qs (y_move RF) ?_
          refine qs (y_move RF) ?_
          refine sq_bs Tryd.underlying22 ei25 (EvI.cons RF EvI.nil) (by first | (simp [Value.cells]; done) | (simp [Value.cells]; rfl) | (simp [Value.cells]; and_intros <;> rfl)) rfl rfl rfl (fun b43 => ?_)
          refine sq_append (news := [slV ((a6, c6), ringAt (getN o) o.length i)]) Tryd.underlying22 ei25 rfl (by decide) RF RM RF rfl (fun _ hw => news_blk hw MM) (by simp [slV, Value.oneCell']) (by omega) rfl (fun v44 ho44 => ?_)
          rw [show iv.map slV ++ [slV ((a6, c6), ringAt (getN o) o.length i)] = (iv ++ [((a6, c6), ringAt (getN o) o.length i)]).map slV from by simp, show iv.length + 1 = (iv ++ [((a6, c6), ringAt (getN o) o.length i)]).length from by simp]
          refine qs (y_assign RF) ?_
          refine sq_nil ?_
          refine sx_blk ?_
          refine sx_then ?_
          refine sc_region ?_
          refine qs (y_add RF RF (by omega)) ?_
          refine qs (y_move RF) ?_
          refine sq_nil ?_
          refine sx_round ((i + 1, v44, iv ++ [((a6, c6), ringAt (getN o) o.length i)], _, wj)) ?_ ?_ SU SR
          · refine ⟨by dsimp only; omega, ho44, ?_, by simp; omega, fun q hq => ?_⟩
            · dsimp only
              conv => { rhs; unfold ringsN }
              rw [if_pos (show 1 < (ringAt (getN o) o.length i).length by omega), List.map_append, hiv]; rfl
            · rcases List.mem_append.1 hq with hq | hq
              · exact (hI q hq).grow hgj
              · simp at hq; subst hq; exact hrj
          · dsimp only; omega
        ·
          refine sc_skip ?_
          refine sx_blk ?_
          refine sx_then ?_
          refine sc_region ?_
          refine qs (y_add RF RF (by omega)) ?_
          refine qs (y_move RF) ?_
          refine sq_nil ?_
          refine sx_round ((i + 1, vO, iv, Dd, wS)) ?_ ?_ SU SR
          · refine ⟨by dsimp only; omega, hvO, ?_, by dsimp only; omega, hI⟩
            dsimp only
            conv => { rhs; unfold ringsN }
            rw [if_neg (show ¬ 1 < (ringAt (getN o) o.length i).length by omega), hiv]
          · dsimp only; omega
    ·
      have hin : i = o.length := by omega
      subst hin
      refine sc_exit ?_
      refine sx_then_exit ?_
      refine sx_round_exit ?_
      refine sx_blk_hit ?_
      refine sx_then ?_
      refine sc_seq ?_
      refine sc_region ?_
      refine qs (y_move RF) ?_
      refine qs (y_assign RF) ?_
      refine qs (y_assign RF) ?_
      refine sq_nil ?_
      refine sx_then ?_
      refine sc_ret ?_
      refine sx_ret2 (.inl rfl) rfl Tryd.results18 RF RF ?_
      intro w' hw'
      have hgr : ringsR o = (ringsN (getN o) o.length o.length, 0) := if_pos ⟨ho7, hord⟩
      obtain ⟨q, hvq, hq⟩ := iv_lsA hw' (v := vO) (e := 25) (iv := iv) (D := Dd) (wr := wS) MM MM MM hI (by omega)
      rw [hiv] at hq
      rw [hgr]
      exact ⟨q, by rw [hvq, ← hiv]; simp, hw'.below MM, hq⟩
end Go.Proofs.YtpijahglojichaaDoor
