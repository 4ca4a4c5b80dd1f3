/- The walk of the document's best exchange. -/
import Derived.Test.YtpijahglojichaaDoorLawG
namespace Go.Proofs.YtpijahglojichaaDoor
open Go Go.Eng Go.RowKit Go.Proofs
set_option maxRecDepth 100000
abbrev ivD : (Option Addr × Nat) × List Int := ((none, 0), [])

theorem best54 (w : World) (z : MA) (m : Mt) (hz : MtA 0 w z m) (hm : MkF m) (long : Int) (hlong : 1 ≤ long) : Calls Tryd.prog 54 #[.agg (mV z m).toArray, .int .i64 long] w fun e w' => ∃ r : (Option Addr × Nat) × List Int, e = .returned (.tuple #[.slice r.1.1 r.2.length r.1.2, .int .i64 (worthL m r.2)]) ∧ Below w.heap.size w w' ∧ RowsA iRow 1 w.heap.size w' r.1.1 r.2 ∧ RefF m long r.2 := by
  have hn7 := hm.n7
  have hlen := hz.len
  have hcap : ([] : Iv).length + 8 ^ m.length ≤ 10000000 := by
    have := Nat.pow_le_pow_right (n := 8) (by decide) hn7
    simp; omega
  refine calls_of_SC (args := [.agg (mV z m).toArray, .int .i64 long]) Tryd.func54 rfl Tryd.ntmps54 rfl ?_
  simp only [argL, Nat.zero_add]
  refine sc_seq ?_
  refine sc_region ?_
  refine sq_box RF rfl (fun b2 => ?_)
  refine qs (y_assign RF) ?_
  refine qs (y_assign RF) ?_
  refine sq_nil ?_
  refine sx_then ?_
  refine sc_seq ?_
  refine sc_nil_own 25 1 ?_
  refine sc_set0 (fun wS0 => ?_)
  refine sc_region ?_
  refine qs FA24_22 ?_
  refine qs LD22 ?_
  refine qs (y_len Tryd.underlying22 RF) ?_
  refine sq_call_fr (first := []) (caps := []) (vs := [.int .i64 (m.length : Int), .slice none 0 0, .slice none 0 0]) (rs1 := .own (.slice none 0 0) 25 1 0 [] :: .set (fun _ => False) wS0 :: .reg 0 w :: []) (Z := ExS) (fun q => q.v) (fun q => .own q.v 25 1 q.iv.length (q.iv.map slV) :: .set q.D q.w :: .reg 0 w :: []) (fun q => ExOk (exO m.length m.length []) [] (fun _ => False) wS0 q) RF Tryd.call81 E3 (by repeat (first | exact Rems.nil | apply Rems.cons (by repeat (first | exact Rem.here | apply Rem.there)))) (fun w1 hw1 => (exAll w hn7 m.length [] 0 none 0 (.slice none 0 0) [] (fun _ => False) wS0 _ w1 rfl (by omega) hcap rfl ⟨fun i x h => by simp at h, by simp⟩ (fun x hx => by cases hx) hw1).mono (fun e w' h => h)) rfl (fun q hq => ?_)
  obtain ⟨v6, iv, Dq, wq⟩ := q
  obtain ⟨hv61, hls, hgq, hIq⟩ := hq
  have hL : iv.map (·.2) = (exO m.length m.length []) := by simpa using hls
  refine sq_own_dest (v := v6) (e := 25) (sz := 1) (m := iv.length) (xs := iv.map slV) MM (fun a6 c6 hv6 hmc6 hn6 => ?_)
  subst hv6
  refine qs (y_assign RF) ?_
  refine sq_nil ?_
  refine sx_then ?_
  refine sc_seq ?_
  have hlx : iv.length = (exO m.length m.length []).length := by rw [← hL, List.length_map]
  have hil : iv.length ≤ 10000000 := by
    have h1 := exO_len hn7 m.length []
    simp at hcap
    omega
  refine sc_region ?_
  refine qs (y_assign RF) ?_
  refine sq_nil ?_
  refine sx_then ?_
  refine sc_seq ?_
  refine sc_seq ?_
  refine sc_region ?_
  refine qs (y_assign RF) ?_
  refine sq_nil ?_
  refine sx_then ?_
  refine sc_block ?_
  refine sc_loop (σ := Nat × Int)
    (fun s_ => [(1, .int .i64 long), (2, .pointer (some ⟨b2, 0, none⟩)), (6, .slice a6 iv.length c6), (7, .int .i64 s_.2), (8, .int .i64 s_.1)])
    (fun s_ => [.own (.slice a6 iv.length c6) 25 1 iv.length (iv.map slV), .set Dq wq, .blk b2 (.cells (mV z m).toArray 24 (0, 0)), .reg 0 w])
    (fun s_ => s_.1 ≤ iv.length ∧ Sel m long (exO m.length m.length []) s_.1 s_.2)
    (fun s_ => iv.length - s_.1)
    ((0, -1)) ?_ SU SR ?_
  · exact ⟨Nat.zero_le _, Sel.zero _ _ _⟩
  rintro ⟨i, at_⟩ ⟨hi, hsel⟩
  dsimp only at hi hsel ⊢
  refine sc_seq ?_
  refine sc_seq ?_
  refine sc_region ?_
  refine qs (y_move RF) ?_
  refine qs (y_move RF) ?_
  refine qs (y_len Tryd.underlying22 RF) ?_
  refine qs (y_lss RF RF) ?_
  refine sq_nil ?_
  refine sx_then ?_
  refine scp (fun hc0 => ?_) (fun hc0 => ?_)
  ·
    have hi' : i < iv.length := by omega
    have hqi : iv[i]? = some (iv.getD i ivD) := get_of_lt ivD hi'
    have hmi := List.mem_of_getElem? hqi
    have hrowi : RowsS iRow 1 Dq wq (iv.getD i ivD).1.1 (iv.getD i ivD).2 := hIq _ hmi
    have hLi : (exO m.length m.length []).getD i [] = (iv.getD i ivD).2 := (by rw [← hL]; exact getD_of (by rw [List.getElem?_map, hqi]; rfl))
    have hori : ordB (iv.getD i ivD).2 m.length = true := ord_exO.1 (by rw [← hL]; exact List.mem_map.2 ⟨_, hmi, rfl⟩)
    have holi := ord_len hori
    have ha6i : a6.isSome = true := (by cases a6 <;> first | rfl | exact absurd (hn6 rfl) (by omega))
    refine sc_skip ?_
    refine sx_then ?_
    refine sc_seq ?_
    refine sc_block ?_
    refine sc_seq ?_
    refine sc_midE (Z := {v : Bool // v = takeB m long (exO m.length m.length []) i at_}) (fun v => [(1, .int .i64 long), (2, .pointer (some ⟨b2, 0, none⟩)), (6, .slice a6 iv.length c6), (7, .int .i64 at_), (8, .int .i64 i), (53, .bool v.1)]) (fun _ => [.own (.slice a6 iv.length c6) 25 1 iv.length (iv.map slV), .set Dq wq, .blk b2 (.cells (mV z m).toArray 24 (0, 0)), .reg 0 w]) ?_ ?_
    ·
      refine sc_drawX ([.own (.slice a6 iv.length c6) 25 1 iv.length (iv.map slV), .set Dq wq, .blk b2 (.cells (mV z m).toArray 24 (0, 0)), .reg 0 w]) (by kernel_rfl) ?_
      refine xj_s 0 RF (by kernel_rfl) SR LD24 rfl ?_
      refine xj_s 1 RF (by kernel_rfl) SR (y_move RF) rfl ?_
      refine xj_s 2 RF (by kernel_rfl) SR (y_move RF) rfl ?_
      refine xj_s 3 RF (by kernel_rfl) SR (y_ia_el (i := i) Tryd.underlying22 Tryd.sizeOf25 RF RF (by omega) ha6i) rfl ?_
      refine xj_s 4 RF (by kernel_rfl) SR (by first | exact y_load_own0 (v := .slice a6 iv.length c6) (u := slV (iv.getD i ivD)) Tryd.underlying25 rfl RF MM (by omega) (by rw [Nat.mul_one, List.getElem?_map, hqi]; rfl) | exact LD25) rfl ?_
      refine xj_one 5 RF (by kernel_rfl) ?_
      refine qy (yc Tryd.call32 E2 (fun w1 hw1 => fair32 w1 z m (hz.at hw1 MM) hm _ _ (iv.getD i ivD).2 (hrowi.at hw1 MM) hori)) ?_
      refine sq_nil ?_
      refine sx_xp SR ?_
      refine xj_s 6 RF (by kernel_rfl) SR (y_lss RF RF) rfl ?_
      refine xj_s 7 RF (by kernel_rfl) SR (y_move RF) rfl ?_
      first | refine xj_splitd (tt := 26) RF (fun hg6_7 => ?_) (fun hg6_7 => ?_) | refine xj_splitn (tt := 26) RF (fun hg6_7 => ?_) (fun hg6_7 => ?_) | refine xj_split (tt := 26) RF (fun hg6_7 => ?_) (fun hg6_7 => ?_)
      ·
        refine xj_gt 8 RF RF RF (by kernel_rfl) SR (y_move RF) rfl ?_
        refine xj_gt 9 RF RF RF (by kernel_rfl) SR (y_move RF) rfl ?_
        refine xj_gt 10 RF RF RF (by kernel_rfl) SR (y_ia_el (i := i) Tryd.underlying22 Tryd.sizeOf25 RF RF (by omega) ha6i) rfl ?_
        refine xj_gt 11 RF RF RF (by kernel_rfl) SR (by first | exact y_load_own0 (v := .slice a6 iv.length c6) (u := slV (iv.getD i ivD)) Tryd.underlying25 rfl RF MM (by omega) (by rw [Nat.mul_one, List.getElem?_map, hqi]; rfl) | exact LD25) rfl ?_
        refine xj_gt 13 RF RF RF (by kernel_rfl) SR (y_move RF) rfl ?_
        refine xj_one 12 RF (by kernel_rfl) ?_
        refine sq_gt RF RF (y_call (first := []) (caps := []) RF Tryd.call82 (EvL.cons RF EvL.nil) (fun w1 hw1 => longest82 w1 _ _ (iv.getD i ivD).2 (hrowi.at hw1 MM) (by rw [holi]; exact hori) (by omega))) rfl ?_
        refine sq_nil ?_
        refine sx_xp SR ?_
        refine xj_gt 14 RF RF RF (by kernel_rfl) SR (y_leq RF RF) rfl ?_
        refine xj_s 15 RF (by kernel_rfl) SR (y_pick_t RF RF) rfl ?_
        refine xj_s 16 RF (by kernel_rfl) SR (y_move RF) rfl ?_
        first | refine xj_splitd (tt := 35) RF (fun hg6_16 => ?_) (fun hg6_16 => ?_) | refine xj_splitn (tt := 35) RF (fun hg6_16 => ?_) (fun hg6_16 => ?_) | refine xj_split (tt := 35) RF (fun hg6_16 => ?_) (fun hg6_16 => ?_)
        ·
          refine xj_gt 17 RF RF RF (by kernel_rfl) SR (y_move RF) rfl ?_
          refine xj_gt 18 RF RF RF (by kernel_rfl) SR (y_lss RF RF) rfl ?_
          refine xj_gt 19 RF RF RF (by kernel_rfl) SR (y_move RF) rfl ?_
          first | refine xj_splitd (tt := 38) RF (fun hg6_19 => ?_) (fun hg6_19 => ?_) | refine xj_splitn (tt := 38) RF (fun hg6_19 => ?_) (fun hg6_19 => ?_) | refine xj_split (tt := 38) RF (fun hg6_19 => ?_) (fun hg6_19 => ?_)
          ·
            first | (replace hg6_19 : ¬ at_ < 0 := hg6_19; obtain ⟨ka, rfl⟩ : ∃ ka : Nat, at_ = (ka : Int) := ⟨at_.toNat, by omega⟩; have hka := (hsel.yes (by omega)).1; rw [Int.toNat_natCast] at hka; have hqa : iv[ka]? = some (iv.getD ka ivD) := get_of_lt ivD (by omega); have hma := List.mem_of_getElem? hqa; have hrowa : RowsS iRow 1 Dq wq (iv.getD ka ivD).1.1 (iv.getD ka ivD).2 := hIq _ hma; have hLa : (exO m.length m.length []).getD ka [] = (iv.getD ka ivD).2 := (by rw [← hL]; exact getD_of (by rw [List.getElem?_map, hqa]; rfl)); have hora : ordB (iv.getD ka ivD).2 m.length = true := ord_exO.1 (by rw [← hL]; exact List.mem_map.2 ⟨_, hma, rfl⟩); have hola := ord_len hora; have ha6a : a6.isSome = true := (by cases a6 <;> first | rfl | exact absurd (hn6 rfl) (by omega))) | skip
            refine xj_gf 20 RF RF RF rfl (by kernel_rfl) SR rfl ?_
            refine xj_gf 21 RF RF RF rfl (by kernel_rfl) SR rfl ?_
            refine xj_gf 22 RF RF RF rfl (by kernel_rfl) SR rfl ?_
            refine xj_gf 23 RF RF RF rfl (by kernel_rfl) SR rfl ?_
            refine xj_gf 24 RF RF RF rfl (by kernel_rfl) SR rfl ?_
            refine xj_gf 25 RF RF RF rfl (by kernel_rfl) SR rfl ?_
            refine xj_gf 26 RF RF RF rfl (by kernel_rfl) SR rfl ?_
            refine xj_gf 27 RF RF RF rfl (by kernel_rfl) SR rfl ?_
            refine xj_gf 28 RF RF RF rfl (by kernel_rfl) SR rfl ?_
            refine xj_gf 29 RF RF RF rfl (by kernel_rfl) SR rfl ?_
            refine xj_gf 30 RF RF RF rfl (by kernel_rfl) SR rfl ?_
            refine xj_gf 31 RF RF RF rfl (by kernel_rfl) SR rfl ?_
            refine xj_gf 32 RF RF RF rfl (by kernel_rfl) SR rfl ?_
            refine xj_gt 33 RF RF RF (by kernel_rfl) SR (y_pick_t RF RF) rfl ?_
            refine xj_s 34 RF (by kernel_rfl) SR (y_pick_t RF RF) rfl ?_
            refine xj_done (by kernel_rfl) ?_
            exact sx_midE (⟨true, by unfold takeB passB; rw [hLi, decide_eq_true hg6_7, decide_eq_true (show longO (iv.getD i ivD).2 ≤ long from hg6_16), decide_eq_true hg6_19]; rfl⟩) SU SR
          ·
            first | (replace hg6_19 : ¬ at_ < 0 := hg6_19; obtain ⟨ka, rfl⟩ : ∃ ka : Nat, at_ = (ka : Int) := ⟨at_.toNat, by omega⟩; have hka := (hsel.yes (by omega)).1; rw [Int.toNat_natCast] at hka; have hqa : iv[ka]? = some (iv.getD ka ivD) := get_of_lt ivD (by omega); have hma := List.mem_of_getElem? hqa; have hrowa : RowsS iRow 1 Dq wq (iv.getD ka ivD).1.1 (iv.getD ka ivD).2 := hIq _ hma; have hLa : (exO m.length m.length []).getD ka [] = (iv.getD ka ivD).2 := (by rw [← hL]; exact getD_of (by rw [List.getElem?_map, hqa]; rfl)); have hora : ordB (iv.getD ka ivD).2 m.length = true := ord_exO.1 (by rw [← hL]; exact List.mem_map.2 ⟨_, hma, rfl⟩); have hola := ord_len hora; have ha6a : a6.isSome = true := (by cases a6 <;> first | rfl | exact absurd (hn6 rfl) (by omega))) | skip
            refine xj_gt 20 RF RF RF (by kernel_rfl) SR LD24 rfl ?_
            refine xj_gt 21 RF RF RF (by kernel_rfl) SR (y_move RF) rfl ?_
            refine xj_gt 22 RF RF RF (by kernel_rfl) SR (y_move RF) rfl ?_
            refine xj_gt 23 RF RF RF (by kernel_rfl) SR (y_ia_el (i := i) Tryd.underlying22 Tryd.sizeOf25 RF RF (by omega) ha6i) rfl ?_
            refine xj_gt 24 RF RF RF (by kernel_rfl) SR (by first | exact y_load_own0 (v := .slice a6 iv.length c6) (u := slV (iv.getD i ivD)) Tryd.underlying25 rfl RF MM (by omega) (by rw [Nat.mul_one, List.getElem?_map, hqi]; rfl) | exact LD25) rfl ?_
            refine xj_gt 26 RF RF RF (by kernel_rfl) SR LD24 rfl ?_
            refine xj_gt 27 RF RF RF (by kernel_rfl) SR (y_move RF) rfl ?_
            refine xj_gt 28 RF RF RF (by kernel_rfl) SR (y_move RF) rfl ?_
            refine xj_gt 29 RF RF RF (by kernel_rfl) SR (y_ia_el (i := ka) Tryd.underlying22 Tryd.sizeOf25 RF RF (by omega) ha6a) rfl ?_
            refine xj_gt 30 RF RF RF (by kernel_rfl) SR (by first | exact y_load_own0 (v := .slice a6 iv.length c6) (u := slV (iv.getD ka ivD)) Tryd.underlying25 rfl RF MM (by omega) (by rw [Nat.mul_one, List.getElem?_map, hqa]; rfl) | exact LD25) rfl ?_
            refine xj_one 25 RF (by kernel_rfl) ?_
            refine sq_gt RF RF (y_call (first := []) (caps := []) RF Tryd.call34 (EvL.cons RF (EvL.cons RF EvL.nil)) (fun w1 hw1 => worth34 w1 z m (hz.at hw1 MM) hm _ _ (iv.getD i ivD).2 (hrowi.at hw1 MM) hori)) rfl ?_
            refine sq_nil ?_
            refine sx_xp SR ?_
            refine xj_one 31 RF (by kernel_rfl) ?_
            refine sq_gt RF RF (y_call (first := []) (caps := []) RF Tryd.call34 (EvL.cons RF (EvL.cons RF EvL.nil)) (fun w1 hw1 => worth34 w1 z m (hz.at hw1 MM) hm _ _ (iv.getD ka ivD).2 (hrowa.at hw1 MM) hora)) rfl ?_
            refine sq_nil ?_
            refine sx_xp SR ?_
            refine xj_gt 32 RF RF RF (by kernel_rfl) SR (y_gtr RF RF) rfl ?_
            refine xj_gt 33 RF RF RF (by kernel_rfl) SR (y_pick_f RF RF) rfl ?_
            refine xj_s 34 RF (by kernel_rfl) SR (y_pick_t RF RF) rfl ?_
            refine xj_done (by kernel_rfl) ?_
            exact sx_midE (⟨decide (worthL m (iv.getD ka ivD).2 < worthL m (iv.getD i ivD).2), by unfold takeB passB; rw [Int.toNat_natCast, hLi, hLa, decide_eq_true hg6_7, decide_eq_true (show longO (iv.getD i ivD).2 ≤ long from hg6_16), decide_eq_false hg6_19, Bool.false_or]; rfl⟩) SU SR
        ·
          refine xj_gf 17 RF RF RF rfl (by kernel_rfl) SR rfl ?_
          refine xj_gf 18 RF RF RF rfl (by kernel_rfl) SR rfl ?_
          refine xj_gf 19 RF RF RF rfl (by kernel_rfl) SR rfl ?_
          first | (replace hg6_19 : ¬ at_ < 0 := hg6_19; obtain ⟨ka, rfl⟩ : ∃ ka : Nat, at_ = (ka : Int) := ⟨at_.toNat, by omega⟩; have hka := (hsel.yes (by omega)).1; rw [Int.toNat_natCast] at hka; have hqa : iv[ka]? = some (iv.getD ka ivD) := get_of_lt ivD (by omega); have hma := List.mem_of_getElem? hqa; have hrowa : RowsS iRow 1 Dq wq (iv.getD ka ivD).1.1 (iv.getD ka ivD).2 := hIq _ hma; have hLa : (exO m.length m.length []).getD ka [] = (iv.getD ka ivD).2 := (by rw [← hL]; exact getD_of (by rw [List.getElem?_map, hqa]; rfl)); have hora : ordB (iv.getD ka ivD).2 m.length = true := ord_exO.1 (by rw [← hL]; exact List.mem_map.2 ⟨_, hma, rfl⟩); have hola := ord_len hora; have ha6a : a6.isSome = true := (by cases a6 <;> first | rfl | exact absurd (hn6 rfl) (by omega))) | skip
          refine xj_gu 20 RF RF RF (by kernel_rfl) SR rfl ?_
          refine xj_gu 21 RF RF RF (by kernel_rfl) SR rfl ?_
          refine xj_gu 22 RF RF RF (by kernel_rfl) SR rfl ?_
          refine xj_gu 23 RF RF RF (by kernel_rfl) SR rfl ?_
          refine xj_gu 24 RF RF RF (by kernel_rfl) SR rfl ?_
          refine xj_gu 25 RF RF RF (by kernel_rfl) SR rfl ?_
          refine xj_gu 26 RF RF RF (by kernel_rfl) SR rfl ?_
          refine xj_gu 27 RF RF RF (by kernel_rfl) SR rfl ?_
          refine xj_gu 28 RF RF RF (by kernel_rfl) SR rfl ?_
          refine xj_gu 29 RF RF RF (by kernel_rfl) SR rfl ?_
          refine xj_gu 30 RF RF RF (by kernel_rfl) SR rfl ?_
          refine xj_gu 31 RF RF RF (by kernel_rfl) SR rfl ?_
          refine xj_gu 32 RF RF RF (by kernel_rfl) SR rfl ?_
          refine xj_gf 33 RF RF RF rfl (by kernel_rfl) SR rfl ?_
          refine xj_s 34 RF (by kernel_rfl) SR (y_pick_f RF RF) rfl ?_
          refine xj_done (by kernel_rfl) ?_
          exact sx_midE (⟨false, by unfold takeB passB; rw [hLi, decide_eq_true hg6_7, decide_eq_false (show ¬ longO (iv.getD i ivD).2 ≤ long from hg6_16)]; rfl⟩) SU SR
      ·
        refine xj_gf 8 RF RF RF rfl (by kernel_rfl) SR rfl ?_
        refine xj_gf 9 RF RF RF rfl (by kernel_rfl) SR rfl ?_
        refine xj_gf 10 RF RF RF rfl (by kernel_rfl) SR rfl ?_
        refine xj_gf 11 RF RF RF rfl (by kernel_rfl) SR rfl ?_
        refine xj_gf 12 RF RF RF rfl (by kernel_rfl) SR rfl ?_
        refine xj_gf 13 RF RF RF rfl (by kernel_rfl) SR rfl ?_
        refine xj_gf 14 RF RF RF rfl (by kernel_rfl) SR rfl ?_
        refine xj_s 15 RF (by kernel_rfl) SR (y_pick_f RF RF) rfl ?_
        refine xj_s 16 RF (by kernel_rfl) SR (y_move RF) rfl ?_
        refine xj_gf 17 RF RF RF rfl (by kernel_rfl) SR rfl ?_
        refine xj_gf 18 RF RF RF rfl (by kernel_rfl) SR rfl ?_
        refine xj_gf 19 RF RF RF rfl (by kernel_rfl) SR rfl ?_
        first | (replace hg6_19 : ¬ at_ < 0 := hg6_19; obtain ⟨ka, rfl⟩ : ∃ ka : Nat, at_ = (ka : Int) := ⟨at_.toNat, by omega⟩; have hka := (hsel.yes (by omega)).1; rw [Int.toNat_natCast] at hka; have hqa : iv[ka]? = some (iv.getD ka ivD) := get_of_lt ivD (by omega); have hma := List.mem_of_getElem? hqa; have hrowa : RowsS iRow 1 Dq wq (iv.getD ka ivD).1.1 (iv.getD ka ivD).2 := hIq _ hma; have hLa : (exO m.length m.length []).getD ka [] = (iv.getD ka ivD).2 := (by rw [← hL]; exact getD_of (by rw [List.getElem?_map, hqa]; rfl)); have hora : ordB (iv.getD ka ivD).2 m.length = true := ord_exO.1 (by rw [← hL]; exact List.mem_map.2 ⟨_, hma, rfl⟩); have hola := ord_len hora; have ha6a : a6.isSome = true := (by cases a6 <;> first | rfl | exact absurd (hn6 rfl) (by omega))) | skip
        refine xj_gu 20 RF RF RF (by kernel_rfl) SR rfl ?_
        refine xj_gu 21 RF RF RF (by kernel_rfl) SR rfl ?_
        refine xj_gu 22 RF RF RF (by kernel_rfl) SR rfl ?_
        refine xj_gu 23 RF RF RF (by kernel_rfl) SR rfl ?_
        refine xj_gu 24 RF RF RF (by kernel_rfl) SR rfl ?_
        refine xj_gu 25 RF RF RF (by kernel_rfl) SR rfl ?_
        refine xj_gu 26 RF RF RF (by kernel_rfl) SR rfl ?_
        refine xj_gu 27 RF RF RF (by kernel_rfl) SR rfl ?_
        refine xj_gu 28 RF RF RF (by kernel_rfl) SR rfl ?_
        refine xj_gu 29 RF RF RF (by kernel_rfl) SR rfl ?_
        refine xj_gu 30 RF RF RF (by kernel_rfl) SR rfl ?_
        refine xj_gu 31 RF RF RF (by kernel_rfl) SR rfl ?_
        refine xj_gu 32 RF RF RF (by kernel_rfl) SR rfl ?_
        refine xj_gf 33 RF RF RF rfl (by kernel_rfl) SR rfl ?_
        refine xj_s 34 RF (by kernel_rfl) SR (y_pick_f RF RF) rfl ?_
        refine xj_done (by kernel_rfl) ?_
        exact sx_midE (⟨false, by unfold takeB passB; rw [hLi, decide_eq_false hg6_7]; rfl⟩) SU SR
    rintro ⟨vb, hvb⟩
    try dsimp only
    refine sx_then ?_
    refine scp (fun hc1 => ?_) (fun hc1 => ?_)
    ·
      have htk : takeB m long (exO m.length m.length []) i at_ = true := by rw [← hvb]; exact hc1
      refine sc_region ?_
      refine qs (y_move RF) ?_
      refine qs (y_assign RF) ?_
      refine sq_nil ?_
      refine sx_blk ?_
      refine sx_then ?_
      refine sc_region ?_
      refine qs (y_move RF) ?_
      refine qs (y_add RF RF (by omega)) ?_
      refine qs (y_assign RF) ?_
      refine sq_nil ?_
      refine sx_round ((i + 1, (i : Int))) ?_ ?_ SU SR
      · exact ⟨by dsimp only; omega, hsel.take htk⟩
      · dsimp only; omega
    ·
      have htk : takeB m long (exO m.length m.length []) i at_ = false := by rw [← hvb]; exact hc1
      refine sc_skip ?_
      refine sx_blk ?_
      refine sx_then ?_
      refine sc_region ?_
      refine qs (y_move RF) ?_
      refine qs (y_add RF RF (by omega)) ?_
      refine qs (y_assign RF) ?_
      refine sq_nil ?_
      refine sx_round ((i + 1, at_)) ?_ ?_ SU SR
      · exact ⟨by dsimp only; omega, hsel.keep htk⟩
      · dsimp only; omega
  ·
    have hin : i = iv.length := by omega
    subst hin
    rw [hlx] at hsel
    obtain ⟨hk0, hk1, hR⟩ := hsel.done hlong
    obtain ⟨ka, rfl⟩ : ∃ ka : Nat, at_ = (ka : Int) := ⟨at_.toNat, by omega⟩
    rw [Int.toNat_natCast] at hk1 hR
    have hka : ka < iv.length := by omega
    have hqa : iv[ka]? = some (iv.getD ka ivD) := get_of_lt ivD hka
    have hma := List.mem_of_getElem? hqa
    have hrowa : RowsS iRow 1 Dq wq (iv.getD ka ivD).1.1 (iv.getD ka ivD).2 := hIq _ hma
    have hLa : (exO m.length m.length []).getD ka [] = (iv.getD ka ivD).2 := (by rw [← hL]; exact getD_of (by rw [List.getElem?_map, hqa]; rfl))
    have hora : ordB (iv.getD ka ivD).2 m.length = true := ord_exO.1 (by rw [← hL]; exact List.mem_map.2 ⟨_, hma, rfl⟩)
    have hola := ord_len hora
    have ha6a : a6.isSome = true := (by cases a6 <;> first | rfl | exact absurd (hn6 rfl) (by omega))
    rw [hLa] at hR
    refine sc_exit ?_
    refine sx_then_exit ?_
    refine sx_round_exit ?_
    refine sx_blk_hit ?_
    refine sx_then ?_
    refine sc_seq ?_
    refine sc_drawX ([.own (.slice a6 iv.length c6) 25 1 iv.length (iv.map slV), .set Dq wq, .blk b2 (.cells (mV z m).toArray 24 (0, 0)), .reg 0 w]) (by kernel_rfl) ?_
    refine xj_s 0 RF (by kernel_rfl) SR (y_move RF) rfl ?_
    refine xj_s 1 RF (by kernel_rfl) SR (y_move RF) rfl ?_
    refine xj_s 2 RF (by kernel_rfl) SR (y_ia_el (i := ka) Tryd.underlying22 Tryd.sizeOf25 RF RF (by omega) ha6a) rfl ?_
    refine xj_s 3 RF (by kernel_rfl) SR (by first | exact y_load_own0 (v := .slice a6 iv.length c6) (u := slV (iv.getD ka ivD)) Tryd.underlying25 rfl RF MM (by omega) (by rw [Nat.mul_one, List.getElem?_map, hqa]; rfl) | exact LD25) rfl ?_
    refine xj_s 4 RF (by kernel_rfl) SR LD24 rfl ?_
    refine xj_s 5 RF (by kernel_rfl) SR (y_move RF) rfl ?_
    refine xj_s 6 RF (by kernel_rfl) SR (y_move RF) rfl ?_
    refine xj_s 7 RF (by kernel_rfl) SR (y_ia_el (i := ka) Tryd.underlying22 Tryd.sizeOf25 RF RF (by omega) ha6a) rfl ?_
    refine xj_s 8 RF (by kernel_rfl) SR (by first | exact y_load_own0 (v := .slice a6 iv.length c6) (u := slV (iv.getD ka ivD)) Tryd.underlying25 rfl RF MM (by omega) (by rw [Nat.mul_one, List.getElem?_map, hqa]; rfl) | exact LD25) rfl ?_
    refine xj_one 9 RF (by kernel_rfl) ?_
    refine qy (yc Tryd.call34 E2 (fun w1 hw1 => worth34 w1 z m (hz.at hw1 MM) hm _ _ (iv.getD ka ivD).2 (hrowa.at hw1 MM) hora)) ?_
    refine sq_nil ?_
    refine sx_xp SR ?_
    refine xj_s 10 RF (by kernel_rfl) SR (y_assign RF) rfl ?_
    refine xj_s 11 RF (by kernel_rfl) SR (y_assign RF) rfl ?_
    refine xj_done (by kernel_rfl) ?_
    refine sx_then ?_
    refine sc_ret ?_
    refine sx_ret2 (.inl rfl) rfl Tryd.results54 RF RF ?_
    intro w' hw'
    exact ⟨(iv.getD ka ivD), rfl, hw'.below MM, hrowa.new iRow_ne hw' MM MM, hR⟩
end Go.Proofs.YtpijahglojichaaDoor
