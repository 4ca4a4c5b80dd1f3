/- The walk of a set's profit. -/
import Derived.Test.YtpodaihifdlkkaaDoorWalk11
namespace Go.Proofs.YtpodaihifdlkkaaDoor
open Go Go.Eng Go.RowKit Go.Proofs
set_option maxRecDepth 100000
def brT (s : So) (ds : List Nat) : Int := ds.foldl (fun acc i => sumI [acc, bringsV s (s.wi.getD i wi0)]) 0
theorem brT_snoc (s : So) (ds : List Nat) (i : Nat) : brT s (ds ++ [i]) = sumI [brT s ds, bringsV s (s.wi.getD i wi0)] := by
  unfold brT; rw [List.foldl_append]; rfl
theorem sum2 (a b : Int) : sumI [a, b] = a + b := by simp [sumI]
theorem brings_bd {s : So} (hv : StF s) {x : Wi} (hx : wiB s x = true) : -21000000 ≤ bringsV s x ∧ bringsV s x ≤ 21000000 := by
  have hw := wi_parts hx
  have hfee := (idxF hv hx).fee
  have hmy := hw.many
  have hsp := hw.ship
  have hm1 := mul_bd2 (n := x.many) (A := 1000) (by omega) hw.price
  have hm2 := mul_bd2 (n := x.many) (A := 1000) (by omega) hfee
  have hm3 : -x.many * (licOf s x).fee = -(x.many * (licOf s x).fee) := Int.neg_mul _ _
  have : bringsV s x = x.many * x.price + -x.many * (licOf s x).fee + -x.ship := by simp [bringsV, sumI]
  omega
theorem brT_bd {s : So} (hv : StF s) (ds : List Nat) (hi : ∀ i, i ∈ ds → i < s.wi.length) : -21000000 * (ds.length : Int) ≤ brT s ds ∧ brT s ds ≤ 21000000 * (ds.length : Int) := by
  have key : ∀ (ds : List Nat), (∀ i, i ∈ ds → i < s.wi.length) → ∀ a : Int, a - 21000000 * (ds.length : Int) ≤ ds.foldl (fun acc i => sumI [acc, bringsV s (s.wi.getD i wi0)]) a ∧ ds.foldl (fun acc i => sumI [acc, bringsV s (s.wi.getD i wi0)]) a ≤ a + 21000000 * (ds.length : Int) := by
    intro ds
    induction ds with
    | nil => intro _ a; simp
    | cons i ds ih =>
      intro hi a
      have h1 := ih (fun j hj => hi j (by simp [hj])) (sumI [a, bringsV s (s.wi.getD i wi0)])
      have h3 := brings_bd hv (hv.wi _ (getD_mem (d := wi0) (hi i (by simp))))
      have h4 := sum2 a (bringsV s (s.wi.getD i wi0))
      rw [List.foldl_cons, List.length_cons]
      omega
  have := key ds hi 0
  unfold brT
  omega
theorem paysT_bd {s : So} (hv : StF s) (l : List Int) (hl : ∀ x, x ∈ l → 0 ≤ x ∧ x ≤ 1000000) : ∀ k, k ≤ l.length → k ≤ s.sh.length → 0 ≤ paysT s l k ∧ paysT s l k ≤ 10000000000 * (k : Int)
  | 0, _, _ => by simp [paysT, sumI]
  | k + 1, h1, h2 => by
    have ih := paysT_bd hv l hl k (by omega) (by omega)
    have hx := hl _ (getD_mem (d := 0) (show k < l.length by omega))
    have hc := (sh_parts (hv.sh _ (getD_mem (d := sh0) (show k < s.sh.length by omega)))).2
    have hm := mul_bd2 hx hc
    rw [paysT_succ, sum2]
    omega
theorem paysV_bd {f : FuncId} {pick : Sp → Int} (hf : Kind f pick) {s : So} (hv : StF s) (tk : List Int) (htl : tk.length = s.sh.length) (hb : ∀ x, x ∈ tk → 0 ≤ x ∧ x ≤ 1000000) : 0 ≤ paysV s pick tk ∧ paysV s pick tk ≤ 40000000000 := by
  have h4 := hv.sh1
  have := paysT_bd hv (lackL s pick tk) (by
    intro x hx
    obtain ⟨k, hk, rfl⟩ := List.mem_map.1 hx
    have hk := List.mem_range.1 hk
    have h1 := hb _ (getD_mem (d := 0) hk)
    have h2 := hf.bd _ (hv.sh _ (getD_mem (d := sh0) (show k < s.sh.length by omega)))
    unfold lackF
    omega) tk.length (by rw [lackL_len]; exact Nat.le_refl _) (by omega)
  unfold paysV
  omega
def profV (s : So) (x : Int) : Sp := if openE s x true = 0 then ⟨brT s (memL x.toNat) - paysV s (·.lo) (takesV s x), brT s (memL x.toNat) - paysV s (·.hi) (takesV s x)⟩ else sp0

theorem Profit12 (w : World) (z : SA) (s : So) (hz : SoA 0 w z s) (hb : stB s = true) (hT : TabAt w) (x : Int) : Calls Tryd.prog 12 #[.agg (stV z s).toArray, .int .i64 x] w fun e w' => e = .returned (.tuple #[.agg (spRow (profV s x)).toArray, .int .i64 (openE s x true)]) ∧ Below w.heap.size w w' := by
  have hv := stF hb
  have hs4 := hv.sh1
  refine calls_of_SCm (args := [.agg (stV z s).toArray, .int .i64 x]) Tryd.func12 rfl Tryd.ntmps12 rfl ?_
  simp only [argL, Nat.zero_add]
  refine sc_seq ?_
  refine sc_region ?_
  refine sq_box RF rfl (fun b2 => ?_)
  refine sq_alloc Tryd.zeroValue29 rfl (fun b4 => ?_)
  refine qs (y_assign RF) ?_
  refine sq_nil ?_
  refine sx_then ?_
  refine sc_seq ?_
  refine sc_region ?_
  refine qs LD27 ?_
  refine qs (y_move RF) ?_
  refine qy (yc Tryd.call18 E3 (fun w1 hw1 => open18 w1 z s (hz.at hw1 MM) hb (CA.at hT hw1 MM) x true)) ?_
  refine qs (y_move RF) ?_
  refine qs (y_extract RF RF) ?_
  refine qs (y_extract RF RF) ?_
  refine qs (y_extract RF RF) ?_
  refine sq_alloc Tryd.zeroValue60 rfl (fun b6 => ?_)
  refine sq_store_all Tryd.sizeOf60 RF RF (bkV_one z s x) RM (by first | exact bkV_len z s x | rfl) (by first | exact bkV_len z s x | rfl) ?_
  refine qs (y_assign RF) ?_
  refine qs (y_assign RF) ?_
  refine sq_nil ?_
  refine sx_then ?_
  refine sc_seq ?_
  refine sc_seq ?_
  refine sc_region ?_
  refine qs (y_move RF) ?_
  refine qs (y_neq RF RF) ?_
  refine sq_nil ?_
  refine sx_then ?_
  refine scp (fun hc0 => ?_) (fun hc0 => ?_)
  ·
    have hne : openE s x true ≠ 0 := by simpa using hc0
    have hlv : profV s x = sp0 := if_neg hne
    rw [hlv]
    refine sc_seq ?_
    refine sc_region ?_
    refine qs (y_build bt29 EvP.nil RF) ?_
    refine qs (y_move RF) ?_
    refine sq_store_all Tryd.sizeOf29 RF RF rfl RM rfl rfl ?_
    refine qs (y_assign RF) ?_
    refine sq_nil ?_
    refine sx_then ?_
    refine sc_ret ?_
    refine sx_then_ret ?_
    refine sx_retM0 (.inl rfl) rfl _ (res_ct Tryd.results12 Tryd.underlying29 rfl Tryd.sizeOf29 RF MM rfl RF) ?_
    intro w' hw'
    exact ⟨rfl, hw'.below MM⟩
  ·
    have he0 : openE s x true = 0 := by simpa using hc0
    have hin := openE_in he0
    obtain ⟨n, rfl, hn5, hnm⟩ := inS_nat hv hin
    have hbk : bkV z s (n : Int) = stV z s := if_pos hin
    rw [hbk]
    have htl := takesV_len hin
    have htb : ∀ q, q ∈ takesV s (n : Int) → 0 ≤ q ∧ q ≤ 1000000 := fun q hq => by have := takesV_bd hv (n : Int) q hq; omega
    have hlv : profV s (n : Int) = ⟨brT s (memL n) - paysV s (·.lo) (takesV s (n : Int)), brT s (memL n) - paysV s (·.hi) (takesV s (n : Int))⟩ := if_pos he0
    rw [hlv]
    have hbrT := brT_bd hv (memL n) hnm
    have hml := memL_len n
    have hpl := paysV_bd kindLo hv _ htl htb
    have hph := paysV_bd kindHi hv _ htl htb
    refine sc_skip ?_
    refine sx_then ?_
    refine sc_seq ?_
    refine sc_region ?_
    refine sq_alloc Tryd.zeroValue3 rfl (fun b9 => ?_)
    refine sq_store Tryd.sizeOf3 RF RF (by first | rfl | assumption) RM (by first | exact Nat.le_of_ble_eq_true rfl | simp | omega) ?_
    refine sq_nil ?_
    refine sx_then ?_
    refine sc_seq ?_
    refine sc_seq ?_
    refine sc_region ?_
    refine qs LD60 ?_
    refine qs (y_move RF) ?_
    refine sq_call_new (first := []) (caps := []) (Z := Addr × Addr) (fun y => .func (.func 39) #[] #[.pointer (some y.1), .pointer (some y.2)]) (fun lo w' y => CA lo w' y.1 [.int .i64 (n : Int)] ∧ CA lo w' y.2 (stV z s)) RF Tryd.call28 (EvL.cons RF (EvL.cons RF EvL.nil)) (fun w1 hw1 => (orders28 w1 z s n).mono (fun e w' ⟨y, h1, h2, h3, h4⟩ => ⟨y, h1, h2, h3, h4⟩)) rfl (fun lo wr p hp => ?_)
    refine sq_nil ?_
    refine sx_then ?_
    refine sc_block ?_
    refine sc_rangeFunc (Z := Int) (ps := [27, 28]) (lb := [.pointer (some p.1), .pointer (some p.2)]) (fun y => .reg lo wr :: .reg 0 w :: .blk b9 (.cells #[.int .i64 y] 3 (0, 0)) :: .blk b6 (.cells (stV z s).toArray 60 (0, 0)) :: .blk b4 (.cells (spRow sp0).toArray 29 (0, 0)) :: .blk b2 (.cells (stV z s).toArray 27 (0, 0)) ::  []) (fun y => y = brT s (memL n)) rfl RF Tryd.call39 ?_ ?_
    ·
      intro fn tm l D hts htL w1 hw1
      refine (eachB (w0 := w) (z := z) (s := s) hw1 hT hn5 hnm hp.1 hp.2 hz.wi (fun (y : Int) => .blk b9 (.cells #[.int .i64 y] 3 (0, 0)) :: .blk b6 (.cells (stV z s).toArray 60 (0, 0)) :: .blk b4 (.cells (spRow sp0).toArray 29 (0, 0)) :: .blk b2 (.cells (stV z s).toArray 27 (0, 0)) ::  []) (fun ds y => y = brT s ds) 0 rfl SR ?_).mono ?_
      rotate_left
      · rintro e w' ⟨hvv, y, h1, h2⟩
        exact ⟨y, h1, hvv, h2⟩
      rintro c' cd' y ds i r hmem rfl F w2 hw2
      have hiw : i < s.wi.length := hnm i (by rw [hmem]; simp)
      have hds : ∀ j, j ∈ ds → j < s.wi.length := fun j hj => hnm j (by rw [hmem]; simp [hj])
      have h9 : ds.length ≤ 9 := by have := memL_len n; rw [hmem] at this; simp at this; omega
      have hbd := brT_bd hv ds hds
      have hwv := hv.wi _ (getD_mem (d := wi0) hiw)
      have hbw := brings_bd hv hwv
      obtain ⟨hs2, hL2⟩ := two_param (p := 27) (q := 28) (u := .int .i64 (i : Int)) (v := .agg (wiRow (s.wi.getD i wi0)).toArray) hts htL (Nat.le_of_ble_eq_true rfl) (Nat.le_of_ble_eq_true rfl)
      refine round_of_SC (N := 51) hs2 hL2 hw2 ?_
      dsimp only [List.cons_append, List.nil_append]
      refine sc_region ?_
      refine sq_alloc Tryd.zeroValue50 rfl (fun b11 => ?_)
      refine sq_store_all Tryd.sizeOf50 RF RF rfl RM rfl rfl ?_
      refine sq_nil ?_
      refine sx_begin rfl RM rfl ?_
      refine sc_block ?_
      refine sc_drawR (by kernel_rfl) ?_
      refine xj_s 0 RF (by kernel_rfl) SR LD3 rfl ?_
      refine xj_s 1 RF (by kernel_rfl) SR LD60 rfl ?_
      refine xj_s 2 RF (by kernel_rfl) SR LD50 rfl ?_
      refine xj_one 3 RF (by kernel_rfl) ?_
      refine qy (yc Tryd.call30 E2 (fun w1 hw1 => brings30 w1 z s (hz.at hw1 MM) hv (s.wi.getD i wi0) hwv)) ?_
      refine sq_nil ?_
      refine sx_xp SR ?_
      refine xj_one 4 RF (by kernel_rfl) ?_
      refine sq_bs Tryd.underlying35 ei3 (EvI.cons RF (EvI.cons RF EvI.nil)) (by first | (simp [Value.cells]; done) | (simp [Value.cells]; rfl) | (simp [Value.cells]; and_intros <;> rfl)) rfl rfl rfl (fun b33 => ?_)
      refine sq_nil ?_
      refine sx_xp SR ?_
      refine xj_one 5 RF (by kernel_rfl) ?_
      refine qy (yc Tryd.call29 E1 (fun w1 hw1 => sum29 w1 _ _ _ (lit_i2 hw1 MM) (by intro q hq; simp only [List.mem_cons, List.not_mem_nil, or_false] at hq; rcases hq with rfl | rfl <;> omega) (by simp))) ?_
      refine sq_nil ?_
      refine sx_xp SR ?_
      refine xj_one 6 RF (by kernel_rfl) ?_
      refine sq_store Tryd.sizeOf3 RF RF (by first | rfl | assumption) RM (by first | exact Nat.le_of_ble_eq_true rfl | simp | omega) ?_
      refine sq_nil ?_
      refine sx_xpl (by kernel_rfl) ?_
      refine xj_done (by kernel_rfl) ?_
      refine sx_blk ?_
      refine sx_endround RM ?_
      intro w' hw'
      exact ⟨sumI [brT s ds, bringsV s (s.wi.getD i wi0)], (brT_snoc s ds i).symm, rfl, hw'.sel SR⟩
    ·
      rintro D y rfl
      refine sx_blk ?_
      refine sx_then ?_
      refine sc_seq ?_
      refine sc_region ?_
      refine qs LD60 ?_
      refine qs (y_move RF) ?_
      refine sq_call_new (first := []) (caps := []) (Z := Option Addr × Nat) (fun y => .slice y.1 (takesV s (n : Int)).length y.2) (fun lo w' y => RowsA iRow 1 lo w' y.1 (takesV s (n : Int))) RF Tryd.call19 (EvL.cons RF (EvL.cons RF EvL.nil)) (fun w1 hw1 => takes19x w1 z s (hz.at hw1 MM) hv (CA.at hT hw1 MM) (n : Int) hin) rfl (fun lo37 wr37 y37 hy37 => ?_)
      refine qs (y_assign RF) ?_
      refine sq_nil ?_
      refine sx_then ?_
      refine sc_seq ?_
      refine sc_drawX ([.reg lo37 wr37, .blk b9 (.cells #[.int .i64 (brT s (memL n))] 3 (0, 0)), .blk b6 (.cells (stV z s).toArray 60 (0, 0)), .reg 0 w]) (by kernel_rfl) ?_
      refine xj_s 0 RF (by kernel_rfl) SR LD3 rfl ?_
      refine xj_s 1 RF (by kernel_rfl) SR LD60 rfl ?_
      refine xj_s 2 RF (by kernel_rfl) SR (y_move RF) rfl ?_
      refine xj_s 6 RF (by kernel_rfl) SR LD3 rfl ?_
      refine xj_s 7 RF (by kernel_rfl) SR LD60 rfl ?_
      refine xj_s 8 RF (by kernel_rfl) SR (y_move RF) rfl ?_
      refine xj_one 3 RF (by kernel_rfl) ?_
      refine qy (yc Tryd.call27 E0 (fun w1 _ => kind27 w1)) ?_
      refine sq_nil ?_
      refine sx_xp SR ?_
      refine xj_one 4 RF (by kernel_rfl) ?_
      refine qy (yc Tryd.call31 E3 (fun w1 hw1 => pays31 kindLo w1 z s (hz.at hw1 MM) hv _ _ _ (hy37.at hw1 MM) htl htb)) ?_
      refine sq_nil ?_
      refine sx_xp SR ?_
      refine xj_s 5 RF (by kernel_rfl) SR (y_sub RF RF (by omega)) rfl ?_
      refine xj_one 9 RF (by kernel_rfl) ?_
      refine qy (yc Tryd.call26 E0 (fun w1 _ => kind26 w1)) ?_
      refine sq_nil ?_
      refine sx_xp SR ?_
      refine xj_one 10 RF (by kernel_rfl) ?_
      refine qy (yc Tryd.call31 E3 (fun w1 hw1 => pays31 kindHi w1 z s (hz.at hw1 MM) hv _ _ _ (hy37.at hw1 MM) htl htb)) ?_
      refine sq_nil ?_
      refine sx_xp SR ?_
      refine xj_s 11 RF (by kernel_rfl) SR (y_sub RF RF (by omega)) rfl ?_
      refine xj_s 12 RF (by kernel_rfl) SR (y_build bt29 (EvP.cons RF (EvP.cons RF EvP.nil)) RF) rfl ?_
      refine xj_one 13 RF (by kernel_rfl) ?_
      refine sq_store_all Tryd.sizeOf29 RF RF rfl RM rfl rfl ?_
      refine sq_nil ?_
      refine sx_xp SR ?_
      refine xj_s 14 RF (by kernel_rfl) SR (y_assign RF) rfl ?_
      refine xj_done (by kernel_rfl) ?_
      refine sx_then ?_
      refine sc_ret ?_
      refine sx_retM (.inl rfl) rfl RM _ (res_ct Tryd.results12 Tryd.underlying29 rfl Tryd.sizeOf29 RF MM rfl RF) ?_
      intro w' hw'
      exact ⟨by rw [he0]; rfl, hw'.below MM⟩
end Go.Proofs.YtpodaihifdlkkaaDoor
