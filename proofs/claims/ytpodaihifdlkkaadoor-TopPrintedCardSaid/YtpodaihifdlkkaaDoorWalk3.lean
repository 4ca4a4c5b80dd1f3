/- What a store is in memory; the walks of the reference's look whether it is valid. -/
import Derived.Test.YtpodaihifdlkkaaDoorWalk2
namespace Go.Proofs.YtpodaihifdlkkaaDoor
open Go Go.Eng Go.RowKit Go.Proofs
set_option maxRecDepth 100000
structure MkA (lo : Nat) (wr : World) (a : Option Addr) (f : Nat → Option Addr) (cf : Nat → Nat) (l : List Mk) : Prop where
  el : ∀ i m, l[i]? = some m → a.isSome = true ∧ CA lo wr (elt a i 2) [.int .i64 m.pic, .slice (f i) m.tk.length (cf i)] ∧ RowsA iRow 1 lo wr (f i) m.tk
  len : l.length ≤ 9223372036854775807
theorem MkA.at {w0 rs w lo wr a f cf l} (h : MkA lo wr a f cf l) (hw : Hp w0 rs w) (hm : Res.reg lo wr ∈ rs) : MkA 0 w a f cf l := ⟨fun i m hi => ⟨(h.el i m hi).1, CA.at (h.el i m hi).2.1 hw hm, (h.el i m hi).2.2.at hw hm⟩, h.len⟩
theorem MkA.get {lo wr a f cf l} (h : MkA lo wr a f cf l) {i : Nat} (hi : i < l.length) : a.isSome = true ∧ CA lo wr (elt a i 2) [.int .i64 (l.getD i mk0).pic, .slice (f i) (l.getD i mk0).tk.length (cf i)] ∧ RowsA iRow 1 lo wr (f i) (l.getD i mk0).tk := h.el i _ (get_of_lt mk0 hi)
/-- where a store lies -/
structure SA where
  a1 : Option Addr
  c1 : Nat
  a2 : Option Addr
  c2 : Nat
  a3 : Option Addr
  c3 : Nat
  a4 : Option Addr
  c4 : Nat
  f : Nat → Option Addr
  cf : Nat → Nat
def stV (z : SA) (s : So) : List Value := [.slice z.a1 s.sh.length z.c1, .slice z.a2 s.li.length z.c2, .slice z.a3 s.mks.length z.c3, .slice z.a4 s.wi.length z.c4]
structure SoA (lo : Nat) (wr : World) (z : SA) (s : So) : Prop where
  sh : RowsA shRow 3 lo wr z.a1 s.sh
  li : RowsA liRow 4 lo wr z.a2 s.li
  mks : MkA lo wr z.a3 z.f z.cf s.mks
  wi : RowsA wiRow 5 lo wr z.a4 s.wi
theorem SoA.at {w0 rs w lo wr z s} (h : SoA lo wr z s) (hw : Hp w0 rs w) (hm : Res.reg lo wr ∈ rs) : SoA 0 w z s := ⟨h.sh.at hw hm, h.li.at hw hm, h.mks.at hw hm, h.wi.at hw hm⟩
theorem all_bad {α : Type} {l : List α} {p : α → Bool} {d : α} {k : Nat} (hk : k < l.length) (h : p (l.getD k d) = false) : l.all p = false := by
  apply Bool.eq_false_iff.2
  intro ha
  rw [List.all_eq_true.1 ha _ (getD_mem hk)] at h; cases h
theorem all_good {α : Type} {l : List α} {p : α → Bool} {d : α} (h : ∀ k, k < l.length → p (l.getD k d) = true) : l.all p = true := by
  rw [List.all_eq_true]
  intro x hx
  obtain ⟨i, hi, rfl⟩ := List.getElem_of_mem hx
  have := h i hi
  rwa [List.getD_eq_getElem?_getD, List.getElem?_eq_getElem hi] at this
theorem bad1 {p q : Bool} (h : (!p) = true) : true = !(p && q) := by cases p <;> simp at h ⊢
theorem bad2 {p q : Bool} (h : (!p) = false) : (!q) = !(p && q) := by cases p <;> simp at h ⊢
theorem li_1 {x : Li} (h : (!inB x.copies 0 1000) = true) : true = !liB x := by
  have : inB x.copies 0 1000 = false := by simpa using h
  unfold liB; rw [this]; simp
theorem li_2 {x : Li} (h : (!inB x.to_ 0 1048576) = true) : true = !liB x := by
  have h1 : inB x.to_ 0 1048576 = false := by simpa using h
  have : spB ⟨x.from_, x.to_⟩ 0 1048576 = false := by
    unfold inB at h1; have := of_decide_eq_false h1
    exact decide_eq_false (by dsimp only; omega)
  unfold liB; rw [this]; simp
theorem li_3 {x : Li} (h : (!inB x.from_ 0 x.to_) = true) : true = !liB x := by
  have h1 : inB x.from_ 0 x.to_ = false := by simpa using h
  have : spB ⟨x.from_, x.to_⟩ 0 1048576 = false := by
    unfold inB at h1; have := of_decide_eq_false h1
    exact decide_eq_false (by dsimp only; omega)
  unfold liB; rw [this]; simp
theorem li_4 {x : Li} (h1 : (!inB x.copies 0 1000) = false) (h2 : (!inB x.to_ 0 1048576) = false) (h3 : (!inB x.from_ 0 x.to_) = false) : (!inB x.fee 0 10000) = !liB x := by
  have g1 : inB x.copies 0 1000 = true := by simpa using h1
  have g2 : inB x.to_ 0 1048576 = true := by simpa using h2
  have g3 : inB x.from_ 0 x.to_ = true := by simpa using h3
  have : spB ⟨x.from_, x.to_⟩ 0 1048576 = true := by
    unfold inB at g2 g3; have := of_decide_eq_true g2; have := of_decide_eq_true g3
    exact decide_eq_true (by dsimp only; omega)
  unfold liB; rw [g1, this]; simp
def shsB (l : List Sh) : Bool := inB (l.length : Int) 1 4 && l.all shB
def lisB (l : List Li) : Bool := inB (l.length : Int) 1 5 && l.all liB
def mksB (s : So) : Bool := inB (s.mks.length : Int) 1 6 && s.mks.all (mkB s)
def m1B (s : So) (x : Mk) : Bool := inB x.pic 0 ((s.li.length : Int) - 1) && decide ((x.tk.length : Int) = (s.sh.length : Int))
theorem mkB_eq (s : So) (x : Mk) : mkB s x = (m1B s x && x.tk.all tkB) := by
  unfold mkB m1B
  rw [show decide ((x.tk.length : Int) = (s.sh.length : Int)) = decide (x.tk.length = s.sh.length) from by rw [decide_eq_decide]; omega]
section
variable {p1 p2 p3 p4 p5 : Bool}
theorem ch1 (h : (!p1) = true) : true = !(p1 && p2 && p3 && p4 && p5) := by cases p1 <;> simp at h ⊢
theorem ch2 (h1 : (!p1) = false) (h : (!p2) = true) : true = !(p1 && p2 && p3 && p4 && p5) := by cases p1 <;> cases p2 <;> simp at h1 h ⊢
theorem ch3 (h1 : (!p1) = false) (h2 : (!p2) = false) (h : (!p3) = true) : true = !(p1 && p2 && p3 && p4 && p5) := by cases p1 <;> cases p2 <;> cases p3 <;> simp at h1 h2 h ⊢
theorem ch4 (h1 : (!p1) = false) (h2 : (!p2) = false) (h3 : (!p3) = false) (h : (!p4) = true) : true = !(p1 && p2 && p3 && p4 && p5) := by cases p1 <;> cases p2 <;> cases p3 <;> cases p4 <;> simp at h1 h2 h3 h ⊢
theorem ch5 (h1 : (!p1) = false) (h2 : (!p2) = false) (h3 : (!p3) = false) (h4 : (!p4) = false) : (!p5) = !(p1 && p2 && p3 && p4 && p5) := by cases p1 <;> cases p2 <;> cases p3 <;> cases p4 <;> simp at h1 h2 h3 h4 ⊢
end
theorem stB_eq (s : So) : stB s = (s.wi.all (wiB s) && (shsB s.sh && (lisB s.li && (mksB s && decide (s.wi.length ≤ 9))))) := by
  unfold stB shsB lisB mksB
  cases inB (s.sh.length : Int) 1 4 <;> cases inB (s.li.length : Int) 1 5 <;> cases inB (s.mks.length : Int) 1 6 <;> cases decide (s.wi.length ≤ 9) <;> cases s.sh.all shB <;> cases s.li.all liB <;> cases s.mks.all (mkB s) <;> cases s.wi.all (wiB s) <;> rfl

theorem sheets14 (w : World) (a : Option Addr) (c : Nat) (l : List Sh) (hl : RowsA shRow 3 0 w a l) : Calls Tryd.prog 14 #[.slice a l.length c] w fun e w' => e = .returned (.bool (shsB l)) ∧ Below w.heap.size w w' := by
  have hlen := hl.len
  refine calls_of_SC (args := [.slice a l.length c]) Tryd.func14 rfl Tryd.ntmps14 rfl ?_
  simp only [argL]
  refine sc_seq ?_
  refine sc_region ?_
  refine qs (y_assign RF) ?_
  refine sq_nil ?_
  refine sx_then ?_
  refine sc_seq ?_
  refine sc_seq ?_
  refine sc_region ?_
  refine qs (y_assign RF) ?_
  refine sq_nil ?_
  refine sx_then ?_
  refine sc_block ?_
  refine sc_loop (σ := Nat)
    (fun s => [(0, .slice a l.length c), (3, .int .i64 s)])
    (fun s => [.reg 0 w])
    (fun s => s ≤ l.length ∧ ∀ j, j < s → shB (l.getD j sh0) = true)
    (fun s => l.length - s)
    (0) ?_ SU SR ?_
  · exact ⟨Nat.zero_le _, fun j hj => absurd hj (Nat.not_lt_zero j)⟩
  rintro k ⟨hk, hall⟩
  refine sc_seq ?_
  refine sc_seq ?_
  refine sc_region ?_
  refine qs (y_move RF) ?_
  refine qs (y_move RF) ?_
  refine qs (y_len Tryd.underlying22 RF) ?_
  refine qs (y_lss RF RF) ?_
  refine sq_nil ?_
  refine sx_then ?_
  refine scp (fun hc0 => ?_) (fun hc0 => ?_)
  ·
    have hk' : k < l.length := by omega
    have hsm := (hl.get sh0 hk').1
    have hca := (hl.get sh0 hk').2
    refine sc_skip ?_
    refine sx_then ?_
    refine sc_seq ?_
    refine sc_block ?_
    refine sc_seq ?_
    refine sc_midE (Z := {v : Bool // v = !shB (l.getD k sh0)}) (fun v => [(0, .slice a l.length c), (3, .int .i64 k), (25, .bool v.1)]) (fun _ => [.reg 0 w]) ?_ ?_
    ·
      refine sc_region ?_
      refine qs (y_move RF) ?_
      refine qs (y_move RF) ?_
      refine qs IA22 ?_
      refine qs FA42_29 ?_
      refine qs (by first | exact y_load_capart (vs := spRow (l.getD k sh0).many) Tryd.underlying29 rfl Tryd.sizeOf29 RF MM hca rfl | exact LD29) ?_
      refine qy (yc Tryd.call32 E3 (fun w1 _ => span32 _ _ _ w1)) ?_
      refine qs (y_not RF) ?_
      refine qs (y_move RF) ?_
      refine spb 17 (fun hg4_7 => ?_) (fun hg4_7 => ?_)
      ·
        refine qf ?_
        refine qf ?_
        refine qf ?_
        refine qf ?_
        refine qf ?_
        refine qf ?_
        refine qf ?_
        refine qs (y_pick_t RF RF) ?_
        refine sq_nil ?_
        exact sx_midE (⟨true, bad1 hg4_7⟩) SU SR
      ·
        refine qg (y_move RF) ?_
        refine qg (y_move RF) ?_
        refine qg IA22 ?_
        refine qg FA42_3 ?_
        refine qg LD3 ?_
        refine sq_gt RF RF (y_call (first := []) (caps := []) RF Tryd.call13 (EvL.cons RF (EvL.cons RF (EvL.cons RF EvL.nil))) (fun w1 _ => in13 _ _ _ w1)) rfl ?_
        refine qg (y_not RF) ?_
        refine qs (y_pick_f RF RF) ?_
        refine sq_nil ?_
        exact sx_midE (⟨!inB (l.getD k sh0).cost 0 10000, bad2 hg4_7⟩) SU SR
    rintro ⟨vb, hvb⟩
    try dsimp only
    refine sx_then ?_
    refine scp (fun hc1 => ?_) (fun hc1 => ?_)
    ·
      have hv : shB (l.getD k sh0) = false := by rw [show vb = true from hc1] at hvb; simpa using hvb.symm
      refine sc_seq ?_
      refine sc_region ?_
      refine qs (y_assign RF) ?_
      refine sq_nil ?_
      refine sx_then ?_
      refine sc_ret ?_
      refine sx_blk_ret ?_
      refine sx_then_ret ?_
      refine sx_round_ret ?_
      refine sx_blk_ret ?_
      refine sx_then_ret ?_
      refine sx_ret1 (.inl rfl) rfl Tryd.results14 RF ?_
      intro w' hw'
      refine ⟨?_, hw'.below MM⟩
      unfold shsB; rw [all_bad hk' hv, Bool.and_false]
    ·
      have hv : shB (l.getD k sh0) = true := by rw [show vb = false from hc1] at hvb; simpa using hvb.symm
      refine sc_skip ?_
      refine sx_blk ?_
      refine sx_then ?_
      refine sc_region ?_
      refine qs (y_move RF) ?_
      refine qs (y_add RF RF (by omega)) ?_
      refine qs (y_assign RF) ?_
      refine sq_nil ?_
      refine sx_round (k + 1) ?_ ?_ SU SR
      · refine ⟨by omega, fun j hj => ?_⟩
        rcases Nat.lt_succ_iff_lt_or_eq.1 hj with h | rfl
        · exact hall j h
        · exact hv
      · omega
  ·
    refine sc_exit ?_
    refine sx_then_exit ?_
    refine sx_round_exit ?_
    refine sx_blk_hit ?_
    refine sx_then ?_
    refine sc_seq ?_
    refine sc_region ?_
    refine qs (y_move RF) ?_
    refine qs (y_len Tryd.underlying22 RF) ?_
    refine qy (yc Tryd.call13 E3 (fun w1 _ => in13 _ _ _ w1)) ?_
    refine qs (y_assign RF) ?_
    refine sq_nil ?_
    refine sx_then ?_
    refine sc_ret ?_
    refine sx_ret1 (.inl rfl) rfl Tryd.results14 RF ?_
    intro w' hw'
    refine ⟨?_, hw'.below MM⟩
    unfold shsB; rw [all_good (d := sh0) (fun j hj => hall j (by omega)), Bool.and_true]; rfl
theorem licences15 (w : World) (a : Option Addr) (c : Nat) (l : List Li) (hl : RowsA liRow 4 0 w a l) : Calls Tryd.prog 15 #[.slice a l.length c] w fun e w' => e = .returned (.bool (lisB l)) ∧ Below w.heap.size w w' := by
  have hlen := hl.len
  refine calls_of_SC (args := [.slice a l.length c]) Tryd.func15 rfl Tryd.ntmps15 rfl ?_
  simp only [argL]
  refine sc_seq ?_
  refine sc_region ?_
  refine qs (y_assign RF) ?_
  refine sq_nil ?_
  refine sx_then ?_
  refine sc_seq ?_
  refine sc_seq ?_
  refine sc_region ?_
  refine qs (y_assign RF) ?_
  refine sq_nil ?_
  refine sx_then ?_
  refine sc_block ?_
  refine sc_loop (σ := Nat)
    (fun s => [(0, .slice a l.length c), (3, .int .i64 s)])
    (fun s => [.reg 0 w])
    (fun s => s ≤ l.length ∧ ∀ j, j < s → liB (l.getD j li0) = true)
    (fun s => l.length - s)
    (0) ?_ SU SR ?_
  · exact ⟨Nat.zero_le _, fun j hj => absurd hj (Nat.not_lt_zero j)⟩
  rintro k ⟨hk, hall⟩
  refine sc_seq ?_
  refine sc_seq ?_
  refine sc_region ?_
  refine qs (y_move RF) ?_
  refine qs (y_move RF) ?_
  refine qs (y_len Tryd.underlying23 RF) ?_
  refine qs (y_lss RF RF) ?_
  refine sq_nil ?_
  refine sx_then ?_
  refine scp (fun hc0 => ?_) (fun hc0 => ?_)
  ·
    have hk' : k < l.length := by omega
    have hsm := (hl.get li0 hk').1
    have hca := (hl.get li0 hk').2
    refine sc_skip ?_
    refine sx_then ?_
    refine sc_seq ?_
    refine sc_block ?_
    refine sc_seq ?_
    refine sc_midE (Z := {v : Bool // v = !liB (l.getD k li0)}) (fun v => [(0, .slice a l.length c), (3, .int .i64 k), (48, .bool v.1)]) (fun _ => [.reg 0 w]) ?_ ?_
    ·
      refine sc_draw rfl (by kernel_rfl) (by kernel_rfl) ?_
      refine qq_y (OpY.s (y_move RF)) rfl ?_
      refine qq_y (OpY.s (y_move RF)) rfl ?_
      refine qq_y (OpY.s IA23) rfl ?_
      refine qq_y (OpY.s FA55_3) rfl ?_
      refine qq_y (OpY.s LD3) rfl ?_
      refine qq_y (y_call (first := []) (caps := []) RF Tryd.call13 (EvL.cons RF (EvL.cons RF (EvL.cons RF EvL.nil))) (fun w1 _ => in13 _ _ _ w1)) rfl ?_
      refine qq_y (OpY.s (y_not RF)) rfl ?_
      refine qq_y (OpY.s (y_move RF)) rfl ?_
      refine qq_split (tt := 17) RF (fun hg4_7 => ?_) (fun hg4_7 => ?_)
      ·
        refine qq_gf RF RF RF rfl ?_
        refine qq_gf RF RF RF rfl ?_
        refine qq_gf RF RF RF rfl ?_
        refine qq_gf RF RF RF rfl ?_
        refine qq_gf RF RF RF rfl ?_
        refine qq_gf RF RF RF rfl ?_
        refine qq_gf RF RF RF rfl ?_
        refine qq_y (OpY.s (y_pick_t RF RF)) rfl ?_
        refine qq_y (OpY.s (y_move RF)) rfl ?_
        refine qq_gf RF RF RF rfl ?_
        refine qq_gf RF RF RF rfl ?_
        refine qq_gf RF RF RF rfl ?_
        refine qq_gf RF RF RF rfl ?_
        refine qq_gf RF RF RF rfl ?_
        refine qq_gf RF RF RF rfl ?_
        refine qq_gf RF RF RF rfl ?_
        refine qq_gf RF RF RF rfl ?_
        refine qq_gf RF RF RF rfl ?_
        refine qq_gf RF RF RF rfl ?_
        refine qq_gf RF RF RF rfl ?_
        refine qq_gf RF RF RF rfl ?_
        refine qq_y (OpY.s (y_pick_t RF RF)) rfl ?_
        refine qq_y (OpY.s (y_move RF)) rfl ?_
        refine qq_gf RF RF RF rfl ?_
        refine qq_gf RF RF RF rfl ?_
        refine qq_gf RF RF RF rfl ?_
        refine qq_gf RF RF RF rfl ?_
        refine qq_gf RF RF RF rfl ?_
        refine qq_gf RF RF RF rfl ?_
        refine qq_gf RF RF RF rfl ?_
        refine qq_y (OpY.s (y_pick_t RF RF)) rfl ?_
        refine qq_nil ?_
        exact sx_midE (⟨true, li_1 hg4_7⟩) SU SR
      ·
        refine qq_gt RF RF (OpY.s (y_move RF)) rfl ?_
        refine qq_gt RF RF (OpY.s (y_move RF)) rfl ?_
        refine qq_gt RF RF (OpY.s IA23) rfl ?_
        refine qq_gt RF RF (OpY.s FA55_3) rfl ?_
        refine qq_gt RF RF (OpY.s LD3) rfl ?_
        refine qq_gt RF RF (y_call (first := []) (caps := []) RF Tryd.call13 (EvL.cons RF (EvL.cons RF (EvL.cons RF EvL.nil))) (fun w1 _ => in13 _ _ _ w1)) rfl ?_
        refine qq_gt RF RF (OpY.s (y_not RF)) rfl ?_
        refine qq_y (OpY.s (y_pick_f RF RF)) rfl ?_
        refine qq_y (OpY.s (y_move RF)) rfl ?_
        refine qq_split (tt := 26) RF (fun hg4_16 => ?_) (fun hg4_16 => ?_)
        ·
          refine qq_gf RF RF RF rfl ?_
          refine qq_gf RF RF RF rfl ?_
          refine qq_gf RF RF RF rfl ?_
          refine qq_gf RF RF RF rfl ?_
          refine qq_gf RF RF RF rfl ?_
          refine qq_gf RF RF RF rfl ?_
          refine qq_gf RF RF RF rfl ?_
          refine qq_gf RF RF RF rfl ?_
          refine qq_gf RF RF RF rfl ?_
          refine qq_gf RF RF RF rfl ?_
          refine qq_gf RF RF RF rfl ?_
          refine qq_gf RF RF RF rfl ?_
          refine qq_y (OpY.s (y_pick_t RF RF)) rfl ?_
          refine qq_y (OpY.s (y_move RF)) rfl ?_
          refine qq_gf RF RF RF rfl ?_
          refine qq_gf RF RF RF rfl ?_
          refine qq_gf RF RF RF rfl ?_
          refine qq_gf RF RF RF rfl ?_
          refine qq_gf RF RF RF rfl ?_
          refine qq_gf RF RF RF rfl ?_
          refine qq_gf RF RF RF rfl ?_
          refine qq_y (OpY.s (y_pick_t RF RF)) rfl ?_
          refine qq_nil ?_
          exact sx_midE (⟨true, li_2 hg4_16⟩) SU SR
        ·
          refine qq_gt RF RF (OpY.s (y_move RF)) rfl ?_
          refine qq_gt RF RF (OpY.s (y_move RF)) rfl ?_
          refine qq_gt RF RF (OpY.s IA23) rfl ?_
          refine qq_gt RF RF (OpY.s FA55_3) rfl ?_
          refine qq_gt RF RF (OpY.s LD3) rfl ?_
          refine qq_gt RF RF (OpY.s (y_move RF)) rfl ?_
          refine qq_gt RF RF (OpY.s (y_move RF)) rfl ?_
          refine qq_gt RF RF (OpY.s IA23) rfl ?_
          refine qq_gt RF RF (OpY.s FA55_3) rfl ?_
          refine qq_gt RF RF (OpY.s LD3) rfl ?_
          refine qq_gt RF RF (y_call (first := []) (caps := []) RF Tryd.call13 (EvL.cons RF (EvL.cons RF (EvL.cons RF EvL.nil))) (fun w1 _ => in13 _ _ _ w1)) rfl ?_
          refine qq_gt RF RF (OpY.s (y_not RF)) rfl ?_
          refine qq_y (OpY.s (y_pick_f RF RF)) rfl ?_
          refine qq_y (OpY.s (y_move RF)) rfl ?_
          refine qq_split (tt := 40) RF (fun hg4_30 => ?_) (fun hg4_30 => ?_)
          ·
            refine qq_gf RF RF RF rfl ?_
            refine qq_gf RF RF RF rfl ?_
            refine qq_gf RF RF RF rfl ?_
            refine qq_gf RF RF RF rfl ?_
            refine qq_gf RF RF RF rfl ?_
            refine qq_gf RF RF RF rfl ?_
            refine qq_gf RF RF RF rfl ?_
            refine qq_y (OpY.s (y_pick_t RF RF)) rfl ?_
            refine qq_nil ?_
            exact sx_midE (⟨true, li_3 hg4_30⟩) SU SR
          ·
            refine qq_gt RF RF (OpY.s (y_move RF)) rfl ?_
            refine qq_gt RF RF (OpY.s (y_move RF)) rfl ?_
            refine qq_gt RF RF (OpY.s IA23) rfl ?_
            refine qq_gt RF RF (OpY.s FA55_3) rfl ?_
            refine qq_gt RF RF (OpY.s LD3) rfl ?_
            refine qq_gt RF RF (y_call (first := []) (caps := []) RF Tryd.call13 (EvL.cons RF (EvL.cons RF (EvL.cons RF EvL.nil))) (fun w1 _ => in13 _ _ _ w1)) rfl ?_
            refine qq_gt RF RF (OpY.s (y_not RF)) rfl ?_
            refine qq_y (OpY.s (y_pick_f RF RF)) rfl ?_
            refine qq_nil ?_
            exact sx_midE (⟨!inB (l.getD k li0).fee 0 10000, li_4 hg4_7 hg4_16 hg4_30⟩) SU SR
    rintro ⟨vb, hvb⟩
    try dsimp only
    refine sx_then ?_
    refine scp (fun hc1 => ?_) (fun hc1 => ?_)
    ·
      have hv : liB (l.getD k li0) = false := by rw [show vb = true from hc1] at hvb; simpa using hvb.symm
      refine sc_seq ?_
      refine sc_region ?_
      refine qs (y_assign RF) ?_
      refine sq_nil ?_
      refine sx_then ?_
      refine sc_ret ?_
      refine sx_blk_ret ?_
      refine sx_then_ret ?_
      refine sx_round_ret ?_
      refine sx_blk_ret ?_
      refine sx_then_ret ?_
      refine sx_ret1 (.inl rfl) rfl Tryd.results15 RF ?_
      intro w' hw'
      refine ⟨?_, hw'.below MM⟩
      unfold lisB; rw [all_bad hk' hv, Bool.and_false]
    ·
      have hv : liB (l.getD k li0) = true := by rw [show vb = false from hc1] at hvb; simpa using hvb.symm
      refine sc_skip ?_
      refine sx_blk ?_
      refine sx_then ?_
      refine sc_region ?_
      refine qs (y_move RF) ?_
      refine qs (y_add RF RF (by omega)) ?_
      refine qs (y_assign RF) ?_
      refine sq_nil ?_
      refine sx_round (k + 1) ?_ ?_ SU SR
      · refine ⟨by omega, fun j hj => ?_⟩
        rcases Nat.lt_succ_iff_lt_or_eq.1 hj with h | rfl
        · exact hall j h
        · exact hv
      · omega
  ·
    refine sc_exit ?_
    refine sx_then_exit ?_
    refine sx_round_exit ?_
    refine sx_blk_hit ?_
    refine sx_then ?_
    refine sc_seq ?_
    refine sc_region ?_
    refine qs (y_move RF) ?_
    refine qs (y_len Tryd.underlying23 RF) ?_
    refine qy (yc Tryd.call13 E3 (fun w1 _ => in13 _ _ _ w1)) ?_
    refine qs (y_assign RF) ?_
    refine sq_nil ?_
    refine sx_then ?_
    refine sc_ret ?_
    refine sx_ret1 (.inl rfl) rfl Tryd.results15 RF ?_
    intro w' hw'
    refine ⟨?_, hw'.below MM⟩
    unfold lisB; rw [all_good (d := li0) (fun j hj => hall j (by omega)), Bool.and_true]; rfl
theorem made16 (w : World) (z : SA) (s : So) (hz : SoA 0 w z s) : Calls Tryd.prog 16 #[.agg (stV z s).toArray] w fun e w' => e = .returned (.bool (mksB s)) ∧ Below w.heap.size w w' := by
  have hl1 := hz.li.len
  have hl2 := hz.sh.len
  have hl3 := hz.mks.len
  refine calls_of_SC (args := [.agg (stV z s).toArray]) Tryd.func16 rfl Tryd.ntmps16 rfl ?_
  simp only [argL]
  refine sc_seq ?_
  refine sc_region ?_
  refine sq_box RF rfl (fun b1 => ?_)
  refine qs (y_assign RF) ?_
  refine sq_nil ?_
  refine sx_then ?_
  refine sc_seq ?_
  refine sc_seq ?_
  refine sc_region ?_
  refine qs (y_assign RF) ?_
  refine sq_nil ?_
  refine sx_then ?_
  refine sc_block ?_
  refine sc_loop (σ := Nat)
    (fun s_ => [(1, .pointer (some ⟨b1, 0, none⟩)), (3, .int .i64 s_)])
    (fun s_ => [.blk b1 (.cells (stV z s).toArray 27 (0, 0)), .reg 0 w])
    (fun s_ => s_ ≤ s.mks.length ∧ ∀ j, j < s_ → mkB s (s.mks.getD j mk0) = true)
    (fun s_ => s.mks.length - s_)
    (0) ?_ SU SR ?_
  · exact ⟨Nat.zero_le _, fun j hj => absurd hj (Nat.not_lt_zero j)⟩
  rintro k ⟨hk, hall⟩
  refine sc_seq ?_
  refine sc_seq ?_
  refine sc_region ?_
  refine qs (y_move RF) ?_
  refine qs FA27_24 ?_
  refine qs LD24 ?_
  refine qs (y_len Tryd.underlying24 RF) ?_
  refine qs (y_lss RF RF) ?_
  refine sq_nil ?_
  refine sx_then ?_
  refine scp (fun hc0 => ?_) (fun hc0 => ?_)
  ·
    have hk' : k < s.mks.length := by omega
    obtain ⟨hsm, hcm, htk⟩ := hz.mks.get hk'
    refine sc_skip ?_
    refine sx_then ?_
    refine sc_seq ?_
    refine sc_block ?_
    refine sc_seq ?_
    refine sc_seq ?_
    refine sc_midE (Z := {v : Bool // v = !m1B s (s.mks.getD k mk0)}) (fun v => [(1, .pointer (some ⟨b1, 0, none⟩)), (3, .int .i64 k), (36, .bool v.1)]) (fun _ => [.blk b1 (.cells (stV z s).toArray 27 (0, 0)), .reg 0 w]) ?_ ?_
    ·
      refine sc_draw rfl (by kernel_rfl) (by kernel_rfl) ?_
      refine qq_y (OpY.s FA27_24) rfl ?_
      refine qq_y (OpY.s LD24) rfl ?_
      refine qq_y (OpY.s (y_move RF)) rfl ?_
      refine qq_y (OpY.s IA24) rfl ?_
      refine qq_y (OpY.s FA57_3) rfl ?_
      refine qq_y (OpY.s (by first | exact y_load_caj Tryd.underlying3 rfl RF MM hcm rfl | exact LD3)) rfl ?_
      refine qq_y (OpY.s FA27_23) rfl ?_
      refine qq_y (OpY.s LD23) rfl ?_
      refine qq_y (OpY.s (y_len Tryd.underlying23 RF)) rfl ?_
      refine qq_y (OpY.s (y_sub RF RF (by omega))) rfl ?_
      refine qq_y (y_call (first := []) (caps := []) RF Tryd.call13 (EvL.cons RF (EvL.cons RF (EvL.cons RF EvL.nil))) (fun w1 _ => in13 _ _ _ w1)) rfl ?_
      refine qq_y (OpY.s (y_not RF)) rfl ?_
      refine qq_y (OpY.s (y_move RF)) rfl ?_
      refine qq_split (tt := 24) RF (fun hg4_12 => ?_) (fun hg4_12 => ?_)
      ·
        refine qq_gf RF RF RF rfl ?_
        refine qq_gf RF RF RF rfl ?_
        refine qq_gf RF RF RF rfl ?_
        refine qq_gf RF RF RF rfl ?_
        refine qq_gf RF RF RF rfl ?_
        refine qq_gf RF RF RF rfl ?_
        refine qq_gf RF RF RF rfl ?_
        refine qq_gf RF RF RF rfl ?_
        refine qq_gf RF RF RF rfl ?_
        refine qq_gf RF RF RF rfl ?_
        refine qq_gf RF RF RF rfl ?_
        refine qq_y (OpY.s (y_pick_t RF RF)) rfl ?_
        refine qq_nil ?_
        exact sx_midE (⟨true, bad1 hg4_12⟩) SU SR
      ·
        refine qq_gt RF RF (OpY.s FA27_24) rfl ?_
        refine qq_gt RF RF (OpY.s LD24) rfl ?_
        refine qq_gt RF RF (OpY.s (y_move RF)) rfl ?_
        refine qq_gt RF RF (OpY.s IA24) rfl ?_
        refine qq_gt RF RF (OpY.s FA57_35) rfl ?_
        refine qq_gt RF RF (OpY.s (by first | exact y_load_caj Tryd.underlying35 rfl RF MM hcm rfl | exact LD35)) rfl ?_
        refine qq_gt RF RF (OpY.s (y_len Tryd.underlying35 RF)) rfl ?_
        refine qq_gt RF RF (OpY.s FA27_22) rfl ?_
        refine qq_gt RF RF (OpY.s LD22) rfl ?_
        refine qq_gt RF RF (OpY.s (y_len Tryd.underlying22 RF)) rfl ?_
        refine qq_gt RF RF (OpY.s (y_neq RF RF)) rfl ?_
        refine qq_y (OpY.s (y_pick_f RF RF)) rfl ?_
        refine qq_nil ?_
        exact sx_midE (⟨!decide (((s.mks.getD k mk0).tk.length : Int) = (s.sh.length : Int)), bad2 hg4_12⟩) SU SR
    rintro ⟨vb, hvb⟩
    try dsimp only
    refine sx_then ?_
    refine scp (fun hc1 => ?_) (fun hc1 => ?_)
    ·
      have hv : mkB s (s.mks.getD k mk0) = false := by rw [mkB_eq, show m1B s (s.mks.getD k mk0) = false from by rw [show vb = true from hc1] at hvb; simpa using hvb.symm]; rfl
      refine sc_seq ?_
      refine sc_region ?_
      refine qs (y_assign RF) ?_
      refine sq_nil ?_
      refine sx_then ?_
      refine sc_ret ?_
      refine sx_then_ret ?_
      refine sx_blk_ret ?_
      refine sx_then_ret ?_
      refine sx_round_ret ?_
      refine sx_blk_ret ?_
      refine sx_then_ret ?_
      refine sx_ret1 (.inl rfl) rfl Tryd.results16 RF ?_
      intro w' hw'
      refine ⟨?_, hw'.below MM⟩
      unfold mksB; rw [all_bad hk' hv, Bool.and_false]
    ·
      have hv : m1B s (s.mks.getD k mk0) = true := by rw [show vb = false from hc1] at hvb; simpa using hvb.symm
      refine sc_skip ?_
      refine sx_then ?_
      refine sc_seq ?_
      refine sc_region ?_
      refine qs (y_assign RF) ?_
      refine sq_nil ?_
      refine sx_then ?_
      refine sc_block ?_
      refine sc_loop (σ := Nat)
        (fun s_ => [(1, .pointer (some ⟨b1, 0, none⟩)), (3, .int .i64 k), (4, .int .i64 s_)])
        (fun s_ => [.blk b1 (.cells (stV z s).toArray 27 (0, 0)), .reg 0 w])
        (fun s_ => s_ ≤ (s.mks.getD k mk0).tk.length ∧ ∀ j, j < s_ → tkB ((s.mks.getD k mk0).tk.getD j 0) = true)
        (fun s_ => (s.mks.getD k mk0).tk.length - s_)
        (0) ?_ SU SR ?_
      · exact ⟨Nat.zero_le _, fun j hj => absurd hj (Nat.not_lt_zero j)⟩
      rintro j ⟨hj, htall⟩
      have htlen := htk.len
      refine sc_seq ?_
      refine sc_seq ?_
      refine sc_region ?_
      refine qs (y_move RF) ?_
      refine qs FA27_24 ?_
      refine qs LD24 ?_
      refine qs (y_move RF) ?_
      refine qs IA24 ?_
      refine qs FA57_35 ?_
      refine qs (by first | exact y_load_caj Tryd.underlying35 rfl RF MM hcm rfl | exact LD35) ?_
      refine qs (y_len Tryd.underlying35 RF) ?_
      refine qs (y_lss RF RF) ?_
      refine sq_nil ?_
      refine sx_then ?_
      refine scp (fun hc2 => ?_) (fun hc2 => ?_)
      ·
        have hj' : j < (s.mks.getD k mk0).tk.length := by omega
        have hst := (htk.get 0 hj').1
        have hct := (htk.get 0 hj').2
        refine sc_skip ?_
        refine sx_then ?_
        refine sc_seq ?_
        refine sc_block ?_
        refine sc_seq ?_
        refine sc_region ?_
        refine qs FA27_24 ?_
        refine qs LD24 ?_
        refine qs (y_move RF) ?_
        refine qs IA24 ?_
        refine qs FA57_35 ?_
        refine qs (by first | exact y_load_caj Tryd.underlying35 rfl RF MM hcm rfl | exact LD35) ?_
        refine qs (y_move RF) ?_
        refine qs IA35 ?_
        refine qs (by first | exact y_load_ca0 Tryd.underlying3 rfl RF MM hct rfl | exact LD3) ?_
        refine qy (yc Tryd.call13 E3 (fun w1 _ => in13 _ _ _ w1)) ?_
        refine qs (y_not RF) ?_
        refine sq_nil ?_
        refine sx_then ?_
        refine scp (fun hc3 => ?_) (fun hc3 => ?_)
        ·
          have hv2 : mkB s (s.mks.getD k mk0) = false := by rw [mkB_eq, all_bad (d := 0) hj' (show tkB ((s.mks.getD k mk0).tk.getD j 0) = false from decide_eq_false hc3), Bool.and_false]
          refine sc_seq ?_
          refine sc_region ?_
          refine qs (y_assign RF) ?_
          refine sq_nil ?_
          refine sx_then ?_
          refine sc_ret ?_
          refine sx_blk_ret ?_
          refine sx_then_ret ?_
          refine sx_round_ret ?_
          refine sx_blk_ret ?_
          refine sx_blk_ret ?_
          refine sx_then_ret ?_
          refine sx_round_ret ?_
          refine sx_blk_ret ?_
          refine sx_then_ret ?_
          refine sx_ret1 (.inl rfl) rfl Tryd.results16 RF ?_
          intro w' hw'
          refine ⟨?_, hw'.below MM⟩
          unfold mksB; rw [all_bad hk' hv2, Bool.and_false]
        ·
          have ht : tkB ((s.mks.getD k mk0).tk.getD j 0) = true := decide_eq_true hc3
          refine sc_skip ?_
          refine sx_blk ?_
          refine sx_then ?_
          refine sc_region ?_
          refine qs (y_move RF) ?_
          refine qs (y_add RF RF (by omega)) ?_
          refine qs (y_assign RF) ?_
          refine sq_nil ?_
          refine sx_round (j + 1) ?_ ?_ SU SR
          · refine ⟨by omega, fun i hi => ?_⟩
            rcases Nat.lt_succ_iff_lt_or_eq.1 hi with h | rfl
            · exact htall i h
            · exact ht
          · omega
      ·
        have hv2 : mkB s (s.mks.getD k mk0) = true := by rw [mkB_eq, hv, all_good (d := 0) (fun i hi => htall i (by omega))]; rfl
        refine sc_exit ?_
        refine sx_then_exit ?_
        refine sx_round_exit ?_
        refine sx_blk_hit ?_
        refine sx_blk ?_
        refine sx_then ?_
        refine sc_region ?_
        refine qs (y_move RF) ?_
        refine qs (y_add RF RF (by omega)) ?_
        refine qs (y_assign RF) ?_
        refine sq_nil ?_
        refine sx_round (k + 1) ?_ ?_ SU SR
        · refine ⟨by omega, fun j hj => ?_⟩
          rcases Nat.lt_succ_iff_lt_or_eq.1 hj with h | rfl
          · exact hall j h
          · exact hv2
        · omega
  ·
    refine sc_exit ?_
    refine sx_then_exit ?_
    refine sx_round_exit ?_
    refine sx_blk_hit ?_
    refine sx_then ?_
    refine sc_seq ?_
    refine sc_region ?_
    refine qs FA27_24 ?_
    refine qs LD24 ?_
    refine qs (y_len Tryd.underlying24 RF) ?_
    refine qy (yc Tryd.call13 E3 (fun w1 _ => in13 _ _ _ w1)) ?_
    refine qs (y_assign RF) ?_
    refine sq_nil ?_
    refine sx_then ?_
    refine sc_ret ?_
    refine sx_ret1 (.inl rfl) rfl Tryd.results16 RF ?_
    intro w' hw'
    refine ⟨?_, hw'.below MM⟩
    unfold mksB; rw [all_good (d := mk0) (fun j hj => hall j (by omega)), Bool.and_true]; rfl
theorem store4 (w : World) (z : SA) (s : So) (hz : SoA 0 w z s) : Calls Tryd.prog 4 #[.agg (stV z s).toArray] w fun e w' => e = .returned (.bool (stB s)) ∧ Below w.heap.size w w' := by
  have hl3 := hz.mks.len
  have hl4 := hz.wi.len
  refine calls_of_SC (args := [.agg (stV z s).toArray]) Tryd.func4 rfl Tryd.ntmps4 rfl ?_
  simp only [argL]
  refine sc_seq ?_
  refine sc_region ?_
  refine sq_box RF rfl (fun b1 => ?_)
  refine qs (y_assign RF) ?_
  refine sq_nil ?_
  refine sx_then ?_
  refine sc_seq ?_
  refine sc_seq ?_
  refine sc_region ?_
  refine qs (y_assign RF) ?_
  refine sq_nil ?_
  refine sx_then ?_
  refine sc_block ?_
  refine sc_loop (σ := Nat)
    (fun s_ => [(1, .pointer (some ⟨b1, 0, none⟩)), (3, .int .i64 s_)])
    (fun s_ => [.blk b1 (.cells (stV z s).toArray 27 (0, 0)), .reg 0 w])
    (fun s_ => s_ ≤ s.wi.length ∧ ∀ j, j < s_ → wiB s (s.wi.getD j wi0) = true)
    (fun s_ => s.wi.length - s_)
    (0) ?_ SU SR ?_
  · exact ⟨Nat.zero_le _, fun j hj => absurd hj (Nat.not_lt_zero j)⟩
  rintro k ⟨hk, hall⟩
  refine sc_seq ?_
  refine sc_seq ?_
  refine sc_region ?_
  refine qs (y_move RF) ?_
  refine qs FA27_25 ?_
  refine qs LD25 ?_
  refine qs (y_len Tryd.underlying25 RF) ?_
  refine qs (y_lss RF RF) ?_
  refine sq_nil ?_
  refine sx_then ?_
  refine scp (fun hc0 => ?_) (fun hc0 => ?_)
  ·
    have hk' : k < s.wi.length := by omega
    have hsm := (hz.wi.get wi0 hk').1
    have hca := (hz.wi.get wi0 hk').2
    refine sc_skip ?_
    refine sx_then ?_
    refine sc_seq ?_
    refine sc_block ?_
    refine sc_seq ?_
    refine sc_region ?_
    refine qs FA27_25 ?_
    refine qs LD25 ?_
    refine qs (y_move RF) ?_
    refine qs IA25 ?_
    refine qs (by first | exact y_load_ca Tryd.underlying50 rfl Tryd.sizeOf50 RF MM hca rfl | exact LD50) ?_
    refine sq_alloc Tryd.zeroValue50 rfl (fun b4 => ?_)
    refine sq_store_all Tryd.sizeOf50 RF RF rfl RM rfl rfl ?_
    refine sq_nil ?_
    refine sx_then ?_
    refine sc_seq ?_
    refine sc_midE (Z := {v : Bool // v = !wiB s (s.wi.getD k wi0)}) (fun v => [(1, .pointer (some ⟨b1, 0, none⟩)), (3, .int .i64 k), (48, .bool v.1)]) (fun _ => [.blk b1 (.cells (stV z s).toArray 27 (0, 0)), .reg 0 w]) ?_ ?_
    ·
      refine sc_region ?_
      refine qs FA50_3 ?_
      refine qs LD3 ?_
      refine qs FA27_24 ?_
      refine qs LD24 ?_
      refine qs (y_len Tryd.underlying24 RF) ?_
      refine qs (y_sub RF RF (by omega)) ?_
      refine qy (yc Tryd.call13 E3 (fun w1 _ => in13 _ _ _ w1)) ?_
      refine qs (y_not RF) ?_
      refine qs (y_move RF) ?_
      refine spb 25 (fun hg5_8 => ?_) (fun hg5_8 => ?_)
      ·
        refine qf ?_
        refine qf ?_
        refine qf ?_
        refine qf ?_
        refine qs (y_pick_t RF RF) ?_
        refine qs (y_move RF) ?_
        refine qf ?_
        refine qf ?_
        refine qf ?_
        refine qf ?_
        refine qs (y_pick_t RF RF) ?_
        refine qs (y_move RF) ?_
        refine qf ?_
        refine qf ?_
        refine qf ?_
        refine qf ?_
        refine qs (y_pick_t RF RF) ?_
        refine qs (y_move RF) ?_
        refine qf ?_
        refine qf ?_
        refine qf ?_
        refine qf ?_
        refine qs (y_pick_t RF RF) ?_
        refine sq_nil ?_
        exact sx_midE (⟨true, ch1 hg5_8⟩) SU SR
      ·
        refine qg FA50_3 ?_
        refine qg LD3 ?_
        refine sq_gt RF RF (y_call (first := []) (caps := []) RF Tryd.call13 (EvL.cons RF (EvL.cons RF (EvL.cons RF EvL.nil))) (fun w1 _ => in13 _ _ _ w1)) rfl ?_
        refine qg (y_not RF) ?_
        refine qs (y_pick_f RF RF) ?_
        refine qs (y_move RF) ?_
        refine spb 31 (fun hg5_14 => ?_) (fun hg5_14 => ?_)
        ·
          refine qf ?_
          refine qf ?_
          refine qf ?_
          refine qf ?_
          refine qs (y_pick_t RF RF) ?_
          refine qs (y_move RF) ?_
          refine qf ?_
          refine qf ?_
          refine qf ?_
          refine qf ?_
          refine qs (y_pick_t RF RF) ?_
          refine qs (y_move RF) ?_
          refine qf ?_
          refine qf ?_
          refine qf ?_
          refine qf ?_
          refine qs (y_pick_t RF RF) ?_
          refine sq_nil ?_
          exact sx_midE (⟨true, ch2 hg5_8 hg5_14⟩) SU SR
        ·
          refine qg FA50_3 ?_
          refine qg LD3 ?_
          refine sq_gt RF RF (y_call (first := []) (caps := []) RF Tryd.call13 (EvL.cons RF (EvL.cons RF (EvL.cons RF EvL.nil))) (fun w1 _ => in13 _ _ _ w1)) rfl ?_
          refine qg (y_not RF) ?_
          refine qs (y_pick_f RF RF) ?_
          refine qs (y_move RF) ?_
          refine spb 37 (fun hg5_20 => ?_) (fun hg5_20 => ?_)
          ·
            refine qf ?_
            refine qf ?_
            refine qf ?_
            refine qf ?_
            refine qs (y_pick_t RF RF) ?_
            refine qs (y_move RF) ?_
            refine qf ?_
            refine qf ?_
            refine qf ?_
            refine qf ?_
            refine qs (y_pick_t RF RF) ?_
            refine sq_nil ?_
            exact sx_midE (⟨true, ch3 hg5_8 hg5_14 hg5_20⟩) SU SR
          ·
            refine qg FA50_3 ?_
            refine qg LD3 ?_
            refine sq_gt RF RF (y_call (first := []) (caps := []) RF Tryd.call13 (EvL.cons RF (EvL.cons RF (EvL.cons RF EvL.nil))) (fun w1 _ => in13 _ _ _ w1)) rfl ?_
            refine qg (y_not RF) ?_
            refine qs (y_pick_f RF RF) ?_
            refine qs (y_move RF) ?_
            refine spb 43 (fun hg5_26 => ?_) (fun hg5_26 => ?_)
            ·
              refine qf ?_
              refine qf ?_
              refine qf ?_
              refine qf ?_
              refine qs (y_pick_t RF RF) ?_
              refine sq_nil ?_
              exact sx_midE (⟨true, ch4 hg5_8 hg5_14 hg5_20 hg5_26⟩) SU SR
            ·
              refine qg FA50_3 ?_
              refine qg LD3 ?_
              refine sq_gt RF RF (y_call (first := []) (caps := []) RF Tryd.call13 (EvL.cons RF (EvL.cons RF (EvL.cons RF EvL.nil))) (fun w1 _ => in13 _ _ _ w1)) rfl ?_
              refine qg (y_not RF) ?_
              refine qs (y_pick_f RF RF) ?_
              refine sq_nil ?_
              exact sx_midE (⟨!inB (s.wi.getD k wi0).ship 0 100000, ch5 hg5_8 hg5_14 hg5_20 hg5_26⟩) SU SR
    rintro ⟨vb, hvb⟩
    try dsimp only
    refine sx_then ?_
    refine scp (fun hc1 => ?_) (fun hc1 => ?_)
    ·
      have hv : wiB s (s.wi.getD k wi0) = false := by rw [show vb = true from hc1] at hvb; simpa using hvb.symm
      refine sc_seq ?_
      refine sc_region ?_
      refine qs (y_assign RF) ?_
      refine sq_nil ?_
      refine sx_then ?_
      refine sc_ret ?_
      refine sx_blk_ret ?_
      refine sx_then_ret ?_
      refine sx_round_ret ?_
      refine sx_blk_ret ?_
      refine sx_then_ret ?_
      refine sx_ret1 (.inl rfl) rfl Tryd.results4 RF ?_
      intro w' hw'
      refine ⟨?_, hw'.below MM⟩
      rw [stB_eq, all_bad hk' hv, Bool.false_and]
    ·
      have hv : wiB s (s.wi.getD k wi0) = true := by rw [show vb = false from hc1] at hvb; simpa using hvb.symm
      refine sc_skip ?_
      refine sx_blk ?_
      refine sx_then ?_
      refine sc_region ?_
      refine qs (y_move RF) ?_
      refine qs (y_add RF RF (by omega)) ?_
      refine qs (y_assign RF) ?_
      refine sq_nil ?_
      refine sx_round (k + 1) ?_ ?_ SU SR
      · refine ⟨by omega, fun j hj => ?_⟩
        rcases Nat.lt_succ_iff_lt_or_eq.1 hj with h | rfl
        · exact hall j h
        · exact hv
      · omega
  ·
    refine sc_exit ?_
    refine sx_then_exit ?_
    refine sx_round_exit ?_
    refine sx_blk_hit ?_
    refine sx_then ?_
    refine sc_seq ?_
    refine sc_midE (Z := {v : Bool // v = (shsB s.sh && (lisB s.li && (mksB s && decide (s.wi.length ≤ 9))))}) (fun v => [(2, .bool v.1)]) (fun _ => [.reg 0 w]) ?_ ?_
    ·
      refine sc_region ?_
      refine qs FA27_22 ?_
      refine qs LD22 ?_
      refine qy (yc Tryd.call14 E1 (fun w1 hw1 => sheets14 w1 z.a1 z.c1 s.sh (hz.sh.at hw1 MM))) ?_
      refine qs (y_move RF) ?_
      refine spb 52 (fun hg7_3 => ?_) (fun hg7_3 => ?_)
      ·
        refine qg FA27_23 ?_
        refine qg LD23 ?_
        refine sq_gt RF RF (y_call (first := []) (caps := []) RF Tryd.call15 (EvL.cons RF EvL.nil) (fun w1 hw1 => licences15 w1 z.a2 z.c2 s.li (hz.li.at hw1 MM))) rfl ?_
        refine qs (y_pick_t RF RF) ?_
        refine qs (y_move RF) ?_
        refine spb 57 (fun hg7_8 => ?_) (fun hg7_8 => ?_)
        ·
          refine qg LD27 ?_
          refine sq_gt RF RF (y_call (first := []) (caps := []) RF Tryd.call16 (EvL.cons RF EvL.nil) (fun w1 hw1 => made16 w1 z s (hz.at hw1 MM))) rfl ?_
          refine qs (y_pick_t RF RF) ?_
          refine qs (y_move RF) ?_
          refine spb 61 (fun hg7_12 => ?_) (fun hg7_12 => ?_)
          ·
            refine qg FA27_25 ?_
            refine qg LD25 ?_
            refine qg (y_len Tryd.underlying25 RF) ?_
            refine qg (y_leq RF RF) ?_
            refine qs (y_pick_t RF RF) ?_
            refine qs (y_assign RF) ?_
            refine sq_nil ?_
            exact sx_midE (⟨decide ((s.wi.length : Int) ≤ 9), by rw [hg7_3, hg7_8, hg7_12, Bool.true_and, Bool.true_and, Bool.true_and, decide_eq_decide]; omega⟩) SU SR
          ·
            refine qf ?_
            refine qf ?_
            refine qf ?_
            refine qf ?_
            refine qs (y_pick_f RF RF) ?_
            refine qs (y_assign RF) ?_
            refine sq_nil ?_
            exact sx_midE (⟨false, by rw [hg7_3, hg7_8, hg7_12]; rfl⟩) SU SR
        ·
          refine qf ?_
          refine qf ?_
          refine qs (y_pick_f RF RF) ?_
          refine qs (y_move RF) ?_
          refine qf ?_
          refine qf ?_
          refine qf ?_
          refine qf ?_
          refine qs (y_pick_f RF RF) ?_
          refine qs (y_assign RF) ?_
          refine sq_nil ?_
          exact sx_midE (⟨false, by rw [hg7_3, hg7_8]; rfl⟩) SU SR
      ·
        refine qf ?_
        refine qf ?_
        refine qf ?_
        refine qs (y_pick_f RF RF) ?_
        refine qs (y_move RF) ?_
        refine qf ?_
        refine qf ?_
        refine qs (y_pick_f RF RF) ?_
        refine qs (y_move RF) ?_
        refine qf ?_
        refine qf ?_
        refine qf ?_
        refine qf ?_
        refine qs (y_pick_f RF RF) ?_
        refine qs (y_assign RF) ?_
        refine sq_nil ?_
        exact sx_midE (⟨false, by rw [hg7_3]; rfl⟩) SU SR
    rintro ⟨vb, hvb⟩
    try dsimp only
    refine sx_then ?_
    refine sc_ret ?_
    refine sx_ret1 (.inl rfl) rfl Tryd.results4 RF ?_
    intro w' hw'
    refine ⟨?_, hw'.below MM⟩
    rw [stB_eq, all_good (d := wi0) (fun j hj => hall j (by omega)), Bool.true_and, hvb]
end Go.Proofs.YtpodaihifdlkkaaDoor
