/- The walk of the flood. -/
import Derived.Test.YtfceajkofpafpaaHW2
namespace Go.Proofs.Ytfceajkofpafpaa
open Go Go.Eng Go.RowKit Go.Proofs
open Go.Proofs.Ytfceajkofpafpaa.Sc (iRow spRow sp0 Sp getD_of get_of_lt any_range_get all_not_any all_getD)
set_option maxRecDepth 100000
def bV (b : Bool) : Value := .bool b
/-- what is reached, as a map -/
def rl (R : List (Int × Int)) : List ((Int × Int) × Bool) := R.map fun p => (p, true)
theorem rl_snoc (R : List (Int × Int)) (p : Int × Int) : rl (R ++ [p]) = rl R ++ [(p, true)] := by unfold rl; rw [List.map_append]; rfl
theorem rl_keys (R : List (Int × Int)) : (rl R).map (·.1) = R := by unfold rl; rw [List.map_map]; exact List.map_id R
theorem rl_nd {R : List (Int × Int)} (h : R.Nodup) : ((rl R).map (·.1)).Nodup := by rw [rl_keys]; exact h
theorem rl_mem {R : List (Int × Int)} {q : (Int × Int) × Bool} (h : q ∈ rl R) : q.1 ∈ R ∧ q.2 = true := by
  obtain ⟨p, hp, rfl⟩ := List.mem_map.1 h
  exact ⟨hp, rfl⟩
theorem rl_ok {c : Ct} (h : CtF c) {R : List (Int × Int)} (hi : ∀ q, q ∈ R → inC c q) : ∀ p, p ∈ rl R → okC p.1 := fun _ hp => okC_in h (hi _ (rl_mem hp).1)
theorem rl_new {R : List (Int × Int)} {p : Int × Int} (h : p ∉ R) : mvGet (rl R) p = none := mvGet_no fun q hq e => h (by rw [← e]; exact (rl_mem hq).1)
theorem rl_get (R : List (Int × Int)) (p : Int × Int) : bV ((mvGet (rl R) p).getD false) = .bool (decide (p ∈ R)) := by
  cases hg : mvGet (rl R) p with
  | none =>
    have : p ∉ R := fun h => mvGet_none hg (p, true) (List.mem_map.2 ⟨p, h, rfl⟩) rfl
    rw [decide_eq_false this]; rfl
  | some v =>
    have h1 := rl_mem (mvGet_some hg)
    obtain ⟨h2, h3⟩ := h1
    dsimp only at h2 h3
    rw [decide_eq_true h2, h3]; rfl
theorem inC_bd {c : Ct} (h : CtF c) {p : Int × Int} (hp : inC c p) : (-100 ≤ p.1 ∧ p.1 ≤ 100) ∧ (-100 ≤ p.2 ∧ p.2 ≤ 100) := by
  obtain ⟨h1, h2, h3, h4⟩ := hp
  have := h.w2
  have := h.h2
  omega
theorem around95q {w0 wr w : World} {lo l : Nat} {lp : Loop} {rs : List Res} (_ : Hp w0 rs w) (_ : Res.blk l (.loop lp) ∈ rs) {x y : Int} (hx : -100 ≤ x ∧ x ≤ 100) (hy : -100 ≤ y ∧ y ≤ 100) (pb : Addr) (hpb : CA lo wr pb [.int .i64 x, .int .i64 y]) (U : UsrA w0 l lp (x, y)) (z : U.Z) (hinv : U.Inv 0 z) (hw : Hp w0 (.reg lo wr :: U.UR z) w) {R : Ending → World → Prop}
    (h : ∀ e w', (∃ v, e = .returned v) → ∀ (z : U.Z), U.Inv 4 z → Hp w0 (.reg lo wr :: U.UR z) w' → R e w') : Calls Try.prog 95 #[.func (.yield l) #[] #[], .pointer (some pb)] w R :=
  (around95 hx hy pb hpb U z hinv w hw).mono fun e w' ⟨hv, y, h1, h2⟩ => h e w' hv y h1 h2
/-- what the flood holds -/
def FO (c : Ct) (a : Option Addr) (cp b bt bm b1 bo : Nat) (w0 : World) (R : List (Int × Int)) (T : List Res) : List Res :=
  .blk bt (.cells #[.map (some bm)] 150 (0, 0)) :: .blk bm (mvM cK bV (rl R)) :: .blk b1 (.cells #[.int .i64 c.wide, .int .i64 c.high, .slice a c.piece.length cp, .map (some b)] 90 (0, 0)) :: .blk bo (.cells #[.func (.func 60) #[] #[.pointer (some ⟨bt, 0, none⟩), .pointer (some ⟨b1, 0, none⟩), .pointer (some ⟨bo, 0, none⟩)]] 151 (0, 0)) :: .reg 0 w0 :: T
def OnOk (c : Ct) (a : Option Addr) (cp b bt bm b1 bo : Nat) (w0 : World) (n : Nat) : Prop := ∀ (R : List (Int × Int)) (p : Int × Int) (T : List Res) (w : World), c.piece.length ≤ R.length + n → R.Nodup → (∀ q, q ∈ R → inC c q) → inC c p → p ∉ R → Hp w0 (FO c a cp b bt bm b1 bo w0 R T) w →
  Calls Try.prog 60 #[.agg #[.int .i64 p.1, .int .i64 p.2], .pointer (some ⟨bt, 0, none⟩), .pointer (some ⟨b1, 0, none⟩), .pointer (some ⟨bo, 0, none⟩)] w fun e w' => ∃ R', Dfs c R p R' ∧ e = .returned (.tuple #[]) ∧ Hp w0 (FO c a cp b bt bm b1 bo w0 R' T) w'
theorem on60_step {c : Ct} (h : CtF c) {a : Option Addr} {cp b bt bm b1 bo : Nat} {w0 : World} (hb : MpA 0 w0 b c) {n : Nat} (ih : OnOk c a cp b bt bm b1 bo w0 n) : OnOk c a cp b bt bm b1 bo w0 (n + 1) := by
  intro R p T w hn hnd hins hp hno hw
  have hbd := inC_bd h hp
  unfold FO at hw
  refine calls_of_SCrm (args := [.agg #[.int .i64 p.1, .int .i64 p.2], .pointer (some ⟨bt, 0, none⟩), .pointer (some ⟨b1, 0, none⟩), .pointer (some ⟨bo, 0, none⟩)]) Try.func60 rfl Try.ntmps60 hw rfl ?_
  simp only [argL, Nat.reduceAdd, Nat.zero_add]
  refine sc_seq ?_
  refine sc_region ?_
  refine sq_box RF rfl (fun b4 => ?_)
  refine sq_nil ?_
  refine sx_then ?_
  refine sc_seq ?_
  refine sc_region ?_
  refine qs LD150 ?_
  refine qs LD137 ?_
  refine sq_mapPutV (kf := cK) (vf := bV) (x0 := p) (b1 := true) kv137.toKF (rl_ok h hins) (rl_nd hnd) (okC_in h hp) Try.underlying150 RF RM RF RF (rl_new hno) ?_
  rw [← rl_snoc]
  refine sq_nil ?_
  refine sx_then ?_
  refine sc_seq ?_
  refine sc_region ?_
  refine qs LD137 ?_
  refine sq_call_new (first := []) (caps := []) (Z := Addr) (fun q => .func (.func 95) #[] #[.pointer (some q)]) (fun lo w' q => CA lo w' q [.int .i64 p.1, .int .i64 p.2]) RF Try.call56 (EvL.cons RF EvL.nil) (fun w1 _ => around56 w1 p.1 p.2) rfl (fun lo wr pb hpb => ?_)
  refine sq_nil ?_
  refine sx_then ?_
  refine sc_block ?_
  refine sc_rangeFunc (Z := List (Int × Int)) (ps := [10]) (lb := [.pointer (some pb)]) (fun R' => .reg lo wr :: .blk b4 (.cells #[.int .i64 p.1, .int .i64 p.2] 137 (0, 0)) :: .blk bt (.cells #[.map (some bm)] 150 (0, 0)) :: .blk bm (mvM cK bV (rl R')) :: .blk b1 (.cells #[.int .i64 c.wide, .int .i64 c.high, .slice a c.piece.length cp, .map (some b)] 90 (0, 0)) :: .blk bo (.cells #[.func (.func 60) #[] #[.pointer (some ⟨bt, 0, none⟩), .pointer (some ⟨b1, 0, none⟩), .pointer (some ⟨bo, 0, none⟩)]] 151 (0, 0)) :: .reg 0 w0 :: T) (fun R' => Dfi c R p 4 R') rfl RF Try.call95 ?_ ?_
  ·
    intro fn tm l D hts htL w1 hw1
    refine around95q hw1 (.head _) hbd.1 hbd.2 pb hpb { Z := List (Int × Int), UR := fun R' => .blk l (.loop (LP fn tm [10] _ _ D)) :: .blk D (.deferred (some [])) :: .blk b4 (.cells #[.int .i64 p.1, .int .i64 p.2] 137 (0, 0)) :: .blk bt (.cells #[.map (some bm)] 150 (0, 0)) :: .blk bm (mvM cK bV (rl R')) :: .blk b1 (.cells #[.int .i64 c.wide, .int .i64 c.high, .slice a c.piece.length cp, .map (some b)] 90 (0, 0)) :: .blk bo (.cells #[.func (.func 60) #[] #[.pointer (some ⟨bt, 0, none⟩), .pointer (some ⟨b1, 0, none⟩), .pointer (some ⟨bo, 0, none⟩)]] 151 (0, 0)) :: .reg 0 w0 :: T, Inv := fun i R' => Dfi c R p i R', loop := fun _ => .head _, one := rfl, round := ?_ } (R ++ [p]) (Dfi.start hnd hins hp hno) (hw1.sel SR) ?_
    rotate_left
    · intro e w' hv R' h1 h2
      exact ⟨R', h1, hv, h2.sel SR⟩
    rintro i R' hi hz F2 w2 hw2
    rw [fold1]
    obtain ⟨hs2, hL2⟩ := one_param (p := 10) (u := .agg #[.int .i64 (nb p i).1, .int .i64 (nb p i).2]) hts htL (Nat.le_of_ble_eq_true rfl)
    refine round_of_SC (N := 28) hs2 hL2 hw2 ?_
    dsimp only [List.cons_append]
    refine sc_region ?_
    refine sq_alloc Try.zeroValue137 rfl (fun b5 => ?_)
    refine sq_store_all Try.sizeOf137 RF RF rfl RM rfl rfl ?_
    refine sq_nil ?_
    refine sx_begin rfl RM rfl ?_
    refine sc_block ?_
    refine sc_seq ?_
    refine sc_drawR (by kernel_rfl) ?_
    refine xj_s 0 RF (by kernel_rfl) SR LD150 rfl ?_
    refine xj_s 1 RF (by kernel_rfl) SR LD137 rfl ?_
    refine xj_s 2 RF (by kernel_rfl) SR (y_lookupV (kf := cK) (vf := bV) (x0 := nb p i) (b0 := false) kv137.toKF (rl_ok h hz.ins) (rl_nd hz.nd) (okC_nb hbd i) Try.underlying150 Try.zeroValue4 RF (fun _ hw => hw.ok (Res.blk bm (mvM cK bV (rl R'))) MM) RF) rfl ?_
    rw [rl_get]
    refine xj_s 3 RF (by kernel_rfl) SR (y_not RF) rfl ?_
    refine xj_s 4 RF (by kernel_rfl) SR (y_move RF) rfl ?_
    first | refine xj_splitd (tt := 15) RF (fun hg4_4 => ?_) (fun hg4_4 => ?_) | refine xj_splitn (tt := 15) RF (fun hg4_4 => ?_) (fun hg4_4 => ?_) | refine xj_split (tt := 15) RF (fun hg4_4 => ?_) (fun hg4_4 => ?_)
    ·
      refine xj_gt 5 RF RF RF (by kernel_rfl) SR LD90 rfl ?_
      refine xj_gt 6 RF RF RF (by kernel_rfl) SR LD137 rfl ?_
      refine xj_gt 8 RF RF RF (by kernel_rfl) SR FA90_88 rfl ?_
      refine xj_gt 9 RF RF RF (by kernel_rfl) SR LD88 rfl ?_
      refine xj_gt 10 RF RF RF (by kernel_rfl) SR LD137 rfl ?_
      refine xj_gt 11 RF RF RF (by kernel_rfl) SR (y_lookupV (l := cellsL c) (kf := cK) (vf := iV) (x0 := p) (b0 := 0) kv137.toKF (cellsN_ok h (Nat.le_refl _)) (cellsN_nd h (Nat.le_refl _)) (okC_in h hp) Try.underlying88 Try.zeroValue3 RF (fun _ hw => hb.hp MM hw) RF) rfl ?_
      try rw [show iV ((mvGet (cellsL c) p).getD 0) = .int .i64 (atC c p) from by rw [(cellsL_get h p).2 hp]; rfl]
      refine xj_one 7 RF (by kernel_rfl) ?_
      refine sq_gt RF RF (y_call (first := []) (caps := []) RF Try.call53 (EvL.cons RF (EvL.cons RF EvL.nil)) (fun w1 hw1 => piece53 w1 c h a cp b (hb.at hw1 MM) (nb p i) (okC_nb hbd i))) rfl ?_
      refine sq_nil ?_
      refine sx_xp SR ?_
      refine xj_gt 12 RF RF RF (by kernel_rfl) SR (y_eql RF RF) rfl ?_
      refine xj_s 13 RF (by kernel_rfl) SR (y_pick_t RF RF) rfl ?_
      refine xj_done (by kernel_rfl) ?_
      refine sx_then ?_
      refine scp (fun hc0 => ?_) (fun hc0 => ?_)
      ·
        have hn4 := hg4_4
        have he4 := hc0
        refine sc_region ?_
        refine qs LD151 ?_
        refine qs LD137 ?_
        refine sq_call (first := []) (caps := [.pointer (some ⟨bt, 0, none⟩), .pointer (some ⟨b1, 0, none⟩), .pointer (some ⟨bo, 0, none⟩)]) (Z := List (Int × Int)) (fun _ => .tuple #[]) (fun R2 => .blk bt (.cells #[.map (some bm)] 150 (0, 0)) :: .blk bm (mvM cK bV (rl R2)) :: .blk b1 (.cells #[.int .i64 c.wide, .int .i64 c.high, .slice a c.piece.length cp, .map (some b)] 90 (0, 0)) :: .blk bo (.cells #[.func (.func 60) #[] #[.pointer (some ⟨bt, 0, none⟩), .pointer (some ⟨b1, 0, none⟩), .pointer (some ⟨bo, 0, none⟩)]] 151 (0, 0)) :: .reg 0 w0 :: (.blk b5 (.cells #[.int .i64 (nb p i).1, .int .i64 (nb p i).2] 137 (0, 0)) :: .blk l (.loop { LP fn tm [10] _ _ D with state := .busy }) :: .blk D (.deferred (some [])) :: .blk b4 (.cells #[.int .i64 p.1, .int .i64 p.2] 137 (0, 0)) :: (T ++ F2))) (fun R2 => Dfs c R' (nb p i) R2) RF Try.call60 (EvL.cons RF EvL.nil) (fun w1 hw1 => ih R' (nb p i) (.blk b5 (.cells #[.int .i64 (nb p i).1, .int .i64 (nb p i).2] 137 (0, 0)) :: .blk l (.loop { LP fn tm [10] _ _ D with state := .busy }) :: .blk D (.deferred (some [])) :: .blk b4 (.cells #[.int .i64 p.1, .int .i64 p.2] 137 (0, 0)) :: (T ++ F2)) w1 (by have := hz.len; omega) hz.nd hz.ins (by rw [← atC_in h, he4, atC_in h]; exact hp) hn4 (by unfold FO; exact hw1.sel SR)) rfl (fun R2 hR2 => ?_)
        refine sq_nil ?_
        refine sx_blk ?_
        refine sx_endround RM ?_
        intro w' hw'
        exact ⟨R2, hz.more hi he4 hR2, rfl, hw'.sel SR⟩
      ·
        refine sc_skip ?_
        refine sx_blk ?_
        refine sx_endround RM ?_
        intro w' hw'
        exact ⟨R', hz.skip (fun e => absurd e hc0), rfl, hw'.sel SR⟩
    ·
      refine xj_gf 5 RF RF RF rfl (by kernel_rfl) SR rfl ?_
      refine xj_gf 6 RF RF RF rfl (by kernel_rfl) SR rfl ?_
      refine xj_gf 7 RF RF RF rfl (by kernel_rfl) SR rfl ?_
      refine xj_gf 8 RF RF RF rfl (by kernel_rfl) SR rfl ?_
      refine xj_gf 9 RF RF RF rfl (by kernel_rfl) SR rfl ?_
      refine xj_gf 10 RF RF RF rfl (by kernel_rfl) SR rfl ?_
      refine xj_gf 11 RF RF RF rfl (by kernel_rfl) SR rfl ?_
      try rw [show iV ((mvGet (cellsL c) p).getD 0) = .int .i64 (atC c p) from by rw [(cellsL_get h p).2 hp]; rfl]
      refine xj_gf 12 RF RF RF rfl (by kernel_rfl) SR rfl ?_
      refine xj_s 13 RF (by kernel_rfl) SR (y_pick_f RF RF) rfl ?_
      refine xj_done (by kernel_rfl) ?_
      refine sx_then ?_
      refine sc_f RF ?_
      refine sc_skip ?_
      refine sx_blk ?_
      refine sx_endround RM ?_
      intro w' hw'
      exact ⟨R', hz.skip (fun _ => hg4_4), rfl, hw'.sel SR⟩
  ·
    rintro D R' hz
    refine sx_blk ?_
    refine sx_retM (.inr rfl) rfl RM (.tuple #[]) (fun a w _ _ => by rw [results_none Try.results60]) ?_
    intro w' hw'
    exact ⟨R', hz.done, rfl, hw'.sel SR⟩
theorem on60 {c : Ct} (h : CtF c) {a : Option Addr} {cp b bt bm b1 bo : Nat} {w0 : World} (hb : MpA 0 w0 b c) : ∀ n, OnOk c a cp b bt bm b1 bo w0 n
  | 0 => fun R p T w hn hnd hins hp hno _ => by
    have := room h hnd hins hp hno
    omega
  | n + 1 => on60_step h hb (on60 h hb n)
end Go.Proofs.Ytfceajkofpafpaa
