/- The walk of the best exchange: a recursion that remembers. -/
import Derived.Test.YtpijahglojichaaDoorLawB
namespace Go.Eng
open Go Go.RowKit
section
variable {X : Ctx} {Q : Post} {L : List (Nat × Value)} {rs : List Res} {ops : Array Oper} {rest : List Oper} {t e : TypeId} {v : Value} {d0 : TypeDesc} {n : Nat}
theorem sq_own_dest {l : List Oper} {sz m : Nat} {xs : List Value} (hm : Res.own v e sz m xs ∈ rs) (h : ∀ a cp, v = .slice a m cp → m ≤ cp → (a = none → m = 0) → SQ X ops Q l L rs) : SQ X ops Q l L rs := fun a w ha hw => by
  obtain ⟨a0, cp, h1, h2, h3⟩ := own_dest hw hm
  exact h a0 cp h1 h2 h3 a w ha hw
theorem xj_join {rq rs' : List Res} {r : Res} {D : Nat → Prop} {wr : World} {fuel : Nat} {listed : Array Bool} (hr : Rems [r, .set D wr] rs rs') (h : ∀ w', Grow D wr (fun k => D k ∨ r.dom k) w' → r.ok w' → XJ X ops rq Q fuel listed L (.set (fun k => D k ∨ r.dom k) w' :: rs')) : XJ X ops rq Q fuel listed L rs := fun a w ha hw => by
  obtain ⟨h1, h2, h3⟩ := (hw.sel hr.sel).join
  exact h w h2 h3 a w ha h1
theorem res_c {fn : Func} {r : Tmp} {b : Nat} {vs : List Value} {fz : Nat × Nat} (hr : fn.results = #[.cell r t]) (hu : X.P.underlying t = some d0) (hs : scal d0 = false) (hz : ∀ w, (Go.sizeOf t).run X.P w = .ok n w)
    (hv : lk L r = some (.pointer (some ⟨b, 0, none⟩))) (hm : Res.blk b (.cells vs.toArray e fz) ∈ rs) (hl : vs.length = n) : ∀ a w, St X.N X.D L a → Hp X.w0 rs w → (results fn a.tmps).run X.P w = .ok (.agg vs.toArray) w := by
  intro a w ha hw
  have hg : a.tmps[r]? = some (.pointer (some ⟨b, 0, none⟩)) := ha.get _ _ hv
  simp [results, hr, hg, asAddr, cell_var hw hu hs hz hm hl]
end
theorem selMove (A F F' : List Res) (R : Res) : Sel (A ++ R :: (F ++ F')) ((A ++ F) ++ R :: F') := by
  induction A with
  | nil => exact Sel.cons (Rem.mid R F F') (Sel.refl _)
  | cons a A ih => exact Sel.cons .here ih
theorem selBack (A F F' : List Res) (R : Res) : Sel ((A ++ F) ++ R :: F') (A ++ R :: (F ++ F')) := by
  induction A with
  | nil =>
    induction F with
    | nil => exact Sel.refl _
    | cons f F ih => exact Sel.cons (.there .here) ih
  | cons a A ih => exact Sel.cons .here ih
end Go.Eng
namespace Go.Proofs.YtpijahglojichaaDoor
open Go Go.Eng Go.RowKit Go.Proofs
set_option maxRecDepth 100000
def stV (p left : Nat) : List Value := [.int .i64 (p : Int), .int .i64 (left : Int)]
def pk (x : Nat × Nat) : Value := .agg (stV x.1 x.2).toArray
theorem key130 : WideMaps.KeyLaw Tryd.prog 130 := deep_law (m := 3) (by omega) (by kernel_rfl) (by kernel_rfl) (by kernel_rfl)
theorem keyInt (d n : Nat) (h : n ≤ 1000000) : Tryd.prog.keyLits (d + 1) 3 [.int .i64 (n : Int)] = some [.int .i64 (n : Int)] := by
  have hw : (Lit.int .i64 (n : Int)).wf = true := by
    unfold Lit.wf; simp only [Bool.and_eq_true, decide_eq_true_eq]
    constructor
    · exact Int.le_trans (show IntKind.i64.min ≤ 0 by decide) (by omega)
    · exact Int.le_trans (show (n : Int) ≤ 1000000 by omega) (show (1000000 : Int) ≤ IntKind.i64.max by decide)
  unfold Program.keyLits
  simp [Tryd.underlying3, hw]
theorem key130_of (x : Nat × Nat) (h : x.1 ≤ 1000000 ∧ x.2 ≤ 1000000) : ∃ l, keyOf Tryd.prog 130 (pk x) = some l := by
  obtain ⟨i, j⟩ := x
  have h130 := Tryd.underlying130
  have hc : Tryd.prog.cellsOf 130 = 2 := by kernel_rfl
  have hc3 : Tryd.prog.cellsOf 3 = 1 := by kernel_rfl
  have hkt : Tryd.prog.keyType 130 = true := by kernel_rfl
  have hf : (pk (i, j)).formed Tryd.prog 130 = true := by simp [pk, stV, Value.formed, h130, hc]
  have h1 : Nat.ble 1 Tryd.prog.types.size = true := by kernel_rfl
  obtain ⟨d, hd⟩ : ∃ d, Tryd.prog.types.size + 1 = d + 2 := ⟨Tryd.prog.types.size - 1, by have := Nat.le_of_ble_eq_true h1; omega⟩
  have hl : Tryd.prog.keyLits (d + 2) 130 [.int .i64 (i : Int), .int .i64 (j : Int)] = some [.int .i64 (i : Int), .int .i64 (j : Int)] := by
    unfold Program.keyLits
    simp [h130, hc, hc3, keyInt d i h.1, keyInt d j h.2]
  unfold keyOf
  simp only [h130, hkt, hf, hd]
  rw [show (pk (i, j)).cells.toList = [.int .i64 (i : Int), .int .i64 (j : Int)] from rfl, hl]
  exact ⟨_, rfl⟩
theorem kf130 : KF Tryd.prog 130 pk (fun x => x.1 ≤ 1000000 ∧ x.2 ≤ 1000000) := KF.of_law key130 key130_of (fun a b h => by
  obtain ⟨i, j⟩ := a
  obtain ⟨i', j'⟩ := b
  simp [pk, stV] at h
  rw [Prod.mk.injEq]; omega)
abbrev Mem := List ((Nat × Nat) × List Value)
/-- what is remembered is true -/
structure Memo (m : Mt) (D : Nat → Prop) (wM : World) (l : Mem) : Prop where
  nd : (l.map (·.1)).Nodup
  ok : ∀ x v, (x, v) ∈ l → (x.1 ≤ 1000000 ∧ x.2 ≤ 1000000) ∧ ∃ y : Option Addr × Nat, v = tdV y (bestT m x.1 x.2) ∧ RowsS iRow 1 D wM y.1 (bestT m x.1 x.2).gets
theorem Memo.grow {m D wM D' wM' l} (h : Memo m D wM l) (g : Grow D wM D' wM') : Memo m D' wM' l := ⟨h.nd, fun x v hx => by
  obtain ⟨h1, y, h2, h3⟩ := h.ok x v hx
  exact ⟨h1, y, h2, h3.grow g⟩⟩
theorem Memo.keys {m D wM l} (h : Memo m D wM l) : ∀ p, p ∈ l → p.1.1 ≤ 1000000 ∧ p.1.2 ≤ 1000000 := fun p hp => (h.ok p.1 p.2 hp).1
theorem Memo.snoc {m D wM l} (h : Memo m D wM l) {x : Nat × Nat} (hx : x.1 ≤ 1000000 ∧ x.2 ≤ 1000000) (hno : ∀ p, p ∈ l → p.1 ≠ x) {y : Option Addr × Nat} (hr : RowsS iRow 1 D wM y.1 (bestT m x.1 x.2).gets) : Memo m D wM (l ++ [(x, tdV y (bestT m x.1 x.2))]) := by
  refine ⟨?_, fun x' v hv => ?_⟩
  · rw [List.map_append, List.nodup_append]
    refine ⟨h.nd, by simp, fun a ha b hb => ?_⟩
    obtain ⟨p, hp, rfl⟩ := List.mem_map.1 ha
    simp at hb
    subst hb
    exact hno p hp
  · rcases List.mem_append.1 hv with hv | hv
    · exact h.ok x' v hv
    · simp at hv
      obtain ⟨rfl, rfl⟩ := hv
      exact ⟨hx, y, rfl, hr⟩
def z85 : List Value := [.slice none 0 0, .int .i64 0]
theorem memo_len {m D wM l} (h : Memo m D wM l) (x : Nat × Nat) : ((kvGet l x).getD z85).length = 2 ∧ ((kvGet l x).getD z85).all (·.oneCell') = true := by
  cases hg : kvGet l x with
  | none => exact ⟨rfl, rfl⟩
  | some v =>
    obtain ⟨_, y, h2, _⟩ := h.ok x v (kvGet_some hg)
    subst h2; exact ⟨rfl, rfl⟩
theorem flat_cons (k : Int) (l : List Int) : [Value.int .i64 k] ++ l.flatMap iRow = (k :: l).flatMap iRow := by rw [List.flatMap_cons]; rfl
/-- what a call leaves behind -/
structure Lft where
  l : Mem
  D : Nat → Prop
  w : World
  y : Option Addr × Nat
structure LftOk (m : Mt) (p left : Nat) (l : Mem) (D : Nat → Prop) (wM : World) (q : Lft) : Prop where
  memo : Memo m q.D q.w q.l
  grow : Grow D wM q.D q.w
  rows : RowsS iRow 1 q.D q.w q.y.1 (bestT m p left).gets
  keys : ∀ x, x ∈ q.l → x ∈ l ∨ p ≤ x.1.1

theorem own_at {w0 w : World} {rs : List Res} {e : TypeId} {a : Option Addr} {c n : Nat} {l : List Int} (hw : Hp w0 rs w) (hn : l.length = n) (hm : Res.own (.slice a n c) e 1 n (l.flatMap iRow) ∈ rs) (h64 : n ≤ 9223372036854775807 := by omega) : RowsA iRow 1 0 w a l := by
  obtain ⟨a', c', hv, _, hr⟩ := own_rowsA (row := iRow) (fun _ => rfl) (hw.ok _ hm) hn h64
  injection hv with h1; subst h1; exact hr
theorem own_atS {w : World} {e : TypeId} {a : Option Addr} {c n : Nat} {l : List Int} {D : Nat → Prop} (h : w.ownsRow 0 e 1 (.slice a n c) n (l.flatMap iRow)) (hn : l.length = n) (h64 : n ≤ 9223372036854775807) : RowsS iRow 1 (fun k => D k ∨ (Res.own (.slice a n c) e 1 n (l.flatMap iRow)).dom k) w a l := by
  obtain ⟨a', c', hv, _, hr⟩ := own_rowsS (row := iRow) (fun _ => rfl) (fun k => D k ∨ (Res.own (.slice a n c) e 1 n (l.flatMap iRow)).dom k) h hn h64 (fun k hk => .inr hk)
  injection hv with h1; subst h1; exact hr
theorem offer_some (h : Option Td) (t : Td) (y y' : Option Addr × Nat) : offer h t = none → (if takesB h t = true then y else y') = (none, 0) := fun hn => by
  unfold offer takesB at *
  cases h with
  | none => simp at hn
  | some o =>
    dsimp only at hn ⊢
    split at hn <;> cases hn
theorem step_ok {m : Mt} {p left i : Nat} {l : Mem} {D : Nat → Prop} {wM wj : World} {q q2 : Lft} {h : Option Td} {E : Nat → Prop} {a : Option Addr} {c : Nat} {t : Td} (hqg : Grow D wM q.D q.w) (hrq : RowsS iRow 1 q.D q.w q.y.1 (tdOf h).gets) (hqk : ∀ x, x ∈ q.l → x ∈ l ∨ p + 1 ≤ x.1.1) (hq2 : LftOk m (p + 1) (dropN left i) q.l q.D q.w q2) (hg : Grow q2.D q2.w E wj) (hr : RowsS iRow 1 E wj a t.gets) :
    Memo m E wj q2.l ∧ Grow D wM E wj ∧ RowsS iRow 1 E wj (if takesB h t = true then (a, c) else q.y).1 (tdOf (offer h t)).gets ∧ ∀ x, x ∈ q2.l → x ∈ l ∨ p + 1 ≤ x.1.1 := by
  refine ⟨hq2.memo.grow hg, (hqg.trans hq2.grow).trans hg, ?_, fun x hx => (hq2.keys x hx).elim (hqk x) (fun h => .inr h)⟩
  by_cases ht : takesB h t = true
  · rw [if_pos ht, show offer h t = some t from if_pos ht]; exact hr
  · rw [if_neg ht, show offer h t = h from if_neg ht]; exact (hrq.grow hq2.grow).grow hg
theorem zv85 : ∀ w, (zeroValue 85).run Tryd.prog w = .ok (.agg z85.toArray) w := Tryd.zeroValue85
/-- what the recursion does, from a person on -/
def BestAt (w0 : World) (z : MA) (m : Mt) (bm c1 c3 c4 c5 p : Nat) : Prop := ∀ (left : Nat) (l : Mem) (D : Nat → Prop) (wM : World) (F : List Res) (w : World), left < 128 → (∀ i, i ∈ memL left → i < m.length) → Memo m D wM l → Hp w0 (.blk bm (kvM pk l) :: .set D wM :: .blk c1 (.cells (mV z m).toArray 75 (0, 0)) :: .blk c3 (.cells [Value.int .i64 (m.length : Int)].toArray 3 (0, 0)) :: .blk c4 (.cells [Value.map (some bm)].toArray 127 (0, 0)) :: .blk c5 (.cells [.func (.func 80) #[] #[.pointer (some ⟨c3, 0, none⟩), .pointer (some ⟨c4, 0, none⟩), .pointer (some ⟨c1, 0, none⟩), .pointer (some ⟨c5, 0, none⟩)]].toArray 128 (0, 0)) ::  .reg 0 w0 :: F) w →
  Calls Tryd.prog 80 #[.agg (stV p left).toArray, .pointer (some ⟨c3, 0, none⟩), .pointer (some ⟨c4, 0, none⟩), .pointer (some ⟨c1, 0, none⟩), .pointer (some ⟨c5, 0, none⟩)] w fun e w' => ∃ q : Lft, LftOk m p left l D wM q ∧ e = .returned (.agg (tdV q.y (bestT m p left)).toArray) ∧ Hp w0 (.blk bm (kvM pk q.l) :: .set q.D q.w :: .blk c1 (.cells (mV z m).toArray 75 (0, 0)) :: .blk c3 (.cells [Value.int .i64 (m.length : Int)].toArray 3 (0, 0)) :: .blk c4 (.cells [Value.map (some bm)].toArray 127 (0, 0)) :: .blk c5 (.cells [.func (.func 80) #[] #[.pointer (some ⟨c3, 0, none⟩), .pointer (some ⟨c4, 0, none⟩), .pointer (some ⟨c1, 0, none⟩), .pointer (some ⟨c5, 0, none⟩)]].toArray 128 (0, 0)) ::  .reg 0 w0 :: F) w'
theorem best80 (w0 : World) (z : MA) (m : Mt) (hz : MtA 0 w0 z m) (hm : MkF m) (hT : TabAt w0) (bm c1 c3 c4 c5 p : Nat) (hp : p ≤ m.length) (ih : p < m.length → BestAt w0 z m bm c1 c3 c4 c5 (p + 1)) : BestAt w0 z m bm c1 c3 c4 c5 p := by
  intro left l D wM F w hl128 hlm hmemo hw
  have hn7 := hm.n7
  have hkey : (p, left).1 ≤ 1000000 ∧ (p, left).2 ≤ 1000000 := by dsimp only; omega
  have hml := memo_len hmemo (p, left)
  refine calls_of_SCrm (args := [.agg (stV p left).toArray, .pointer (some ⟨c3, 0, none⟩), .pointer (some ⟨c4, 0, none⟩), .pointer (some ⟨c1, 0, none⟩), .pointer (some ⟨c5, 0, none⟩)]) Tryd.func80 rfl Tryd.ntmps80 hw rfl ?_
  simp only [argL, Nat.reduceAdd, Nat.zero_add]
  refine sc_seq ?_
  refine sc_region ?_
  refine sq_box RF rfl (fun b5 => ?_)
  refine sq_alloc Tryd.zeroValue85 rfl (fun b6 => ?_)
  refine sq_nil ?_
  refine sx_then ?_
  refine sc_seq ?_
  refine sc_seq ?_
  refine sc_region ?_
  refine qs FA130_3 ?_
  refine qs LD3 ?_
  refine qs LD3 ?_
  refine qs (y_eql RF RF) ?_
  refine sq_nil ?_
  refine sx_then ?_
  refine scp (fun hc0 => ?_) (fun hc0 => ?_)
  ·
    have hpe : p = m.length := by omega
    have hbe := bestT_end (m := m) (p := p) (left := left) (by omega)
    refine sc_seq ?_
    refine sc_region ?_
    refine qs (y_build bt85 EvP.nil RF) ?_
    refine sq_store_all Tryd.sizeOf85 RF RF rfl RM rfl rfl ?_
    refine sq_nil ?_
    refine sx_then ?_
    refine sc_ret ?_
    refine sx_then_ret ?_
    refine sx_retM0 (.inl rfl) rfl _ (res_c Tryd.results80 Tryd.underlying85 rfl Tryd.sizeOf85 RF MM rfl) ?_
    intro w' hw'
    exact ⟨⟨l, D, wM, (none, 0)⟩, ⟨hmemo, Grow.refl _ _, by rw [hbe]; exact RowsS.nil _ _, fun x hx => .inl hx⟩, by rw [hbe]; rfl, hw'.sel SR⟩
  ·
    have hpn : p < m.length := by omega
    refine sc_skip ?_
    refine sx_then ?_
    refine sc_seq ?_
    refine sc_seq ?_
    refine sc_region ?_
    refine qs LD127 ?_
    refine qs LD130 ?_
    refine qs (y_lookupOkK (kf := pk) (x0 := (p, left)) (z0 := z85) kf130 hmemo.keys hkey hmemo.nd Tryd.underlying127 zv85 RF (fun w1 hw1 => hw1.ok _ (MM : Res.blk bm (kvM pk l) ∈ _)) RF) ?_
    refine qs (y_move RF) ?_
    refine qs (y_extract RF RF) ?_
    refine qs (y_extract RF RF) ?_
    refine sq_alloc Tryd.zeroValue85 rfl (fun b7 => ?_)
    refine sq_store_all Tryd.sizeOf85 RF RF hml.2 RM hml.1 rfl ?_
    refine qs (y_assign RF) ?_
    refine sq_nil ?_
    refine sx_then ?_
    refine sc_seq ?_
    refine sc_region ?_
    refine qs (y_move RF) ?_
    refine sq_nil ?_
    refine sx_then ?_
    refine scp (fun hc1 => ?_) (fun hc1 => ?_)
    ·
      obtain ⟨vg, hvg⟩ := Option.isSome_iff_exists.1 hc1
      obtain ⟨_, yg, hyg, hrg⟩ := hmemo.ok _ _ (kvGet_some hvg)
      rw [hvg, Option.getD_some]
      subst hyg
      refine sc_seq ?_
      refine sc_region ?_
      refine qs LD85 ?_
      refine sq_store_all Tryd.sizeOf85 RF RF rfl RM rfl rfl ?_
      refine sq_nil ?_
      refine sx_then ?_
      refine sc_ret ?_
      refine sx_then_ret ?_
      refine sx_retM0 (.inl rfl) rfl _ (res_c Tryd.results80 Tryd.underlying85 rfl Tryd.sizeOf85 RF MM rfl) ?_
      intro w' hw'
      exact ⟨⟨l, D, wM, yg⟩, ⟨hmemo, Grow.refl _ _, hrg, fun x hx => .inl hx⟩, rfl, hw'.sel SR⟩
    ·
      have hgn : kvGet l (p, left) = none := by
        cases hg : kvGet l (p, left) with
        | none => rfl
        | some v => rw [hg] at hc1; cases hc1
      refine sc_skip ?_
      refine sx_then ?_
      refine sc_seq ?_
      refine sc_region ?_
      refine qs (y_build (cells := (hdV (none, 0) none).toArray) bt100 (EvP.cons RF EvP.nil) (by kernel_rfl)) ?_
      refine sq_alloc Tryd.zeroValue100 rfl (fun b9 => ?_)
      refine sq_store_all Tryd.sizeOf100 RF RF rfl RM rfl rfl ?_
      refine sq_nil ?_
      refine sx_then ?_
      refine sc_seq ?_
      refine sc_seq ?_
      refine sc_region ?_
      refine qs FA130_3 ?_
      refine qs LD3 ?_
      refine sq_call_new (first := []) (caps := []) (Z := Addr) (fun a => .func (.func 87) #[] #[.pointer (some a)]) (fun lo w' a => CA lo w' a [.int .i64 (left : Int)]) RF Tryd.call61 (EvL.cons RF EvL.nil) (fun w1 _ => members61 w1 (left : Int)) rfl (fun lo wr pa hpa => ?_)
      refine sq_nil ?_
      refine sx_then ?_
      refine sc_block ?_
      refine sc_rangeFunc (Z := Lft × Option Td) (ps := [29]) (lb := [.pointer (some pa)]) (fun s => .reg lo wr :: .reg 0 w0 :: (.blk b9 (.cells (hdV s.1.y s.2).toArray 100 (0, 0)) :: .blk b6 (.cells z85.toArray 85 (0, 0)) :: .blk b5 (.cells (stV p left).toArray 130 (0, 0)) :: .blk bm (kvM pk s.1.l) :: .set s.1.D s.1.w :: .blk c1 (.cells (mV z m).toArray 75 (0, 0)) :: .blk c3 (.cells [Value.int .i64 (m.length : Int)].toArray 3 (0, 0)) :: .blk c4 (.cells [Value.map (some bm)].toArray 127 (0, 0)) :: .blk c5 (.cells [.func (.func 80) #[] #[.pointer (some ⟨c3, 0, none⟩), .pointer (some ⟨c4, 0, none⟩), .pointer (some ⟨c1, 0, none⟩), .pointer (some ⟨c5, 0, none⟩)]].toArray 128 (0, 0)) ::  F)) (fun s => (fun (ds : List Nat) (s : Lft × Option Td) => s.2 = foldH m (fun k => bestT m (p + 1) (dropN left k)) p ds ∧ (Memo m s.1.D s.1.w s.1.l ∧ Grow D wM s.1.D s.1.w ∧ RowsS iRow 1 s.1.D s.1.w s.1.y.1 (tdOf s.2).gets ∧ ∀ x, x ∈ s.1.l → x ∈ l ∨ p + 1 ≤ x.1.1) ∧ (s.2 = none → s.1.y = (none, 0))) (memL left) s) rfl RF Tryd.call87 ?_ ?_
      ·
        intro fn tm l_ D_ hts htL w1 hw1
        refine (eachB (w0 := w0) hw1 hT (by omega) hpa (fun (s : Lft × Option Td) => (.blk b9 (.cells (hdV s.1.y s.2).toArray 100 (0, 0)) :: .blk b6 (.cells z85.toArray 85 (0, 0)) :: .blk b5 (.cells (stV p left).toArray 130 (0, 0)) :: .blk bm (kvM pk s.1.l) :: .set s.1.D s.1.w :: .blk c1 (.cells (mV z m).toArray 75 (0, 0)) :: .blk c3 (.cells [Value.int .i64 (m.length : Int)].toArray 3 (0, 0)) :: .blk c4 (.cells [Value.map (some bm)].toArray 127 (0, 0)) :: .blk c5 (.cells [.func (.func 80) #[] #[.pointer (some ⟨c3, 0, none⟩), .pointer (some ⟨c4, 0, none⟩), .pointer (some ⟨c1, 0, none⟩), .pointer (some ⟨c5, 0, none⟩)]].toArray 128 (0, 0)) ::  []) ++ F) (fun (ds : List Nat) (s : Lft × Option Td) => s.2 = foldH m (fun k => bestT m (p + 1) (dropN left k)) p ds ∧ (Memo m s.1.D s.1.w s.1.l ∧ Grow D wM s.1.D s.1.w ∧ RowsS iRow 1 s.1.D s.1.w s.1.y.1 (tdOf s.2).gets ∧ ∀ x, x ∈ s.1.l → x ∈ l ∨ p + 1 ≤ x.1.1) ∧ (s.2 = none → s.1.y = (none, 0))) (⟨l, D, wM, (none, 0)⟩, none) ⟨rfl, ⟨hmemo, Grow.refl _ _, RowsS.nil _ _, fun x hx => .inl hx⟩, fun _ => rfl⟩ SR ?_).mono ?_
        rotate_left
        · rintro e w' ⟨hv, s, h1, h2⟩
          exact ⟨s, h1, hv, h2⟩
        rintro c' cd' ⟨q, h⟩ ds i r hmem ⟨hh, ⟨hqm, hqg, hrq, hqk⟩, hqn⟩ F2 w2 hw2
        dsimp only at hh hqm hqg hrq hqk hqn
        have hil : i ∈ memL left := by rw [hmem]; simp
        have him : i < m.length := hlm i hil
        have hi7 := memL_seven left hl128 i hil
        have hdn := dropN_ok left hl128 i hi7.1
        have hd128 := hdn.1
        have hdm : ∀ j, j ∈ memL (dropN left i) → j < m.length := fun j hj => hlm j (by rw [hdn.2.1] at hj; exact (List.mem_filter.1 hj).1)
        have hrow := hm.row p hpn
        obtain ⟨hs1, hc1x, hs2, hc2x⟩ := hz.cell hpn (show i < (m.getD p []).length by omega)
        have hbt := bestT_bd hm (p + 1) (dropN left i)
        have hbt1 := hbt.lo
        have hbt2 := hbt.hi
        have hwb := hm.bd p i
        have hpw := pw2_le (show i ≤ 20 by omega)
        obtain ⟨hs2', hL2⟩ := one_param (p := 29) (u := .int .i64 (i : Int)) hts htL (Nat.le_of_ble_eq_true rfl)
        refine round_of_SC (N := 82) hs2' hL2 (hw2.sel (Sel.cons .here (Sel.cons .here (selMove (.blk b9 (.cells (hdV q.y h).toArray 100 (0, 0)) :: .blk b6 (.cells z85.toArray 85 (0, 0)) :: .blk b5 (.cells (stV p left).toArray 130 (0, 0)) :: .blk bm (kvM pk q.l) :: .set q.D q.w :: .blk c1 (.cells (mV z m).toArray 75 (0, 0)) :: .blk c3 (.cells [Value.int .i64 (m.length : Int)].toArray 3 (0, 0)) :: .blk c4 (.cells [Value.map (some bm)].toArray 127 (0, 0)) :: .blk c5 (.cells [.func (.func 80) #[] #[.pointer (some ⟨c3, 0, none⟩), .pointer (some ⟨c4, 0, none⟩), .pointer (some ⟨c1, 0, none⟩), .pointer (some ⟨c5, 0, none⟩)]].toArray 128 (0, 0)) ::  []) F F2 (.reg 0 w0))))) ?_
        dsimp only [List.cons_append, List.nil_append]
        refine sc_region ?_
        refine qs (y_assign RF) ?_
        refine sq_nil ?_
        refine sx_begin rfl RM rfl ?_
        refine sc_block ?_
        refine sc_seq ?_
        refine sc_seq ?_
        refine sc_region ?_
        refine qs LD75 ?_
        refine qs FA130_3 ?_
        refine qs LD3 ?_
        refine qs (y_move RF) ?_
        refine qy (yc Tryd.call49 E3 (fun w1 hw1 => wants49 w1 z m (hz.at hw1 MM) p i hpn (by omega))) ?_
        refine qs (y_not RF) ?_
        refine sq_nil ?_
        refine sx_then ?_
        refine scp (fun hc2 => ?_) (fun hc2 => ?_)
        ·
          refine sc_exit ?_
          refine sx_then_exit ?_
          refine sx_blk_hit ?_
          refine sx_endround RM ?_
          intro w' hw'
          refine ⟨(q, h), ⟨by rw [foldH_snoc, ← hh]; unfold stepH; rw [if_neg (fun hc => by have := hc.1; simp [this] at hc2)], ⟨hqm, hqg, hrq, hqk⟩, hqn⟩, rfl, ?_⟩
          have hsel : Hp w0 (.blk l_ (.loop { (LP fn tm [29] c' cd' D_) with state := .ready, pending := none }) :: .blk D_ (.deferred (some [])) :: ((.blk b9 (.cells (hdV q.y h).toArray 100 (0, 0)) :: .blk b6 (.cells z85.toArray 85 (0, 0)) :: .blk b5 (.cells (stV p left).toArray 130 (0, 0)) :: .blk bm (kvM pk q.l) :: .set q.D q.w :: .blk c1 (.cells (mV z m).toArray 75 (0, 0)) :: .blk c3 (.cells [Value.int .i64 (m.length : Int)].toArray 3 (0, 0)) :: .blk c4 (.cells [Value.map (some bm)].toArray 127 (0, 0)) :: .blk c5 (.cells [.func (.func 80) #[] #[.pointer (some ⟨c3, 0, none⟩), .pointer (some ⟨c4, 0, none⟩), .pointer (some ⟨c1, 0, none⟩), .pointer (some ⟨c5, 0, none⟩)]].toArray 128 (0, 0)) ::  []) ++ .reg 0 w0 :: (F ++ F2))) w' := hw'.sel SR
          have hback := hsel.sel (Sel.cons .here (Sel.cons .here (selBack _ F F2 (.reg 0 w0))))
          exact hback
        ·
          refine sc_skip ?_
          refine sx_then ?_
          refine sc_seq ?_
          refine sc_midE (Z := {q2 : Lft × Nat // LftOk m (p + 1) (dropN left i) q.l q.D q.w q2.1}) (fun q2 => [(10, .int .i64 (i : Int)), (11, .pointer (some ⟨q2.1.2, 0, none⟩)), (6, .pointer (some ⟨b6, 0, none⟩)), (9, .pointer (some ⟨b9, 0, none⟩)), (5, .pointer (some ⟨b5, 0, none⟩)), (1, .pointer (some ⟨c3, 0, none⟩)), (2, .pointer (some ⟨c4, 0, none⟩)), (3, .pointer (some ⟨c1, 0, none⟩)), (4, .pointer (some ⟨c5, 0, none⟩))]) (fun q2 => .blk q2.1.2 (.cells (tdV q2.1.1.y (bestT m (p + 1) (dropN left i))).toArray 85 (0, 0)) :: .blk l_ (.loop { (LP fn tm [29] c' cd' D_) with state := .busy }) :: .blk D_ (.deferred (some [])) :: .blk b9 (.cells (hdV q.y h).toArray 100 (0, 0)) :: .blk b6 (.cells z85.toArray 85 (0, 0)) :: .blk b5 (.cells (stV p left).toArray 130 (0, 0)) :: .blk bm (kvM pk q2.1.1.l) :: .set q2.1.1.D q2.1.1.w :: .blk c1 (.cells (mV z m).toArray 75 (0, 0)) :: .blk c3 (.cells [Value.int .i64 (m.length : Int)].toArray 3 (0, 0)) :: .blk c4 (.cells [Value.map (some bm)].toArray 127 (0, 0)) :: .blk c5 (.cells [.func (.func 80) #[] #[.pointer (some ⟨c3, 0, none⟩), .pointer (some ⟨c4, 0, none⟩), .pointer (some ⟨c1, 0, none⟩), .pointer (some ⟨c5, 0, none⟩)]].toArray 128 (0, 0)) ::  .reg 0 w0 :: (F ++ F2)) ?_ ?_
          ·
            refine sc_drawX ([.blk b5 (.cells (stV p left).toArray 130 (0, 0)), .blk c5 (.cells [.func (.func 80) #[] #[.pointer (some ⟨c3, 0, none⟩), .pointer (some ⟨c4, 0, none⟩), .pointer (some ⟨c1, 0, none⟩), .pointer (some ⟨c5, 0, none⟩)]].toArray 128 (0, 0))]) (by kernel_rfl) ?_
            refine xj_s 0 RF (by kernel_rfl) SR LD128 rfl ?_
            refine xj_s 1 RF (by kernel_rfl) SR FA130_3 rfl ?_
            refine xj_s 2 RF (by kernel_rfl) SR LD3 rfl ?_
            refine xj_s 3 RF (by kernel_rfl) SR (y_add RF RF (by omega)) rfl ?_
            refine xj_s 4 RF (by kernel_rfl) SR FA130_3 rfl ?_
            refine xj_s 5 RF (by kernel_rfl) SR LD3 rfl ?_
            refine xj_s 6 RF (by kernel_rfl) SR (y_move RF) rfl ?_
            refine xj_s 7 RF (by kernel_rfl) SR (y_shl RF RF (by omega) (by rw [pw2_shl]; omega)) rfl ?_
            rw [pw2_shl]
            refine xj_s 8 RF (by kernel_rfl) SR (y_andNot RF RF (by omega) (by omega)) rfl ?_
            rw [Int.toNat_natCast, Int.toNat_natCast, show andNotN left (pw2 i) = dropN left i from rfl]
            refine xj_s 9 RF (by kernel_rfl) SR (y_build (cells := (stV (p + 1) (dropN left i)).toArray) bt130 (EvP.cons RF (EvP.cons RF EvP.nil)) (by kernel_rfl)) rfl ?_
            refine xj_all (l := [10, 11]) (by kernel_rfl) (by simp) (Each.cons ⟨_, rfl, ?_⟩ (Each.cons ⟨_, rfl, ?_⟩ Each.nil))
            ·
              refine sq_call_fr (first := []) (caps := [.pointer (some ⟨c3, 0, none⟩), .pointer (some ⟨c4, 0, none⟩), .pointer (some ⟨c1, 0, none⟩), .pointer (some ⟨c5, 0, none⟩)]) (vs := [.agg (stV (p + 1) (dropN left i)).toArray]) (rs1 := .blk bm (kvM pk q.l) :: .set q.D q.w :: .blk c1 (.cells (mV z m).toArray 75 (0, 0)) :: .blk c3 (.cells [Value.int .i64 (m.length : Int)].toArray 3 (0, 0)) :: .blk c4 (.cells [Value.map (some bm)].toArray 127 (0, 0)) :: .blk c5 (.cells [.func (.func 80) #[] #[.pointer (some ⟨c3, 0, none⟩), .pointer (some ⟨c4, 0, none⟩), .pointer (some ⟨c1, 0, none⟩), .pointer (some ⟨c5, 0, none⟩)]].toArray 128 (0, 0)) ::  .reg 0 w0 :: []) (Z := Lft) (fun q2 => .agg (tdV q2.y (bestT m (p + 1) (dropN left i))).toArray) (fun q2 => .blk bm (kvM pk q2.l) :: .set q2.D q2.w :: .blk c1 (.cells (mV z m).toArray 75 (0, 0)) :: .blk c3 (.cells [Value.int .i64 (m.length : Int)].toArray 3 (0, 0)) :: .blk c4 (.cells [Value.map (some bm)].toArray 127 (0, 0)) :: .blk c5 (.cells [.func (.func 80) #[] #[.pointer (some ⟨c3, 0, none⟩), .pointer (some ⟨c4, 0, none⟩), .pointer (some ⟨c1, 0, none⟩), .pointer (some ⟨c5, 0, none⟩)]].toArray 128 (0, 0)) ::  .reg 0 w0 :: []) (fun q2 => LftOk m (p + 1) (dropN left i) q.l q.D q.w q2) RF Tryd.call80 E1 (by repeat (first | exact Rems.nil | apply Rems.cons (by repeat (first | exact Rem.here | apply Rem.there)))) (fun w1 hw1 => (ih hpn (dropN left i) q.l q.D q.w _ w1 hd128 hdm hqm hw1).mono (fun e w' h => h)) rfl (fun q2 hq2 => ?_)
              refine sq_nil ?_
              refine sx_xp SR ?_
              refine xj_one 11 RF (by kernel_rfl) ?_
              refine sq_alloc Tryd.zeroValue85 rfl (fun b11 => ?_)
              refine sq_nil ?_
              refine sx_xp SR ?_
              refine xj_one 12 RF (by kernel_rfl) ?_
              refine sq_store_all Tryd.sizeOf85 RF RF rfl RM rfl rfl ?_
              refine sq_nil ?_
              refine sx_xpl (by kernel_rfl) ?_
              refine xj_done (by kernel_rfl) ?_
              exact sx_midE (⟨(q2, b11), hq2⟩) SU SR
            ·
              refine sq_alloc Tryd.zeroValue85 rfl (fun b11 => ?_)
              refine sq_nil ?_
              refine sx_xp SR ?_
              refine xj_one 10 RF (by kernel_rfl) ?_
              refine sq_call_fr (first := []) (caps := [.pointer (some ⟨c3, 0, none⟩), .pointer (some ⟨c4, 0, none⟩), .pointer (some ⟨c1, 0, none⟩), .pointer (some ⟨c5, 0, none⟩)]) (vs := [.agg (stV (p + 1) (dropN left i)).toArray]) (rs1 := .blk bm (kvM pk q.l) :: .set q.D q.w :: .blk c1 (.cells (mV z m).toArray 75 (0, 0)) :: .blk c3 (.cells [Value.int .i64 (m.length : Int)].toArray 3 (0, 0)) :: .blk c4 (.cells [Value.map (some bm)].toArray 127 (0, 0)) :: .blk c5 (.cells [.func (.func 80) #[] #[.pointer (some ⟨c3, 0, none⟩), .pointer (some ⟨c4, 0, none⟩), .pointer (some ⟨c1, 0, none⟩), .pointer (some ⟨c5, 0, none⟩)]].toArray 128 (0, 0)) ::  .reg 0 w0 :: []) (Z := Lft) (fun q2 => .agg (tdV q2.y (bestT m (p + 1) (dropN left i))).toArray) (fun q2 => .blk bm (kvM pk q2.l) :: .set q2.D q2.w :: .blk c1 (.cells (mV z m).toArray 75 (0, 0)) :: .blk c3 (.cells [Value.int .i64 (m.length : Int)].toArray 3 (0, 0)) :: .blk c4 (.cells [Value.map (some bm)].toArray 127 (0, 0)) :: .blk c5 (.cells [.func (.func 80) #[] #[.pointer (some ⟨c3, 0, none⟩), .pointer (some ⟨c4, 0, none⟩), .pointer (some ⟨c1, 0, none⟩), .pointer (some ⟨c5, 0, none⟩)]].toArray 128 (0, 0)) ::  .reg 0 w0 :: []) (fun q2 => LftOk m (p + 1) (dropN left i) q.l q.D q.w q2) RF Tryd.call80 E1 (by repeat (first | exact Rems.nil | apply Rems.cons (by repeat (first | exact Rem.here | apply Rem.there)))) (fun w1 hw1 => (ih hpn (dropN left i) q.l q.D q.w _ w1 hd128 hdm hqm hw1).mono (fun e w' h => h)) rfl (fun q2 hq2 => ?_)
              refine sq_nil ?_
              refine sx_xp SR ?_
              refine xj_one 12 RF (by kernel_rfl) ?_
              refine sq_store_all Tryd.sizeOf85 RF RF rfl RM rfl rfl ?_
              refine sq_nil ?_
              refine sx_xpl (by kernel_rfl) ?_
              refine xj_done (by kernel_rfl) ?_
              exact sx_midE (⟨(q2, b11), hq2⟩) SU SR
          rintro ⟨⟨q2, b11⟩, hq2⟩
          try dsimp only
          refine sx_then ?_
          refine sc_seq ?_
          refine sc_region ?_
          refine qs FA85_3 ?_
          refine qs LD3 ?_
          refine qs (y_geq RF RF) ?_
          refine sq_nil ?_
          refine sx_then ?_
          refine scp (fun hc3 => ?_) (fun hc3 => ?_)
          ·
            refine sc_drawX ([.blk b11 (.cells (tdV q2.y (bestT m (p + 1) (dropN left i))).toArray 85 (0, 0)), .blk b5 (.cells (stV p left).toArray 130 (0, 0)), .blk c1 (.cells (mV z m).toArray 75 (0, 0)), .reg 0 w0]) (by kernel_rfl) ?_
            refine xj_s 0 RF (by kernel_rfl) SR (y_move RF) rfl ?_
            refine xj_s 2 RF (by kernel_rfl) SR FA85_25 rfl ?_
            refine xj_s 3 RF (by kernel_rfl) SR LD25 rfl ?_
            refine xj_s 5 RF (by kernel_rfl) SR FA75_24 rfl ?_
            refine xj_s 6 RF (by kernel_rfl) SR FA24_22 rfl ?_
            refine xj_s 7 RF (by kernel_rfl) SR LD22 rfl ?_
            refine xj_s 8 RF (by kernel_rfl) SR FA130_3 rfl ?_
            refine xj_s 9 RF (by kernel_rfl) SR LD3 rfl ?_
            refine xj_s 10 RF (by kernel_rfl) SR IA22 rfl ?_
            refine xj_s 11 RF (by kernel_rfl) SR LD25 rfl ?_
            refine xj_s 12 RF (by kernel_rfl) SR (y_move RF) rfl ?_
            refine xj_s 13 RF (by kernel_rfl) SR IA25 rfl ?_
            refine xj_s 14 RF (by kernel_rfl) SR LD3 rfl ?_
            refine xj_s 15 RF (by kernel_rfl) SR FA85_3 rfl ?_
            refine xj_s 16 RF (by kernel_rfl) SR LD3 rfl ?_
            refine xj_all (l := [1, 17]) (by kernel_rfl) (by simp) (Each.cons ⟨_, rfl, ?_⟩ (Each.cons ⟨_, rfl, ?_⟩ Each.nil))
            ·
              refine sq_bs Tryd.underlying25 ei3 (EvI.cons RF EvI.nil) (by first | (simp [Value.cells]; done) | (simp [Value.cells]; rfl)) rfl rfl rfl (fun b51 => ?_)
              refine sq_blk_own (n := 1) (sz := 1) (xs := [Value.int .i64 (i : Int)]) RM rfl (by decide) ?_
              refine sq_nil ?_
              refine sx_xp SR ?_
              refine xj_all (l := [4, 17]) (by kernel_rfl) (by simp) (Each.cons ⟨_, rfl, ?_⟩ (Each.cons ⟨_, rfl, ?_⟩ Each.nil))
              ·
                refine sq_append_rows (news := (bestT m (p + 1) (dropN left i)).gets.flatMap iRow) Tryd.underlying25 ei3 Tryd.sizeOf3 rfl (by decide) RF RM RF hq2.rows.noa (by rw [iflat_len, Nat.mul_one]) (fun ad had w1 hw1 => RowsA.cells (row := iRow) iRow_len (by decide) (by rw [← had]; exact hq2.rows.at hw1 MM)) (iflat_one _) (by have := hbt.len; omega) rfl (fun v54 ho54 => ?_)
                rw [flat_cons, Nat.add_comm 1 (bestT m (p + 1) (dropN left i)).gets.length]
                refine sq_own_dest (e := 3) (sz := 1) (m := (bestT m (p + 1) (dropN left i)).gets.length + 1) (xs := ((i : Int) :: (bestT m (p + 1) (dropN left i)).gets).flatMap iRow) MM (fun a54 c54 hv54 hmc54 hn54 => ?_)
                subst hv54
                refine sq_nil ?_
                refine sx_xp SR ?_
                refine xj_one 17 RF (by kernel_rfl) ?_
                refine sq_bs Tryd.underlying25 ei3 (EvI.cons RF (EvI.cons RF EvI.nil)) (by first | (simp [Value.cells]; done) | (simp [Value.cells]; rfl) | (simp [Value.cells]; and_intros <;> rfl)) rfl rfl rfl (fun b67 => ?_)
                refine sq_nil ?_
                refine sx_xp SR ?_
                refine xj_one 18 RF (by kernel_rfl) ?_
                refine qy (yc Tryd.call78 E1 (fun w1 hw1 => sum78b w1 _ _ _ (lit_i2 hw1 MM) (by omega) (by omega))) ?_
                refine sq_nil ?_
                refine sx_xp SR ?_
                refine xj_s 19 RF (by kernel_rfl) SR (y_build (cells := (tdV (a54, c54) ⟨(i : Int) :: (bestT m (p + 1) (dropN left i)).gets, wv m p i + (bestT m (p + 1) (dropN left i)).worth⟩).toArray) bt85 (EvP.cons RF (EvP.cons RF EvP.nil)) (by kernel_rfl)) rfl ?_
                refine xj_one 20 RF (by kernel_rfl) ?_
                refine sq_call_fr (first := []) (caps := []) (vs := [.pointer (some ⟨b9, 0, none⟩), .agg (tdV (a54, c54) ⟨(i : Int) :: (bestT m (p + 1) (dropN left i)).gets, wv m p i + (bestT m (p + 1) (dropN left i)).worth⟩).toArray]) (rs1 := [.blk b9 (.cells (hdV q.y h).toArray 100 (0, 0))]) (Z := Unit) (fun _ => .tuple #[]) (fun _ => [.blk b9 (.cells (hdV (if takesB h ⟨(i : Int) :: (bestT m (p + 1) (dropN left i)).gets, wv m p i + (bestT m (p + 1) (dropN left i)).worth⟩ = true then (a54, c54) else q.y) (offer h ⟨(i : Int) :: (bestT m (p + 1) (dropN left i)).gets, wv m p i + (bestT m (p + 1) (dropN left i)).worth⟩)).toArray 100 (0, 0))]) (fun _ => True) RF Tryd.call58 E2 (by repeat (first | exact Rems.nil | apply Rems.cons (by repeat (first | exact Rem.here | apply Rem.there)))) (fun w1 hw1 => (offer58 q.y (a54, c54) h ⟨(i : Int) :: (bestT m (p + 1) (dropN left i)).gets, wv m p i + (bestT m (p + 1) (dropN left i)).worth⟩ (fun w2 hw2 => ⟨(hrq.grow hq2.grow).at hw2 MM, own_at hw2 (List.length_cons) MM (by have := hbt.len; omega)⟩) hw1).mono (fun e w' h => ⟨(), trivial, h.1, h.2⟩)) rfl (fun _ _ => ?_)
                refine sq_nil ?_
                refine sx_xp SR ?_
                refine xj_join (r := .own (.slice a54 ((bestT m (p + 1) (dropN left i)).gets.length + 1) c54) 3 1 ((bestT m (p + 1) (dropN left i)).gets.length + 1) (((i : Int) :: (bestT m (p + 1) (dropN left i)).gets).flatMap iRow)) RMS1 (fun wj hgj hoj => ?_)
                have hrj := own_atS (D := q2.D) hoj (List.length_cons) (by have := hbt.len; omega)
                have hst := step_ok (q := q) (h := h) (t := ⟨(i : Int) :: (bestT m (p + 1) (dropN left i)).gets, wv m p i + (bestT m (p + 1) (dropN left i)).worth⟩) (a := a54) (c := c54) hqg hrq hqk hq2 hgj hrj
                have hsn := offer_some h ⟨(i : Int) :: (bestT m (p + 1) (dropN left i)).gets, wv m p i + (bestT m (p + 1) (dropN left i)).worth⟩ (a54, c54) q.y
                refine xj_done (by kernel_rfl) ?_
                refine sx_blk ?_
                refine sx_endround RM ?_
                intro w' hw'
                refine ⟨((⟨q2.l, (fun k => q2.D k ∨ (Res.own (.slice a54 ((bestT m (p + 1) (dropN left i)).gets.length + 1) c54) 3 1 ((bestT m (p + 1) (dropN left i)).gets.length + 1) (((i : Int) :: (bestT m (p + 1) (dropN left i)).gets).flatMap iRow)).dom k), wj, if takesB h ⟨(i : Int) :: (bestT m (p + 1) (dropN left i)).gets, wv m p i + (bestT m (p + 1) (dropN left i)).worth⟩ = true then (a54, c54) else q.y⟩ : Lft), (offer h ⟨(i : Int) :: (bestT m (p + 1) (dropN left i)).gets, wv m p i + (bestT m (p + 1) (dropN left i)).worth⟩)), ⟨by rw [foldH_snoc, ← hh]; unfold stepH; rw [if_pos (show wantsB m p i = true ∧ 0 ≤ (bestT m (p + 1) (dropN left i)).worth from ⟨by simpa using hc2, hc3⟩)], hst, hsn⟩, rfl, ?_⟩
                have hsel : Hp w0 (.blk l_ (.loop { (LP fn tm [29] c' cd' D_) with state := .ready, pending := none }) :: .blk D_ (.deferred (some [])) :: ((.blk b9 (.cells (hdV (⟨q2.l, (fun k => q2.D k ∨ (Res.own (.slice a54 ((bestT m (p + 1) (dropN left i)).gets.length + 1) c54) 3 1 ((bestT m (p + 1) (dropN left i)).gets.length + 1) (((i : Int) :: (bestT m (p + 1) (dropN left i)).gets).flatMap iRow)).dom k), wj, if takesB h ⟨(i : Int) :: (bestT m (p + 1) (dropN left i)).gets, wv m p i + (bestT m (p + 1) (dropN left i)).worth⟩ = true then (a54, c54) else q.y⟩ : Lft).y (offer h ⟨(i : Int) :: (bestT m (p + 1) (dropN left i)).gets, wv m p i + (bestT m (p + 1) (dropN left i)).worth⟩)).toArray 100 (0, 0)) :: .blk b6 (.cells z85.toArray 85 (0, 0)) :: .blk b5 (.cells (stV p left).toArray 130 (0, 0)) :: .blk bm (kvM pk (⟨q2.l, (fun k => q2.D k ∨ (Res.own (.slice a54 ((bestT m (p + 1) (dropN left i)).gets.length + 1) c54) 3 1 ((bestT m (p + 1) (dropN left i)).gets.length + 1) (((i : Int) :: (bestT m (p + 1) (dropN left i)).gets).flatMap iRow)).dom k), wj, if takesB h ⟨(i : Int) :: (bestT m (p + 1) (dropN left i)).gets, wv m p i + (bestT m (p + 1) (dropN left i)).worth⟩ = true then (a54, c54) else q.y⟩ : Lft).l) :: .set (⟨q2.l, (fun k => q2.D k ∨ (Res.own (.slice a54 ((bestT m (p + 1) (dropN left i)).gets.length + 1) c54) 3 1 ((bestT m (p + 1) (dropN left i)).gets.length + 1) (((i : Int) :: (bestT m (p + 1) (dropN left i)).gets).flatMap iRow)).dom k), wj, if takesB h ⟨(i : Int) :: (bestT m (p + 1) (dropN left i)).gets, wv m p i + (bestT m (p + 1) (dropN left i)).worth⟩ = true then (a54, c54) else q.y⟩ : Lft).D (⟨q2.l, (fun k => q2.D k ∨ (Res.own (.slice a54 ((bestT m (p + 1) (dropN left i)).gets.length + 1) c54) 3 1 ((bestT m (p + 1) (dropN left i)).gets.length + 1) (((i : Int) :: (bestT m (p + 1) (dropN left i)).gets).flatMap iRow)).dom k), wj, if takesB h ⟨(i : Int) :: (bestT m (p + 1) (dropN left i)).gets, wv m p i + (bestT m (p + 1) (dropN left i)).worth⟩ = true then (a54, c54) else q.y⟩ : Lft).w :: .blk c1 (.cells (mV z m).toArray 75 (0, 0)) :: .blk c3 (.cells [Value.int .i64 (m.length : Int)].toArray 3 (0, 0)) :: .blk c4 (.cells [Value.map (some bm)].toArray 127 (0, 0)) :: .blk c5 (.cells [.func (.func 80) #[] #[.pointer (some ⟨c3, 0, none⟩), .pointer (some ⟨c4, 0, none⟩), .pointer (some ⟨c1, 0, none⟩), .pointer (some ⟨c5, 0, none⟩)]].toArray 128 (0, 0)) ::  []) ++ .reg 0 w0 :: (F ++ F2))) w' := hw'.sel SR
                have hback := hsel.sel (Sel.cons .here (Sel.cons .here (selBack _ F F2 (.reg 0 w0))))
                exact hback
              ·
                refine sq_bs Tryd.underlying25 ei3 (EvI.cons RF (EvI.cons RF EvI.nil)) (by first | (simp [Value.cells]; done) | (simp [Value.cells]; rfl) | (simp [Value.cells]; and_intros <;> rfl)) rfl rfl rfl (fun b67 => ?_)
                refine sq_nil ?_
                refine sx_xp SR ?_
                refine xj_one 4 RF (by kernel_rfl) ?_
                refine sq_append_rows (news := (bestT m (p + 1) (dropN left i)).gets.flatMap iRow) Tryd.underlying25 ei3 Tryd.sizeOf3 rfl (by decide) RF RM RF hq2.rows.noa (by rw [iflat_len, Nat.mul_one]) (fun ad had w1 hw1 => RowsA.cells (row := iRow) iRow_len (by decide) (by rw [← had]; exact hq2.rows.at hw1 MM)) (iflat_one _) (by have := hbt.len; omega) rfl (fun v54 ho54 => ?_)
                rw [flat_cons, Nat.add_comm 1 (bestT m (p + 1) (dropN left i)).gets.length]
                refine sq_own_dest (e := 3) (sz := 1) (m := (bestT m (p + 1) (dropN left i)).gets.length + 1) (xs := ((i : Int) :: (bestT m (p + 1) (dropN left i)).gets).flatMap iRow) MM (fun a54 c54 hv54 hmc54 hn54 => ?_)
                subst hv54
                refine sq_nil ?_
                refine sx_xp SR ?_
                refine xj_one 18 RF (by kernel_rfl) ?_
                refine qy (yc Tryd.call78 E1 (fun w1 hw1 => sum78b w1 _ _ _ (lit_i2 hw1 MM) (by omega) (by omega))) ?_
                refine sq_nil ?_
                refine sx_xp SR ?_
                refine xj_s 19 RF (by kernel_rfl) SR (y_build (cells := (tdV (a54, c54) ⟨(i : Int) :: (bestT m (p + 1) (dropN left i)).gets, wv m p i + (bestT m (p + 1) (dropN left i)).worth⟩).toArray) bt85 (EvP.cons RF (EvP.cons RF EvP.nil)) (by kernel_rfl)) rfl ?_
                refine xj_one 20 RF (by kernel_rfl) ?_
                refine sq_call_fr (first := []) (caps := []) (vs := [.pointer (some ⟨b9, 0, none⟩), .agg (tdV (a54, c54) ⟨(i : Int) :: (bestT m (p + 1) (dropN left i)).gets, wv m p i + (bestT m (p + 1) (dropN left i)).worth⟩).toArray]) (rs1 := [.blk b9 (.cells (hdV q.y h).toArray 100 (0, 0))]) (Z := Unit) (fun _ => .tuple #[]) (fun _ => [.blk b9 (.cells (hdV (if takesB h ⟨(i : Int) :: (bestT m (p + 1) (dropN left i)).gets, wv m p i + (bestT m (p + 1) (dropN left i)).worth⟩ = true then (a54, c54) else q.y) (offer h ⟨(i : Int) :: (bestT m (p + 1) (dropN left i)).gets, wv m p i + (bestT m (p + 1) (dropN left i)).worth⟩)).toArray 100 (0, 0))]) (fun _ => True) RF Tryd.call58 E2 (by repeat (first | exact Rems.nil | apply Rems.cons (by repeat (first | exact Rem.here | apply Rem.there)))) (fun w1 hw1 => (offer58 q.y (a54, c54) h ⟨(i : Int) :: (bestT m (p + 1) (dropN left i)).gets, wv m p i + (bestT m (p + 1) (dropN left i)).worth⟩ (fun w2 hw2 => ⟨(hrq.grow hq2.grow).at hw2 MM, own_at hw2 (List.length_cons) MM (by have := hbt.len; omega)⟩) hw1).mono (fun e w' h => ⟨(), trivial, h.1, h.2⟩)) rfl (fun _ _ => ?_)
                refine sq_nil ?_
                refine sx_xp SR ?_
                refine xj_join (r := .own (.slice a54 ((bestT m (p + 1) (dropN left i)).gets.length + 1) c54) 3 1 ((bestT m (p + 1) (dropN left i)).gets.length + 1) (((i : Int) :: (bestT m (p + 1) (dropN left i)).gets).flatMap iRow)) RMS1 (fun wj hgj hoj => ?_)
                have hrj := own_atS (D := q2.D) hoj (List.length_cons) (by have := hbt.len; omega)
                have hst := step_ok (q := q) (h := h) (t := ⟨(i : Int) :: (bestT m (p + 1) (dropN left i)).gets, wv m p i + (bestT m (p + 1) (dropN left i)).worth⟩) (a := a54) (c := c54) hqg hrq hqk hq2 hgj hrj
                have hsn := offer_some h ⟨(i : Int) :: (bestT m (p + 1) (dropN left i)).gets, wv m p i + (bestT m (p + 1) (dropN left i)).worth⟩ (a54, c54) q.y
                refine xj_done (by kernel_rfl) ?_
                refine sx_blk ?_
                refine sx_endround RM ?_
                intro w' hw'
                refine ⟨((⟨q2.l, (fun k => q2.D k ∨ (Res.own (.slice a54 ((bestT m (p + 1) (dropN left i)).gets.length + 1) c54) 3 1 ((bestT m (p + 1) (dropN left i)).gets.length + 1) (((i : Int) :: (bestT m (p + 1) (dropN left i)).gets).flatMap iRow)).dom k), wj, if takesB h ⟨(i : Int) :: (bestT m (p + 1) (dropN left i)).gets, wv m p i + (bestT m (p + 1) (dropN left i)).worth⟩ = true then (a54, c54) else q.y⟩ : Lft), (offer h ⟨(i : Int) :: (bestT m (p + 1) (dropN left i)).gets, wv m p i + (bestT m (p + 1) (dropN left i)).worth⟩)), ⟨by rw [foldH_snoc, ← hh]; unfold stepH; rw [if_pos (show wantsB m p i = true ∧ 0 ≤ (bestT m (p + 1) (dropN left i)).worth from ⟨by simpa using hc2, hc3⟩)], hst, hsn⟩, rfl, ?_⟩
                have hsel : Hp w0 (.blk l_ (.loop { (LP fn tm [29] c' cd' D_) with state := .ready, pending := none }) :: .blk D_ (.deferred (some [])) :: ((.blk b9 (.cells (hdV (⟨q2.l, (fun k => q2.D k ∨ (Res.own (.slice a54 ((bestT m (p + 1) (dropN left i)).gets.length + 1) c54) 3 1 ((bestT m (p + 1) (dropN left i)).gets.length + 1) (((i : Int) :: (bestT m (p + 1) (dropN left i)).gets).flatMap iRow)).dom k), wj, if takesB h ⟨(i : Int) :: (bestT m (p + 1) (dropN left i)).gets, wv m p i + (bestT m (p + 1) (dropN left i)).worth⟩ = true then (a54, c54) else q.y⟩ : Lft).y (offer h ⟨(i : Int) :: (bestT m (p + 1) (dropN left i)).gets, wv m p i + (bestT m (p + 1) (dropN left i)).worth⟩)).toArray 100 (0, 0)) :: .blk b6 (.cells z85.toArray 85 (0, 0)) :: .blk b5 (.cells (stV p left).toArray 130 (0, 0)) :: .blk bm (kvM pk (⟨q2.l, (fun k => q2.D k ∨ (Res.own (.slice a54 ((bestT m (p + 1) (dropN left i)).gets.length + 1) c54) 3 1 ((bestT m (p + 1) (dropN left i)).gets.length + 1) (((i : Int) :: (bestT m (p + 1) (dropN left i)).gets).flatMap iRow)).dom k), wj, if takesB h ⟨(i : Int) :: (bestT m (p + 1) (dropN left i)).gets, wv m p i + (bestT m (p + 1) (dropN left i)).worth⟩ = true then (a54, c54) else q.y⟩ : Lft).l) :: .set (⟨q2.l, (fun k => q2.D k ∨ (Res.own (.slice a54 ((bestT m (p + 1) (dropN left i)).gets.length + 1) c54) 3 1 ((bestT m (p + 1) (dropN left i)).gets.length + 1) (((i : Int) :: (bestT m (p + 1) (dropN left i)).gets).flatMap iRow)).dom k), wj, if takesB h ⟨(i : Int) :: (bestT m (p + 1) (dropN left i)).gets, wv m p i + (bestT m (p + 1) (dropN left i)).worth⟩ = true then (a54, c54) else q.y⟩ : Lft).D (⟨q2.l, (fun k => q2.D k ∨ (Res.own (.slice a54 ((bestT m (p + 1) (dropN left i)).gets.length + 1) c54) 3 1 ((bestT m (p + 1) (dropN left i)).gets.length + 1) (((i : Int) :: (bestT m (p + 1) (dropN left i)).gets).flatMap iRow)).dom k), wj, if takesB h ⟨(i : Int) :: (bestT m (p + 1) (dropN left i)).gets, wv m p i + (bestT m (p + 1) (dropN left i)).worth⟩ = true then (a54, c54) else q.y⟩ : Lft).w :: .blk c1 (.cells (mV z m).toArray 75 (0, 0)) :: .blk c3 (.cells [Value.int .i64 (m.length : Int)].toArray 3 (0, 0)) :: .blk c4 (.cells [Value.map (some bm)].toArray 127 (0, 0)) :: .blk c5 (.cells [.func (.func 80) #[] #[.pointer (some ⟨c3, 0, none⟩), .pointer (some ⟨c4, 0, none⟩), .pointer (some ⟨c1, 0, none⟩), .pointer (some ⟨c5, 0, none⟩)]].toArray 128 (0, 0)) ::  []) ++ .reg 0 w0 :: (F ++ F2))) w' := hw'.sel SR
                have hback := hsel.sel (Sel.cons .here (Sel.cons .here (selBack _ F F2 (.reg 0 w0))))
                exact hback
            ·
              refine sq_bs Tryd.underlying25 ei3 (EvI.cons RF (EvI.cons RF EvI.nil)) (by first | (simp [Value.cells]; done) | (simp [Value.cells]; rfl) | (simp [Value.cells]; and_intros <;> rfl)) rfl rfl rfl (fun b67 => ?_)
              refine sq_nil ?_
              refine sx_xp SR ?_
              refine xj_one 1 RF (by kernel_rfl) ?_
              refine sq_bs Tryd.underlying25 ei3 (EvI.cons RF EvI.nil) (by first | (simp [Value.cells]; done) | (simp [Value.cells]; rfl)) rfl rfl rfl (fun b51 => ?_)
              refine sq_blk_own (n := 1) (sz := 1) (xs := [Value.int .i64 (i : Int)]) RM rfl (by decide) ?_
              refine sq_nil ?_
              refine sx_xp SR ?_
              refine xj_one 4 RF (by kernel_rfl) ?_
              refine sq_append_rows (news := (bestT m (p + 1) (dropN left i)).gets.flatMap iRow) Tryd.underlying25 ei3 Tryd.sizeOf3 rfl (by decide) RF RM RF hq2.rows.noa (by rw [iflat_len, Nat.mul_one]) (fun ad had w1 hw1 => RowsA.cells (row := iRow) iRow_len (by decide) (by rw [← had]; exact hq2.rows.at hw1 MM)) (iflat_one _) (by have := hbt.len; omega) rfl (fun v54 ho54 => ?_)
              rw [flat_cons, Nat.add_comm 1 (bestT m (p + 1) (dropN left i)).gets.length]
              refine sq_own_dest (e := 3) (sz := 1) (m := (bestT m (p + 1) (dropN left i)).gets.length + 1) (xs := ((i : Int) :: (bestT m (p + 1) (dropN left i)).gets).flatMap iRow) MM (fun a54 c54 hv54 hmc54 hn54 => ?_)
              subst hv54
              refine sq_nil ?_
              refine sx_xp SR ?_
              refine xj_one 18 RF (by kernel_rfl) ?_
              refine qy (yc Tryd.call78 E1 (fun w1 hw1 => sum78b w1 _ _ _ (lit_i2 hw1 MM) (by omega) (by omega))) ?_
              refine sq_nil ?_
              refine sx_xp SR ?_
              refine xj_s 19 RF (by kernel_rfl) SR (y_build (cells := (tdV (a54, c54) ⟨(i : Int) :: (bestT m (p + 1) (dropN left i)).gets, wv m p i + (bestT m (p + 1) (dropN left i)).worth⟩).toArray) bt85 (EvP.cons RF (EvP.cons RF EvP.nil)) (by kernel_rfl)) rfl ?_
              refine xj_one 20 RF (by kernel_rfl) ?_
              refine sq_call_fr (first := []) (caps := []) (vs := [.pointer (some ⟨b9, 0, none⟩), .agg (tdV (a54, c54) ⟨(i : Int) :: (bestT m (p + 1) (dropN left i)).gets, wv m p i + (bestT m (p + 1) (dropN left i)).worth⟩).toArray]) (rs1 := [.blk b9 (.cells (hdV q.y h).toArray 100 (0, 0))]) (Z := Unit) (fun _ => .tuple #[]) (fun _ => [.blk b9 (.cells (hdV (if takesB h ⟨(i : Int) :: (bestT m (p + 1) (dropN left i)).gets, wv m p i + (bestT m (p + 1) (dropN left i)).worth⟩ = true then (a54, c54) else q.y) (offer h ⟨(i : Int) :: (bestT m (p + 1) (dropN left i)).gets, wv m p i + (bestT m (p + 1) (dropN left i)).worth⟩)).toArray 100 (0, 0))]) (fun _ => True) RF Tryd.call58 E2 (by repeat (first | exact Rems.nil | apply Rems.cons (by repeat (first | exact Rem.here | apply Rem.there)))) (fun w1 hw1 => (offer58 q.y (a54, c54) h ⟨(i : Int) :: (bestT m (p + 1) (dropN left i)).gets, wv m p i + (bestT m (p + 1) (dropN left i)).worth⟩ (fun w2 hw2 => ⟨(hrq.grow hq2.grow).at hw2 MM, own_at hw2 (List.length_cons) MM (by have := hbt.len; omega)⟩) hw1).mono (fun e w' h => ⟨(), trivial, h.1, h.2⟩)) rfl (fun _ _ => ?_)
              refine sq_nil ?_
              refine sx_xp SR ?_
              refine xj_join (r := .own (.slice a54 ((bestT m (p + 1) (dropN left i)).gets.length + 1) c54) 3 1 ((bestT m (p + 1) (dropN left i)).gets.length + 1) (((i : Int) :: (bestT m (p + 1) (dropN left i)).gets).flatMap iRow)) RMS1 (fun wj hgj hoj => ?_)
              have hrj := own_atS (D := q2.D) hoj (List.length_cons) (by have := hbt.len; omega)
              have hst := step_ok (q := q) (h := h) (t := ⟨(i : Int) :: (bestT m (p + 1) (dropN left i)).gets, wv m p i + (bestT m (p + 1) (dropN left i)).worth⟩) (a := a54) (c := c54) hqg hrq hqk hq2 hgj hrj
              have hsn := offer_some h ⟨(i : Int) :: (bestT m (p + 1) (dropN left i)).gets, wv m p i + (bestT m (p + 1) (dropN left i)).worth⟩ (a54, c54) q.y
              refine xj_done (by kernel_rfl) ?_
              refine sx_blk ?_
              refine sx_endround RM ?_
              intro w' hw'
              refine ⟨((⟨q2.l, (fun k => q2.D k ∨ (Res.own (.slice a54 ((bestT m (p + 1) (dropN left i)).gets.length + 1) c54) 3 1 ((bestT m (p + 1) (dropN left i)).gets.length + 1) (((i : Int) :: (bestT m (p + 1) (dropN left i)).gets).flatMap iRow)).dom k), wj, if takesB h ⟨(i : Int) :: (bestT m (p + 1) (dropN left i)).gets, wv m p i + (bestT m (p + 1) (dropN left i)).worth⟩ = true then (a54, c54) else q.y⟩ : Lft), (offer h ⟨(i : Int) :: (bestT m (p + 1) (dropN left i)).gets, wv m p i + (bestT m (p + 1) (dropN left i)).worth⟩)), ⟨by rw [foldH_snoc, ← hh]; unfold stepH; rw [if_pos (show wantsB m p i = true ∧ 0 ≤ (bestT m (p + 1) (dropN left i)).worth from ⟨by simpa using hc2, hc3⟩)], hst, hsn⟩, rfl, ?_⟩
              have hsel : Hp w0 (.blk l_ (.loop { (LP fn tm [29] c' cd' D_) with state := .ready, pending := none }) :: .blk D_ (.deferred (some [])) :: ((.blk b9 (.cells (hdV (⟨q2.l, (fun k => q2.D k ∨ (Res.own (.slice a54 ((bestT m (p + 1) (dropN left i)).gets.length + 1) c54) 3 1 ((bestT m (p + 1) (dropN left i)).gets.length + 1) (((i : Int) :: (bestT m (p + 1) (dropN left i)).gets).flatMap iRow)).dom k), wj, if takesB h ⟨(i : Int) :: (bestT m (p + 1) (dropN left i)).gets, wv m p i + (bestT m (p + 1) (dropN left i)).worth⟩ = true then (a54, c54) else q.y⟩ : Lft).y (offer h ⟨(i : Int) :: (bestT m (p + 1) (dropN left i)).gets, wv m p i + (bestT m (p + 1) (dropN left i)).worth⟩)).toArray 100 (0, 0)) :: .blk b6 (.cells z85.toArray 85 (0, 0)) :: .blk b5 (.cells (stV p left).toArray 130 (0, 0)) :: .blk bm (kvM pk (⟨q2.l, (fun k => q2.D k ∨ (Res.own (.slice a54 ((bestT m (p + 1) (dropN left i)).gets.length + 1) c54) 3 1 ((bestT m (p + 1) (dropN left i)).gets.length + 1) (((i : Int) :: (bestT m (p + 1) (dropN left i)).gets).flatMap iRow)).dom k), wj, if takesB h ⟨(i : Int) :: (bestT m (p + 1) (dropN left i)).gets, wv m p i + (bestT m (p + 1) (dropN left i)).worth⟩ = true then (a54, c54) else q.y⟩ : Lft).l) :: .set (⟨q2.l, (fun k => q2.D k ∨ (Res.own (.slice a54 ((bestT m (p + 1) (dropN left i)).gets.length + 1) c54) 3 1 ((bestT m (p + 1) (dropN left i)).gets.length + 1) (((i : Int) :: (bestT m (p + 1) (dropN left i)).gets).flatMap iRow)).dom k), wj, if takesB h ⟨(i : Int) :: (bestT m (p + 1) (dropN left i)).gets, wv m p i + (bestT m (p + 1) (dropN left i)).worth⟩ = true then (a54, c54) else q.y⟩ : Lft).D (⟨q2.l, (fun k => q2.D k ∨ (Res.own (.slice a54 ((bestT m (p + 1) (dropN left i)).gets.length + 1) c54) 3 1 ((bestT m (p + 1) (dropN left i)).gets.length + 1) (((i : Int) :: (bestT m (p + 1) (dropN left i)).gets).flatMap iRow)).dom k), wj, if takesB h ⟨(i : Int) :: (bestT m (p + 1) (dropN left i)).gets, wv m p i + (bestT m (p + 1) (dropN left i)).worth⟩ = true then (a54, c54) else q.y⟩ : Lft).w :: .blk c1 (.cells (mV z m).toArray 75 (0, 0)) :: .blk c3 (.cells [Value.int .i64 (m.length : Int)].toArray 3 (0, 0)) :: .blk c4 (.cells [Value.map (some bm)].toArray 127 (0, 0)) :: .blk c5 (.cells [.func (.func 80) #[] #[.pointer (some ⟨c3, 0, none⟩), .pointer (some ⟨c4, 0, none⟩), .pointer (some ⟨c1, 0, none⟩), .pointer (some ⟨c5, 0, none⟩)]].toArray 128 (0, 0)) ::  []) ++ .reg 0 w0 :: (F ++ F2))) w' := hw'.sel SR
              have hback := hsel.sel (Sel.cons .here (Sel.cons .here (selBack _ F F2 (.reg 0 w0))))
              exact hback
          ·
            refine sc_skip ?_
            refine sx_blk ?_
            refine sx_endround RM ?_
            intro w' hw'
            refine ⟨((⟨q2.l, q2.D, q2.w, q.y⟩ : Lft), h), ⟨by rw [foldH_snoc, ← hh]; unfold stepH; rw [if_neg (fun hc => hc3 hc.2)], ⟨hq2.memo, hqg.trans hq2.grow, hrq.grow hq2.grow, fun x hx => (hq2.keys x hx).elim (hqk x) (fun h => .inr h)⟩, hqn⟩, rfl, ?_⟩
            have hsel : Hp w0 (.blk l_ (.loop { (LP fn tm [29] c' cd' D_) with state := .ready, pending := none }) :: .blk D_ (.deferred (some [])) :: ((.blk b9 (.cells (hdV (⟨q2.l, q2.D, q2.w, q.y⟩ : Lft).y h).toArray 100 (0, 0)) :: .blk b6 (.cells z85.toArray 85 (0, 0)) :: .blk b5 (.cells (stV p left).toArray 130 (0, 0)) :: .blk bm (kvM pk (⟨q2.l, q2.D, q2.w, q.y⟩ : Lft).l) :: .set (⟨q2.l, q2.D, q2.w, q.y⟩ : Lft).D (⟨q2.l, q2.D, q2.w, q.y⟩ : Lft).w :: .blk c1 (.cells (mV z m).toArray 75 (0, 0)) :: .blk c3 (.cells [Value.int .i64 (m.length : Int)].toArray 3 (0, 0)) :: .blk c4 (.cells [Value.map (some bm)].toArray 127 (0, 0)) :: .blk c5 (.cells [.func (.func 80) #[] #[.pointer (some ⟨c3, 0, none⟩), .pointer (some ⟨c4, 0, none⟩), .pointer (some ⟨c1, 0, none⟩), .pointer (some ⟨c5, 0, none⟩)]].toArray 128 (0, 0)) ::  []) ++ .reg 0 w0 :: (F ++ F2))) w' := hw'.sel SR
            have hback := hsel.sel (Sel.cons .here (Sel.cons .here (selBack _ F F2 (.reg 0 w0))))
            exact hback
      ·
        rintro D_ ⟨q, h⟩ ⟨hh, ⟨hqm, hqg, hrq, hqk⟩, hqn⟩
        dsimp only at hh hqm hqg hrq hqk hqn ⊢
        have hnew : ∀ x, x ∈ q.l → x.1 ≠ (p, left) := fun x hx he => by
          rcases hqk x hx with h1 | h1
          · exact kvGet_none hgn x h1 he
          · rw [he] at h1; exact absurd h1 (by dsimp only; omega)
        refine sx_blk ?_
        refine sx_then ?_
        refine sc_seq ?_
        refine sc_seq ?_
        refine sc_region ?_
        refine qs FA100_4 ?_
        refine qs LD4 ?_
        refine qs (y_not RF) ?_
        refine sq_nil ?_
        refine sx_then ?_
        refine sc_midE (Z := {y2 : (Option Addr × Nat) × List Value // RowsS iRow 1 q.D q.w y2.1.1 (bestT m p left).gets ∧ y2.2.length = 2}) (fun y2 => [(6, .pointer (some ⟨b6, 0, none⟩)), (9, .pointer (some ⟨b9, 0, none⟩)), (5, .pointer (some ⟨b5, 0, none⟩)), (1, .pointer (some ⟨c3, 0, none⟩)), (2, .pointer (some ⟨c4, 0, none⟩)), (3, .pointer (some ⟨c1, 0, none⟩)), (4, .pointer (some ⟨c5, 0, none⟩))]) (fun y2 => .blk D_ (.deferred (some [])) :: .blk b9 (.cells (tdV y2.1.1 (bestT m p left) ++ y2.1.2).toArray 100 (0, 0)) :: .blk b6 (.cells z85.toArray 85 (0, 0)) :: .blk b5 (.cells (stV p left).toArray 130 (0, 0)) :: .blk bm (kvM pk q.l) :: .set q.D q.w :: .blk c1 (.cells (mV z m).toArray 75 (0, 0)) :: .blk c3 (.cells [Value.int .i64 (m.length : Int)].toArray 3 (0, 0)) :: .blk c4 (.cells [Value.map (some bm)].toArray 127 (0, 0)) :: .blk c5 (.cells [.func (.func 80) #[] #[.pointer (some ⟨c3, 0, none⟩), .pointer (some ⟨c4, 0, none⟩), .pointer (some ⟨c1, 0, none⟩), .pointer (some ⟨c5, 0, none⟩)]].toArray 128 (0, 0)) ::  .reg 0 w0 :: F) ?_ ?_
        ·
          refine scp (fun hc4 => ?_) (fun hc4 => ?_)
          ·
            have hn : h = none := by
              cases h with
              | none => rfl
              | some t => cases hc4
            subst hn
            have hTn : bestT m p left = tdBad := by rw [bestT_step hpn, ← hh]; rfl
            rw [hTn]
            refine sc_region ?_
            refine qs (y_build (cells := (tdV (none, 0) tdBad).toArray) bt85 (EvP.cons RF EvP.nil) (by kernel_rfl)) ?_
            refine qs FA100_85 ?_
            refine sq_store_part (cs := hdV q.y none) (vs := tdV (none, 0) tdBad) (cs' := tdV (none, 0) tdBad ++ [.bool false, .func (.func 57) #[] #[]]) Tryd.sizeOf85 RF RF rfl RM rfl (Nat.le_of_ble_eq_true rfl) rfl ?_
            refine sq_nil ?_
            exact sx_midE (⟨((none, 0), [.bool false, .func (.func 57) #[] #[]]), RowsS.nil _ _, rfl⟩) SU SR
          ·
            obtain ⟨tb, htb⟩ : ∃ t, h = some t := by
              cases h with
              | none => cases hc4
              | some t => exact ⟨t, rfl⟩
            subst htb
            have hTs : bestT m p left = tb := by rw [bestT_step hpn, ← hh]; rfl
            rw [hTs]
            refine sc_skip ?_
            exact sx_midE (⟨(q.y, [.bool true, .func (.func 57) #[] #[]]), hrq, rfl⟩) SU SR
        rintro ⟨⟨y2, tl2⟩, hry2, htl2⟩
        try dsimp only
        refine sx_then ?_
        refine sc_seq ?_
        refine sc_region ?_
        refine qs LD127 ?_
        refine qs LD130 ?_
        refine qs FA100_85 ?_
        refine qs LD85 ?_
        refine sq_mapPutK (kf := pk) (x0 := (p, left)) (vs := tdV y2 (bestT m p left)) kf130 hqm.keys hkey Tryd.underlying127 RF RM RF RF hnew ?_
        refine sq_nil ?_
        refine sx_then ?_
        refine sc_seq ?_
        refine sc_region ?_
        refine qs FA100_85 ?_
        refine qs LD85 ?_
        refine sq_store_all Tryd.sizeOf85 RF RF rfl RM rfl rfl ?_
        refine sq_nil ?_
        refine sx_then ?_
        refine sc_ret ?_
        refine sx_retM (.inl rfl) rfl RM _ (res_c Tryd.results80 Tryd.underlying85 rfl Tryd.sizeOf85 RF MM rfl) ?_
        intro w' hw'
        exact ⟨⟨q.l ++ [((p, left), tdV y2 (bestT m p left))], q.D, q.w, y2⟩, ⟨hqm.snoc hkey hnew hry2, hqg, hry2, fun x hx => by
          rcases List.mem_append.1 hx with h1 | h1
          · exact (hqk x h1).imp id (fun h => by omega)
          · simp at h1; subst h1; exact .inr (Nat.le_refl _)⟩, rfl, hw'.sel SR⟩
end Go.Proofs.YtpijahglojichaaDoor
