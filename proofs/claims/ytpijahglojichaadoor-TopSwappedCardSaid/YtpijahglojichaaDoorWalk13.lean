/- The walk of a ring that is gone on with, in the search of short rings. -/
import Derived.Test.YtpijahglojichaaDoorWalk12
import Derived.Test.YtpijahglojichaaDoorLawS
namespace Go.Eng
open Go Go.RowKit
theorem res_u {X : Ctx} {L : List (Nat × Value)} {rs : List Res} {fn : Func} (hr : fn.results = #[]) : ∀ a w, St X.N X.D L a → Hp X.w0 rs w → (results fn a.tmps).run X.P w = .ok (.tuple #[]) w := by
  intro a w _ _
  simp [results, hr]
end Go.Eng
namespace Go.Proofs.YtpijahglojichaaDoor
open Go Go.Eng Go.RowKit Go.Proofs
set_option maxRecDepth 100000
def ki (z : Int) : Value := .int .i64 z
theorem kfI : KF Tryd.prog 3 ki (fun _ => True) := KF.of_int Tryd.underlying3
abbrev MemS := List (Int × List Value)
structure MemoS (m : Mt) (long : Nat) (D : Nat → Prop) (wM : World) (l : MemS) : Prop where
  nd : (l.map (·.1)).Nodup
  ok : ∀ x v, (x, v) ∈ l → ∃ y : Option Addr × Nat, v = tdV y (shT m long x.toNat) ∧ RowsS iRow 1 D wM y.1 (shT m long x.toNat).gets
theorem MemoS.grow {m long D wM D' wM' l} (h : MemoS m long D wM l) (g : Grow D wM D' wM') : MemoS m long D' wM' l := ⟨h.nd, fun x v hx => by
  obtain ⟨y, h2, h3⟩ := h.ok x v hx
  exact ⟨y, h2, h3.grow g⟩⟩
theorem MemoS.snoc {m long D wM l} (h : MemoS m long D wM l) {x : Int} (hno : ∀ p, p ∈ l → p.1 ≠ x) {y : Option Addr × Nat} {t : Td} (ht : t = shT m long x.toNat) (hr : RowsS iRow 1 D wM y.1 t.gets) : MemoS m long D wM (l ++ [(x, tdV y t)]) := by
  refine ⟨?_, fun x' v hv => ?_⟩
  · rw [List.map_append, List.nodup_append]
    refine ⟨h.nd, by simp, fun a ha b hb => ?_⟩
    obtain ⟨p, hp, rfl⟩ := List.mem_map.1 ha
    simp at hb
    subst hb
    exact hno p hp
  · rcases List.mem_append.1 hv with hv | hv
    · exact h.ok x' v hv
    · simp at hv
      obtain ⟨rfl, rfl⟩ := hv
      subst ht
      exact ⟨y, rfl, hr⟩
theorem memoS_len {m long D wM l} (h : MemoS m long D wM l) (x : Int) : ((kvGet l x).getD z85).length = 2 ∧ ((kvGet l x).getD z85).all (·.oneCell') = true := by
  cases hg : kvGet l x with
  | none => exact ⟨rfl, rfl⟩
  | some v =>
    obtain ⟨y, h2, _⟩ := h.ok x v (kvGet_some hg)
    subst h2; exact ⟨rfl, rfl⟩
structure LftS where
  l : MemS
  D : Nat → Prop
  w : World
  y : Option Addr × Nat
structure LftSOk (m : Mt) (long : Nat) (left : Nat) (l : MemS) (D : Nat → Prop) (wM : World) (q : LftS) : Prop where
  memo : MemoS m long q.D q.w q.l
  grow : Grow D wM q.D q.w
  rows : RowsS iRow 1 q.D q.w q.y.1 (shT m long left).gets
  keys : ∀ x, x ∈ q.l → x ∈ l ∨ x.1 ≤ (left : Int)
structure OnOk (m : Mt) (long : Nat) (rest : Nat) (g : Option Td) (l : MemS) (D : Nat → Prop) (wM : World) (q : LftS) : Prop where
  memo : MemoS m long q.D q.w q.l
  grow : Grow D wM q.D q.w
  rows : RowsS iRow 1 q.D q.w q.y.1 (tdOf g).gets
  keys : ∀ x, x ∈ q.l → x ∈ l ∨ x.1 ≤ (rest : Int)
def natI (r : List Nat) : List Int := List.map (fun (k : Nat) => (k : Int)) r
theorem natI_len (r : List Nat) : (natI r).length = r.length := by unfold natI; simp
theorem natI_get {r : List Nat} {i : Nat} (h : i < r.length) : (natI r).getD i 0 = ((r.getD i 0 : Nat) : Int) := by
  unfold natI
  rw [List.getD_eq_getElem?_getD, List.getElem?_map, get_of_lt 0 h]; rfl
theorem natI_snoc (r : List Nat) (k : Nat) : (natI r).flatMap iRow ++ [Value.int .i64 (k : Int)] = (natI (r ++ [k])).flatMap iRow := by
  unfold natI; rw [List.map_append, List.flatMap_append]; rfl
theorem RowsS.nat {D : Nat → Prop} {wr : World} {a : Option Addr} {r : List Nat} (h : RowsS iRow 1 D wr a (natI r)) {i : Nat} (hi : i < r.length) : a.isSome = true ∧ CS D wr (elt a i 1) (iRow ((r.getD i 0 : Nat) : Int)) := by
  have := h.el i ((natI r).getD i 0) (get_of_lt 0 (by rw [natI_len]; exact hi))
  rwa [natI_get hi] at this
theorem getD_lt {r : List Nat} {n i : Nat} (h : ∀ x, x ∈ r → x < n) (hi : i < r.length) : r.getD i 0 < n := h _ (getD_mem hi)
/-- what a ring that is gone on with leaves, when so many have been tried -/
def onFold (m : Mt) (long : Nat) (r : List Nat) (rest : Nat) (h : Option Td) (ds : List Nat) : Option Td := ds.foldl (fun h k => if wantsB m (lastN r) k = true then onT m long (r ++ [k]) (dropN rest k) h else h) h
theorem onFold_snoc (m : Mt) (long : Nat) (r : List Nat) (rest : Nat) (h : Option Td) (ds : List Nat) (k : Nat) : onFold m long r rest h (ds ++ [k]) = if wantsB m (lastN r) k = true then onT m long (r ++ [k]) (dropN rest k) (onFold m long r rest h ds) else onFold m long r rest h ds := by
  unfold onFold; rw [List.foldl_append]; rfl
/-- what is held once the ring has been closed, if it can be -/
def closeH (m : Mt) (long : Nat) (r : List Nat) (rest : Nat) (h : Option Td) : Option Td := if 1 < r.length ∧ wantsB m (lastN r) (r.headD 0) = true then offer h (ownT m r (shT m long rest)) else h
theorem onT_eq (m : Mt) (long : Nat) (r : List Nat) {rest : Nat} (h : Option Td) (hl : rest < 128) : onT m long r rest h = if r.length = long then closeH m long r rest h else onFold m long r rest (closeH m long r rest h) (memL rest) := onT_step m long r h hl
theorem shT_F {m : Mt} (hm : MkF m) {long left : Nat} (hl : left < 128) : ShF m.length 64000 (shT m long left) := by
  have hc := (card_le left hl).1
  exact ((sh_bd hm (long := long) 16).1 left hl (by omega)).up (by unfold topW; omega)

theorem clone53o (w : World) (a : Option Addr) (c : Nat) (l : List Int) (hl : RowsA iRow 1 0 w a l) (hb : l.length ≤ 100000) (h0 : 0 < l.length) : Calls Tryd.prog 53 #[.slice a l.length c] w fun e w' => ∃ v, e = .returned v ∧ Below w.heap.size w w' ∧ v.oneCell' = true ∧ w'.ownsRow w.heap.size 3 1 v l.length (l.flatMap iRow) := by
  refine calls_of_SC (args := [.slice a l.length c]) Tryd.func53 rfl Tryd.ntmps53 rfl ?_
  simp only [argL]
  refine sc_seq ?_
  refine sc_region ?_
  refine qs (y_assign RF) ?_
  refine sq_nil ?_
  refine sx_then ?_
  refine sc_seq ?_
  refine sc_seq ?_
  refine sc_region ?_
  refine qs (y_move RF) ?_
  refine qs (y_eqlnilA Tryd.underlying25 RF RF) ?_
  refine sq_nil ?_
  refine sx_then ?_
  refine scp (fun hc0 => ?_) (fun hc0 => ?_)
  ·
    have han : a = none := by cases a with | none => rfl | some ad => cases hc0
    exact absurd (hl.noa han) (by omega)
  ·
    refine sc_skip ?_
    refine sx_then ?_
    refine sc_seq ?_
    refine sc_region ?_
    refine sq_bs Tryd.underlying25 ei3 (EvI.nil) (by simp) rfl rfl rfl (fun b5 => ?_)
    refine sq_blk_own0 (sz := 1) (c := 0) RM rfl (Nat.zero_le _) ?_
    refine qs (y_move RF) ?_
    refine sq_append_rows (news := l.flatMap iRow) Tryd.underlying25 ei3 Tryd.sizeOf3 rfl (by decide) RF RM RF hl.noa (by rw [iflat_len, Nat.mul_one]) (fun ad had w1 hw1 => RowsA.cells (row := iRow) iRow_len (by decide) (by rw [← had]; exact hl.at hw1 MM)) (iflat_one _) (by omega) rfl (fun v7 ho7 => ?_)
    rw [Nat.zero_add l.length, List.nil_append]
    refine qs (y_assign RF) ?_
    refine sq_nil ?_
    refine sx_then ?_
    refine sc_ret ?_
    refine sx_ret1 (.inl rfl) rfl Tryd.results53 RF ?_
    intro w' hw'
    have ho := own_new_mem hw' (v := v7) (xs := l.flatMap iRow) MM MM
    exact ⟨v7, rfl, hw'.below MM, ho7, ho⟩
def ShAt (w0 : World) (z : MA) (m : Mt) (long bm e1 e2 e3 e4 e5 e6 left : Nat) : Prop := ∀ (l : MemS) (D : Nat → Prop) (wM : World) (F : List Res) (w : World), MemoS m long D wM l → Hp w0 (.blk bm (kvM ki l) :: .set D wM :: .blk e1 (.cells [Value.map (some bm)].toArray 94 (0, 0)) :: .blk e2 (.cells [Value.int .i64 (m.length : Int)].toArray 3 (0, 0)) :: .blk e3 (.cells [.func (.func 56) #[] #[.pointer (some ⟨e1, 0, none⟩), .pointer (some ⟨e2, 0, none⟩), .pointer (some ⟨e3, 0, none⟩), .pointer (some ⟨e4, 0, none⟩), .pointer (some ⟨e5, 0, none⟩), .pointer (some ⟨e6, 0, none⟩)]].toArray 95 (0, 0)) :: .blk e4 (.cells (mV z m).toArray 75 (0, 0)) :: .blk e5 (.cells (mV z m).toArray 24 (0, 0)) :: .blk e6 (.cells [Value.int .i64 (long : Int)].toArray 3 (0, 0)) ::  .reg 0 w0 :: F) w →
  Calls Tryd.prog 56 #[.int .i64 (left : Int), .pointer (some ⟨e1, 0, none⟩), .pointer (some ⟨e2, 0, none⟩), .pointer (some ⟨e3, 0, none⟩), .pointer (some ⟨e4, 0, none⟩), .pointer (some ⟨e5, 0, none⟩), .pointer (some ⟨e6, 0, none⟩)] w fun e w' => ∃ q : LftS, LftSOk m long left l D wM q ∧ e = .returned (.agg (tdV q.y (shT m long left)).toArray) ∧ Hp w0 (.blk bm (kvM ki q.l) :: .set q.D q.w :: .blk e1 (.cells [Value.map (some bm)].toArray 94 (0, 0)) :: .blk e2 (.cells [Value.int .i64 (m.length : Int)].toArray 3 (0, 0)) :: .blk e3 (.cells [.func (.func 56) #[] #[.pointer (some ⟨e1, 0, none⟩), .pointer (some ⟨e2, 0, none⟩), .pointer (some ⟨e3, 0, none⟩), .pointer (some ⟨e4, 0, none⟩), .pointer (some ⟨e5, 0, none⟩), .pointer (some ⟨e6, 0, none⟩)]].toArray 95 (0, 0)) :: .blk e4 (.cells (mV z m).toArray 75 (0, 0)) :: .blk e5 (.cells (mV z m).toArray 24 (0, 0)) :: .blk e6 (.cells [Value.int .i64 (long : Int)].toArray 3 (0, 0)) ::  .reg 0 w0 :: F) w'
def OnAt (w0 : World) (z : MA) (m : Mt) (long bm e1 e2 e3 e4 e5 e6 bf bh bo first rest : Nat) : Prop := ∀ (r : List Nat) (ar : Option Addr) (cr : Nat) (l : MemS) (D : Nat → Prop) (wM : World) (y : Option Addr × Nat) (h : Option Td) (F : List Res) (w : World), 0 < r.length → r.headD 0 = first → r.length + card rest ≤ 8 → (∀ x, x ∈ r → x < m.length) → MemoS m long D wM l → RowsS iRow 1 D wM ar (natI r) → RowsS iRow 1 D wM y.1 (tdOf h).gets → Hp w0 (.blk bh (.cells (hdV y h).toArray 100 (0, 0)) :: .blk bf (.cells [Value.int .i64 (first : Int)].toArray 3 (0, 0)) :: .blk bo (.cells [.func (.func 60) #[] #[.pointer (some ⟨e4, 0, none⟩), .pointer (some ⟨bf, 0, none⟩), .pointer (some ⟨e3, 0, none⟩), .pointer (some ⟨e5, 0, none⟩), .pointer (some ⟨bh, 0, none⟩), .pointer (some ⟨e6, 0, none⟩), .pointer (some ⟨bo, 0, none⟩)]].toArray 104 (0, 0)) ::  .blk bm (kvM ki l) :: .set D wM :: .blk e1 (.cells [Value.map (some bm)].toArray 94 (0, 0)) :: .blk e2 (.cells [Value.int .i64 (m.length : Int)].toArray 3 (0, 0)) :: .blk e3 (.cells [.func (.func 56) #[] #[.pointer (some ⟨e1, 0, none⟩), .pointer (some ⟨e2, 0, none⟩), .pointer (some ⟨e3, 0, none⟩), .pointer (some ⟨e4, 0, none⟩), .pointer (some ⟨e5, 0, none⟩), .pointer (some ⟨e6, 0, none⟩)]].toArray 95 (0, 0)) :: .blk e4 (.cells (mV z m).toArray 75 (0, 0)) :: .blk e5 (.cells (mV z m).toArray 24 (0, 0)) :: .blk e6 (.cells [Value.int .i64 (long : Int)].toArray 3 (0, 0)) ::  .reg 0 w0 :: F) w →
  Calls Tryd.prog 60 #[.slice ar r.length cr, .int .i64 (rest : Int), .pointer (some ⟨e4, 0, none⟩), .pointer (some ⟨bf, 0, none⟩), .pointer (some ⟨e3, 0, none⟩), .pointer (some ⟨e5, 0, none⟩), .pointer (some ⟨bh, 0, none⟩), .pointer (some ⟨e6, 0, none⟩), .pointer (some ⟨bo, 0, none⟩)] w fun e w' => ∃ q : LftS, OnOk m long rest (onT m long r rest h) l D wM q ∧ e = .returned (.tuple #[]) ∧ Hp w0 (.blk bh (.cells (hdV q.y (onT m long r rest h)).toArray 100 (0, 0)) :: .blk bf (.cells [Value.int .i64 (first : Int)].toArray 3 (0, 0)) :: .blk bo (.cells [.func (.func 60) #[] #[.pointer (some ⟨e4, 0, none⟩), .pointer (some ⟨bf, 0, none⟩), .pointer (some ⟨e3, 0, none⟩), .pointer (some ⟨e5, 0, none⟩), .pointer (some ⟨bh, 0, none⟩), .pointer (some ⟨e6, 0, none⟩), .pointer (some ⟨bo, 0, none⟩)]].toArray 104 (0, 0)) ::  .blk bm (kvM ki q.l) :: .set q.D q.w :: .blk e1 (.cells [Value.map (some bm)].toArray 94 (0, 0)) :: .blk e2 (.cells [Value.int .i64 (m.length : Int)].toArray 3 (0, 0)) :: .blk e3 (.cells [.func (.func 56) #[] #[.pointer (some ⟨e1, 0, none⟩), .pointer (some ⟨e2, 0, none⟩), .pointer (some ⟨e3, 0, none⟩), .pointer (some ⟨e4, 0, none⟩), .pointer (some ⟨e5, 0, none⟩), .pointer (some ⟨e6, 0, none⟩)]].toArray 95 (0, 0)) :: .blk e4 (.cells (mV z m).toArray 75 (0, 0)) :: .blk e5 (.cells (mV z m).toArray 24 (0, 0)) :: .blk e6 (.cells [Value.int .i64 (long : Int)].toArray 3 (0, 0)) ::  .reg 0 w0 :: F) w'
theorem close_ok {m : Mt} {long rest : Nat} {r : List Nat} {h : Option Td} {y : Option Addr × Nat} {l : MemS} {D : Nat → Prop} {wM wj : World} {q2 : LftS} {E : Nat → Prop} {a : Option Addr} {c : Nat} (hrh : RowsS iRow 1 D wM y.1 (tdOf h).gets) (hq2 : LftSOk m long rest l D wM q2) (hg : Grow q2.D q2.w E wj) (hr : RowsS iRow 1 E wj a (ringG r (shT m long rest).gets r.length)) :
    OnOk m long rest (offer h (ownT m r (shT m long rest))) l D wM (⟨q2.l, E, wj, if takesB h (ownT m r (shT m long rest)) = true then (a, c) else y⟩ : LftS) := by
  refine ⟨hq2.memo.grow hg, hq2.grow.trans hg, ?_, hq2.keys⟩
  dsimp only
  by_cases ht : takesB h (ownT m r (shT m long rest)) = true
  · rw [if_pos ht, show offer h (ownT m r (shT m long rest)) = some (ownT m r (shT m long rest)) from if_pos ht]; exact hr
  · rw [if_neg ht, show offer h (ownT m r (shT m long rest)) = h from if_neg ht]; exact (hrh.grow hq2.grow).grow hg
theorem on60 (w0 : World) (z : MA) (m : Mt) (hz : MtA 0 w0 z m) (hm : MkF m) (hT : TabAt w0) (long bm e1 e2 e3 e4 e5 e6 bf bh bo first rest : Nat) (hl128 : rest < 128) (hlm : ∀ i, i ∈ memL rest → i < m.length) (ihS : ShAt w0 z m long bm e1 e2 e3 e4 e5 e6 rest) (ihO : ∀ k, k ∈ memL rest → OnAt w0 z m long bm e1 e2 e3 e4 e5 e6 bf bh bo first (dropN rest k)) : OnAt w0 z m long bm e1 e2 e3 e4 e5 e6 bf bh bo first rest := by
  intro r ar cr l D wM y h F w hr0 hfst hr8 hrm hmemo hrr hrh hw
  have hn7 := hm.n7
  have hlast : lastN r < m.length := getD_lt hrm (by omega)
  have hn1 : 0 < m.length := by omega
  have hfm : first < m.length := by
    rw [← hfst]
    cases r with
    | nil => exact absurd hr0 (Nat.lt_irrefl _)
    | cons x r => exact hrm x (List.mem_cons_self ..)
  have hsl := (RowsS.nat hrr (show r.length - 1 < r.length by omega)).1
  have hcl := (RowsS.nat hrr (show r.length - 1 < r.length by omega)).2
  have hcl' : CS D wM (elt ar (r.length - 1) 1) (iRow (lastN r : Int)) := hcl
  have hSF := shT_F hm (long := long) hl128
  have hS1 := hSF.lo
  have hS2 := hSF.hi
  have hlr := hm.row (lastN r) hlast
  refine calls_of_SCrm (args := [.slice ar r.length cr, .int .i64 (rest : Int), .pointer (some ⟨e4, 0, none⟩), .pointer (some ⟨bf, 0, none⟩), .pointer (some ⟨e3, 0, none⟩), .pointer (some ⟨e5, 0, none⟩), .pointer (some ⟨bh, 0, none⟩), .pointer (some ⟨e6, 0, none⟩), .pointer (some ⟨bo, 0, none⟩)]) Tryd.func60 rfl Tryd.ntmps60 hw rfl ?_
  simp only [argL, Nat.reduceAdd, Nat.zero_add]
  refine sc_seq ?_
  refine sc_region ?_
  refine sq_box RF rfl (fun b9 => ?_)
  refine sq_box RF rfl (fun b10 => ?_)
  refine sq_nil ?_
  refine sx_then ?_
  refine sc_scope ?_
  refine sc_seq ?_
  refine sc_region ?_
  refine qs LD25 ?_
  refine qs LD25 ?_
  refine qs (y_len Tryd.underlying25 RF) ?_
  refine qs (y_sub RF RF (by omega)) ?_
  rw [show (r.length : Int) - 1 = ((r.length - 1 : Nat) : Int) by omega]
  refine qs IA25 ?_
  refine qs (by first | exact y_load_set Tryd.underlying3 rfl RF MM hcl' rfl | exact LD3) ?_
  refine sq_alloc Tryd.zeroValue3 rfl (fun b11 => ?_)
  refine sq_store Tryd.sizeOf3 RF RF (by first | rfl | assumption) RM (by first | exact Nat.le_of_ble_eq_true rfl | simp | omega) ?_
  refine sq_nil ?_
  refine sx_then ?_
  refine sc_seq ?_
  refine sc_seq ?_
  refine sc_midE (Z := {v : Bool // v = (decide (1 < r.length) && wantsB m (lastN r) first)}) (fun v => [(9, .pointer (some ⟨b9, 0, none⟩)), (10, .pointer (some ⟨b10, 0, none⟩)), (11, .pointer (some ⟨b11, 0, none⟩)), (2, .pointer (some ⟨e4, 0, none⟩)), (3, .pointer (some ⟨bf, 0, none⟩)), (4, .pointer (some ⟨e3, 0, none⟩)), (5, .pointer (some ⟨e5, 0, none⟩)), (6, .pointer (some ⟨bh, 0, none⟩)), (7, .pointer (some ⟨e6, 0, none⟩)), (8, .pointer (some ⟨bo, 0, none⟩)), (32, .bool v.1)]) (fun _ => .blk bh (.cells (hdV y h).toArray 100 (0, 0)) :: .blk b11 (.cells [Value.int .i64 (lastN r : Int)].toArray 3 (0, 0)) :: .blk b10 (.cells [Value.int .i64 (rest : Int)].toArray 3 (0, 0)) :: .blk b9 (.cells [Value.slice ar r.length cr].toArray 25 (0, 0)) :: .blk bf (.cells [Value.int .i64 (first : Int)].toArray 3 (0, 0)) :: .blk bo (.cells [.func (.func 60) #[] #[.pointer (some ⟨e4, 0, none⟩), .pointer (some ⟨bf, 0, none⟩), .pointer (some ⟨e3, 0, none⟩), .pointer (some ⟨e5, 0, none⟩), .pointer (some ⟨bh, 0, none⟩), .pointer (some ⟨e6, 0, none⟩), .pointer (some ⟨bo, 0, none⟩)]].toArray 104 (0, 0)) :: .blk bm (kvM ki l) :: .set D wM :: .blk e1 (.cells [Value.map (some bm)].toArray 94 (0, 0)) :: .blk e2 (.cells [Value.int .i64 (m.length : Int)].toArray 3 (0, 0)) :: .blk e3 (.cells [.func (.func 56) #[] #[.pointer (some ⟨e1, 0, none⟩), .pointer (some ⟨e2, 0, none⟩), .pointer (some ⟨e3, 0, none⟩), .pointer (some ⟨e4, 0, none⟩), .pointer (some ⟨e5, 0, none⟩), .pointer (some ⟨e6, 0, none⟩)]].toArray 95 (0, 0)) :: .blk e4 (.cells (mV z m).toArray 75 (0, 0)) :: .blk e5 (.cells (mV z m).toArray 24 (0, 0)) :: .blk e6 (.cells [Value.int .i64 (long : Int)].toArray 3 (0, 0)) :: .reg 0 w0 :: F) ?_ ?_
  ·
    refine sc_region ?_
    refine qs LD25 ?_
    refine qs (y_len Tryd.underlying25 RF) ?_
    refine qs (y_gtr RF RF) ?_
    refine qs (y_move RF) ?_
    refine sp 27 (fun hg2_3 => ?_) (fun hg2_3 => ?_)
    ·
      refine qg LD75 ?_
      refine qg LD3 ?_
      refine qg LD3 ?_
      refine sq_gt RF RF (y_call (first := []) (caps := []) RF Tryd.call49 (EvL.cons RF (EvL.cons RF (EvL.cons RF EvL.nil))) (fun w1 hw1 => wants49 w1 z m (hz.at hw1 MM) (lastN r) first hlast (by omega))) rfl ?_
      refine qs (y_pick_t RF RF) ?_
      refine sq_nil ?_
      exact sx_midE (⟨_, by rw [decide_eq_true (show 1 < r.length by omega), Bool.true_and]⟩) SU SR
    ·
      refine qf ?_
      refine qf ?_
      refine qf ?_
      refine qf ?_
      refine qs (y_pick_f RF RF) ?_
      refine sq_nil ?_
      exact sx_midE (⟨false, by rw [decide_eq_false (show ¬ 1 < r.length by omega), Bool.false_and]⟩) SU SR
  rintro ⟨vb, hvb⟩
  try dsimp only
  refine sx_then ?_
  refine sc_midE (Z := {q : LftS // OnOk m long rest (closeH m long r rest h) l D wM q}) (fun q => [(9, .pointer (some ⟨b9, 0, none⟩)), (10, .pointer (some ⟨b10, 0, none⟩)), (11, .pointer (some ⟨b11, 0, none⟩)), (2, .pointer (some ⟨e4, 0, none⟩)), (3, .pointer (some ⟨bf, 0, none⟩)), (4, .pointer (some ⟨e3, 0, none⟩)), (5, .pointer (some ⟨e5, 0, none⟩)), (6, .pointer (some ⟨bh, 0, none⟩)), (7, .pointer (some ⟨e6, 0, none⟩)), (8, .pointer (some ⟨bo, 0, none⟩))]) (fun q => .blk bh (.cells (hdV q.1.y (closeH m long r rest h)).toArray 100 (0, 0)) :: .blk b11 (.cells [Value.int .i64 (lastN r : Int)].toArray 3 (0, 0)) :: .blk b10 (.cells [Value.int .i64 (rest : Int)].toArray 3 (0, 0)) :: .blk b9 (.cells [Value.slice ar r.length cr].toArray 25 (0, 0)) :: .blk bf (.cells [Value.int .i64 (first : Int)].toArray 3 (0, 0)) :: .blk bo (.cells [.func (.func 60) #[] #[.pointer (some ⟨e4, 0, none⟩), .pointer (some ⟨bf, 0, none⟩), .pointer (some ⟨e3, 0, none⟩), .pointer (some ⟨e5, 0, none⟩), .pointer (some ⟨bh, 0, none⟩), .pointer (some ⟨e6, 0, none⟩), .pointer (some ⟨bo, 0, none⟩)]].toArray 104 (0, 0)) :: .blk bm (kvM ki q.1.l) :: .set q.1.D q.1.w :: .blk e1 (.cells [Value.map (some bm)].toArray 94 (0, 0)) :: .blk e2 (.cells [Value.int .i64 (m.length : Int)].toArray 3 (0, 0)) :: .blk e3 (.cells [.func (.func 56) #[] #[.pointer (some ⟨e1, 0, none⟩), .pointer (some ⟨e2, 0, none⟩), .pointer (some ⟨e3, 0, none⟩), .pointer (some ⟨e4, 0, none⟩), .pointer (some ⟨e5, 0, none⟩), .pointer (some ⟨e6, 0, none⟩)]].toArray 95 (0, 0)) :: .blk e4 (.cells (mV z m).toArray 75 (0, 0)) :: .blk e5 (.cells (mV z m).toArray 24 (0, 0)) :: .blk e6 (.cells [Value.int .i64 (long : Int)].toArray 3 (0, 0)) :: .reg 0 w0 :: F) ?_ ?_
  ·
    refine scp (fun hc0 => ?_) (fun hc0 => ?_)
    ·
      have hcond : 1 < r.length ∧ wantsB m (lastN r) (r.headD 0) = true := by
        have hv2 : vb = true := hc0
        rw [hvb, Bool.and_eq_true] at hv2
        exact ⟨of_decide_eq_true hv2.1, by rw [hfst]; exact hv2.2⟩
      have hclose : (closeH m long r rest h) = offer h (ownT m r (shT m long rest)) := if_pos hcond
      refine sc_seq ?_
      refine sc_region ?_
      refine qs LD95 ?_
      refine qs LD3 ?_
      refine sq_call_fr (first := []) (caps := [.pointer (some ⟨e1, 0, none⟩), .pointer (some ⟨e2, 0, none⟩), .pointer (some ⟨e3, 0, none⟩), .pointer (some ⟨e4, 0, none⟩), .pointer (some ⟨e5, 0, none⟩), .pointer (some ⟨e6, 0, none⟩)]) (vs := [.int .i64 (rest : Int)]) (rs1 := .blk bm (kvM ki l) :: .set D wM :: .blk e1 (.cells [Value.map (some bm)].toArray 94 (0, 0)) :: .blk e2 (.cells [Value.int .i64 (m.length : Int)].toArray 3 (0, 0)) :: .blk e3 (.cells [.func (.func 56) #[] #[.pointer (some ⟨e1, 0, none⟩), .pointer (some ⟨e2, 0, none⟩), .pointer (some ⟨e3, 0, none⟩), .pointer (some ⟨e4, 0, none⟩), .pointer (some ⟨e5, 0, none⟩), .pointer (some ⟨e6, 0, none⟩)]].toArray 95 (0, 0)) :: .blk e4 (.cells (mV z m).toArray 75 (0, 0)) :: .blk e5 (.cells (mV z m).toArray 24 (0, 0)) :: .blk e6 (.cells [Value.int .i64 (long : Int)].toArray 3 (0, 0)) ::  .reg 0 w0 :: []) (Z := LftS) (fun q2 => .agg (tdV q2.y (shT m long rest)).toArray) (fun q2 => .blk bm (kvM ki q2.l) :: .set q2.D q2.w :: .blk e1 (.cells [Value.map (some bm)].toArray 94 (0, 0)) :: .blk e2 (.cells [Value.int .i64 (m.length : Int)].toArray 3 (0, 0)) :: .blk e3 (.cells [.func (.func 56) #[] #[.pointer (some ⟨e1, 0, none⟩), .pointer (some ⟨e2, 0, none⟩), .pointer (some ⟨e3, 0, none⟩), .pointer (some ⟨e4, 0, none⟩), .pointer (some ⟨e5, 0, none⟩), .pointer (some ⟨e6, 0, none⟩)]].toArray 95 (0, 0)) :: .blk e4 (.cells (mV z m).toArray 75 (0, 0)) :: .blk e5 (.cells (mV z m).toArray 24 (0, 0)) :: .blk e6 (.cells [Value.int .i64 (long : Int)].toArray 3 (0, 0)) ::  .reg 0 w0 :: []) (fun q2 => LftSOk m long rest l D wM q2) RF Tryd.call56 E1 (by repeat (first | exact Rems.nil | apply Rems.cons (by repeat (first | exact Rem.here | apply Rem.there)))) (fun w1 hw1 => (ihS l D wM _ w1 hmemo hw1).mono (fun e w' h => h)) rfl (fun q2 hq2 => ?_)
      refine sq_alloc Tryd.zeroValue85 rfl (fun b12 => ?_)
      refine sq_store_all Tryd.sizeOf85 RF RF rfl RM rfl rfl ?_
      refine sq_nil ?_
      refine sx_then ?_
      refine sc_seq ?_
      refine sc_midE (Z := {q : (Option Addr × Nat) × Nat // True}) (fun q => [(9, .pointer (some ⟨b9, 0, none⟩)), (10, .pointer (some ⟨b10, 0, none⟩)), (11, .pointer (some ⟨b11, 0, none⟩)), (2, .pointer (some ⟨e4, 0, none⟩)), (3, .pointer (some ⟨bf, 0, none⟩)), (4, .pointer (some ⟨e3, 0, none⟩)), (5, .pointer (some ⟨e5, 0, none⟩)), (6, .pointer (some ⟨bh, 0, none⟩)), (7, .pointer (some ⟨e6, 0, none⟩)), (8, .pointer (some ⟨bo, 0, none⟩)), (13, .pointer (some ⟨q.1.2, 0, none⟩))]) (fun q => .own (.slice q.1.1.1 m.length q.1.1.2) 3 1 m.length ((ringG r (shT m long rest).gets 0).flatMap iRow) :: .blk q.1.2 (.cells [.slice q.1.1.1 m.length q.1.1.2, Value.int .i64 ((shT m long rest).worth + ringW m r 0)].toArray 85 (0, 0)) :: .blk bh (.cells (hdV y h).toArray 100 (0, 0)) :: .blk b11 (.cells [Value.int .i64 (lastN r : Int)].toArray 3 (0, 0)) :: .blk b10 (.cells [Value.int .i64 (rest : Int)].toArray 3 (0, 0)) :: .blk b9 (.cells [Value.slice ar r.length cr].toArray 25 (0, 0)) :: .blk bf (.cells [Value.int .i64 (first : Int)].toArray 3 (0, 0)) :: .blk bo (.cells [.func (.func 60) #[] #[.pointer (some ⟨e4, 0, none⟩), .pointer (some ⟨bf, 0, none⟩), .pointer (some ⟨e3, 0, none⟩), .pointer (some ⟨e5, 0, none⟩), .pointer (some ⟨bh, 0, none⟩), .pointer (some ⟨e6, 0, none⟩), .pointer (some ⟨bo, 0, none⟩)]].toArray 104 (0, 0)) :: .blk bm (kvM ki q2.l) :: .set q2.D q2.w :: .blk e1 (.cells [Value.map (some bm)].toArray 94 (0, 0)) :: .blk e2 (.cells [Value.int .i64 (m.length : Int)].toArray 3 (0, 0)) :: .blk e3 (.cells [.func (.func 56) #[] #[.pointer (some ⟨e1, 0, none⟩), .pointer (some ⟨e2, 0, none⟩), .pointer (some ⟨e3, 0, none⟩), .pointer (some ⟨e4, 0, none⟩), .pointer (some ⟨e5, 0, none⟩), .pointer (some ⟨e6, 0, none⟩)]].toArray 95 (0, 0)) :: .blk e4 (.cells (mV z m).toArray 75 (0, 0)) :: .blk e5 (.cells (mV z m).toArray 24 (0, 0)) :: .blk e6 (.cells [Value.int .i64 (long : Int)].toArray 3 (0, 0)) :: .reg 0 w0 :: F) ?_ ?_
      ·
        refine sc_drawR (by kernel_rfl) ?_
        refine xj_s 0 RF (by kernel_rfl) SR FA85_25 rfl ?_
        refine xj_s 1 RF (by kernel_rfl) SR LD25 rfl ?_
        refine xj_s 3 RF (by kernel_rfl) SR FA85_3 rfl ?_
        refine xj_s 4 RF (by kernel_rfl) SR LD3 rfl ?_
        refine xj_all (l := [2, 6]) (by kernel_rfl) (by simp) (Each.cons ⟨_, rfl, ?_⟩ (Each.cons ⟨_, rfl, ?_⟩ Each.nil))
        ·
          refine sq_call_own (first := []) (caps := []) (e := 3) (sz := 1) (n := (shT m long rest).gets.length) (Z := Value) (fun x => x) (fun x => x) (fun _ => (shT m long rest).gets.flatMap iRow) (fun x => x.oneCell' = true) RF Tryd.call53 E1 (fun w1 hw1 => (clone53o w1 q2.y.1 q2.y.2 _ (hq2.rows.at hw1 MM) (by have := hSF.len; omega) (by have := hSF.len; omega)).mono (fun e w' ⟨x, h1, h2, h3, h4⟩ => ⟨x, h1, h2, h3, h4⟩)) rfl (fun v38 ho38 => ?_)
          rw [hSF.len]
          refine sq_own_dest (e := 3) (sz := 1) (m := m.length) (xs := (shT m long rest).gets.flatMap iRow) MM (fun a38 c38 hv38 hmc38 hn38 => ?_)
          subst hv38
          refine sq_nil ?_
          refine sx_xp SR ?_
          refine xj_s 5 RF (by kernel_rfl) SR (y_build (cells := #[.slice a38 m.length c38, .int .i64 (shT m long rest).worth]) bt85 (EvP.cons RF (EvP.cons RF EvP.nil)) (by kernel_rfl)) rfl ?_
          refine xj_one 6 RF (by kernel_rfl) ?_
          refine sq_alloc Tryd.zeroValue85 rfl (fun b13 => ?_)
          refine sq_nil ?_
          refine sx_xp SR ?_
          refine xj_one 7 RF (by kernel_rfl) ?_
          refine sq_store_all (vs := [(.slice a38 m.length c38), .int .i64 ((shT m long rest).worth + ringW m r 0)]) Tryd.sizeOf85 RF (lk_eq rfl (by show _ = Value.agg #[_, .int .i64 ((shT m long rest).worth + 0)]; rw [Int.add_zero])) rfl RM rfl rfl ?_
          refine sq_nil ?_
          refine sx_xpl (by kernel_rfl) ?_
          refine xj_done (by kernel_rfl) ?_
          exact sx_midE (⟨((a38, c38), b13), trivial⟩) SU SR
        ·
          refine sq_alloc Tryd.zeroValue85 rfl (fun b13 => ?_)
          refine sq_nil ?_
          refine sx_xp SR ?_
          refine xj_one 2 RF (by kernel_rfl) ?_
          refine sq_call_own (first := []) (caps := []) (e := 3) (sz := 1) (n := (shT m long rest).gets.length) (Z := Value) (fun x => x) (fun x => x) (fun _ => (shT m long rest).gets.flatMap iRow) (fun x => x.oneCell' = true) RF Tryd.call53 E1 (fun w1 hw1 => (clone53o w1 q2.y.1 q2.y.2 _ (hq2.rows.at hw1 MM) (by have := hSF.len; omega) (by have := hSF.len; omega)).mono (fun e w' ⟨x, h1, h2, h3, h4⟩ => ⟨x, h1, h2, h3, h4⟩)) rfl (fun v38 ho38 => ?_)
          rw [hSF.len]
          refine sq_own_dest (e := 3) (sz := 1) (m := m.length) (xs := (shT m long rest).gets.flatMap iRow) MM (fun a38 c38 hv38 hmc38 hn38 => ?_)
          subst hv38
          refine sq_nil ?_
          refine sx_xp SR ?_
          refine xj_s 5 RF (by kernel_rfl) SR (y_build (cells := #[.slice a38 m.length c38, .int .i64 (shT m long rest).worth]) bt85 (EvP.cons RF (EvP.cons RF EvP.nil)) (by kernel_rfl)) rfl ?_
          refine xj_one 7 RF (by kernel_rfl) ?_
          refine sq_store_all (vs := [(.slice a38 m.length c38), .int .i64 ((shT m long rest).worth + ringW m r 0)]) Tryd.sizeOf85 RF (lk_eq rfl (by show _ = Value.agg #[_, .int .i64 ((shT m long rest).worth + 0)]; rw [Int.add_zero])) rfl RM rfl rfl ?_
          refine sq_nil ?_
          refine sx_xpl (by kernel_rfl) ?_
          refine xj_done (by kernel_rfl) ?_
          exact sx_midE (⟨((a38, c38), b13), trivial⟩) SU SR
      rintro ⟨⟨⟨a38, c38⟩, b13⟩, _⟩
      try dsimp only
      refine sx_then ?_
      refine sc_seq ?_
      refine sc_seq ?_
      refine sc_region ?_
      refine qs LD25 ?_
      refine qs (y_len Tryd.underlying25 RF) ?_
      refine qs (y_move RF) ?_
      refine sq_nil ?_
      refine sx_then ?_
      refine sc_block ?_
      refine sc_loop (σ := Nat)
        (fun s => [(9, .pointer (some ⟨b9, 0, none⟩)), (10, .pointer (some ⟨b10, 0, none⟩)), (11, .pointer (some ⟨b11, 0, none⟩)), (2, .pointer (some ⟨e4, 0, none⟩)), (3, .pointer (some ⟨bf, 0, none⟩)), (4, .pointer (some ⟨e3, 0, none⟩)), (5, .pointer (some ⟨e5, 0, none⟩)), (6, .pointer (some ⟨bh, 0, none⟩)), (7, .pointer (some ⟨e6, 0, none⟩)), (8, .pointer (some ⟨bo, 0, none⟩)), (13, .pointer (some ⟨b13, 0, none⟩)), (42, .slice ar r.length cr), (43, .int .i64 r.length), (44, .int .i64 s)])
        (fun s => .own (.slice a38 m.length c38) 3 1 m.length ((ringG r (shT m long rest).gets s).flatMap iRow) :: .blk b13 (.cells [(.slice a38 m.length c38), Value.int .i64 ((shT m long rest).worth + ringW m r s)].toArray 85 (0, 0)) :: .blk bh (.cells (hdV y h).toArray 100 (0, 0)) :: .blk b11 (.cells [Value.int .i64 (lastN r : Int)].toArray 3 (0, 0)) :: .blk b10 (.cells [Value.int .i64 (rest : Int)].toArray 3 (0, 0)) :: .blk b9 (.cells [Value.slice ar r.length cr].toArray 25 (0, 0)) :: .blk bf (.cells [Value.int .i64 (first : Int)].toArray 3 (0, 0)) :: .blk bo (.cells [.func (.func 60) #[] #[.pointer (some ⟨e4, 0, none⟩), .pointer (some ⟨bf, 0, none⟩), .pointer (some ⟨e3, 0, none⟩), .pointer (some ⟨e5, 0, none⟩), .pointer (some ⟨bh, 0, none⟩), .pointer (some ⟨e6, 0, none⟩), .pointer (some ⟨bo, 0, none⟩)]].toArray 104 (0, 0)) :: .blk bm (kvM ki q2.l) :: .set q2.D q2.w :: .blk e1 (.cells [Value.map (some bm)].toArray 94 (0, 0)) :: .blk e2 (.cells [Value.int .i64 (m.length : Int)].toArray 3 (0, 0)) :: .blk e3 (.cells [.func (.func 56) #[] #[.pointer (some ⟨e1, 0, none⟩), .pointer (some ⟨e2, 0, none⟩), .pointer (some ⟨e3, 0, none⟩), .pointer (some ⟨e4, 0, none⟩), .pointer (some ⟨e5, 0, none⟩), .pointer (some ⟨e6, 0, none⟩)]].toArray 95 (0, 0)) :: .blk e4 (.cells (mV z m).toArray 75 (0, 0)) :: .blk e5 (.cells (mV z m).toArray 24 (0, 0)) :: .blk e6 (.cells [Value.int .i64 (long : Int)].toArray 3 (0, 0)) :: .reg 0 w0 :: F)
        (fun s => s ≤ r.length)
        (fun s => r.length - s)
        (0) ?_ SU SR ?_
      · exact Nat.zero_le _
      rintro i hi
      refine sc_seq ?_
      refine sc_region ?_
      refine qs (y_lss RF RF) ?_
      refine sq_nil ?_
      refine sx_then ?_
      refine sc_seq ?_
      refine scp (fun hc1 => ?_) (fun hc1 => ?_)
      ·
        have hi' : i < r.length := by omega
        have hrr2 := hrr.grow hq2.grow
        have hsi := (RowsS.nat hrr2 hi').1
        have hci := (RowsS.nat hrr2 hi').2
        have hmd : (i + 1) % r.length < r.length := Nat.mod_lt _ hr0
        have hsn := (RowsS.nat hrr2 hmd).1
        have hcn := (RowsS.nat hrr2 hmd).2
        rw [show r.getD ((i + 1) % r.length) 0 = nextN r i from rfl] at hcn
        have hkm : r.getD i 0 < m.length := getD_lt hrm hi'
        have hnm : nextN r i < m.length := getD_lt hrm hmd
        have hkrow := hm.row _ hkm
        obtain ⟨hs1, hr1, hs2, hcw⟩ := hz.cell hkm (show nextN r i < (m.getD (r.getD i 0) []).length by omega)
        have hb1 := ringW_bd hm r i
        have hb2 := hm.bd (r.getD i 0) (nextN r i)
        refine sc_skip ?_
        refine sx_then ?_
        refine sc_seq ?_
        refine sc_block ?_
        refine sc_seq ?_
        refine sc_region ?_
        refine qs (y_move RF) ?_
        refine qs IA25 ?_
        refine qs (by first | exact y_load_set Tryd.underlying3 rfl RF MM hci rfl | exact LD3) ?_
        refine qs (y_assign RF) ?_
        refine qs (y_assign RF) ?_
        refine sq_nil ?_
        refine sx_then ?_
        refine sc_seq ?_
        refine sc_drawR (by kernel_rfl) ?_
        refine xj_s 0 RF (by kernel_rfl) SR LD25 rfl ?_
        refine xj_s 1 RF (by kernel_rfl) SR (y_move RF) rfl ?_
        refine xj_s 2 RF (by kernel_rfl) SR (y_add RF RF (by omega)) rfl ?_
        refine xj_s 3 RF (by kernel_rfl) SR LD25 rfl ?_
        refine xj_s 4 RF (by kernel_rfl) SR (y_len Tryd.underlying25 RF) rfl ?_
        refine xj_s 5 RF (by kernel_rfl) SR (y_rem RF RF (by omega) (by omega)) rfl ?_
        rw [show ((i : Int) + 1) % (r.length : Int) = (((i + 1) % r.length : Nat) : Int) from by rw [Int.natCast_emod]; rfl]
        refine xj_s 6 RF (by kernel_rfl) SR IA25 rfl ?_
        refine xj_s 7 RF (by kernel_rfl) SR (by first | exact y_load_set Tryd.underlying3 rfl RF MM hcn rfl | exact LD3) rfl ?_
        refine xj_s 8 RF (by kernel_rfl) SR (y_assign RF) rfl ?_
        refine xj_done (by kernel_rfl) ?_
        refine sx_then ?_
        refine sc_seq ?_
        refine sc_region ?_
        refine qs FA85_25 ?_
        refine qs LD25 ?_
        refine qs (y_move RF) ?_
        refine qs (y_move RF) ?_
        refine qs (y_ia_own (v := (.slice a38 m.length c38)) (i := r.getD i 0) Tryd.underlying25 Tryd.sizeOf3 RF MM RF hkm) ?_
        refine sq_store_own (v := (.slice a38 m.length c38)) (i := r.getD i 0) (j := 0) (sz := 1) Tryd.sizeOf3 RF RF rfl RM hkm (by decide) ?_
        rw [iset, show (ringG r (shT m long rest).gets i).set (r.getD i 0) ((nextN r i : Nat) : Int) = (ringG r (shT m long rest).gets (i + 1)) from rfl]
        refine sq_nil ?_
        refine sx_then ?_
        refine sc_drawR (by kernel_rfl) ?_
        refine xj_s 0 RF (by kernel_rfl) SR FA85_3 rfl ?_
        refine xj_s 1 RF (by kernel_rfl) SR LD3 rfl ?_
        refine xj_s 2 RF (by kernel_rfl) SR FA24_22 rfl ?_
        refine xj_s 3 RF (by kernel_rfl) SR LD22 rfl ?_
        refine xj_s 4 RF (by kernel_rfl) SR (y_move RF) rfl ?_
        refine xj_s 5 RF (by kernel_rfl) SR IA22 rfl ?_
        refine xj_s 6 RF (by kernel_rfl) SR (by first | exact y_load_ca0 Tryd.underlying25 rfl RF MM hr1 rfl | exact LD25) rfl ?_
        refine xj_s 7 RF (by kernel_rfl) SR (y_move RF) rfl ?_
        refine xj_s 8 RF (by kernel_rfl) SR IA25 rfl ?_
        refine xj_s 9 RF (by kernel_rfl) SR (by first | exact y_load_ca0 Tryd.underlying3 rfl RF MM hcw rfl | exact LD3) rfl ?_
        refine xj_s 10 RF (by kernel_rfl) SR (y_add RF RF (by omega)) rfl ?_
        rw [show (shT m long rest).worth + ringW m r i + wv m (r.getD i 0) (nextN r i) = (shT m long rest).worth + ringW m r (i + 1) from by conv => { rhs; unfold ringW }; omega]
        refine xj_s 11 RF (by kernel_rfl) SR FA85_3 rfl ?_
        refine xj_one 12 RF (by kernel_rfl) ?_
        refine sq_store_eq (cs' := [(.slice a38 m.length c38), .int .i64 ((shT m long rest).worth + ringW m r (i + 1))].toArray) Tryd.sizeOf3 RF RF rfl RM (Nat.le_of_ble_eq_true rfl) rfl ?_
        refine sq_nil ?_
        refine sx_xpl (by kernel_rfl) ?_
        refine xj_done (by kernel_rfl) ?_
        refine sx_blk ?_
        refine sx_then ?_
        refine sc_region ?_
        refine qs (y_add RF RF (by omega)) ?_
        refine qs (y_move RF) ?_
        refine sq_nil ?_
        refine sx_round (i + 1) ?_ ?_ SU SR
        · omega
        · omega
      ·
        have hin : i = r.length := by omega
        subst hin
        have hownl : (ringG r (shT m long rest).gets r.length).length = m.length := by rw [ringG_len]; exact hSF.len
        refine sc_exit ?_
        refine sx_then_exit ?_
        refine sx_round_exit ?_
        refine sx_blk_hit ?_
        refine sx_then ?_
        refine sc_region ?_
        refine qs LD85 ?_
        refine sq_call_fr (first := []) (caps := []) (vs := [.pointer (some ⟨bh, 0, none⟩), .agg (tdV (a38, c38) (ownT m r (shT m long rest))).toArray]) (rs1 := [.blk bh (.cells (hdV y h).toArray 100 (0, 0))]) (Z := Unit) (fun _ => .tuple #[]) (fun _ => [.blk bh (.cells (hdV (if takesB h (ownT m r (shT m long rest)) = true then (a38, c38) else y) (offer h (ownT m r (shT m long rest)))).toArray 100 (0, 0))]) (fun _ => True) RF Tryd.call58 (EvL.cons RF (EvL.cons (lk_eq rfl (by unfold tdV; rw [show (ownT m r (shT m long rest)).gets.length = m.length from hownl]; rfl)) EvL.nil)) (by repeat (first | exact Rems.nil | apply Rems.cons (by repeat (first | exact Rem.here | apply Rem.there)))) (fun w1 hw1 => (offer58 y (a38, c38) h (ownT m r (shT m long rest)) (fun w2 hw2 => ⟨(hrh.grow hq2.grow).at hw2 MM, own_at hw2 hownl MM (by omega)⟩) hw1).mono (fun e w' h => ⟨(), trivial, h.1, h.2⟩)) rfl (fun _ _ => ?_)
        refine sq_join (r := .own (.slice a38 m.length c38) 3 1 m.length ((ringG r (shT m long rest).gets r.length).flatMap iRow)) RMS1 (fun wj hgj hoj => ?_)
        have hrj := own_atS (D := q2.D) hoj hownl (by omega)
        have hfin := close_ok (r := r) (h := h) (y := y) (a := a38) (c := c38) hrh hq2 hgj hrj
        rw [← hclose] at hfin ⊢
        refine sq_nil ?_
        exact sx_midE (⟨⟨q2.l, _, wj, if takesB h (ownT m r (shT m long rest)) = true then (a38, c38) else y⟩, hfin⟩) SU SR
    ·
      have hclose : (closeH m long r rest h) = h := if_neg (fun hcond => by
        have hv2 : vb = false := hc0
        rw [hvb, decide_eq_true hcond.1, ← hfst, hcond.2] at hv2; cases hv2)
      have hfin : OnOk m long rest (closeH m long r rest h) l D wM (⟨l, D, wM, y⟩ : LftS) := ⟨hmemo, Grow.refl _ _, by rw [hclose]; exact hrh, fun x hx => .inl hx⟩
      rw [hclose] at hfin ⊢
      refine sc_skip ?_
      exact sx_midE (⟨⟨l, D, wM, y⟩, hfin⟩) SU SR
  rintro ⟨q1, hq1⟩
  try dsimp only
  refine sx_then ?_
  refine sc_seq ?_
  refine sc_seq ?_
  refine sc_region ?_
  refine qs LD25 ?_
  refine qs (y_len Tryd.underlying25 RF) ?_
  refine qs LD3 ?_
  refine qs (y_eql RF RF) ?_
  refine sq_nil ?_
  refine sx_then ?_
  refine scp (fun hc2 => ?_) (fun hc2 => ?_)
  ·
    have hlen : r.length = long := by omega
    have hon : onT m long r rest h = (closeH m long r rest h) := by rw [onT_eq _ _ _ _ hl128, if_pos hlen]
    refine sc_ret ?_
    refine sx_then_ret ?_
    refine sx_scope_ret ?_
    refine sx_retM0 (.inl rfl) rfl _ (res_u Tryd.results60) ?_
    intro w' hw'
    rw [hon]
    exact ⟨q1, hq1, rfl, hw'.sel SR⟩
  ·
    have hon : onT m long r rest h = onFold m long r rest (closeH m long r rest h) (memL rest) := by rw [onT_eq _ _ _ _ hl128, if_neg (show ¬ r.length = long by omega)]
    refine sc_skip ?_
    refine sx_then ?_
    refine sc_seq ?_
    refine sc_label ?_
    refine sx_then ?_
    refine sc_seq ?_
    refine sc_region ?_
    refine qs LD3 ?_
    refine sq_call_new (first := []) (caps := []) (Z := Addr) (fun a => .func (.func 87) #[] #[.pointer (some a)]) (fun lo w' a => CA lo w' a [.int .i64 (rest : Int)]) RF Tryd.call61 (EvL.cons RF EvL.nil) (fun w1 _ => members61 w1 (rest : Int)) rfl (fun lo wr pa hpa => ?_)
    refine sq_nil ?_
    refine sx_then ?_
    refine sc_block ?_
    refine sc_rangeFunc (Z := LftS × Option Td) (ps := [83]) (lb := [.pointer (some pa)]) (fun s => .reg lo wr :: .reg 0 w0 :: (.blk bh (.cells (hdV s.1.y s.2).toArray 100 (0, 0)) :: .blk b11 (.cells [Value.int .i64 (lastN r : Int)].toArray 3 (0, 0)) :: .blk b10 (.cells [Value.int .i64 (rest : Int)].toArray 3 (0, 0)) :: .blk b9 (.cells [Value.slice ar r.length cr].toArray 25 (0, 0)) :: .blk bf (.cells [Value.int .i64 (first : Int)].toArray 3 (0, 0)) :: .blk bo (.cells [.func (.func 60) #[] #[.pointer (some ⟨e4, 0, none⟩), .pointer (some ⟨bf, 0, none⟩), .pointer (some ⟨e3, 0, none⟩), .pointer (some ⟨e5, 0, none⟩), .pointer (some ⟨bh, 0, none⟩), .pointer (some ⟨e6, 0, none⟩), .pointer (some ⟨bo, 0, none⟩)]].toArray 104 (0, 0)) :: .blk bm (kvM ki s.1.l) :: .set s.1.D s.1.w :: .blk e1 (.cells [Value.map (some bm)].toArray 94 (0, 0)) :: .blk e2 (.cells [Value.int .i64 (m.length : Int)].toArray 3 (0, 0)) :: .blk e3 (.cells [.func (.func 56) #[] #[.pointer (some ⟨e1, 0, none⟩), .pointer (some ⟨e2, 0, none⟩), .pointer (some ⟨e3, 0, none⟩), .pointer (some ⟨e4, 0, none⟩), .pointer (some ⟨e5, 0, none⟩), .pointer (some ⟨e6, 0, none⟩)]].toArray 95 (0, 0)) :: .blk e4 (.cells (mV z m).toArray 75 (0, 0)) :: .blk e5 (.cells (mV z m).toArray 24 (0, 0)) :: .blk e6 (.cells [Value.int .i64 (long : Int)].toArray 3 (0, 0)) ::  F)) (fun s => (fun (ds : List Nat) (s : LftS × Option Td) => s.2 = onFold m long r rest (closeH m long r rest h) ds ∧ OnOk m long rest s.2 l D wM s.1) (memL rest) s) rfl RF Tryd.call87 ?_ ?_
    ·
      intro fn tm l_ D_ hts htL w1 hw1
      refine (eachB (w0 := w0) hw1 hT (by omega) hpa (fun (s : LftS × Option Td) => (.blk bh (.cells (hdV s.1.y s.2).toArray 100 (0, 0)) :: .blk b11 (.cells [Value.int .i64 (lastN r : Int)].toArray 3 (0, 0)) :: .blk b10 (.cells [Value.int .i64 (rest : Int)].toArray 3 (0, 0)) :: .blk b9 (.cells [Value.slice ar r.length cr].toArray 25 (0, 0)) :: .blk bf (.cells [Value.int .i64 (first : Int)].toArray 3 (0, 0)) :: .blk bo (.cells [.func (.func 60) #[] #[.pointer (some ⟨e4, 0, none⟩), .pointer (some ⟨bf, 0, none⟩), .pointer (some ⟨e3, 0, none⟩), .pointer (some ⟨e5, 0, none⟩), .pointer (some ⟨bh, 0, none⟩), .pointer (some ⟨e6, 0, none⟩), .pointer (some ⟨bo, 0, none⟩)]].toArray 104 (0, 0)) :: .blk bm (kvM ki s.1.l) :: .set s.1.D s.1.w :: .blk e1 (.cells [Value.map (some bm)].toArray 94 (0, 0)) :: .blk e2 (.cells [Value.int .i64 (m.length : Int)].toArray 3 (0, 0)) :: .blk e3 (.cells [.func (.func 56) #[] #[.pointer (some ⟨e1, 0, none⟩), .pointer (some ⟨e2, 0, none⟩), .pointer (some ⟨e3, 0, none⟩), .pointer (some ⟨e4, 0, none⟩), .pointer (some ⟨e5, 0, none⟩), .pointer (some ⟨e6, 0, none⟩)]].toArray 95 (0, 0)) :: .blk e4 (.cells (mV z m).toArray 75 (0, 0)) :: .blk e5 (.cells (mV z m).toArray 24 (0, 0)) :: .blk e6 (.cells [Value.int .i64 (long : Int)].toArray 3 (0, 0)) ::  []) ++ F) (fun (ds : List Nat) (s : LftS × Option Td) => s.2 = onFold m long r rest (closeH m long r rest h) ds ∧ OnOk m long rest s.2 l D wM s.1) (q1, (closeH m long r rest h)) ⟨rfl, hq1⟩ SR ?_).mono ?_
      rotate_left
      · rintro e w' ⟨hv, s, h1, h2⟩
        exact ⟨s, h1, hv, h2⟩
      rintro c' cd' ⟨q, h2⟩ ds i rr hmem ⟨hh, hqo⟩ F2 w2 hw2
      dsimp only at hh hqo
      have hil : i ∈ memL rest := by rw [hmem]; simp
      have him : i < m.length := hlm i hil
      have hi7 := memL_seven rest hl128 i hil
      have hcd := card_drop rest hl128 i hi7.1 hi7.2
      have hpw := pw2_le (show i ≤ 20 by omega)
      obtain ⟨hs2', hL2⟩ := one_param (p := 83) (u := .int .i64 (i : Int)) hts htL (Nat.le_of_ble_eq_true rfl)
      refine round_of_SC (N := 100) hs2' hL2 (hw2.sel (Sel.cons .here (Sel.cons .here (selMove (.blk bh (.cells (hdV q.y h2).toArray 100 (0, 0)) :: .blk b11 (.cells [Value.int .i64 (lastN r : Int)].toArray 3 (0, 0)) :: .blk b10 (.cells [Value.int .i64 (rest : Int)].toArray 3 (0, 0)) :: .blk b9 (.cells [Value.slice ar r.length cr].toArray 25 (0, 0)) :: .blk bf (.cells [Value.int .i64 (first : Int)].toArray 3 (0, 0)) :: .blk bo (.cells [.func (.func 60) #[] #[.pointer (some ⟨e4, 0, none⟩), .pointer (some ⟨bf, 0, none⟩), .pointer (some ⟨e3, 0, none⟩), .pointer (some ⟨e5, 0, none⟩), .pointer (some ⟨bh, 0, none⟩), .pointer (some ⟨e6, 0, none⟩), .pointer (some ⟨bo, 0, none⟩)]].toArray 104 (0, 0)) :: .blk bm (kvM ki q.l) :: .set q.D q.w :: .blk e1 (.cells [Value.map (some bm)].toArray 94 (0, 0)) :: .blk e2 (.cells [Value.int .i64 (m.length : Int)].toArray 3 (0, 0)) :: .blk e3 (.cells [.func (.func 56) #[] #[.pointer (some ⟨e1, 0, none⟩), .pointer (some ⟨e2, 0, none⟩), .pointer (some ⟨e3, 0, none⟩), .pointer (some ⟨e4, 0, none⟩), .pointer (some ⟨e5, 0, none⟩), .pointer (some ⟨e6, 0, none⟩)]].toArray 95 (0, 0)) :: .blk e4 (.cells (mV z m).toArray 75 (0, 0)) :: .blk e5 (.cells (mV z m).toArray 24 (0, 0)) :: .blk e6 (.cells [Value.int .i64 (long : Int)].toArray 3 (0, 0)) ::  []) F F2 (.reg 0 w0))))) ?_
      dsimp only [List.cons_append, List.nil_append]
      refine sc_region ?_
      refine qs (y_assign RF) ?_
      refine sq_nil ?_
      refine sx_begin rfl RM rfl ?_
      refine sc_block ?_
      refine sc_seq ?_
      refine sc_seq ?_
      refine sc_region ?_
      refine qs LD75 ?_
      refine qs LD3 ?_
      refine qs (y_move RF) ?_
      refine qy (yc Tryd.call49 E3 (fun w1 hw1 => wants49 w1 z m (hz.at hw1 MM) (lastN r) i hlast (by omega))) ?_
      refine qs (y_not RF) ?_
      refine sq_nil ?_
      refine sx_then ?_
      refine scp (fun hc3 => ?_) (fun hc3 => ?_)
      ·
        refine sc_exit ?_
        refine sx_then_exit ?_
        refine sx_blk_hit ?_
        refine sx_endround RM ?_
        intro w' hw'
        refine ⟨(q, h2), ⟨by rw [onFold_snoc, ← hh, if_neg (by simpa using hc3)], hqo⟩, rfl, ?_⟩
        have hsel : Hp w0 (.blk l_ (.loop { (LP fn tm [83] c' cd' D_) with state := .ready, pending := none }) :: .blk D_ (.deferred (some [])) :: ((.blk bh (.cells (hdV q.y h2).toArray 100 (0, 0)) :: .blk b11 (.cells [Value.int .i64 (lastN r : Int)].toArray 3 (0, 0)) :: .blk b10 (.cells [Value.int .i64 (rest : Int)].toArray 3 (0, 0)) :: .blk b9 (.cells [Value.slice ar r.length cr].toArray 25 (0, 0)) :: .blk bf (.cells [Value.int .i64 (first : Int)].toArray 3 (0, 0)) :: .blk bo (.cells [.func (.func 60) #[] #[.pointer (some ⟨e4, 0, none⟩), .pointer (some ⟨bf, 0, none⟩), .pointer (some ⟨e3, 0, none⟩), .pointer (some ⟨e5, 0, none⟩), .pointer (some ⟨bh, 0, none⟩), .pointer (some ⟨e6, 0, none⟩), .pointer (some ⟨bo, 0, none⟩)]].toArray 104 (0, 0)) :: .blk bm (kvM ki q.l) :: .set q.D q.w :: .blk e1 (.cells [Value.map (some bm)].toArray 94 (0, 0)) :: .blk e2 (.cells [Value.int .i64 (m.length : Int)].toArray 3 (0, 0)) :: .blk e3 (.cells [.func (.func 56) #[] #[.pointer (some ⟨e1, 0, none⟩), .pointer (some ⟨e2, 0, none⟩), .pointer (some ⟨e3, 0, none⟩), .pointer (some ⟨e4, 0, none⟩), .pointer (some ⟨e5, 0, none⟩), .pointer (some ⟨e6, 0, none⟩)]].toArray 95 (0, 0)) :: .blk e4 (.cells (mV z m).toArray 75 (0, 0)) :: .blk e5 (.cells (mV z m).toArray 24 (0, 0)) :: .blk e6 (.cells [Value.int .i64 (long : Int)].toArray 3 (0, 0)) ::  []) ++ .reg 0 w0 :: (F ++ F2))) w' := hw'.sel SR
        have hback := hsel.sel (Sel.cons .here (Sel.cons .here (selBack _ F F2 (.reg 0 w0))))
        exact hback
      ·
        refine sc_skip ?_
        refine sx_then ?_
        refine sc_drawX ([.blk b9 (.cells [Value.slice ar r.length cr].toArray 25 (0, 0)), .blk b10 (.cells [Value.int .i64 (rest : Int)].toArray 3 (0, 0)), .blk bo (.cells [.func (.func 60) #[] #[.pointer (some ⟨e4, 0, none⟩), .pointer (some ⟨bf, 0, none⟩), .pointer (some ⟨e3, 0, none⟩), .pointer (some ⟨e5, 0, none⟩), .pointer (some ⟨bh, 0, none⟩), .pointer (some ⟨e6, 0, none⟩), .pointer (some ⟨bo, 0, none⟩)]].toArray 104 (0, 0))]) (by kernel_rfl) ?_
        refine xj_s 0 RF (by kernel_rfl) SR LD104 rfl ?_
        refine xj_s 1 RF (by kernel_rfl) SR LD25 rfl ?_
        refine xj_s 3 RF (by kernel_rfl) SR (y_move RF) rfl ?_
        refine xj_s 6 RF (by kernel_rfl) SR LD3 rfl ?_
        refine xj_s 7 RF (by kernel_rfl) SR (y_move RF) rfl ?_
        refine xj_s 8 RF (by kernel_rfl) SR (y_shl RF RF (by omega) (by rw [pw2_shl]; omega)) rfl ?_
        rw [pw2_shl]
        refine xj_s 9 RF (by kernel_rfl) SR (y_andNot RF RF (by omega) (by omega)) rfl ?_
        rw [Int.toNat_natCast, Int.toNat_natCast, show andNotN rest (pw2 i) = dropN rest i from rfl]
        refine xj_all (l := [2, 4]) (by kernel_rfl) (by simp) (Each.cons ⟨_, rfl, ?_⟩ (Each.cons ⟨_, rfl, ?_⟩ Each.nil))
        ·
          refine sq_call_own (first := []) (caps := []) (e := 3) (sz := 1) (n := (natI r).length) (Z := Value) (fun x => x) (fun x => x) (fun _ => (natI r).flatMap iRow) (fun x => x.oneCell' = true) RF Tryd.call53 (EvL.cons (lk_eq rfl (by rw [natI_len]; rfl)) EvL.nil) (fun w1 hw1 => (clone53o w1 ar cr (natI r) ((hrr.grow hqo.grow).at hw1 MM) (by rw [natI_len]; omega) (by rw [natI_len]; omega)).mono (fun e w' ⟨x, h1, h2, h3, h4⟩ => ⟨x, h1, h2, h3, h4⟩)) rfl (fun v91 ho91 => ?_)
          rw [natI_len]
          refine sq_nil ?_
          refine sx_xp SR ?_
          refine xj_one 4 RF (by kernel_rfl) ?_
          refine sq_bs Tryd.underlying25 ei3 (EvI.cons RF EvI.nil) (by first | (simp [Value.cells]; done) | (simp [Value.cells]; rfl) | (simp [Value.cells]; and_intros <;> rfl)) rfl rfl rfl (fun b93 => ?_)
          refine sq_nil ?_
          refine sx_xp SR ?_
          refine xj_one 5 RF (by kernel_rfl) ?_
          refine sq_append (news := [Value.int .i64 (i : Int)]) Tryd.underlying25 ei3 rfl (by decide) RF RM RF rfl (fun _ hw => news_blk hw MM) (by simp [Value.oneCell']) (by omega) rfl (fun v94 ho94 => ?_)
          rw [natI_snoc]
          refine sq_nil ?_
          refine sx_xp SR ?_
          refine xj_one 10 RF (by kernel_rfl) ?_
          refine sq_own_dest (e := 3) (sz := 1) (m := r.length + 1) (xs := (natI (r ++ [i])).flatMap iRow) MM (fun a94 c94 hv94 hmc94 hn94 => ?_)
          subst hv94
          refine sq_join (r := .own (.slice a94 (r.length + 1) c94) 3 1 (r.length + 1) ((natI (r ++ [i])).flatMap iRow)) RMS1 (fun wj hgj hoj => ?_)
          have hrj := own_atS (D := q.D) hoj (by rw [natI_len]; simp) (by omega)
          refine sq_call_fr (first := []) (caps := [.pointer (some ⟨e4, 0, none⟩), .pointer (some ⟨bf, 0, none⟩), .pointer (some ⟨e3, 0, none⟩), .pointer (some ⟨e5, 0, none⟩), .pointer (some ⟨bh, 0, none⟩), .pointer (some ⟨e6, 0, none⟩), .pointer (some ⟨bo, 0, none⟩)]) (vs := [.slice a94 (r.length + 1) c94, .int .i64 ((dropN rest i : Nat) : Int)]) (rs1 := .blk bh (.cells (hdV q.y h2).toArray 100 (0, 0)) ::  .blk bf (.cells [Value.int .i64 (first : Int)].toArray 3 (0, 0)) :: .blk bo (.cells [.func (.func 60) #[] #[.pointer (some ⟨e4, 0, none⟩), .pointer (some ⟨bf, 0, none⟩), .pointer (some ⟨e3, 0, none⟩), .pointer (some ⟨e5, 0, none⟩), .pointer (some ⟨bh, 0, none⟩), .pointer (some ⟨e6, 0, none⟩), .pointer (some ⟨bo, 0, none⟩)]].toArray 104 (0, 0)) ::  .blk bm (kvM ki q.l) :: .set (fun k => q.D k ∨ (Res.own (.slice a94 (r.length + 1) c94) 3 1 (r.length + 1) ((natI (r ++ [i])).flatMap iRow)).dom k) wj :: .blk e1 (.cells [Value.map (some bm)].toArray 94 (0, 0)) :: .blk e2 (.cells [Value.int .i64 (m.length : Int)].toArray 3 (0, 0)) :: .blk e3 (.cells [.func (.func 56) #[] #[.pointer (some ⟨e1, 0, none⟩), .pointer (some ⟨e2, 0, none⟩), .pointer (some ⟨e3, 0, none⟩), .pointer (some ⟨e4, 0, none⟩), .pointer (some ⟨e5, 0, none⟩), .pointer (some ⟨e6, 0, none⟩)]].toArray 95 (0, 0)) :: .blk e4 (.cells (mV z m).toArray 75 (0, 0)) :: .blk e5 (.cells (mV z m).toArray 24 (0, 0)) :: .blk e6 (.cells [Value.int .i64 (long : Int)].toArray 3 (0, 0)) ::  .reg 0 w0 :: []) (Z := LftS) (fun _ => .tuple #[]) (fun q2 => .blk bh (.cells (hdV q2.y (onT m long (r ++ [i]) (dropN rest i) h2)).toArray 100 (0, 0)) ::  .blk bf (.cells [Value.int .i64 (first : Int)].toArray 3 (0, 0)) :: .blk bo (.cells [.func (.func 60) #[] #[.pointer (some ⟨e4, 0, none⟩), .pointer (some ⟨bf, 0, none⟩), .pointer (some ⟨e3, 0, none⟩), .pointer (some ⟨e5, 0, none⟩), .pointer (some ⟨bh, 0, none⟩), .pointer (some ⟨e6, 0, none⟩), .pointer (some ⟨bo, 0, none⟩)]].toArray 104 (0, 0)) ::  .blk bm (kvM ki q2.l) :: .set q2.D q2.w :: .blk e1 (.cells [Value.map (some bm)].toArray 94 (0, 0)) :: .blk e2 (.cells [Value.int .i64 (m.length : Int)].toArray 3 (0, 0)) :: .blk e3 (.cells [.func (.func 56) #[] #[.pointer (some ⟨e1, 0, none⟩), .pointer (some ⟨e2, 0, none⟩), .pointer (some ⟨e3, 0, none⟩), .pointer (some ⟨e4, 0, none⟩), .pointer (some ⟨e5, 0, none⟩), .pointer (some ⟨e6, 0, none⟩)]].toArray 95 (0, 0)) :: .blk e4 (.cells (mV z m).toArray 75 (0, 0)) :: .blk e5 (.cells (mV z m).toArray 24 (0, 0)) :: .blk e6 (.cells [Value.int .i64 (long : Int)].toArray 3 (0, 0)) ::  .reg 0 w0 :: []) (fun q2 => OnOk m long (dropN rest i) (onT m long (r ++ [i]) (dropN rest i) h2) q.l (fun k => q.D k ∨ (Res.own (.slice a94 (r.length + 1) c94) 3 1 (r.length + 1) ((natI (r ++ [i])).flatMap iRow)).dom k) wj q2) RF Tryd.call60 E2 (by repeat (first | exact Rems.nil | apply Rems.cons (by repeat (first | exact Rem.here | apply Rem.there)))) (fun w1 hw1 => by
            have hcall := ihO i hil (r ++ [i]) a94 c94 q.l (fun k => q.D k ∨ (Res.own (.slice a94 (r.length + 1) c94) 3 1 (r.length + 1) ((natI (r ++ [i])).flatMap iRow)).dom k) wj q.y h2 _ w1 (by simp) (by rw [← hfst]; cases r with | nil => exact absurd hr0 (Nat.lt_irrefl _) | cons x r => rfl) (by simp; omega) (fun x hx => by rcases List.mem_append.1 hx with hx | hx; exact hrm x hx; simp at hx; subst hx; exact him) (hqo.memo.grow hgj) hrj (hqo.rows.grow hgj) hw1
            rw [show (r ++ [i]).length = r.length + 1 from by simp] at hcall
            exact hcall.mono (fun e w' h => h)) rfl (fun q2 hq2 => ?_)
          refine sq_nil ?_
          refine sx_xp SR ?_
          refine xj_done (by kernel_rfl) ?_
          refine sx_blk ?_
          refine sx_endround RM ?_
          intro w' hw'
          refine ⟨((⟨q2.l, q2.D, q2.w, q2.y⟩ : LftS), (onT m long (r ++ [i]) (dropN rest i) h2)), ⟨by rw [onFold_snoc, ← hh, if_pos (by simpa using hc3)], ⟨hq2.memo, (hqo.grow.trans hgj).trans hq2.grow, hq2.rows, fun x hx => (hq2.keys x hx).elim (hqo.keys x) (fun h => .inr (by have := hcd.2.2; omega))⟩⟩, rfl, ?_⟩
          have hsel : Hp w0 (.blk l_ (.loop { (LP fn tm [83] c' cd' D_) with state := .ready, pending := none }) :: .blk D_ (.deferred (some [])) :: ((.blk bh (.cells (hdV (⟨q2.l, q2.D, q2.w, q2.y⟩ : LftS).y (onT m long (r ++ [i]) (dropN rest i) h2)).toArray 100 (0, 0)) :: .blk b11 (.cells [Value.int .i64 (lastN r : Int)].toArray 3 (0, 0)) :: .blk b10 (.cells [Value.int .i64 (rest : Int)].toArray 3 (0, 0)) :: .blk b9 (.cells [Value.slice ar r.length cr].toArray 25 (0, 0)) :: .blk bf (.cells [Value.int .i64 (first : Int)].toArray 3 (0, 0)) :: .blk bo (.cells [.func (.func 60) #[] #[.pointer (some ⟨e4, 0, none⟩), .pointer (some ⟨bf, 0, none⟩), .pointer (some ⟨e3, 0, none⟩), .pointer (some ⟨e5, 0, none⟩), .pointer (some ⟨bh, 0, none⟩), .pointer (some ⟨e6, 0, none⟩), .pointer (some ⟨bo, 0, none⟩)]].toArray 104 (0, 0)) :: .blk bm (kvM ki (⟨q2.l, q2.D, q2.w, q2.y⟩ : LftS).l) :: .set (⟨q2.l, q2.D, q2.w, q2.y⟩ : LftS).D (⟨q2.l, q2.D, q2.w, q2.y⟩ : LftS).w :: .blk e1 (.cells [Value.map (some bm)].toArray 94 (0, 0)) :: .blk e2 (.cells [Value.int .i64 (m.length : Int)].toArray 3 (0, 0)) :: .blk e3 (.cells [.func (.func 56) #[] #[.pointer (some ⟨e1, 0, none⟩), .pointer (some ⟨e2, 0, none⟩), .pointer (some ⟨e3, 0, none⟩), .pointer (some ⟨e4, 0, none⟩), .pointer (some ⟨e5, 0, none⟩), .pointer (some ⟨e6, 0, none⟩)]].toArray 95 (0, 0)) :: .blk e4 (.cells (mV z m).toArray 75 (0, 0)) :: .blk e5 (.cells (mV z m).toArray 24 (0, 0)) :: .blk e6 (.cells [Value.int .i64 (long : Int)].toArray 3 (0, 0)) ::  []) ++ .reg 0 w0 :: (F ++ F2))) w' := hw'.sel SR
          have hback := hsel.sel (Sel.cons .here (Sel.cons .here (selBack _ F F2 (.reg 0 w0))))
          exact hback
        ·
          refine sq_bs Tryd.underlying25 ei3 (EvI.cons RF EvI.nil) (by first | (simp [Value.cells]; done) | (simp [Value.cells]; rfl) | (simp [Value.cells]; and_intros <;> rfl)) rfl rfl rfl (fun b93 => ?_)
          refine sq_nil ?_
          refine sx_xp SR ?_
          refine xj_one 2 RF (by kernel_rfl) ?_
          refine sq_call_own (first := []) (caps := []) (e := 3) (sz := 1) (n := (natI r).length) (Z := Value) (fun x => x) (fun x => x) (fun _ => (natI r).flatMap iRow) (fun x => x.oneCell' = true) RF Tryd.call53 (EvL.cons (lk_eq rfl (by rw [natI_len]; rfl)) EvL.nil) (fun w1 hw1 => (clone53o w1 ar cr (natI r) ((hrr.grow hqo.grow).at hw1 MM) (by rw [natI_len]; omega) (by rw [natI_len]; omega)).mono (fun e w' ⟨x, h1, h2, h3, h4⟩ => ⟨x, h1, h2, h3, h4⟩)) rfl (fun v91 ho91 => ?_)
          rw [natI_len]
          refine sq_nil ?_
          refine sx_xp SR ?_
          refine xj_one 5 RF (by kernel_rfl) ?_
          refine sq_append (news := [Value.int .i64 (i : Int)]) Tryd.underlying25 ei3 rfl (by decide) RF RM RF rfl (fun _ hw => news_blk hw MM) (by simp [Value.oneCell']) (by omega) rfl (fun v94 ho94 => ?_)
          rw [natI_snoc]
          refine sq_nil ?_
          refine sx_xp SR ?_
          refine xj_one 10 RF (by kernel_rfl) ?_
          refine sq_own_dest (e := 3) (sz := 1) (m := r.length + 1) (xs := (natI (r ++ [i])).flatMap iRow) MM (fun a94 c94 hv94 hmc94 hn94 => ?_)
          subst hv94
          refine sq_join (r := .own (.slice a94 (r.length + 1) c94) 3 1 (r.length + 1) ((natI (r ++ [i])).flatMap iRow)) RMS1 (fun wj hgj hoj => ?_)
          have hrj := own_atS (D := q.D) hoj (by rw [natI_len]; simp) (by omega)
          refine sq_call_fr (first := []) (caps := [.pointer (some ⟨e4, 0, none⟩), .pointer (some ⟨bf, 0, none⟩), .pointer (some ⟨e3, 0, none⟩), .pointer (some ⟨e5, 0, none⟩), .pointer (some ⟨bh, 0, none⟩), .pointer (some ⟨e6, 0, none⟩), .pointer (some ⟨bo, 0, none⟩)]) (vs := [.slice a94 (r.length + 1) c94, .int .i64 ((dropN rest i : Nat) : Int)]) (rs1 := .blk bh (.cells (hdV q.y h2).toArray 100 (0, 0)) ::  .blk bf (.cells [Value.int .i64 (first : Int)].toArray 3 (0, 0)) :: .blk bo (.cells [.func (.func 60) #[] #[.pointer (some ⟨e4, 0, none⟩), .pointer (some ⟨bf, 0, none⟩), .pointer (some ⟨e3, 0, none⟩), .pointer (some ⟨e5, 0, none⟩), .pointer (some ⟨bh, 0, none⟩), .pointer (some ⟨e6, 0, none⟩), .pointer (some ⟨bo, 0, none⟩)]].toArray 104 (0, 0)) ::  .blk bm (kvM ki q.l) :: .set (fun k => q.D k ∨ (Res.own (.slice a94 (r.length + 1) c94) 3 1 (r.length + 1) ((natI (r ++ [i])).flatMap iRow)).dom k) wj :: .blk e1 (.cells [Value.map (some bm)].toArray 94 (0, 0)) :: .blk e2 (.cells [Value.int .i64 (m.length : Int)].toArray 3 (0, 0)) :: .blk e3 (.cells [.func (.func 56) #[] #[.pointer (some ⟨e1, 0, none⟩), .pointer (some ⟨e2, 0, none⟩), .pointer (some ⟨e3, 0, none⟩), .pointer (some ⟨e4, 0, none⟩), .pointer (some ⟨e5, 0, none⟩), .pointer (some ⟨e6, 0, none⟩)]].toArray 95 (0, 0)) :: .blk e4 (.cells (mV z m).toArray 75 (0, 0)) :: .blk e5 (.cells (mV z m).toArray 24 (0, 0)) :: .blk e6 (.cells [Value.int .i64 (long : Int)].toArray 3 (0, 0)) ::  .reg 0 w0 :: []) (Z := LftS) (fun _ => .tuple #[]) (fun q2 => .blk bh (.cells (hdV q2.y (onT m long (r ++ [i]) (dropN rest i) h2)).toArray 100 (0, 0)) ::  .blk bf (.cells [Value.int .i64 (first : Int)].toArray 3 (0, 0)) :: .blk bo (.cells [.func (.func 60) #[] #[.pointer (some ⟨e4, 0, none⟩), .pointer (some ⟨bf, 0, none⟩), .pointer (some ⟨e3, 0, none⟩), .pointer (some ⟨e5, 0, none⟩), .pointer (some ⟨bh, 0, none⟩), .pointer (some ⟨e6, 0, none⟩), .pointer (some ⟨bo, 0, none⟩)]].toArray 104 (0, 0)) ::  .blk bm (kvM ki q2.l) :: .set q2.D q2.w :: .blk e1 (.cells [Value.map (some bm)].toArray 94 (0, 0)) :: .blk e2 (.cells [Value.int .i64 (m.length : Int)].toArray 3 (0, 0)) :: .blk e3 (.cells [.func (.func 56) #[] #[.pointer (some ⟨e1, 0, none⟩), .pointer (some ⟨e2, 0, none⟩), .pointer (some ⟨e3, 0, none⟩), .pointer (some ⟨e4, 0, none⟩), .pointer (some ⟨e5, 0, none⟩), .pointer (some ⟨e6, 0, none⟩)]].toArray 95 (0, 0)) :: .blk e4 (.cells (mV z m).toArray 75 (0, 0)) :: .blk e5 (.cells (mV z m).toArray 24 (0, 0)) :: .blk e6 (.cells [Value.int .i64 (long : Int)].toArray 3 (0, 0)) ::  .reg 0 w0 :: []) (fun q2 => OnOk m long (dropN rest i) (onT m long (r ++ [i]) (dropN rest i) h2) q.l (fun k => q.D k ∨ (Res.own (.slice a94 (r.length + 1) c94) 3 1 (r.length + 1) ((natI (r ++ [i])).flatMap iRow)).dom k) wj q2) RF Tryd.call60 E2 (by repeat (first | exact Rems.nil | apply Rems.cons (by repeat (first | exact Rem.here | apply Rem.there)))) (fun w1 hw1 => by
            have hcall := ihO i hil (r ++ [i]) a94 c94 q.l (fun k => q.D k ∨ (Res.own (.slice a94 (r.length + 1) c94) 3 1 (r.length + 1) ((natI (r ++ [i])).flatMap iRow)).dom k) wj q.y h2 _ w1 (by simp) (by rw [← hfst]; cases r with | nil => exact absurd hr0 (Nat.lt_irrefl _) | cons x r => rfl) (by simp; omega) (fun x hx => by rcases List.mem_append.1 hx with hx | hx; exact hrm x hx; simp at hx; subst hx; exact him) (hqo.memo.grow hgj) hrj (hqo.rows.grow hgj) hw1
            rw [show (r ++ [i]).length = r.length + 1 from by simp] at hcall
            exact hcall.mono (fun e w' h => h)) rfl (fun q2 hq2 => ?_)
          refine sq_nil ?_
          refine sx_xp SR ?_
          refine xj_done (by kernel_rfl) ?_
          refine sx_blk ?_
          refine sx_endround RM ?_
          intro w' hw'
          refine ⟨((⟨q2.l, q2.D, q2.w, q2.y⟩ : LftS), (onT m long (r ++ [i]) (dropN rest i) h2)), ⟨by rw [onFold_snoc, ← hh, if_pos (by simpa using hc3)], ⟨hq2.memo, (hqo.grow.trans hgj).trans hq2.grow, hq2.rows, fun x hx => (hq2.keys x hx).elim (hqo.keys x) (fun h => .inr (by have := hcd.2.2; omega))⟩⟩, rfl, ?_⟩
          have hsel : Hp w0 (.blk l_ (.loop { (LP fn tm [83] c' cd' D_) with state := .ready, pending := none }) :: .blk D_ (.deferred (some [])) :: ((.blk bh (.cells (hdV (⟨q2.l, q2.D, q2.w, q2.y⟩ : LftS).y (onT m long (r ++ [i]) (dropN rest i) h2)).toArray 100 (0, 0)) :: .blk b11 (.cells [Value.int .i64 (lastN r : Int)].toArray 3 (0, 0)) :: .blk b10 (.cells [Value.int .i64 (rest : Int)].toArray 3 (0, 0)) :: .blk b9 (.cells [Value.slice ar r.length cr].toArray 25 (0, 0)) :: .blk bf (.cells [Value.int .i64 (first : Int)].toArray 3 (0, 0)) :: .blk bo (.cells [.func (.func 60) #[] #[.pointer (some ⟨e4, 0, none⟩), .pointer (some ⟨bf, 0, none⟩), .pointer (some ⟨e3, 0, none⟩), .pointer (some ⟨e5, 0, none⟩), .pointer (some ⟨bh, 0, none⟩), .pointer (some ⟨e6, 0, none⟩), .pointer (some ⟨bo, 0, none⟩)]].toArray 104 (0, 0)) :: .blk bm (kvM ki (⟨q2.l, q2.D, q2.w, q2.y⟩ : LftS).l) :: .set (⟨q2.l, q2.D, q2.w, q2.y⟩ : LftS).D (⟨q2.l, q2.D, q2.w, q2.y⟩ : LftS).w :: .blk e1 (.cells [Value.map (some bm)].toArray 94 (0, 0)) :: .blk e2 (.cells [Value.int .i64 (m.length : Int)].toArray 3 (0, 0)) :: .blk e3 (.cells [.func (.func 56) #[] #[.pointer (some ⟨e1, 0, none⟩), .pointer (some ⟨e2, 0, none⟩), .pointer (some ⟨e3, 0, none⟩), .pointer (some ⟨e4, 0, none⟩), .pointer (some ⟨e5, 0, none⟩), .pointer (some ⟨e6, 0, none⟩)]].toArray 95 (0, 0)) :: .blk e4 (.cells (mV z m).toArray 75 (0, 0)) :: .blk e5 (.cells (mV z m).toArray 24 (0, 0)) :: .blk e6 (.cells [Value.int .i64 (long : Int)].toArray 3 (0, 0)) ::  []) ++ .reg 0 w0 :: (F ++ F2))) w' := hw'.sel SR
          have hback := hsel.sel (Sel.cons .here (Sel.cons .here (selBack _ F F2 (.reg 0 w0))))
          exact hback
    ·
      rintro D_ ⟨q, h2⟩ ⟨hh, hqo⟩
      dsimp only at hh hqo ⊢
      refine sx_blk ?_
      refine sx_scope ?_
      refine sx_retM (.inr rfl) rfl RM _ (res_u Tryd.results60) ?_
      intro w' hw'
      rw [hon, ← hh]
      exact ⟨q, hqo, rfl, hw'.sel SR⟩
end Go.Proofs.YtpijahglojichaaDoor
