/- The walk of Short. -/
import Derived.Test.YtpijahglojichaaDoorWalk13
namespace Go.Proofs.YtpijahglojichaaDoor
open Go Go.Eng Go.RowKit Go.Proofs
set_option maxRecDepth 100000
def idG (n i : Nat) : List Int := (List.range n).map fun k => if k < i then (k : Int) else 0
theorem idG_zero (n : Nat) : List.replicate n (0 : Int) = idG n 0 := by
  unfold idG
  apply List.ext_getElem?
  intro i
  rw [List.getElem?_replicate, List.getElem?_map]
  by_cases h : i < n
  · rw [if_pos h, List.getElem?_range h]; rfl
  · rw [if_neg h, List.getElem?_eq_none (by simp; omega)]; rfl
theorem idG_len (n i : Nat) : (idG n i).length = n := by simp [idG]
theorem idG_set {n i : Nat} (_ : i < n) : (idG n i).set i (i : Int) = idG n (i + 1) := by
  unfold idG
  apply List.ext_getElem?
  intro k
  rw [List.getElem?_set, List.getElem?_map, List.getElem?_map, List.length_map, List.length_range]
  by_cases hk : k < n
  · rw [List.getElem?_range hk]
    by_cases e : i = k
    · subst e; rw [if_pos rfl, if_pos hk]; simp
    · rw [if_neg e]
      simp only [Option.map_some]
      by_cases h1 : k < i
      · rw [if_pos h1, if_pos (by omega)]
      · rw [if_neg h1, if_neg (by omega)]
  · rw [List.getElem?_eq_none (show (List.range n).length ≤ k by simp; omega)]
    by_cases e : i = k
    · rw [if_pos e, if_neg (show ¬ i < n by omega)]; rfl
    · rw [if_neg e]; rfl
theorem idG_full (n : Nat) : idG n n = rngI n := by
  unfold idG rngI
  apply List.map_congr_left
  intro k hk
  rw [if_pos (List.mem_range.1 hk)]
theorem head_tz : ∀ x, x < 128 → x ≠ 0 → tzV x = headN x := by decide +kernel
theorem blk_rowsS1 {w : World} {b : Nat} {k : Int} {e : TypeId} {fz : Nat × Nat} (D : Nat → Prop) (h : (Res.blk b (.cells [Value.int .i64 k].toArray e fz)).ok w) : RowsS iRow 1 (fun q => D q ∨ (Res.blk b (.cells [Value.int .i64 k].toArray e fz)).dom q) w (some ⟨b, 0, none⟩) [k] := by
  refine ⟨fun i x hi => ⟨rfl, ?_⟩, by simp⟩
  cases i with
  | zero =>
    simp at hi; subst hi
    have e1 : elt (some ⟨b, 0, none⟩) 0 1 = (⟨b, 0, none⟩ : Addr) := by simp [elt, Addr.add_lit]
    rw [e1]
    exact blk_CS D h
  | succ i => simp at hi

theorem offer_rows {D : Nat → Prop} {w : World} {h : Option Td} {t : Td} {y y' : Option Addr × Nat} (h1 : RowsS iRow 1 D w y.1 (tdOf h).gets) (h2 : RowsS iRow 1 D w y'.1 t.gets) : RowsS iRow 1 D w (if takesB h t = true then y' else y).1 (tdOf (offer h t)).gets := by
  by_cases ht : takesB h t = true
  · rw [if_pos ht, show offer h t = some t from if_pos ht]; exact h2
  · rw [if_neg ht, show offer h t = h from if_neg ht]; exact h1
theorem sh56 (w0 : World) (z : MA) (m : Mt) (hm : MkF m) (hT : TabAt w0) (long bm e1 e2 e3 e4 e5 e6 left : Nat) (hl128 : left < 128) (hlm : ∀ i, i ∈ memL left → i < m.length) (ihS : left ≠ 0 → ShAt w0 z m long bm e1 e2 e3 e4 e5 e6 (dropN left (headN left))) (ihO : left ≠ 0 → ∀ bf bh bo, OnAt w0 z m long bm e1 e2 e3 e4 e5 e6 bf bh bo (headN left) (dropN left (headN left))) : ShAt w0 z m long bm e1 e2 e3 e4 e5 e6 left := by
  intro l D wM F w hmemo hw
  have hn7 := hm.n7
  have hml := memoS_len hmemo (left : Int)
  have htn : (left : Int).toNat = left := Int.toNat_natCast _
  refine calls_of_SCr (args := [.int .i64 (left : Int), .pointer (some ⟨e1, 0, none⟩), .pointer (some ⟨e2, 0, none⟩), .pointer (some ⟨e3, 0, none⟩), .pointer (some ⟨e4, 0, none⟩), .pointer (some ⟨e5, 0, none⟩), .pointer (some ⟨e6, 0, none⟩)]) Tryd.func56 rfl Tryd.ntmps56 rfl hw ?_
  simp only [argL, Nat.reduceAdd, Nat.zero_add]
  refine sc_seq ?_
  refine sc_region ?_
  refine sq_alloc Tryd.zeroValue85 rfl (fun b8 => ?_)
  refine sq_nil ?_
  refine sx_then ?_
  refine sc_seq ?_
  refine sc_seq ?_
  refine sc_region ?_
  refine qs LD94 ?_
  refine qs (y_move RF) ?_
  refine qs (y_lookupOkK (kf := ki) (x0 := (left : Int)) (z0 := z85) kfI (fun _ _ => trivial) trivial hmemo.nd Tryd.underlying94 zv85 RF (fun w1 hw1 => hw1.ok _ (MM : Res.blk bm (kvM ki l) ∈ _)) RF) ?_
  refine qs (y_move RF) ?_
  refine qs (y_extract RF RF) ?_
  refine qs (y_extract RF RF) ?_
  refine sq_alloc Tryd.zeroValue85 rfl (fun b9 => ?_)
  refine sq_store_all Tryd.sizeOf85 RF RF hml.2 RM hml.1 rfl ?_
  refine qs (y_assign RF) ?_
  refine sq_nil ?_
  refine sx_then ?_
  refine sc_seq ?_
  refine sc_region ?_
  refine qs (y_move RF) ?_
  refine sq_nil ?_
  refine sx_then ?_
  refine scp (fun hc0 => ?_) (fun hc0 => ?_)
  ·
    obtain ⟨vg, hvg⟩ := Option.isSome_iff_exists.1 hc0
    obtain ⟨yg, hyg, hrg⟩ := hmemo.ok _ _ (kvGet_some hvg)
    rw [htn] at hyg hrg
    rw [hvg, Option.getD_some]
    subst hyg
    refine sc_seq ?_
    refine sc_region ?_
    refine qs LD85 ?_
    refine sq_store_all Tryd.sizeOf85 RF RF rfl RM rfl rfl ?_
    refine sq_nil ?_
    refine sx_then ?_
    refine sc_ret ?_
    refine sx_then_ret ?_
    refine sx_retc (.inl rfl) rfl Tryd.results56 Tryd.underlying85 rfl Tryd.sizeOf85 RF MM rfl ?_
    intro w' hw'
    exact ⟨⟨l, D, wM, yg⟩, ⟨hmemo, Grow.refl _ _, hrg, fun x hx => .inl hx⟩, rfl, hw'.sel SR⟩
  ·
    have hgn : kvGet l (left : Int) = none := by
      cases hg : kvGet l (left : Int) with
      | none => rfl
      | some v => rw [hg] at hc0; cases hc0
    refine sc_skip ?_
    refine sx_then ?_
    refine sc_seq ?_
    refine sc_region ?_
    refine qs LD3 ?_
    refine sq_make Tryd.underlying25 ei3 RF RF (by omega) (by omega) (by omega) rfl (fun b25 => ?_)
    rw [irep]
    refine sq_blk_own (n := m.length) (sz := 1) (xs := (List.replicate m.length (0 : Int)).flatMap iRow) RM (by rw [iflat_len]; simp) (by unfold maxLen; omega) ?_
    rw [idG_zero]
    refine qs (y_build (cells := #[(.slice (some ⟨b25, 0, none⟩) m.length m.length), .int .i64 0]) bt85 (EvP.cons RF EvP.nil) (by kernel_rfl)) ?_
    refine sq_alloc Tryd.zeroValue85 rfl (fun b11 => ?_)
    refine sq_store_all Tryd.sizeOf85 RF RF rfl RM rfl rfl ?_
    refine sq_nil ?_
    refine sx_then ?_
    refine sc_seq ?_
    refine sc_seq ?_
    refine sc_region ?_
    refine qs LD3 ?_
    refine qs (y_move RF) ?_
    refine sq_nil ?_
    refine sx_then ?_
    refine sc_block ?_
    refine sc_loop (σ := Nat)
      (fun s => [(0, .int .i64 (left : Int)), (8, .pointer (some ⟨b8, 0, none⟩)), (1, .pointer (some ⟨e1, 0, none⟩)), (2, .pointer (some ⟨e2, 0, none⟩)), (3, .pointer (some ⟨e3, 0, none⟩)), (4, .pointer (some ⟨e4, 0, none⟩)), (5, .pointer (some ⟨e5, 0, none⟩)), (6, .pointer (some ⟨e6, 0, none⟩)), (11, .pointer (some ⟨b11, 0, none⟩)), (27, .int .i64 m.length), (28, .int .i64 s)])
      (fun s => .own (.slice (some ⟨b25, 0, none⟩) m.length m.length) 3 1 m.length ((idG m.length s).flatMap iRow) :: .blk b11 (.cells [(.slice (some ⟨b25, 0, none⟩) m.length m.length), Value.int .i64 0].toArray 85 (0, 0)) ::  .blk b8 (.cells z85.toArray 85 (0, 0)) ::  .blk bm (kvM ki l) :: .set D wM :: .blk e1 (.cells [Value.map (some bm)].toArray 94 (0, 0)) :: .blk e2 (.cells [Value.int .i64 (m.length : Int)].toArray 3 (0, 0)) :: .blk e3 (.cells [.func (.func 56) #[] #[.pointer (some ⟨e1, 0, none⟩), .pointer (some ⟨e2, 0, none⟩), .pointer (some ⟨e3, 0, none⟩), .pointer (some ⟨e4, 0, none⟩), .pointer (some ⟨e5, 0, none⟩), .pointer (some ⟨e6, 0, none⟩)]].toArray 95 (0, 0)) :: .blk e4 (.cells (mV z m).toArray 75 (0, 0)) :: .blk e5 (.cells (mV z m).toArray 24 (0, 0)) :: .blk e6 (.cells [Value.int .i64 (long : Int)].toArray 3 (0, 0)) ::  .reg 0 w0 :: F)
      (fun s => s ≤ m.length)
      (fun s => m.length - s)
      (0) ?_ SU SR ?_
    · exact Nat.zero_le _
    rintro k hk
    refine sc_seq ?_
    refine sc_region ?_
    refine qs (y_lss RF RF) ?_
    refine sq_nil ?_
    refine sx_then ?_
    refine sc_seq ?_
    refine scp (fun hc1 => ?_) (fun hc1 => ?_)
    ·
      have hk' : k < m.length := by omega
      refine sc_skip ?_
      refine sx_then ?_
      refine sc_seq ?_
      refine sc_block ?_
      refine sc_seq ?_
      refine sc_region ?_
      refine qs (y_move RF) ?_
      refine qs (y_assign RF) ?_
      refine sq_nil ?_
      refine sx_then ?_
      refine sc_region ?_
      refine qs FA85_25 ?_
      refine qs LD25 ?_
      refine qs (y_move RF) ?_
      refine qs (y_move RF) ?_
      refine qs (y_ia_own (v := (.slice (some ⟨b25, 0, none⟩) m.length m.length)) (i := k) Tryd.underlying25 Tryd.sizeOf3 RF MM RF hk') ?_
      refine sq_store_own (v := (.slice (some ⟨b25, 0, none⟩) m.length m.length)) (i := k) (j := 0) (sz := 1) Tryd.sizeOf3 RF RF rfl RM hk' (by decide) ?_
      rw [iset, idG_set hk']
      refine sq_nil ?_
      refine sx_blk ?_
      refine sx_then ?_
      refine sc_region ?_
      refine qs (y_add RF RF (by omega)) ?_
      refine qs (y_move RF) ?_
      refine sq_nil ?_
      refine sx_round (k + 1) ?_ ?_ SU SR
      · omega
      · omega
    ·
      have hkn : k = m.length := by omega
      subst hkn
      rw [idG_full]
      refine sc_exit ?_
      refine sx_then_exit ?_
      refine sx_round_exit ?_
      refine sx_blk_hit ?_
      refine sx_then ?_
      refine sc_seq ?_
      refine sc_region ?_
      refine qs (y_build (cells := (hdV (none, 0) none).toArray) bt100 (EvP.cons RF EvP.nil) (by kernel_rfl)) ?_
      refine sq_alloc Tryd.zeroValue100 rfl (fun b13 => ?_)
      refine sq_store_all Tryd.sizeOf100 RF RF rfl RM rfl rfl ?_
      refine sq_nil ?_
      refine sx_then ?_
      refine sc_seq ?_
      refine sc_region ?_
      refine qs LD85 ?_
      refine sq_call_fr (first := []) (caps := []) (vs := [.pointer (some ⟨b13, 0, none⟩), .agg (tdV ((some ⟨b25, 0, none⟩, m.length) : Option Addr × Nat) (keepT m.length)).toArray]) (rs1 := [.blk b13 (.cells (hdV (none, 0) none).toArray 100 (0, 0))]) (Z := Unit) (fun _ => .tuple #[]) (fun _ => [.blk b13 (.cells (hdV ((some ⟨b25, 0, none⟩, m.length) : Option Addr × Nat) (some (keepT m.length))).toArray 100 (0, 0))]) (fun _ => True) RF Tryd.call58 (EvL.cons RF (EvL.cons (lk_eq rfl (by unfold tdV keepT; rw [rngI_len])) EvL.nil)) (by repeat (first | exact Rems.nil | apply Rems.cons (by repeat (first | exact Rem.here | apply Rem.there)))) (fun w1 hw1 => (offer58 (none, 0) ((some ⟨b25, 0, none⟩, m.length) : Option Addr × Nat) none (keepT m.length) (fun w2 hw2 => ⟨RowsA.nil _ _, own_at (l := rngI m.length) hw2 (rngI_len _) MM (by omega)⟩) hw1).mono (fun e w' h => ⟨(), trivial, h.1, h.2⟩)) rfl (fun _ _ => ?_)
      refine sq_join (r := .own (.slice (some ⟨b25, 0, none⟩) m.length m.length) 3 1 m.length ((rngI m.length).flatMap iRow)) RMS1 (fun wk hgk hok => ?_)
      have hrk := own_atS (D := D) hok (rngI_len _) (by omega)
      refine sq_nil ?_
      refine sx_then ?_
      refine sc_seq ?_
      refine sc_seq ?_
      refine sc_region ?_
      refine qs (y_move RF) ?_
      refine qs (y_neq RF RF) ?_
      refine sq_nil ?_
      refine sx_then ?_
      refine sc_midE (Z := {q : (LftS × Td) × List Value // (MemoS m long q.1.1.D q.1.1.w q.1.1.l ∧ Grow D wM q.1.1.D q.1.1.w ∧ RowsS iRow 1 q.1.1.D q.1.1.w q.1.1.y.1 (shT m long left).gets ∧ ∀ x, x ∈ q.1.1.l → x ∈ l ∨ x.1 < (left : Int)) ∧ q.2.length = 2 ∧ q.1.2 = (shT m long left)}) (fun q => [(0, .int .i64 (left : Int)), (8, .pointer (some ⟨b8, 0, none⟩)), (1, .pointer (some ⟨e1, 0, none⟩)), (2, .pointer (some ⟨e2, 0, none⟩)), (3, .pointer (some ⟨e3, 0, none⟩)), (4, .pointer (some ⟨e4, 0, none⟩)), (5, .pointer (some ⟨e5, 0, none⟩)), (6, .pointer (some ⟨e6, 0, none⟩)), (13, .pointer (some ⟨b13, 0, none⟩))]) (fun q => .blk b13 (.cells (tdV q.1.1.1.y q.1.1.2 ++ q.1.2).toArray 100 (0, 0)) :: .blk b8 (.cells z85.toArray 85 (0, 0)) ::  .blk bm (kvM ki q.1.1.1.l) :: .set q.1.1.1.D q.1.1.1.w :: .blk e1 (.cells [Value.map (some bm)].toArray 94 (0, 0)) :: .blk e2 (.cells [Value.int .i64 (m.length : Int)].toArray 3 (0, 0)) :: .blk e3 (.cells [.func (.func 56) #[] #[.pointer (some ⟨e1, 0, none⟩), .pointer (some ⟨e2, 0, none⟩), .pointer (some ⟨e3, 0, none⟩), .pointer (some ⟨e4, 0, none⟩), .pointer (some ⟨e5, 0, none⟩), .pointer (some ⟨e6, 0, none⟩)]].toArray 95 (0, 0)) :: .blk e4 (.cells (mV z m).toArray 75 (0, 0)) :: .blk e5 (.cells (mV z m).toArray 24 (0, 0)) :: .blk e6 (.cells [Value.int .i64 (long : Int)].toArray 3 (0, 0)) ::  .reg 0 w0 :: F) ?_ ?_
      ·
        refine scp (fun hc2 => ?_) (fun hc2 => ?_)
        ·
          have hne : left ≠ 0 := by omega
          have hhd := (card_le left hl128).2 hne
          have hh7 := memL_seven left hl128 _ hhd
          have hcd := card_drop left hl128 _ hh7.1 hh7.2
          have hcl := (card_le left hl128).1
          have hhm := hlm _ hhd
          have hpw := pw2_le (show (headN left) ≤ 20 by omega)
          have hTs : (shT m long left) = (onT m long [(headN left)] (dropN left (headN left)) (offer (some (keepT m.length)) (shT m long (dropN left (headN left))))).getD td0 := by rw [shT_step m long hl128]; unfold shStep; rw [if_neg hne]
          refine sc_seq ?_
          refine sc_region ?_
          refine qs (y_move RF) ?_
          refine qs (y_conv Tryd.underlying3 Tryd.underlying103 RF (wrap_u64n left (by omega))) ?_
          refine qy (yc Tryd.call59 E1 (fun w1 hw1 => tz59 w1 (CA.at hT hw1 MM) left (by omega) (by omega))) ?_
          rw [head_tz left hl128 hne]
          refine sq_alloc Tryd.zeroValue3 rfl (fun b14 => ?_)
          refine sq_store_eq (cs' := [Value.int .i64 (((headN left) : Nat) : Int)].toArray) Tryd.sizeOf3 RF RF rfl RM (Nat.le_of_ble_eq_true rfl) rfl ?_
          refine sq_nil ?_
          refine sx_then ?_
          refine sc_seq ?_
          refine sc_drawX ([.blk b14 (.cells [Value.int .i64 (((headN left) : Nat) : Int)].toArray 3 (0, 0)), .blk e3 (.cells [.func (.func 56) #[] #[.pointer (some ⟨e1, 0, none⟩), .pointer (some ⟨e2, 0, none⟩), .pointer (some ⟨e3, 0, none⟩), .pointer (some ⟨e4, 0, none⟩), .pointer (some ⟨e5, 0, none⟩), .pointer (some ⟨e6, 0, none⟩)]].toArray 95 (0, 0))]) (by kernel_rfl) ?_
          refine xj_s 0 RF (by kernel_rfl) SR LD95 rfl ?_
          refine xj_s 1 RF (by kernel_rfl) SR (y_move RF) rfl ?_
          refine xj_s 2 RF (by kernel_rfl) SR LD3 rfl ?_
          refine xj_s 3 RF (by kernel_rfl) SR (y_shl RF RF (by omega) (by rw [pw2_shl]; omega)) rfl ?_
          rw [pw2_shl]
          refine xj_s 4 RF (by kernel_rfl) SR (y_andNot RF RF (by omega) (by omega)) rfl ?_
          rw [Int.toNat_natCast, Int.toNat_natCast, show andNotN left (pw2 (headN left)) = (dropN left (headN left)) from rfl]
          refine xj_one 5 RF (by kernel_rfl) ?_
          refine sq_call_fr (first := []) (caps := [.pointer (some ⟨e1, 0, none⟩), .pointer (some ⟨e2, 0, none⟩), .pointer (some ⟨e3, 0, none⟩), .pointer (some ⟨e4, 0, none⟩), .pointer (some ⟨e5, 0, none⟩), .pointer (some ⟨e6, 0, none⟩)]) (vs := [.int .i64 (((dropN left (headN left)) : Nat) : Int)]) (rs1 := .blk bm (kvM ki l) :: .set (fun k => D k ∨ (Res.own (.slice (some ⟨b25, 0, none⟩) m.length m.length) 3 1 m.length ((rngI m.length).flatMap iRow)).dom k) wk :: .blk e1 (.cells [Value.map (some bm)].toArray 94 (0, 0)) :: .blk e2 (.cells [Value.int .i64 (m.length : Int)].toArray 3 (0, 0)) :: .blk e3 (.cells [.func (.func 56) #[] #[.pointer (some ⟨e1, 0, none⟩), .pointer (some ⟨e2, 0, none⟩), .pointer (some ⟨e3, 0, none⟩), .pointer (some ⟨e4, 0, none⟩), .pointer (some ⟨e5, 0, none⟩), .pointer (some ⟨e6, 0, none⟩)]].toArray 95 (0, 0)) :: .blk e4 (.cells (mV z m).toArray 75 (0, 0)) :: .blk e5 (.cells (mV z m).toArray 24 (0, 0)) :: .blk e6 (.cells [Value.int .i64 (long : Int)].toArray 3 (0, 0)) ::  .reg 0 w0 :: []) (Z := LftS) (fun q2 => .agg (tdV q2.y (shT m long (dropN left (headN left)))).toArray) (fun q2 => .blk bm (kvM ki q2.l) :: .set q2.D q2.w :: .blk e1 (.cells [Value.map (some bm)].toArray 94 (0, 0)) :: .blk e2 (.cells [Value.int .i64 (m.length : Int)].toArray 3 (0, 0)) :: .blk e3 (.cells [.func (.func 56) #[] #[.pointer (some ⟨e1, 0, none⟩), .pointer (some ⟨e2, 0, none⟩), .pointer (some ⟨e3, 0, none⟩), .pointer (some ⟨e4, 0, none⟩), .pointer (some ⟨e5, 0, none⟩), .pointer (some ⟨e6, 0, none⟩)]].toArray 95 (0, 0)) :: .blk e4 (.cells (mV z m).toArray 75 (0, 0)) :: .blk e5 (.cells (mV z m).toArray 24 (0, 0)) :: .blk e6 (.cells [Value.int .i64 (long : Int)].toArray 3 (0, 0)) ::  .reg 0 w0 :: []) (fun q2 => LftSOk m long (dropN left (headN left)) l (fun k => D k ∨ (Res.own (.slice (some ⟨b25, 0, none⟩) m.length m.length) 3 1 m.length ((rngI m.length).flatMap iRow)).dom k) wk q2) RF Tryd.call56 E1 (by repeat (first | exact Rems.nil | apply Rems.cons (by repeat (first | exact Rem.here | apply Rem.there)))) (fun w1 hw1 => (ihS hne l (fun k => D k ∨ (Res.own (.slice (some ⟨b25, 0, none⟩) m.length m.length) 3 1 m.length ((rngI m.length).flatMap iRow)).dom k) wk _ w1 (hmemo.grow hgk) hw1).mono (fun e w' h => h)) rfl (fun q2 hq2 => ?_)
          refine sq_nil ?_
          refine sx_xp SR ?_
          refine xj_one 6 RF (by kernel_rfl) ?_
          refine sq_call_fr (first := []) (caps := []) (vs := [.pointer (some ⟨b13, 0, none⟩), .agg (tdV q2.y (shT m long (dropN left (headN left)))).toArray]) (rs1 := [.blk b13 (.cells (hdV ((some ⟨b25, 0, none⟩, m.length) : Option Addr × Nat) (some (keepT m.length))).toArray 100 (0, 0))]) (Z := Unit) (fun _ => .tuple #[]) (fun _ => [.blk b13 (.cells (hdV (if takesB (some (keepT m.length)) (shT m long (dropN left (headN left))) = true then q2.y else ((some ⟨b25, 0, none⟩, m.length) : Option Addr × Nat)) (offer (some (keepT m.length)) (shT m long (dropN left (headN left))))).toArray 100 (0, 0))]) (fun _ => True) RF Tryd.call58 E2 (by repeat (first | exact Rems.nil | apply Rems.cons (by repeat (first | exact Rem.here | apply Rem.there)))) (fun w1 hw1 => (offer58 ((some ⟨b25, 0, none⟩, m.length) : Option Addr × Nat) q2.y (some (keepT m.length)) (shT m long (dropN left (headN left))) (fun w2 hw2 => ⟨(hrk.grow hq2.grow).at hw2 MM, hq2.rows.at hw2 MM⟩) hw1).mono (fun e w' h => ⟨(), trivial, h.1, h.2⟩)) rfl (fun _ _ => ?_)
          refine sq_nil ?_
          refine sx_xp SR ?_
          refine xj_done (by kernel_rfl) ?_
          refine sx_then ?_
          refine sc_seq ?_
          refine sc_region ?_
          refine sq_alloc Tryd.zeroValue104 rfl (fun b15 => ?_)
          refine sq_nil ?_
          refine sx_then ?_
          refine sc_seq ?_
          refine sc_region ?_
          refine qs (y_makeFunc EvL.nil (EvL.cons RF (EvL.cons RF (EvL.cons RF (EvL.cons RF (EvL.cons RF (EvL.cons RF (EvL.cons RF EvL.nil)))))))) ?_
          refine sq_store Tryd.sizeOf104 RF RF (by first | rfl | assumption) RM (by first | exact Nat.le_of_ble_eq_true rfl | simp | omega) ?_
          refine sq_nil ?_
          refine sx_then ?_
          refine sc_drawX ([.blk b14 (.cells [Value.int .i64 (((headN left) : Nat) : Int)].toArray 3 (0, 0)), .blk b15 (.cells [.func (.func 60) #[] #[.pointer (some ⟨e4, 0, none⟩), .pointer (some ⟨b14, 0, none⟩), .pointer (some ⟨e3, 0, none⟩), .pointer (some ⟨e5, 0, none⟩), .pointer (some ⟨b13, 0, none⟩), .pointer (some ⟨e6, 0, none⟩), .pointer (some ⟨b15, 0, none⟩)]].toArray 104 (0, 0))]) (by kernel_rfl) ?_
          refine xj_s 0 RF (by kernel_rfl) SR LD104 rfl ?_
          refine xj_s 1 RF (by kernel_rfl) SR LD3 rfl ?_
          refine xj_s 3 RF (by kernel_rfl) SR (y_move RF) rfl ?_
          refine xj_s 4 RF (by kernel_rfl) SR LD3 rfl ?_
          refine xj_s 5 RF (by kernel_rfl) SR (y_shl RF RF (by omega) (by rw [pw2_shl]; omega)) rfl ?_
          rw [pw2_shl]
          refine xj_s 6 RF (by kernel_rfl) SR (y_andNot RF RF (by omega) (by omega)) rfl ?_
          rw [Int.toNat_natCast, Int.toNat_natCast, show andNotN left (pw2 (headN left)) = (dropN left (headN left)) from rfl]
          refine xj_one 2 RF (by kernel_rfl) ?_
          refine sq_bs Tryd.underlying25 ei3 (EvI.cons RF EvI.nil) (by first | (simp [Value.cells]; done) | (simp [Value.cells]; rfl) | (simp [Value.cells]; and_intros <;> rfl)) rfl rfl rfl (fun b55 => ?_)
          refine sq_nil ?_
          refine sx_xp SR ?_
          refine xj_one 7 RF (by kernel_rfl) ?_
          refine sq_join (r := .blk b55 (.cells [Value.int .i64 (((headN left) : Nat) : Int)].toArray 3 (0, 0))) RMS1 (fun wj hgj hoj => ?_)
          have hrj := blk_rowsS1 q2.D hoj
          refine sq_call_fr (first := []) (caps := [.pointer (some ⟨e4, 0, none⟩), .pointer (some ⟨b14, 0, none⟩), .pointer (some ⟨e3, 0, none⟩), .pointer (some ⟨e5, 0, none⟩), .pointer (some ⟨b13, 0, none⟩), .pointer (some ⟨e6, 0, none⟩), .pointer (some ⟨b15, 0, none⟩)]) (vs := [.slice (some ⟨b55, 0, none⟩) 1 1, .int .i64 (((dropN left (headN left)) : Nat) : Int)]) (rs1 := .blk b13 (.cells (hdV (if takesB (some (keepT m.length)) (shT m long (dropN left (headN left))) = true then q2.y else ((some ⟨b25, 0, none⟩, m.length) : Option Addr × Nat)) (offer (some (keepT m.length)) (shT m long (dropN left (headN left))))).toArray 100 (0, 0)) ::  .blk b14 (.cells [Value.int .i64 (((headN left) : Nat) : Int)].toArray 3 (0, 0)) :: .blk b15 (.cells [.func (.func 60) #[] #[.pointer (some ⟨e4, 0, none⟩), .pointer (some ⟨b14, 0, none⟩), .pointer (some ⟨e3, 0, none⟩), .pointer (some ⟨e5, 0, none⟩), .pointer (some ⟨b13, 0, none⟩), .pointer (some ⟨e6, 0, none⟩), .pointer (some ⟨b15, 0, none⟩)]].toArray 104 (0, 0)) ::  .blk bm (kvM ki q2.l) :: .set (fun q => q2.D q ∨ (Res.blk b55 (.cells [Value.int .i64 (((headN left) : Nat) : Int)].toArray 3 (0, 0))).dom q) wj :: .blk e1 (.cells [Value.map (some bm)].toArray 94 (0, 0)) :: .blk e2 (.cells [Value.int .i64 (m.length : Int)].toArray 3 (0, 0)) :: .blk e3 (.cells [.func (.func 56) #[] #[.pointer (some ⟨e1, 0, none⟩), .pointer (some ⟨e2, 0, none⟩), .pointer (some ⟨e3, 0, none⟩), .pointer (some ⟨e4, 0, none⟩), .pointer (some ⟨e5, 0, none⟩), .pointer (some ⟨e6, 0, none⟩)]].toArray 95 (0, 0)) :: .blk e4 (.cells (mV z m).toArray 75 (0, 0)) :: .blk e5 (.cells (mV z m).toArray 24 (0, 0)) :: .blk e6 (.cells [Value.int .i64 (long : Int)].toArray 3 (0, 0)) ::  .reg 0 w0 :: []) (Z := LftS) (fun _ => .tuple #[]) (fun q3 => .blk b13 (.cells (hdV q3.y (onT m long [(headN left)] (dropN left (headN left)) (offer (some (keepT m.length)) (shT m long (dropN left (headN left)))))).toArray 100 (0, 0)) ::  .blk b14 (.cells [Value.int .i64 (((headN left) : Nat) : Int)].toArray 3 (0, 0)) :: .blk b15 (.cells [.func (.func 60) #[] #[.pointer (some ⟨e4, 0, none⟩), .pointer (some ⟨b14, 0, none⟩), .pointer (some ⟨e3, 0, none⟩), .pointer (some ⟨e5, 0, none⟩), .pointer (some ⟨b13, 0, none⟩), .pointer (some ⟨e6, 0, none⟩), .pointer (some ⟨b15, 0, none⟩)]].toArray 104 (0, 0)) ::  .blk bm (kvM ki q3.l) :: .set q3.D q3.w :: .blk e1 (.cells [Value.map (some bm)].toArray 94 (0, 0)) :: .blk e2 (.cells [Value.int .i64 (m.length : Int)].toArray 3 (0, 0)) :: .blk e3 (.cells [.func (.func 56) #[] #[.pointer (some ⟨e1, 0, none⟩), .pointer (some ⟨e2, 0, none⟩), .pointer (some ⟨e3, 0, none⟩), .pointer (some ⟨e4, 0, none⟩), .pointer (some ⟨e5, 0, none⟩), .pointer (some ⟨e6, 0, none⟩)]].toArray 95 (0, 0)) :: .blk e4 (.cells (mV z m).toArray 75 (0, 0)) :: .blk e5 (.cells (mV z m).toArray 24 (0, 0)) :: .blk e6 (.cells [Value.int .i64 (long : Int)].toArray 3 (0, 0)) ::  .reg 0 w0 :: []) (fun q3 => OnOk m long (dropN left (headN left)) (onT m long [(headN left)] (dropN left (headN left)) (offer (some (keepT m.length)) (shT m long (dropN left (headN left))))) q2.l (fun q => q2.D q ∨ (Res.blk b55 (.cells [Value.int .i64 (((headN left) : Nat) : Int)].toArray 3 (0, 0))).dom q) wj q3) RF Tryd.call60 E2 (by repeat (first | exact Rems.nil | apply Rems.cons (by repeat (first | exact Rem.here | apply Rem.there)))) (fun w1 hw1 => (ihO hne b14 b13 b15 [(headN left)] (some ⟨b55, 0, none⟩) 1 q2.l (fun q => q2.D q ∨ (Res.blk b55 (.cells [Value.int .i64 (((headN left) : Nat) : Int)].toArray 3 (0, 0))).dom q) wj (if takesB (some (keepT m.length)) (shT m long (dropN left (headN left))) = true then q2.y else ((some ⟨b25, 0, none⟩, m.length) : Option Addr × Nat)) (offer (some (keepT m.length)) (shT m long (dropN left (headN left)))) _ w1 (by simp) rfl (by simp; omega) (fun x hx => by simp at hx; subst hx; exact hhm) (hq2.memo.grow hgj) hrj ((offer_rows (hrk.grow hq2.grow) hq2.rows).grow hgj) hw1).mono (fun e w' h => h)) rfl (fun q3 hq3 => ?_)
          refine sq_nil ?_
          refine sx_xp SR ?_
          refine xj_done (by kernel_rfl) ?_
          exact sx_midE (⟨((q3, tdOf (onT m long [(headN left)] (dropN left (headN left)) (offer (some (keepT m.length)) (shT m long (dropN left (headN left)))))), [.bool (onT m long [(headN left)] (dropN left (headN left)) (offer (some (keepT m.length)) (shT m long (dropN left (headN left))))).isSome, .func (.func 57) #[] #[]]), ⟨hq3.memo, ((hgk.trans hq2.grow).trans hgj).trans hq3.grow, (by rw [hTs]; exact hq3.rows), (fun x hx => by rcases hq3.keys x hx with h1 | h1; rcases hq2.keys x h1 with h2 | h2; exact .inl h2; exact .inr (by omega); exact .inr (by omega))⟩, rfl, hTs.symm⟩) SU SR
        ·
          have hz0 : left = 0 := by omega
          have hTz : (shT m long left) = (keepT m.length) := by rw [shT_step m long hl128]; unfold shStep; rw [if_pos hz0]
          refine sc_skip ?_
          exact sx_midE (⟨((⟨l, (fun k => D k ∨ (Res.own (.slice (some ⟨b25, 0, none⟩) m.length m.length) 3 1 m.length ((rngI m.length).flatMap iRow)).dom k), wk, ((some ⟨b25, 0, none⟩, m.length) : Option Addr × Nat)⟩, (keepT m.length)), [.bool true, .func (.func 57) #[] #[]]), ⟨hmemo.grow hgk, hgk, (by rw [hTz]; exact hrk), fun x hx => .inl hx⟩, rfl, hTz.symm⟩) SU SR
      rintro ⟨⟨⟨⟨l3, D3, w3, y3⟩, t3⟩, tl2⟩, ⟨hmemo3, hg3, hr3, hkeys3⟩, htl2, ht3⟩
      try dsimp only
      refine sx_then ?_
      refine sc_seq ?_
      obtain rfl : t3 = (shT m long left) := ht3
      have hnew : ∀ p, p ∈ l3 → p.1 ≠ (left : Int) := fun p hp he => by
        rcases hkeys3 p hp with h1 | h1
        · exact kvGet_none hgn p h1 he
        · omega
      refine sc_region ?_
      refine qs LD94 ?_
      refine qs (y_move RF) ?_
      refine qs FA100_85 ?_
      refine qs LD85 ?_
      refine sq_mapPutK (kf := ki) (x0 := (left : Int)) (vs := tdV y3 (shT m long left)) kfI (fun _ _ => trivial) trivial Tryd.underlying94 RF RM RF RF hnew ?_
      refine sq_nil ?_
      refine sx_then ?_
      refine sc_seq ?_
      refine sc_region ?_
      refine qs FA100_85 ?_
      refine qs LD85 ?_
      refine sq_store_all Tryd.sizeOf85 RF RF rfl RM rfl rfl ?_
      refine sq_nil ?_
      refine sx_then ?_
      refine sc_ret ?_
      refine sx_retc (.inl rfl) rfl Tryd.results56 Tryd.underlying85 rfl Tryd.sizeOf85 RF MM rfl ?_
      intro w' hw'
      exact ⟨⟨l3 ++ [((left : Int), tdV y3 (shT m long left))], D3, w3, y3⟩, ⟨hmemo3.snoc hnew (by rw [htn]) hr3, hg3, hr3, fun x hx => by
        rcases List.mem_append.1 hx with h1 | h1
        · exact (hkeys3 x h1).imp id (fun h => by omega)
        · simp at h1; subst h1; exact .inr (Int.le_refl _)⟩, rfl, hw'.sel SR⟩
end Go.Proofs.YtpijahglojichaaDoor
