/- The walk of what two pieces have in common. -/
import Derived.Test.YtfceajkofpafpaaHW5
namespace Go.Proofs.Ytfceajkofpafpaa
open Go Go.Eng Go.RowKit Go.Proofs
open Go.Proofs.Ytfceajkofpafpaa.Sc (iRow spRow sp0 Sp getD_of get_of_lt any_range_get all_not_any all_getD)
set_option maxRecDepth 100000
/-- does the cell i meet, on the side j, the piece a, and is of b? -/
def e1 (c : Ct) (p : Int × Int) (j : Nat) (a b : Int) : Nat := if atC c (nb p j) = a ∧ atC c p = b ∧ a ≠ b then 1 else 0
def e4 (c : Ct) (p : Int × Int) : Nat → Int → Int → Nat
  | 0, _, _ => 0
  | j + 1, a, b => e4 c p j a b + e1 c p j a b
def eS (c : Ct) (ss : List Nat) (a b : Int) : Nat := (ss.map fun i => e4 c (cellAt c i) 4 a b).sum
/-- how many edges a piece, or the border, has with a piece -/
def edgeN (c : Ct) (a b : Int) : Nat := eS c (List.range c.piece.length) a b
theorem e1_le (c : Ct) (p : Int × Int) (j : Nat) (a b : Int) : e1 c p j a b ≤ 1 := by unfold e1; split <;> omega
theorem e4_le (c : Ct) (p : Int × Int) (a b : Int) : ∀ n, e4 c p n a b ≤ n
  | 0 => Nat.le_refl _
  | n + 1 => by
    have h1 := e4_le c p a b n
    have h2 := e1_le c p n a b
    show e4 c p n a b + e1 c p n a b ≤ _
    omega
theorem eS_snoc (c : Ct) (ss : List Nat) (i : Nat) (a b : Int) : eS c (ss ++ [i]) a b = eS c ss a b + e4 c (cellAt c i) 4 a b := by
  unfold eS; rw [List.map_append, List.sum_append_nat]; simp
theorem eS_le (c : Ct) (a b : Int) : ∀ ss, eS c ss a b ≤ 4 * ss.length
  | [] => Nat.le_refl _
  | i :: ss => by
    have h1 := eS_le c a b ss
    have h2 := e4_le c (cellAt c i) a b 4
    show e4 c (cellAt c i) 4 a b + eS c ss a b ≤ _
    simp only [List.length_cons]; omega
theorem eS_all {c : Ct} {ss : List Nat} (hn : ss.Nodup) (hl : ∀ i, i ∈ ss → i < c.piece.length) (hall : ∀ i, i < c.piece.length → i ∈ ss) (a b : Int) : eS c ss a b = edgeN c a b := by
  have hp : ss.Perm (List.range c.piece.length) := (List.perm_ext_iff_of_nodup hn List.nodup_range).2 fun i => ⟨fun h => List.mem_range.2 (hl i h), fun h => hall i (List.mem_range.1 h)⟩
  exact (hp.map _).sum_nat
/-- a map of numbers by pairs tells f -/
structure Em (f : Int → Int → Nat) (l : List ((Int × Int) × Int)) : Prop where
  nd : (l.map (·.1)).Nodup
  ok : ∀ p, p ∈ l → okC p.1
  get : ∀ a b, (mvGet l (a, b)).getD 0 = (f a b : Nat)
theorem Em.congr {f g : Int → Int → Nat} {l : List ((Int × Int) × Int)} (h : Em f l) (e : ∀ a b, f a b = g a b) : Em g l := ⟨h.nd, h.ok, fun a b => by rw [h.get, e]⟩
theorem Em.nil : Em (fun _ _ => 0) [] := ⟨List.nodup_nil, fun _ h => (by cases h), fun _ _ => rfl⟩
def upd (f : Int → Int → Nat) (a0 b0 : Int) (a b : Int) : Nat := f a b + if a = a0 ∧ b = b0 then 1 else 0
theorem put_ok {f : Int → Int → Nat} {l : List ((Int × Int) × Int)} (h : Em f l) {x : Int × Int} (hk : okC x) (v : Int) : ∀ p, p ∈ mvPut l x v → okC p.1 := fun p hp => by
  rcases (mvPut_keys h.nd _ _).2 p hp with e | e
  · rw [e]; exact hk
  · exact h.ok p e
theorem Em.put {f : Int → Int → Nat} {l : List ((Int × Int) × Int)} (h : Em f l) {a0 b0 : Int} (hk : okC (a0, b0)) : Em (upd f a0 b0) (mvPut l (a0, b0) ((mvGet l (a0, b0)).getD 0 + 1)) where
  nd := (mvPut_keys h.nd _ _).1
  ok := fun p hp => by
    rcases (mvPut_keys h.nd _ _).2 p hp with e | e
    · rw [e]; exact hk
    · exact h.ok p e
  get := fun a b => by
    rw [mvGet_put h.nd]
    unfold upd
    by_cases e : (a, b) = (a0, b0)
    · rw [if_pos e]
      injection e with e1 e2
      rw [if_pos ⟨e1, e2⟩, e1, e2, Option.getD_some, h.get]; omega
    · rw [if_neg e, if_neg (fun h => e (by rw [h.1, h.2])), h.get]; rfl
theorem count57 {w0 w : World} {T : List Res} {bm : Nat} {l : List ((Int × Int) × Int)} {f : Int → Int → Nat} (hl : Em f l) {a0 b0 : Int} (hk : okC (a0, b0)) (hf : f a0 b0 ≤ 100000) (hw : Hp w0 (.blk bm (mvM cK iV l) :: T) w) : Calls Try.prog 57 #[.map (some bm), .agg #[.int .i64 a0, .int .i64 b0]] w fun e w' => ∃ l', Em (upd f a0 b0) l' ∧ e = .returned (.tuple #[]) ∧ Hp w0 (.blk bm (mvM cK iV l') :: T) w' := by
  have hg := hl.get a0 b0
  refine calls_of_SCr (args := [.map (some bm), .agg #[.int .i64 a0, .int .i64 b0]]) Try.func57 rfl Try.ntmps57 rfl hw ?_
  simp only [argL, Nat.zero_add]
  refine sc_seq ?_
  refine sc_region ?_
  refine sq_box RF rfl (fun b3 => ?_)
  refine sq_nil ?_
  refine sx_then ?_
  refine sc_drawX ([.blk b3 (.cells #[.int .i64 a0, .int .i64 b0] 97 (0, 0))]) (by kernel_rfl) ?_
  refine xj_s 0 RF (by kernel_rfl) SR (y_move RF) rfl ?_
  refine xj_s 1 RF (by kernel_rfl) SR LD97 rfl ?_
  refine xj_all (l := [2, 4]) (by kernel_rfl) (by simp) (Each.cons ⟨_, rfl, ?_⟩ (Each.cons ⟨_, rfl, ?_⟩ Each.nil))
  ·
    refine qs (y_lookupV (l := l) (kf := cK) (vf := iV) (x0 := (a0, b0)) (b0 := 0) kv97.toKF hl.ok hl.nd hk Try.underlying94 Try.zeroValue3 RF (fun _ hw => hw.ok (Res.blk bm (mvM cK iV l)) MM) RF) ?_
    refine sq_nil ?_
    refine sx_xp SR ?_
    skip
    refine xj_s 3 RF (by kernel_rfl) SR (y_add RF RF (by omega)) rfl ?_
    refine xj_one 4 RF (by kernel_rfl) ?_
    refine sq_mapEntry (l := l) (kf := cK) (vf := iV) (x0 := (a0, b0)) (b0 := 0) kv97 hl.ok hl.nd hk Try.underlying94 Try.zeroValue3 RF RM RF rfl ?_
    refine sq_nil ?_
    refine sx_xp SR ?_
    refine xj_s 5 RF (by kernel_rfl) SR (y_extract RF RF) rfl ?_
    refine xj_one 6 RF (by kernel_rfl) ?_
    refine sq_entryStore (l := l) (kf := cK) (vf := iV) (x0 := (a0, b0)) (b2 := (mvGet l (a0, b0)).getD 0 + 1) RF RM RF RF ?_
    refine sq_nil ?_
    refine sx_xpl (by kernel_rfl) ?_
    refine xj_done (by kernel_rfl) ?_
    refine sx_ret0 (.inr rfl) rfl Try.results57 ?_
    intro w' hw'
    exact ⟨_, hl.put hk, rfl, hw'.sel SR⟩
  ·
    refine sq_mapEntry (l := l) (kf := cK) (vf := iV) (x0 := (a0, b0)) (b0 := 0) kv97 hl.ok hl.nd hk Try.underlying94 Try.zeroValue3 RF RM RF rfl ?_
    refine sq_nil ?_
    refine sx_xp SR ?_
    refine xj_s 5 RF (by kernel_rfl) SR (y_extract RF RF) rfl ?_
    refine xj_one 2 RF (by kernel_rfl) ?_
    refine qs (y_lookupV (l := mvPut l (a0, b0) ((mvGet l (a0, b0)).getD 0)) (kf := cK) (vf := iV) (x0 := (a0, b0)) (b0 := 0) kv97.toKF (put_ok hl hk _) (mvPut_keys hl.nd _ _).1 hk Try.underlying94 Try.zeroValue3 RF (fun _ hw => hw.ok (Res.blk bm (mvM cK iV (mvPut l (a0, b0) ((mvGet l (a0, b0)).getD 0)))) MM) RF) ?_
    refine sq_nil ?_
    refine sx_xp SR ?_
    rw [show iV ((mvGet (mvPut l (a0, b0) ((mvGet l (a0, b0)).getD 0)) (a0, b0)).getD 0) = iV ((mvGet l (a0, b0)).getD 0) from by rw [mvGet_put hl.nd, if_pos rfl]; rfl]
    refine xj_s 3 RF (by kernel_rfl) SR (y_add RF RF (by omega)) rfl ?_
    refine xj_one 6 RF (by kernel_rfl) ?_
    refine sq_entryStore (l := l) (kf := cK) (vf := iV) (x0 := (a0, b0)) (b2 := (mvGet l (a0, b0)).getD 0 + 1) RF RM RF RF ?_
    refine sq_nil ?_
    refine sx_xpl (by kernel_rfl) ?_
    refine xj_done (by kernel_rfl) ?_
    refine sx_ret0 (.inr rfl) rfl Try.results57 ?_
    intro w' hw'
    exact ⟨_, hl.put hk, rfl, hw'.sel SR⟩
theorem edges23 (w : World) (c : Ct) (h : CtF c) (a : Option Addr) (cp b : Nat) (hb : MpA 0 w b c) : Calls Try.prog 23 #[.agg (picV c a cp b).toArray] w fun e w' => ∃ y : Nat × List ((Int × Int) × Int), e = .returned (.map (some y.1)) ∧ Below w.heap.size w w' ∧ w.heap.size ≤ y.1 ∧ w'.heap[y.1]? = some (mvM cK iV y.2) ∧ Em (edgeN c) y.2 := by
  have hn := h.n0
  have hlen : (cellsL c).length = c.piece.length := cellsN_len c _
  unfold picV
  refine calls_of_SCm (args := [.agg #[.int .i64 c.wide, .int .i64 c.high, .slice a c.piece.length cp, .map (some b)]]) Try.func23 rfl Try.ntmps23 rfl ?_
  simp only [argL]
  refine sc_seq ?_
  refine sc_region ?_
  refine sq_box RF rfl (fun b1 => ?_)
  refine qs (y_assign RF) ?_
  refine sq_nil ?_
  refine sx_then ?_
  refine sc_seq ?_
  refine sc_region ?_
  refine sq_makeMapV cK iV rfl (fun b8 => ?_)
  refine sq_alloc Try.zeroValue94 rfl (fun b3 => ?_)
  refine sq_store Try.sizeOf94 RF RF (by first | rfl | assumption) RM (by first | exact Nat.le_of_ble_eq_true rfl | simp | omega) ?_
  refine sq_nil ?_
  refine sx_then ?_
  refine sc_seq ?_
  refine sc_seq ?_
  refine sc_region ?_
  refine qs FA90_88 ?_
  refine qs LD88 ?_
  refine sq_range (kf := cK) (vf := iV) (l := cellsL c) (b := b) Try.underlying88 RF (fun _ hw => hb.hp MM hw) rfl (fun r => ?_)
  refine sq_nil ?_
  refine sx_then ?_
  refine sc_block ?_
  refine sc_loopD (σ := List Nat × List Nat × List ((Int × Int) × Int)) (fun s => cols s.2.1)
    (fun s => [(1, .pointer (some ⟨b1, 0, none⟩)), (3, .pointer (some ⟨b3, 0, none⟩)), (11, .pointer (some ⟨r, 0, none⟩))])
    (fun s => .blk r (iterObj b (cellsL c).length s.1) :: .blk b8 (mvM cK iV s.2.2) :: .blk b3 (.cells #[.map (some b8)] 94 (0, 0)) :: .blk b1 (.cells #[.int .i64 c.wide, .int .i64 c.high, .slice a c.piece.length cp, .map (some b)] 90 (0, 0)) :: .reg 0 w :: (colR s.2.1))
    (fun s => s.1.Nodup ∧ (∀ i, i ∈ s.1 → i < c.piece.length) ∧ Em (eS c s.1) s.2.2)
    (fun s => c.piece.length - s.1.length)
    (([], [], [])) ?_ rfl SU SR ?_
  · exact ⟨List.nodup_nil, fun _ h => (by cases h), Em.nil⟩
  rintro ⟨ss, bs, l⟩ hm
  dsimp only at hm ⊢
  refine sc_seq ?_
  refine sc_region ?_
  refine sq_next (kf := cK) (vf := iV) (l := cellsL c) (b := b) (ss := ss) RF RM (fun _ hw => hb.hp MM hw) rfl (fun o ho => ?_)
  refine qs (y_nextOk (kf := cK) (vf := iV) (l := cellsL c) (o := o) RF) ?_
  refine sq_nil ?_
  refine sx_then ?_
  refine sc_seq ?_
  refine scp (fun hc0 => ?_) (fun hc0 => ?_)
  ·
    obtain ⟨i, rfl⟩ := Option.isSome_iff_exists.1 hc0
    obtain ⟨hi', hno⟩ := ho
    rw [hlen] at hi'
    dsimp only [Option.toList]
    obtain ⟨p, hpe⟩ : ∃ p, p = cellAt c i := ⟨_, rfl⟩
    have hp : inC c p := by rw [hpe]; exact (idx_cell h hi').1
    have hat : atC c p = c.piece.getD i 0 := by rw [hpe]; exact atC_cell h hi'
    have hbd := inC_bd h hp
    refine sc_skip ?_
    refine sx_then ?_
    refine sc_block ?_
    refine sc_seq ?_
    refine sc_region ?_
    refine qs (y_entry (kf := cK) (vf := iV) (l := cellsL c) (b := b) (i := i) (ss := ss) (x0 := cellAt c i) (b1 := c.piece.getD i 0) RF (fun _ hw => hw.ok (Res.blk r (iterObj b (cellsL c).length (ss ++ [i]))) MM) (fun _ hw => hb.hp MM hw) (cellsN_at c hi')) ?_
    rw [← hpe, ← hat, show cK p = .agg #[.int .i64 p.1, .int .i64 p.2] from rfl, show iV (atC c p) = .int .i64 (atC c p) from rfl]
    refine qs (y_extract RF RF) ?_
    refine qs (y_extract RF RF) ?_
    refine sq_alloc Try.zeroValue137 rfl (fun b4 => ?_)
    refine sq_alloc Try.zeroValue3 rfl (fun b5 => ?_)
    refine sq_store_all Try.sizeOf137 RF RF rfl RM rfl rfl ?_
    refine sq_store Try.sizeOf3 RF RF (by first | rfl | assumption) RM (by first | exact Nat.le_of_ble_eq_true rfl | simp | omega) ?_
    refine sq_nil ?_
    refine sx_then ?_
    refine sc_seq ?_
    refine sc_region ?_
    refine qs LD137 ?_
    refine sq_call_new (first := []) (caps := []) (Z := Addr) (fun q => .func (.func 95) #[] #[.pointer (some q)]) (fun lo w' q => CA lo w' q [.int .i64 p.1, .int .i64 p.2]) RF Try.call56 (EvL.cons RF EvL.nil) (fun w1 _ => around56 w1 p.1 p.2) rfl (fun lo wr pb hpb => ?_)
    refine sq_nil ?_
    refine sx_then ?_
    refine sc_block ?_
    refine sc_rangeFunc (Z := List ((Int × Int) × Int)) (ps := [19]) (lb := [.pointer (some pb)]) (fun l' => .reg lo wr :: .blk b4 (.cells #[.int .i64 p.1, .int .i64 p.2] 137 (0, 0)) :: .blk b5 (.cells #[.int .i64 (atC c p)] 3 (0, 0)) :: .blk r (iterObj b (cellsL c).length (ss ++ [i])) :: .blk b8 (mvM cK iV l') :: .blk b3 (.cells #[.map (some b8)] 94 (0, 0)) :: .blk b1 (.cells #[.int .i64 c.wide, .int .i64 c.high, .slice a c.piece.length cp, .map (some b)] 90 (0, 0)) :: .reg 0 w :: colR bs) (fun l' => Em (fun a b => eS c ss a b + e4 c p 4 a b) l') rfl RF Try.call95 ?_ ?_
    ·
      intro fn tm l0 D hts htL w1 hw1
      refine around95q hw1 (.head _) hbd.1 hbd.2 pb hpb { Z := List ((Int × Int) × Int), UR := fun l' => .blk l0 (.loop (LP fn tm [19] _ _ D)) :: .blk D (.deferred (some [])) :: .blk b4 (.cells #[.int .i64 p.1, .int .i64 p.2] 137 (0, 0)) :: .blk b5 (.cells #[.int .i64 (atC c p)] 3 (0, 0)) :: .blk r (iterObj b (cellsL c).length (ss ++ [i])) :: .blk b8 (mvM cK iV l') :: .blk b3 (.cells #[.map (some b8)] 94 (0, 0)) :: .blk b1 (.cells #[.int .i64 c.wide, .int .i64 c.high, .slice a c.piece.length cp, .map (some b)] 90 (0, 0)) :: .reg 0 w :: colR bs, Inv := fun j l' => Em (fun a b => eS c ss a b + e4 c p j a b) l', loop := fun _ => .head _, one := rfl, round := ?_ } l (hm.2.2.congr fun _ _ => rfl) (hw1.sel SR) ?_
      rotate_left
      · intro e w' hv l' h1 h2
        exact ⟨l', h1, hv, h2.sel SR⟩
      rintro j l' hj hz F2 w2 hw2
      rw [fold1]
      obtain ⟨hs2, hL2⟩ := one_param (p := 19) (u := .agg #[.int .i64 (nb p j).1, .int .i64 (nb p j).2]) hts htL (Nat.le_of_ble_eq_true rfl)
      refine round_of_SC (N := 32) hs2 hL2 hw2 ?_
      dsimp only [List.cons_append]
      refine sc_region ?_
      refine sq_alloc Try.zeroValue137 rfl (fun b6 => ?_)
      refine sq_store_all Try.sizeOf137 RF RF rfl RM rfl rfl ?_
      refine sq_nil ?_
      refine sx_begin rfl RM rfl ?_
      refine sc_block ?_
      refine sc_seq ?_
      refine sc_region ?_
      refine qs LD90 ?_
      refine qs LD137 ?_
      refine qy (yc Try.call53 E2 (fun w1 hw1 => piece53 w1 c h a cp b (hb.at hw1 MM) (nb p j) (okC_nb hbd j))) ?_
      refine qs (y_assign RF) ?_
      refine sq_nil ?_
      refine sx_then ?_
      refine sc_seq ?_
      refine sc_region ?_
      refine qs (y_move RF) ?_
      refine qs LD3 ?_
      refine qs (y_neq RF RF) ?_
      refine sq_nil ?_
      refine sx_then ?_
      refine scp (fun hc1 => ?_) (fun hc1 => ?_)
      ·
        refine sc_region ?_
        refine qs LD94 ?_
        refine qs (y_move RF) ?_
        refine qs LD3 ?_
        refine qs (y_build bt97 (EvP.cons RF (EvP.cons RF EvP.nil)) RF) ?_
        refine sq_call (first := []) (caps := []) (Z := List ((Int × Int) × Int)) (fun _ => .tuple #[]) (fun l2 => .blk b8 (mvM cK iV l2) :: (.blk b6 (.cells #[.int .i64 (nb p j).1, .int .i64 (nb p j).2] 137 (0, 0)) :: .blk l0 (.loop { LP fn tm [19] _ _ D with state := .busy }) :: .blk D (.deferred (some [])) :: .blk b4 (.cells #[.int .i64 p.1, .int .i64 p.2] 137 (0, 0)) :: .blk b5 (.cells #[.int .i64 (atC c p)] 3 (0, 0)) :: .blk r (iterObj b (cellsL c).length (ss ++ [i])) :: .blk b3 (.cells #[.map (some b8)] 94 (0, 0)) :: .blk b1 (.cells #[.int .i64 c.wide, .int .i64 c.high, .slice a c.piece.length cp, .map (some b)] 90 (0, 0)) :: .reg 0 w :: (colR bs ++ F2))) (fun l2 => Em (upd (fun a b => eS c ss a b + e4 c p j a b) (atC c (nb p j)) (atC c p)) l2) RF Try.call57 (EvL.cons RF (EvL.cons RF EvL.nil)) (fun w1 hw1 => count57 (T := (.blk b6 (.cells #[.int .i64 (nb p j).1, .int .i64 (nb p j).2] 137 (0, 0)) :: .blk l0 (.loop { LP fn tm [19] _ _ D with state := .busy }) :: .blk D (.deferred (some [])) :: .blk b4 (.cells #[.int .i64 p.1, .int .i64 p.2] 137 (0, 0)) :: .blk b5 (.cells #[.int .i64 (atC c p)] 3 (0, 0)) :: .blk r (iterObj b (cellsL c).length (ss ++ [i])) :: .blk b3 (.cells #[.map (some b8)] 94 (0, 0)) :: .blk b1 (.cells #[.int .i64 c.wide, .int .i64 c.high, .slice a c.piece.length cp, .map (some b)] 90 (0, 0)) :: .reg 0 w :: (colR bs ++ F2))) hz (by have := atC_bd h (nb p j); have := atC_bd h p; exact ⟨⟨by omega, by omega⟩, ⟨by omega, by omega⟩⟩) (by have h1 := eS_le c (atC c (nb p j)) (atC c p) ss; have h2 := e4_le c p (atC c (nb p j)) (atC c p) j; have := seen_lt hm.1 hm.2.1 hi' hno; show eS c ss (atC c (nb p j)) (atC c p) + e4 c p j (atC c (nb p j)) (atC c p) ≤ 100000; omega) (hw1.sel SR)) rfl (fun l2 hl2 => ?_)
        refine sq_nil ?_
        refine sx_blk ?_
        refine sx_endround RM ?_
        intro w' hw'
        exact ⟨l2, hl2.congr (fun x y => by
          show (eS c ss x y + e4 c p j x y) + _ = eS c ss x y + (e4 c p j x y + e1 c p j x y)
          unfold e1
          by_cases e : x = atC c (nb p j) ∧ y = atC c p
          · rw [if_pos e, if_pos ⟨e.1.symm, e.2.symm, by rw [e.1, e.2]; exact hc1⟩]; omega
          · rw [if_neg e, if_neg (fun h => e ⟨h.1.symm, h.2.1.symm⟩)]; omega), rfl, hw'.sel SR⟩
      ·
        refine sc_skip ?_
        refine sx_blk ?_
        refine sx_endround RM ?_
        intro w' hw'
        exact ⟨l', hz.congr (fun x y => by
          show eS c ss x y + e4 c p j x y = eS c ss x y + (e4 c p j x y + e1 c p j x y)
          unfold e1
          rw [if_neg (fun h => h.2.2 (by rw [← h.1, ← h.2.1]; exact hc1))]; omega), rfl, hw'.sel SR⟩
    ·
      rintro D l2 hz
      refine sx_blk ?_
      refine sx_blk ?_
      refine sx_roundD (ss ++ [i], D :: bs, l2) ?_ ?_ rfl SU (show Sel (.blk r (iterObj b (cellsL c).length (ss ++ [i])) :: .blk b8 (mvM cK iV l2) :: .blk b3 (.cells #[.map (some b8)] 94 (0, 0)) :: .blk b1 (.cells #[.int .i64 c.wide, .int .i64 c.high, .slice a c.piece.length cp, .map (some b)] 90 (0, 0)) :: .reg 0 w :: .blk D (.deferred (some [])) :: colR bs) _ from SR)
      · refine ⟨seen_snoc hm.1 hno, fun k hk => ?_, hz.congr fun x y => ?_⟩
        · rcases List.mem_append.1 hk with hk | hk
          · exact hm.2.1 k hk
          · simp at hk; omega
        · rw [eS_snoc, ← hpe]
      · have := seen_lt hm.1 hm.2.1 hi' hno; simp; omega
  ·
    have hon : o = none := by cases o with
      | none => rfl
      | some i => cases hc0
    subst hon
    have hdone : Em (edgeN c) l := hm.2.2.congr (fun x y => eS_all hm.1 hm.2.1 (fun i hi => ho i (by rw [hlen]; exact hi)) x y)
    refine sc_exit ?_
    refine sx_then_exit ?_
    refine sx_roundD_exit ?_
    refine sx_blk_hit ?_
    refine sx_then ?_
    refine sc_seq ?_
    refine sc_region ?_
    refine qs LD94 ?_
    refine qs (y_assign RF) ?_
    refine sq_nil ?_
    refine sx_then ?_
    refine sc_ret ?_
    refine sx_retMs (.inl rfl) (bs := bs) rfl (show Sel ([.blk b8 (mvM cK iV l), .reg 0 w] ++ colR bs) _ from SR) (.map (some b8)) (fun a1 w1 ha1 hw1 => ?_) ?_
    · have h9 : a1.tmps[2]? = some (.map (some b8)) := ha1.get _ _ rfl
      simp [results, Try.results23, h9]
    intro w' hw'
    exact ⟨(b8, l), rfl, hw'.below MM, blk_new hw' RM MM, hw'.ok (Res.blk b8 (mvM cK iV l)) MM, hdone⟩
end Go.Proofs.Ytfceajkofpafpaa
