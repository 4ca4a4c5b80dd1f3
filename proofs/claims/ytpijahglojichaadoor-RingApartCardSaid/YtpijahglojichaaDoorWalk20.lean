/- The walk of shuffled: an exchange that the bytes drew. -/
import Derived.Test.YtpijahglojichaaDoorWalk16
import Derived.Test.YtpijahglojichaaDoorLawC
namespace Go.Eng
open Go Go.RowKit
section
variable {X : Ctx} {L : List (Nat × Value)} {rs : List Res} {t t' ty : TypeId} {x y : Operand} {m n : Int}
theorem y_quo8 (hx : ev L x = some (.int .u8 m)) (hy : ev L y = some (.int .u8 n)) (hm : 0 ≤ m ∧ m ≤ 255) (hn : 0 < n) : OpS X L rs (.binOp .quo t x y t') ty (.int .u8 (m / n)) := .val fun o h1 _ a w ha _ => by
  have h0 : 0 ≤ m / n := Int.ediv_nonneg hm.1 (by omega)
  have h2 : m / n ≤ m := Int.ediv_le_self n hm.1
  have hn0 : n ≠ 0 := by omega
  have hw : IntKind.u8.wrap (m / n) = m / n := by rw [IntKind.wrap_u8]; exact Int.emod_eq_of_lt h0 (by omega)
  simp [execOp, h1, ha.eval hx, ha.eval hy, binOp, eqGuard, Op.intDiv, hn0, Int.tdiv_eq_ediv_of_nonneg hm.1, hw]
end
end Go.Eng
namespace Go.Proofs.YtpijahglojichaaDoor
open Go Go.Eng Go.RowKit Go.Proofs
set_option maxRecDepth 100000
def uRow (x : Nat) : List Value := [.int .u8 (x : Int)]
theorem wrap8_bd (z : Int) : 0 ≤ IntKind.u8.wrap z ∧ IntKind.u8.wrap z ≤ 255 := by rw [IntKind.wrap_u8]; omega
def swp (l : List Int) (p q : Nat) : List Int := (l.set p (l.getD q 0)).set q (l.getD p 0)
theorem swp_len (l : List Int) (p q : Nat) : (swp l p q).length = l.length := by simp [swp]
theorem set_swap_perm (l : List Int) (p q : Nat) (hp : p < l.length) (hq : q < l.length) : (swp l p q).Perm l := by
  have e1 : l.getD q 0 = l[q] := getD_of (List.getElem?_eq_getElem hq)
  have e2 : l.getD p 0 = l[p] := getD_of (List.getElem?_eq_getElem hp)
  unfold swp
  rw [e1, e2]
  exact List.set_set_perm hp hq
theorem swp_ord {l : List Int} {n p q : Nat} (h : ordB l n = true) (hp : p < n) (hq : q < n) : ordB (swp l p q) n = true := by
  have hl := ord_len h
  exact (ordB_iff _ _).2 ((set_swap_perm l p q (by omega) (by omega)).trans ((ordB_iff _ _).1 h))

theorem fair32n (w : World) (z : MA) (m : Mt) (hz : MtA 0 w z m) (hm : MkF m) (a : Option Addr) (c : Nat) (o : List Int) (ho : RowsA iRow 1 0 w a o) (hv : ordB o m.length = true) : Calls Tryd.prog 32 #[.agg (mV z m).toArray, .slice a m.length c] w fun e w' => e = .returned (.int .i64 (fairI m o)) ∧ Below w.heap.size w w' := by
  have h := fair32 w z m hz hm a c o ho hv
  rw [ord_len hv] at h; exact h
theorem shuffled33 (w : World) (z : MA) (m : Mt) (hz : MtA 0 w z m) (hm : MkF m) (fair : Bool) (ab : Option Addr) (cb : Nat) (by_ : List Nat) (hb : RowsA uRow 1 0 w ab by_) (hby : ∀ x, x ∈ by_ → x ≤ 255) : Calls Tryd.prog 33 #[.agg (mV z m).toArray, .bool fair, .slice ab by_.length cb] w fun e w' => ∃ r : (Option Addr × Nat) × List Int, e = .returned (.slice r.1.1 m.length r.1.2) ∧ Below w.heap.size w w' ∧ RowsA iRow 1 w.heap.size w' r.1.1 r.2 ∧ ordB r.2 m.length = true ∧ (fair = true → fairI m r.2 < 0) := by
  have hn7 := hm.n7
  have hblen := hb.len
  refine calls_of_SC (args := [.agg (mV z m).toArray, .bool fair, .slice ab by_.length cb]) Tryd.func33 rfl Tryd.ntmps33 rfl ?_
  simp only [argL, Nat.reduceAdd, Nat.zero_add]
  refine sc_seq ?_
  refine sc_region ?_
  refine sq_box RF rfl (fun b3 => ?_)
  refine qs (y_assign RF) ?_
  refine sq_nil ?_
  refine sx_then ?_
  refine sc_seq ?_
  refine sc_region ?_
  refine qs (y_assign RF) ?_
  refine sq_nil ?_
  refine sx_then ?_
  refine sc_seq ?_
  refine sc_seq ?_
  refine sc_nil_own 3 1 ?_
  refine sc_region ?_
  refine qs (y_assign RF) ?_
  refine sq_nil ?_
  refine sx_then ?_
  refine sc_block ?_
  refine sc_loop (σ := Nat × Value)
    (fun s_ => [(1, .bool fair), (2, .slice ab by_.length cb), (3, .pointer (some ⟨b3, 0, none⟩)), (7, s_.2), (8, .int .i64 s_.1)])
    (fun s_ => [.own s_.2 3 1 s_.1 ((rngI s_.1).flatMap iRow), .blk b3 (.cells (mV z m).toArray 24 (0, 0)), .reg 0 w])
    (fun s_ => s_.1 ≤ m.length ∧ s_.2.oneCell' = true)
    (fun s_ => m.length - s_.1)
    ((0, .slice none 0 0)) ?_ SU SR ?_
  · exact ⟨Nat.zero_le _, rfl⟩
  rintro ⟨i, v7⟩ ⟨hi, hv1⟩
  dsimp only at hi hv1 ⊢
  refine sc_seq ?_
  refine sc_seq ?_
  refine sc_region ?_
  refine qs (y_move RF) ?_
  refine qs FA24_22 ?_
  refine qs LD22 ?_
  refine qs (y_len Tryd.underlying22 RF) ?_
  refine qs (y_lss RF RF) ?_
  refine sq_nil ?_
  refine sx_then ?_
  refine scp (fun hc0 => ?_) (fun hc0 => ?_)
  ·
    have hi' : i < m.length := by omega
    refine sc_skip ?_
    refine sx_then ?_
    refine sc_seq ?_
    refine sc_block ?_
    refine sc_region ?_
    refine qs (y_move RF) ?_
    refine qs (y_move RF) ?_
    refine sq_bs Tryd.underlying25 ei3 (EvI.cons RF EvI.nil) (by first | (simp [Value.cells]; done) | (simp [Value.cells]; rfl) | (simp [Value.cells]; and_intros <;> rfl)) rfl rfl rfl (fun b24 => ?_)
    refine sq_append (news := [Value.int .i64 (i : Int)]) Tryd.underlying25 ei3 rfl (by decide) RF RM RF rfl (fun _ hw => news_blk hw MM) (by simp [Value.oneCell']) (by omega) rfl (fun v25 ho25 => ?_)
    rw [show (rngI i).flatMap iRow ++ [Value.int .i64 (i : Int)] = (rngI (i + 1)).flatMap iRow from by rw [rngI_succ, List.flatMap_append]; rfl]
    refine qs (y_assign RF) ?_
    refine sq_nil ?_
    refine sx_blk ?_
    refine sx_then ?_
    refine sc_region ?_
    refine qs (y_move RF) ?_
    refine qs (y_add RF RF (by omega)) ?_
    refine qs (y_assign RF) ?_
    refine sq_nil ?_
    refine sx_round ((i + 1, v25)) ?_ ?_ SU SR
    · exact ⟨by dsimp only; omega, ho25⟩
    · dsimp only; omega
  ·
    have hin : i = m.length := by omega
    subst hin
    refine sc_exit ?_
    refine sx_then_exit ?_
    refine sx_round_exit ?_
    refine sx_blk_hit ?_
    refine sx_then ?_
    refine sc_seq ?_
    refine sc_own_dest (v := v7) (e := 3) (sz := 1) (m := m.length) (xs := (rngI m.length).flatMap iRow) MM (fun a7 c7 hv7 hmc7 hn7' => ?_)
    subst hv7
    refine sc_region ?_
    refine qs (y_move RF) ?_
    refine qs (y_len Tryd.underlying25 RF) ?_
    refine qs (y_assign RF) ?_
    refine sq_nil ?_
    refine sx_then ?_
    refine sc_seq ?_
    refine sc_seq ?_
    refine sc_region ?_
    refine qs (y_assign RF) ?_
    refine sq_nil ?_
    refine sx_then ?_
    refine sc_block ?_
    refine sc_loop (σ := Nat × List Int × (Option Addr × Nat))
      (fun s_ => [(1, .bool fair), (2, .slice ab by_.length cb), (3, .pointer (some ⟨b3, 0, none⟩)), (7, .slice s_.2.2.1 m.length s_.2.2.2), (9, .int .i64 m.length), (10, .int .i64 s_.1)])
      (fun s_ => [.own (.slice s_.2.2.1 m.length s_.2.2.2) 3 1 m.length (s_.2.1.flatMap iRow), .blk b3 (.cells (mV z m).toArray 24 (0, 0)), .reg 0 w])
      (fun s_ => s_.1 ≤ by_.length ∧ s_.1 % 2 = 0 ∧ ordB s_.2.1 m.length = true ∧ (fair = true → fairI m s_.2.1 < 0) ∧ (s_.2.2.1 = none → m.length = 0))
      (fun s_ => by_.length - s_.1)
      ((0, rngI m.length, (a7, c7))) ?_ SU SR ?_
    · exact ⟨Nat.zero_le _, rfl, ord_id _, fun _ => fair_id m, hn7'⟩
    rintro ⟨i, l, y⟩ ⟨hi, hev, hl, hfl, hyn0⟩
    dsimp only at hi hev hl hfl hyn0 ⊢
    refine sc_seq ?_
    refine sc_seq ?_
    refine sc_region ?_
    refine qs (y_move RF) ?_
    refine qs (y_add RF RF (by omega)) ?_
    refine qs (y_move RF) ?_
    refine qs (y_len Tryd.underlying43 RF) ?_
    refine qs (y_lss RF RF) ?_
    refine qs (y_move RF) ?_
    refine sp 33 (fun hg8_5 => ?_) (fun hg8_5 => ?_)
    ·
      refine qg (y_move RF) ?_
      refine qg (y_gtr RF RF) ?_
      refine qs (y_pick_t RF RF) ?_
      refine sq_nil ?_
      refine sx_then ?_
      refine scp (fun hc1 => ?_) (fun hc1 => ?_)
      ·
        have hn0 : 0 < m.length := by omega
        have hll := ord_len hl
        have hlt1 : i + 1 < by_.length := by omega
        have hs0 := (hb.get 0 (show i < by_.length by omega)).1
        have hc0' := (hb.get 0 (show i < by_.length by omega)).2
        have hc1' := (hb.get 0 hlt1).2
        have hb0 := hby _ (getD_mem (d := 0) (show i < by_.length by omega))
        have hb1 := hby _ (getD_mem (d := 0) hlt1)
        have hyn : y.1 = none → m.length = 0 := hyn0
        refine sc_skip ?_
        refine sx_then ?_
        refine sc_seq ?_
        refine sc_block ?_
        refine sc_seq ?_
        refine sc_drawX ([.reg 0 w]) (by kernel_rfl) ?_
        refine xj_s 0 RF (by kernel_rfl) SR (y_move RF) rfl ?_
        refine xj_s 1 RF (by kernel_rfl) SR (y_move RF) rfl ?_
        refine xj_s 2 RF (by kernel_rfl) SR IA43 rfl ?_
        refine xj_s 3 RF (by kernel_rfl) SR (by first | exact y_load_ca0 Tryd.underlying5 rfl RF MM hc0' rfl | exact LD5) rfl ?_
        refine xj_s 4 RF (by kernel_rfl) SR (y_conv Tryd.underlying5 Tryd.underlying3 RF (wrap64_in (by omega) (by omega))) rfl ?_
        refine xj_s 5 RF (by kernel_rfl) SR (y_move RF) rfl ?_
        refine xj_s 6 RF (by kernel_rfl) SR (y_rem RF RF (by omega) (by omega)) rfl ?_
        obtain ⟨p, hpd⟩ : ∃ p : Nat, ((by_.getD i 0 : Nat) : Int) % (m.length : Int) = (p : Int) ∧ p < m.length := ⟨(((by_.getD i 0 : Nat) : Int) % (m.length : Int)).toNat, by have := Int.emod_nonneg ((by_.getD i 0 : Nat) : Int) (show (m.length : Int) ≠ 0 by omega); omega, by have := Int.emod_nonneg ((by_.getD i 0 : Nat) : Int) (show (m.length : Int) ≠ 0 by omega); have := Int.emod_lt_of_pos ((by_.getD i 0 : Nat) : Int) (show (0 : Int) < m.length by omega); omega⟩
        rw [hpd.1]
        have hpl := hpd.2
        refine xj_s 7 RF (by kernel_rfl) SR (y_move RF) rfl ?_
        refine xj_s 8 RF (by kernel_rfl) SR (y_move RF) rfl ?_
        refine xj_s 9 RF (by kernel_rfl) SR (y_add RF RF (by omega)) rfl ?_
        refine xj_s 10 RF (by kernel_rfl) SR IA43 rfl ?_
        refine xj_s 11 RF (by kernel_rfl) SR (by first | exact y_load_ca0 Tryd.underlying5 rfl RF MM hc1' rfl | exact LD5) rfl ?_
        refine xj_s 12 RF (by kernel_rfl) SR (y_conv Tryd.underlying5 Tryd.underlying3 RF (wrap64_in (by omega) (by omega))) rfl ?_
        refine xj_s 13 RF (by kernel_rfl) SR (y_move RF) rfl ?_
        refine xj_s 14 RF (by kernel_rfl) SR (y_rem RF RF (by omega) (by omega)) rfl ?_
        obtain ⟨q, hqd⟩ : ∃ q : Nat, ((by_.getD (i + 1) 0 : Nat) : Int) % (m.length : Int) = (q : Int) ∧ q < m.length := ⟨(((by_.getD (i + 1) 0 : Nat) : Int) % (m.length : Int)).toNat, by have := Int.emod_nonneg ((by_.getD (i + 1) 0 : Nat) : Int) (show (m.length : Int) ≠ 0 by omega); omega, by have := Int.emod_nonneg ((by_.getD (i + 1) 0 : Nat) : Int) (show (m.length : Int) ≠ 0 by omega); have := Int.emod_lt_of_pos ((by_.getD (i + 1) 0 : Nat) : Int) (show (0 : Int) < m.length by omega); omega⟩
        rw [hqd.1]
        have hql := hqd.2
        refine xj_s 15 RF (by kernel_rfl) SR (y_move RF) rfl ?_
        refine xj_s 16 RF (by kernel_rfl) SR (y_move RF) rfl ?_
        refine xj_s 17 RF (by kernel_rfl) SR IA43 rfl ?_
        refine xj_s 18 RF (by kernel_rfl) SR (by first | exact y_load_ca0 Tryd.underlying5 rfl RF MM hc0' rfl | exact LD5) rfl ?_
        refine xj_s 19 RF (by kernel_rfl) SR (y_quo8 RF RF (by omega) (by decide)) rfl ?_
        refine xj_s 20 RF (by kernel_rfl) SR (y_move RF) rfl ?_
        refine xj_s 21 RF (by kernel_rfl) SR (y_move RF) rfl ?_
        refine xj_s 22 RF (by kernel_rfl) SR (y_add RF RF (by omega)) rfl ?_
        refine xj_s 23 RF (by kernel_rfl) SR IA43 rfl ?_
        refine xj_s 24 RF (by kernel_rfl) SR (by first | exact y_load_ca0 Tryd.underlying5 rfl RF MM hc1' rfl | exact LD5) rfl ?_
        refine xj_s 25 RF (by kernel_rfl) SR (y_quo8 RF RF (by omega) (by decide)) rfl ?_
        refine xj_s 26 RF (by kernel_rfl) SR (y_addw RF RF) rfl ?_
        refine xj_s 27 RF (by kernel_rfl) SR (y_conv Tryd.underlying5 Tryd.underlying3 RF (wrap64_in (by have := wrap8_bd (((by_.getD i 0 : Nat) : Int) / 16 + ((by_.getD (i + 1) 0 : Nat) : Int) / 16); omega) (by have := wrap8_bd (((by_.getD i 0 : Nat) : Int) / 16 + ((by_.getD (i + 1) 0 : Nat) : Int) / 16); omega))) rfl ?_
        refine xj_s 28 RF (by kernel_rfl) SR (y_move RF) rfl ?_
        refine xj_s 29 RF (by kernel_rfl) SR (y_rem RF RF (by have := wrap8_bd (((by_.getD i 0 : Nat) : Int) / 16 + ((by_.getD (i + 1) 0 : Nat) : Int) / 16); omega) (by have := wrap8_bd (((by_.getD i 0 : Nat) : Int) / 16 + ((by_.getD (i + 1) 0 : Nat) : Int) / 16); omega)) rfl ?_
        obtain ⟨g, hgd⟩ : ∃ g : Nat, (IntKind.u8.wrap (((by_.getD i 0 : Nat) : Int) / 16 + ((by_.getD (i + 1) 0 : Nat) : Int) / 16)) % (m.length : Int) = (g : Int) ∧ g < m.length := ⟨((IntKind.u8.wrap (((by_.getD i 0 : Nat) : Int) / 16 + ((by_.getD (i + 1) 0 : Nat) : Int) / 16)) % (m.length : Int)).toNat, by have := Int.emod_nonneg (IntKind.u8.wrap (((by_.getD i 0 : Nat) : Int) / 16 + ((by_.getD (i + 1) 0 : Nat) : Int) / 16)) (show (m.length : Int) ≠ 0 by omega); omega, by have := Int.emod_nonneg (IntKind.u8.wrap (((by_.getD i 0 : Nat) : Int) / 16 + ((by_.getD (i + 1) 0 : Nat) : Int) / 16)) (show (m.length : Int) ≠ 0 by omega); have := Int.emod_lt_of_pos (IntKind.u8.wrap (((by_.getD i 0 : Nat) : Int) / 16 + ((by_.getD (i + 1) 0 : Nat) : Int) / 16)) (show (0 : Int) < m.length by omega); omega⟩
        rw [hgd.1]
        have hgl := hgd.2
        refine xj_s 30 RF (by kernel_rfl) SR (y_assign RF) rfl ?_
        refine xj_s 31 RF (by kernel_rfl) SR (y_assign RF) rfl ?_
        refine xj_s 32 RF (by kernel_rfl) SR (y_assign RF) rfl ?_
        refine xj_done (by kernel_rfl) ?_
        refine sx_then ?_
        refine sc_seq ?_
        refine sc_region ?_
        refine sq_bs Tryd.underlying25 ei3 (EvI.nil) (by simp) rfl rfl rfl (fun b69 => ?_)
        refine sq_blk_own0 (sz := 1) (c := 0) RM rfl (Nat.zero_le _) ?_
        refine qs (y_move RF) ?_
        refine sq_append_rows (mm := m.length) (ya := y.1) (c := y.2) (news := l.flatMap iRow) Tryd.underlying25 ei3 Tryd.sizeOf3 rfl (by decide) RF RM RF hyn (by rw [iflat_len, hll, Nat.mul_one]) (fun ad had w1 hw1 => RowsA.cells (row := iRow) iRow_len (by decide) (by rw [← had]; exact own_at (c := y.2) (e := 3) hw1 hll MM)) (iflat_one _) (by omega) rfl (fun v71 ho71 => ?_)
        rw [Nat.zero_add m.length, List.nil_append]
        refine sq_own_dest (v := v71) (e := 3) (sz := 1) (m := m.length) (xs := l.flatMap iRow) MM (fun a71 c71 hv71 hmc71 hn71 => ?_)
        subst hv71
        have h71 : a71.isSome = true := by
          cases a71 with
          | none => have := hn71 rfl; omega
          | some _ => rfl
        refine qs (y_assign RF) ?_
        refine sq_nil ?_
        refine sx_then ?_
        refine sc_seq ?_
        refine sc_drawX ([.reg 0 w]) (by kernel_rfl) ?_
        refine xj_s 0 RF (by kernel_rfl) SR (y_move RF) rfl ?_
        refine xj_s 1 RF (by kernel_rfl) SR (y_move RF) rfl ?_
        refine xj_s 2 RF (by kernel_rfl) SR (y_move RF) rfl ?_
        refine xj_s 3 RF (by kernel_rfl) SR (y_move RF) rfl ?_
        refine xj_s 4 RF (by kernel_rfl) SR (y_move RF) rfl ?_
        refine xj_s 5 RF (by kernel_rfl) SR (y_move RF) rfl ?_
        refine xj_s 6 RF (by kernel_rfl) SR (y_ia_el (i := q) Tryd.underlying25 Tryd.sizeOf3 RF RF (by omega) h71) rfl ?_
        refine xj_s 8 RF (by kernel_rfl) SR (y_move RF) rfl ?_
        refine xj_s 9 RF (by kernel_rfl) SR (y_move RF) rfl ?_
        refine xj_s 10 RF (by kernel_rfl) SR (y_ia_el (i := p) Tryd.underlying25 Tryd.sizeOf3 RF RF (by omega) h71) rfl ?_
        refine xj_all (l := [7, 11]) (by kernel_rfl) (by simp) (Each.cons ⟨_, rfl, ?_⟩ (Each.cons ⟨_, rfl, ?_⟩ Each.nil))
        ·
          refine qs (by first | exact y_load_own0 (v := .slice a71 m.length c71) (u := .int .i64 (l.getD q 0)) Tryd.underlying3 rfl RF MM (show q < m.length by omega) (flat_iget (get_of_lt 0 (by omega))) | exact LD3) ?_
          refine sq_nil ?_
          refine sx_xp SR ?_
          refine xj_one 11 RF (by kernel_rfl) ?_
          refine qs (by first | exact y_load_own0 (v := .slice a71 m.length c71) (u := .int .i64 (l.getD p 0)) Tryd.underlying3 rfl RF MM (show p < m.length by omega) (flat_iget (get_of_lt 0 (by omega))) | exact LD3) ?_
          refine sq_nil ?_
          refine sx_xp SR ?_
          refine xj_s 12 RF (by kernel_rfl) SR (y_ia_el (i := p) Tryd.underlying25 Tryd.sizeOf3 RF RF (by omega) h71) rfl ?_
          refine xj_one 13 RF (by kernel_rfl) ?_
          refine sq_store_own (v := .slice a71 m.length c71) (i := p) (j := 0) (sz := 1) Tryd.sizeOf3 RF RF rfl RM (by omega) (by decide) ?_
          rw [iset]
          refine sq_nil ?_
          refine sx_xp SR ?_
          refine xj_s 14 RF (by kernel_rfl) SR (y_ia_el (i := q) Tryd.underlying25 Tryd.sizeOf3 RF RF (by omega) h71) rfl ?_
          refine xj_one 15 RF (by kernel_rfl) ?_
          refine sq_store_own (v := .slice a71 m.length c71) (i := q) (j := 0) (sz := 1) Tryd.sizeOf3 RF RF rfl RM (by omega) (by decide) ?_
          rw [iset]
          rw [show (l.set p (l.getD q 0)).set q (l.getD p 0) = swp l p q from rfl]
          refine sq_nil ?_
          refine sx_xpl (by kernel_rfl) ?_
          refine xj_done (by kernel_rfl) ?_
          refine sx_then ?_
          refine sc_seq ?_
          refine sc_seq ?_
          refine sc_midE (Z := {v : Bool // True}) (fun v => [(1, .bool fair), (2, .slice ab by_.length cb), (3, .pointer (some ⟨b3, 0, none⟩)), (7, .slice y.1 m.length y.2), (9, .int .i64 m.length), (10, .int .i64 i), (11, .int .i64 p), (12, .int .i64 q), (13, .int .i64 g), (14, .slice a71 m.length c71), (101, .bool v.1)]) (fun _ => [.own (.slice a71 m.length c71) 3 1 m.length ((swp l p q).flatMap iRow), .own (.slice y.1 m.length y.2) 3 1 m.length (l.flatMap iRow), .blk b3 (.cells (mV z m).toArray 24 (0, 0)), .reg 0 w]) ?_ ?_
          ·
            refine sc_region ?_
            refine qs (y_move RF) ?_
            refine qs (y_move RF) ?_
            refine qs (y_neq RF RF) ?_
            refine qs (y_move RF) ?_
            refine sp 89 (fun hg13_3 => ?_) (fun hg13_3 => ?_)
            ·
              refine qg (y_move RF) ?_
              refine qg (y_move RF) ?_
              refine qg (y_neq RF RF) ?_
              refine qs (y_pick_t RF RF) ?_
              refine qs (y_move RF) ?_
              refine sp 94 (fun hg13_8 => ?_) (fun hg13_8 => ?_)
              ·
                refine qg (y_move RF) ?_
                refine qg (y_move RF) ?_
                refine qg IA43 ?_
                refine qg (by first | exact y_load_ca0 Tryd.underlying5 rfl RF MM hc0' rfl | exact LD5) ?_
                refine qg (y_rem RF RF (by omega) (by omega)) ?_
                refine qg (y_eql RF RF) ?_
                refine qs (y_pick_t RF RF) ?_
                refine sq_nil ?_
                exact sx_midE (⟨_, trivial⟩) SU SR
              ·
                refine qf ?_
                refine qf ?_
                refine qf ?_
                refine qf ?_
                refine qf ?_
                refine qf ?_
                refine qs (y_pick_f RF RF) ?_
                refine sq_nil ?_
                exact sx_midE (⟨false, trivial⟩) SU SR
            ·
              refine qf ?_
              refine qf ?_
              refine qf ?_
              refine qs (y_pick_f RF RF) ?_
              refine qs (y_move RF) ?_
              refine qf ?_
              refine qf ?_
              refine qf ?_
              refine qf ?_
              refine qf ?_
              refine qf ?_
              refine qs (y_pick_f RF RF) ?_
              refine sq_nil ?_
              exact sx_midE (⟨false, trivial⟩) SU SR
          rintro ⟨vb, _⟩
          try dsimp only
          refine sx_then ?_
          refine sc_midE (Z := {l2 : List Int // ordB l2 m.length = true}) (fun q_ => [(1, .bool fair), (2, .slice ab by_.length cb), (3, .pointer (some ⟨b3, 0, none⟩)), (7, .slice y.1 m.length y.2), (9, .int .i64 m.length), (10, .int .i64 i), (14, .slice a71 m.length c71)]) (fun q_ => [.own (.slice a71 m.length c71) 3 1 m.length (q_.1.flatMap iRow), .own (.slice y.1 m.length y.2) 3 1 m.length (l.flatMap iRow), .blk b3 (.cells (mV z m).toArray 24 (0, 0)), .reg 0 w]) ?_ ?_
          ·
            refine scp (fun hc2 => ?_) (fun hc2 => ?_)
            ·
              have hsl : (swp l p q).length = m.length := by rw [swp_len]; exact hll
              refine sc_drawX ([.reg 0 w]) (by kernel_rfl) ?_
              refine xj_s 0 RF (by kernel_rfl) SR (y_move RF) rfl ?_
              refine xj_s 1 RF (by kernel_rfl) SR (y_move RF) rfl ?_
              refine xj_s 2 RF (by kernel_rfl) SR (y_move RF) rfl ?_
              refine xj_s 3 RF (by kernel_rfl) SR (y_move RF) rfl ?_
              refine xj_s 4 RF (by kernel_rfl) SR (y_move RF) rfl ?_
              refine xj_s 5 RF (by kernel_rfl) SR (y_move RF) rfl ?_
              refine xj_s 6 RF (by kernel_rfl) SR (y_ia_el (i := g) Tryd.underlying25 Tryd.sizeOf3 RF RF (by omega) h71) rfl ?_
              refine xj_s 8 RF (by kernel_rfl) SR (y_move RF) rfl ?_
              refine xj_s 9 RF (by kernel_rfl) SR (y_move RF) rfl ?_
              refine xj_s 10 RF (by kernel_rfl) SR (y_ia_el (i := q) Tryd.underlying25 Tryd.sizeOf3 RF RF (by omega) h71) rfl ?_
              refine xj_all (l := [7, 11]) (by kernel_rfl) (by simp) (Each.cons ⟨_, rfl, ?_⟩ (Each.cons ⟨_, rfl, ?_⟩ Each.nil))
              ·
                refine qs (by first | exact y_load_own0 (v := .slice a71 m.length c71) (u := .int .i64 ((swp l p q).getD g 0)) Tryd.underlying3 rfl RF MM (show g < m.length by omega) (flat_iget (get_of_lt 0 (by omega))) | exact LD3) ?_
                refine sq_nil ?_
                refine sx_xp SR ?_
                refine xj_one 11 RF (by kernel_rfl) ?_
                refine qs (by first | exact y_load_own0 (v := .slice a71 m.length c71) (u := .int .i64 ((swp l p q).getD q 0)) Tryd.underlying3 rfl RF MM (show q < m.length by omega) (flat_iget (get_of_lt 0 (by omega))) | exact LD3) ?_
                refine sq_nil ?_
                refine sx_xp SR ?_
                refine xj_s 12 RF (by kernel_rfl) SR (y_ia_el (i := q) Tryd.underlying25 Tryd.sizeOf3 RF RF (by omega) h71) rfl ?_
                refine xj_one 13 RF (by kernel_rfl) ?_
                refine sq_store_own (v := .slice a71 m.length c71) (i := q) (j := 0) (sz := 1) Tryd.sizeOf3 RF RF rfl RM (by omega) (by decide) ?_
                rw [iset]
                refine sq_nil ?_
                refine sx_xp SR ?_
                refine xj_s 14 RF (by kernel_rfl) SR (y_ia_el (i := g) Tryd.underlying25 Tryd.sizeOf3 RF RF (by omega) h71) rfl ?_
                refine xj_one 15 RF (by kernel_rfl) ?_
                refine sq_store_own (v := .slice a71 m.length c71) (i := g) (j := 0) (sz := 1) Tryd.sizeOf3 RF RF rfl RM (by omega) (by decide) ?_
                rw [iset]
                rw [show ((swp l p q).set q ((swp l p q).getD g 0)).set g ((swp l p q).getD q 0) = swp (swp l p q) q g from rfl]
                refine sq_nil ?_
                refine sx_xpl (by kernel_rfl) ?_
                refine xj_done (by kernel_rfl) ?_
                exact sx_midE (⟨swp (swp l p q) q g, swp_ord (swp_ord hl hpl hql) hql hgl⟩) SU SR
              ·
                refine qs (by first | exact y_load_own0 (v := .slice a71 m.length c71) (u := .int .i64 ((swp l p q).getD q 0)) Tryd.underlying3 rfl RF MM (show q < m.length by omega) (flat_iget (get_of_lt 0 (by omega))) | exact LD3) ?_
                refine sq_nil ?_
                refine sx_xp SR ?_
                refine xj_one 7 RF (by kernel_rfl) ?_
                refine qs (by first | exact y_load_own0 (v := .slice a71 m.length c71) (u := .int .i64 ((swp l p q).getD g 0)) Tryd.underlying3 rfl RF MM (show g < m.length by omega) (flat_iget (get_of_lt 0 (by omega))) | exact LD3) ?_
                refine sq_nil ?_
                refine sx_xp SR ?_
                refine xj_s 12 RF (by kernel_rfl) SR (y_ia_el (i := q) Tryd.underlying25 Tryd.sizeOf3 RF RF (by omega) h71) rfl ?_
                refine xj_one 13 RF (by kernel_rfl) ?_
                refine sq_store_own (v := .slice a71 m.length c71) (i := q) (j := 0) (sz := 1) Tryd.sizeOf3 RF RF rfl RM (by omega) (by decide) ?_
                rw [iset]
                refine sq_nil ?_
                refine sx_xp SR ?_
                refine xj_s 14 RF (by kernel_rfl) SR (y_ia_el (i := g) Tryd.underlying25 Tryd.sizeOf3 RF RF (by omega) h71) rfl ?_
                refine xj_one 15 RF (by kernel_rfl) ?_
                refine sq_store_own (v := .slice a71 m.length c71) (i := g) (j := 0) (sz := 1) Tryd.sizeOf3 RF RF rfl RM (by omega) (by decide) ?_
                rw [iset]
                rw [show ((swp l p q).set q ((swp l p q).getD g 0)).set g ((swp l p q).getD q 0) = swp (swp l p q) q g from rfl]
                refine sq_nil ?_
                refine sx_xpl (by kernel_rfl) ?_
                refine xj_done (by kernel_rfl) ?_
                exact sx_midE (⟨swp (swp l p q) q g, swp_ord (swp_ord hl hpl hql) hql hgl⟩) SU SR
            ·
              refine sc_skip ?_
              exact sx_midE (⟨(swp l p q), swp_ord hl hpl hql⟩) SU SR
          rintro ⟨l2, hl2⟩
          try dsimp only
          refine sx_then ?_
          refine sc_seq ?_
          refine sc_region ?_
          refine qs (y_move RF) ?_
          refine qs (y_not RF) ?_
          refine qs (y_move RF) ?_
          refine sp 118 (fun hg15_2 => ?_) (fun hg15_2 => ?_)
          ·
            refine qf ?_
            refine qf ?_
            refine qf ?_
            refine qf ?_
            refine qs (y_pick_t RF RF) ?_
            refine sq_nil ?_
            refine sx_then ?_
            refine sc_t RF ?_
            refine sc_region ?_
            refine qs (y_move RF) ?_
            refine qs (y_assign RF) ?_
            refine sq_nil ?_
            refine sx_blk ?_
            refine sx_then ?_
            refine sc_region ?_
            refine qs (y_move RF) ?_
            refine qs (y_add RF RF (by omega)) ?_
            refine qs (y_assign RF) ?_
            refine sq_nil ?_
            refine sx_round ((i + 2, l2, (a71, c71))) ?_ ?_ SU SR
            · exact ⟨by dsimp only; omega, by dsimp only; omega, hl2, fun h => by simp [h] at hg15_2, fun h => by have hq : a71 = none := h; rw [hq] at h71; cases h71⟩
            · dsimp only; omega
          ·
            refine qg LD24 ?_
            refine qg (y_move RF) ?_
            refine sq_gt RF RF (y_call (first := []) (caps := []) RF Tryd.call32 (EvL.cons RF (EvL.cons RF EvL.nil)) (fun w1 hw1 => fair32n w1 z m (hz.at hw1 MM) hm a71 c71 l2 (own_at (c := c71) (e := 3) hw1 (ord_len hl2) MM (by omega)) hl2)) rfl ?_
            refine qg (y_lss RF RF) ?_
            refine qs (y_pick_f RF RF) ?_
            refine sq_nil ?_
            refine sx_then ?_
            refine scp (fun hc3 => ?_) (fun hc3 => ?_)
            ·
              refine sc_region ?_
              refine qs (y_move RF) ?_
              refine qs (y_assign RF) ?_
              refine sq_nil ?_
              refine sx_blk ?_
              refine sx_then ?_
              refine sc_region ?_
              refine qs (y_move RF) ?_
              refine qs (y_add RF RF (by omega)) ?_
              refine qs (y_assign RF) ?_
              refine sq_nil ?_
              refine sx_round ((i + 2, l2, (a71, c71))) ?_ ?_ SU SR
              · exact ⟨by dsimp only; omega, by dsimp only; omega, hl2, fun _ => hc3, fun h => by have hq : a71 = none := h; rw [hq] at h71; cases h71⟩
              · dsimp only; omega
            ·
              refine sc_skip ?_
              refine sx_blk ?_
              refine sx_then ?_
              refine sc_region ?_
              refine qs (y_move RF) ?_
              refine qs (y_add RF RF (by omega)) ?_
              refine qs (y_assign RF) ?_
              refine sq_nil ?_
              refine sx_round ((i + 2, l, y)) ?_ ?_ SU SR
              · exact ⟨by dsimp only; omega, by dsimp only; omega, hl, hfl, hyn0⟩
              · dsimp only; omega
        ·
          refine qs (by first | exact y_load_own0 (v := .slice a71 m.length c71) (u := .int .i64 (l.getD p 0)) Tryd.underlying3 rfl RF MM (show p < m.length by omega) (flat_iget (get_of_lt 0 (by omega))) | exact LD3) ?_
          refine sq_nil ?_
          refine sx_xp SR ?_
          refine xj_one 7 RF (by kernel_rfl) ?_
          refine qs (by first | exact y_load_own0 (v := .slice a71 m.length c71) (u := .int .i64 (l.getD q 0)) Tryd.underlying3 rfl RF MM (show q < m.length by omega) (flat_iget (get_of_lt 0 (by omega))) | exact LD3) ?_
          refine sq_nil ?_
          refine sx_xp SR ?_
          refine xj_s 12 RF (by kernel_rfl) SR (y_ia_el (i := p) Tryd.underlying25 Tryd.sizeOf3 RF RF (by omega) h71) rfl ?_
          refine xj_one 13 RF (by kernel_rfl) ?_
          refine sq_store_own (v := .slice a71 m.length c71) (i := p) (j := 0) (sz := 1) Tryd.sizeOf3 RF RF rfl RM (by omega) (by decide) ?_
          rw [iset]
          refine sq_nil ?_
          refine sx_xp SR ?_
          refine xj_s 14 RF (by kernel_rfl) SR (y_ia_el (i := q) Tryd.underlying25 Tryd.sizeOf3 RF RF (by omega) h71) rfl ?_
          refine xj_one 15 RF (by kernel_rfl) ?_
          refine sq_store_own (v := .slice a71 m.length c71) (i := q) (j := 0) (sz := 1) Tryd.sizeOf3 RF RF rfl RM (by omega) (by decide) ?_
          rw [iset]
          rw [show (l.set p (l.getD q 0)).set q (l.getD p 0) = swp l p q from rfl]
          refine sq_nil ?_
          refine sx_xpl (by kernel_rfl) ?_
          refine xj_done (by kernel_rfl) ?_
          refine sx_then ?_
          refine sc_seq ?_
          refine sc_seq ?_
          refine sc_midE (Z := {v : Bool // True}) (fun v => [(1, .bool fair), (2, .slice ab by_.length cb), (3, .pointer (some ⟨b3, 0, none⟩)), (7, .slice y.1 m.length y.2), (9, .int .i64 m.length), (10, .int .i64 i), (11, .int .i64 p), (12, .int .i64 q), (13, .int .i64 g), (14, .slice a71 m.length c71), (101, .bool v.1)]) (fun _ => [.own (.slice a71 m.length c71) 3 1 m.length ((swp l p q).flatMap iRow), .own (.slice y.1 m.length y.2) 3 1 m.length (l.flatMap iRow), .blk b3 (.cells (mV z m).toArray 24 (0, 0)), .reg 0 w]) ?_ ?_
          ·
            refine sc_region ?_
            refine qs (y_move RF) ?_
            refine qs (y_move RF) ?_
            refine qs (y_neq RF RF) ?_
            refine qs (y_move RF) ?_
            refine sp 89 (fun hg13_3 => ?_) (fun hg13_3 => ?_)
            ·
              refine qg (y_move RF) ?_
              refine qg (y_move RF) ?_
              refine qg (y_neq RF RF) ?_
              refine qs (y_pick_t RF RF) ?_
              refine qs (y_move RF) ?_
              refine sp 94 (fun hg13_8 => ?_) (fun hg13_8 => ?_)
              ·
                refine qg (y_move RF) ?_
                refine qg (y_move RF) ?_
                refine qg IA43 ?_
                refine qg (by first | exact y_load_ca0 Tryd.underlying5 rfl RF MM hc0' rfl | exact LD5) ?_
                refine qg (y_rem RF RF (by omega) (by omega)) ?_
                refine qg (y_eql RF RF) ?_
                refine qs (y_pick_t RF RF) ?_
                refine sq_nil ?_
                exact sx_midE (⟨_, trivial⟩) SU SR
              ·
                refine qf ?_
                refine qf ?_
                refine qf ?_
                refine qf ?_
                refine qf ?_
                refine qf ?_
                refine qs (y_pick_f RF RF) ?_
                refine sq_nil ?_
                exact sx_midE (⟨false, trivial⟩) SU SR
            ·
              refine qf ?_
              refine qf ?_
              refine qf ?_
              refine qs (y_pick_f RF RF) ?_
              refine qs (y_move RF) ?_
              refine qf ?_
              refine qf ?_
              refine qf ?_
              refine qf ?_
              refine qf ?_
              refine qf ?_
              refine qs (y_pick_f RF RF) ?_
              refine sq_nil ?_
              exact sx_midE (⟨false, trivial⟩) SU SR
          rintro ⟨vb, _⟩
          try dsimp only
          refine sx_then ?_
          refine sc_midE (Z := {l2 : List Int // ordB l2 m.length = true}) (fun q_ => [(1, .bool fair), (2, .slice ab by_.length cb), (3, .pointer (some ⟨b3, 0, none⟩)), (7, .slice y.1 m.length y.2), (9, .int .i64 m.length), (10, .int .i64 i), (14, .slice a71 m.length c71)]) (fun q_ => [.own (.slice a71 m.length c71) 3 1 m.length (q_.1.flatMap iRow), .own (.slice y.1 m.length y.2) 3 1 m.length (l.flatMap iRow), .blk b3 (.cells (mV z m).toArray 24 (0, 0)), .reg 0 w]) ?_ ?_
          ·
            refine scp (fun hc2 => ?_) (fun hc2 => ?_)
            ·
              have hsl : (swp l p q).length = m.length := by rw [swp_len]; exact hll
              refine sc_drawX ([.reg 0 w]) (by kernel_rfl) ?_
              refine xj_s 0 RF (by kernel_rfl) SR (y_move RF) rfl ?_
              refine xj_s 1 RF (by kernel_rfl) SR (y_move RF) rfl ?_
              refine xj_s 2 RF (by kernel_rfl) SR (y_move RF) rfl ?_
              refine xj_s 3 RF (by kernel_rfl) SR (y_move RF) rfl ?_
              refine xj_s 4 RF (by kernel_rfl) SR (y_move RF) rfl ?_
              refine xj_s 5 RF (by kernel_rfl) SR (y_move RF) rfl ?_
              refine xj_s 6 RF (by kernel_rfl) SR (y_ia_el (i := g) Tryd.underlying25 Tryd.sizeOf3 RF RF (by omega) h71) rfl ?_
              refine xj_s 8 RF (by kernel_rfl) SR (y_move RF) rfl ?_
              refine xj_s 9 RF (by kernel_rfl) SR (y_move RF) rfl ?_
              refine xj_s 10 RF (by kernel_rfl) SR (y_ia_el (i := q) Tryd.underlying25 Tryd.sizeOf3 RF RF (by omega) h71) rfl ?_
              refine xj_all (l := [7, 11]) (by kernel_rfl) (by simp) (Each.cons ⟨_, rfl, ?_⟩ (Each.cons ⟨_, rfl, ?_⟩ Each.nil))
              ·
                refine qs (by first | exact y_load_own0 (v := .slice a71 m.length c71) (u := .int .i64 ((swp l p q).getD g 0)) Tryd.underlying3 rfl RF MM (show g < m.length by omega) (flat_iget (get_of_lt 0 (by omega))) | exact LD3) ?_
                refine sq_nil ?_
                refine sx_xp SR ?_
                refine xj_one 11 RF (by kernel_rfl) ?_
                refine qs (by first | exact y_load_own0 (v := .slice a71 m.length c71) (u := .int .i64 ((swp l p q).getD q 0)) Tryd.underlying3 rfl RF MM (show q < m.length by omega) (flat_iget (get_of_lt 0 (by omega))) | exact LD3) ?_
                refine sq_nil ?_
                refine sx_xp SR ?_
                refine xj_s 12 RF (by kernel_rfl) SR (y_ia_el (i := q) Tryd.underlying25 Tryd.sizeOf3 RF RF (by omega) h71) rfl ?_
                refine xj_one 13 RF (by kernel_rfl) ?_
                refine sq_store_own (v := .slice a71 m.length c71) (i := q) (j := 0) (sz := 1) Tryd.sizeOf3 RF RF rfl RM (by omega) (by decide) ?_
                rw [iset]
                refine sq_nil ?_
                refine sx_xp SR ?_
                refine xj_s 14 RF (by kernel_rfl) SR (y_ia_el (i := g) Tryd.underlying25 Tryd.sizeOf3 RF RF (by omega) h71) rfl ?_
                refine xj_one 15 RF (by kernel_rfl) ?_
                refine sq_store_own (v := .slice a71 m.length c71) (i := g) (j := 0) (sz := 1) Tryd.sizeOf3 RF RF rfl RM (by omega) (by decide) ?_
                rw [iset]
                rw [show ((swp l p q).set q ((swp l p q).getD g 0)).set g ((swp l p q).getD q 0) = swp (swp l p q) q g from rfl]
                refine sq_nil ?_
                refine sx_xpl (by kernel_rfl) ?_
                refine xj_done (by kernel_rfl) ?_
                exact sx_midE (⟨swp (swp l p q) q g, swp_ord (swp_ord hl hpl hql) hql hgl⟩) SU SR
              ·
                refine qs (by first | exact y_load_own0 (v := .slice a71 m.length c71) (u := .int .i64 ((swp l p q).getD q 0)) Tryd.underlying3 rfl RF MM (show q < m.length by omega) (flat_iget (get_of_lt 0 (by omega))) | exact LD3) ?_
                refine sq_nil ?_
                refine sx_xp SR ?_
                refine xj_one 7 RF (by kernel_rfl) ?_
                refine qs (by first | exact y_load_own0 (v := .slice a71 m.length c71) (u := .int .i64 ((swp l p q).getD g 0)) Tryd.underlying3 rfl RF MM (show g < m.length by omega) (flat_iget (get_of_lt 0 (by omega))) | exact LD3) ?_
                refine sq_nil ?_
                refine sx_xp SR ?_
                refine xj_s 12 RF (by kernel_rfl) SR (y_ia_el (i := q) Tryd.underlying25 Tryd.sizeOf3 RF RF (by omega) h71) rfl ?_
                refine xj_one 13 RF (by kernel_rfl) ?_
                refine sq_store_own (v := .slice a71 m.length c71) (i := q) (j := 0) (sz := 1) Tryd.sizeOf3 RF RF rfl RM (by omega) (by decide) ?_
                rw [iset]
                refine sq_nil ?_
                refine sx_xp SR ?_
                refine xj_s 14 RF (by kernel_rfl) SR (y_ia_el (i := g) Tryd.underlying25 Tryd.sizeOf3 RF RF (by omega) h71) rfl ?_
                refine xj_one 15 RF (by kernel_rfl) ?_
                refine sq_store_own (v := .slice a71 m.length c71) (i := g) (j := 0) (sz := 1) Tryd.sizeOf3 RF RF rfl RM (by omega) (by decide) ?_
                rw [iset]
                rw [show ((swp l p q).set q ((swp l p q).getD g 0)).set g ((swp l p q).getD q 0) = swp (swp l p q) q g from rfl]
                refine sq_nil ?_
                refine sx_xpl (by kernel_rfl) ?_
                refine xj_done (by kernel_rfl) ?_
                exact sx_midE (⟨swp (swp l p q) q g, swp_ord (swp_ord hl hpl hql) hql hgl⟩) SU SR
            ·
              refine sc_skip ?_
              exact sx_midE (⟨(swp l p q), swp_ord hl hpl hql⟩) SU SR
          rintro ⟨l2, hl2⟩
          try dsimp only
          refine sx_then ?_
          refine sc_seq ?_
          refine sc_region ?_
          refine qs (y_move RF) ?_
          refine qs (y_not RF) ?_
          refine qs (y_move RF) ?_
          refine sp 118 (fun hg15_2 => ?_) (fun hg15_2 => ?_)
          ·
            refine qf ?_
            refine qf ?_
            refine qf ?_
            refine qf ?_
            refine qs (y_pick_t RF RF) ?_
            refine sq_nil ?_
            refine sx_then ?_
            refine sc_t RF ?_
            refine sc_region ?_
            refine qs (y_move RF) ?_
            refine qs (y_assign RF) ?_
            refine sq_nil ?_
            refine sx_blk ?_
            refine sx_then ?_
            refine sc_region ?_
            refine qs (y_move RF) ?_
            refine qs (y_add RF RF (by omega)) ?_
            refine qs (y_assign RF) ?_
            refine sq_nil ?_
            refine sx_round ((i + 2, l2, (a71, c71))) ?_ ?_ SU SR
            · exact ⟨by dsimp only; omega, by dsimp only; omega, hl2, fun h => by simp [h] at hg15_2, fun h => by have hq : a71 = none := h; rw [hq] at h71; cases h71⟩
            · dsimp only; omega
          ·
            refine qg LD24 ?_
            refine qg (y_move RF) ?_
            refine sq_gt RF RF (y_call (first := []) (caps := []) RF Tryd.call32 (EvL.cons RF (EvL.cons RF EvL.nil)) (fun w1 hw1 => fair32n w1 z m (hz.at hw1 MM) hm a71 c71 l2 (own_at (c := c71) (e := 3) hw1 (ord_len hl2) MM (by omega)) hl2)) rfl ?_
            refine qg (y_lss RF RF) ?_
            refine qs (y_pick_f RF RF) ?_
            refine sq_nil ?_
            refine sx_then ?_
            refine scp (fun hc3 => ?_) (fun hc3 => ?_)
            ·
              refine sc_region ?_
              refine qs (y_move RF) ?_
              refine qs (y_assign RF) ?_
              refine sq_nil ?_
              refine sx_blk ?_
              refine sx_then ?_
              refine sc_region ?_
              refine qs (y_move RF) ?_
              refine qs (y_add RF RF (by omega)) ?_
              refine qs (y_assign RF) ?_
              refine sq_nil ?_
              refine sx_round ((i + 2, l2, (a71, c71))) ?_ ?_ SU SR
              · exact ⟨by dsimp only; omega, by dsimp only; omega, hl2, fun _ => hc3, fun h => by have hq : a71 = none := h; rw [hq] at h71; cases h71⟩
              · dsimp only; omega
            ·
              refine sc_skip ?_
              refine sx_blk ?_
              refine sx_then ?_
              refine sc_region ?_
              refine qs (y_move RF) ?_
              refine qs (y_add RF RF (by omega)) ?_
              refine qs (y_assign RF) ?_
              refine sq_nil ?_
              refine sx_round ((i + 2, l, y)) ?_ ?_ SU SR
              · exact ⟨by dsimp only; omega, by dsimp only; omega, hl, hfl, hyn0⟩
              · dsimp only; omega
      ·
        refine sc_exit ?_
        refine sx_then_exit ?_
        refine sx_round_exit ?_
        refine sx_blk_hit ?_
        refine sx_then ?_
        refine sc_seq ?_
        refine sc_region ?_
        refine qs (y_move RF) ?_
        refine qs (y_assign RF) ?_
        refine sq_nil ?_
        refine sx_then ?_
        refine sc_ret ?_
        refine sx_ret1 (.inl rfl) rfl Tryd.results33 RF ?_
        intro w' hw'
        have ho := own_new_mem hw' (v := .slice y.1 m.length y.2) (xs := l.flatMap iRow) MM MM
        obtain ⟨a2, c2, hv2, _, hr⟩ := own_rowsA (row := iRow) iRow_len ho (ord_len hl) (by omega)
        injection hv2 with e1 e2 e3
        subst e1
        exact ⟨(y, l), rfl, hw'.below MM, hr, hl, hfl⟩
    ·
      refine qf ?_
      refine qf ?_
      refine qs (y_pick_f RF RF) ?_
      refine sq_nil ?_
      refine sx_then ?_
      refine sc_f RF ?_
      refine sc_exit ?_
      refine sx_then_exit ?_
      refine sx_round_exit ?_
      refine sx_blk_hit ?_
      refine sx_then ?_
      refine sc_seq ?_
      refine sc_region ?_
      refine qs (y_move RF) ?_
      refine qs (y_assign RF) ?_
      refine sq_nil ?_
      refine sx_then ?_
      refine sc_ret ?_
      refine sx_ret1 (.inl rfl) rfl Tryd.results33 RF ?_
      intro w' hw'
      have ho := own_new_mem hw' (v := .slice y.1 m.length y.2) (xs := l.flatMap iRow) MM MM
      obtain ⟨a2, c2, hv2, _, hr⟩ := own_rowsA (row := iRow) iRow_len ho (ord_len hl) (by omega)
      injection hv2 with e1 e2 e3
      subst e1
      exact ⟨(y, l), rfl, hw'.below MM, hr, hl, hfl⟩
end Go.Proofs.YtpijahglojichaaDoor
