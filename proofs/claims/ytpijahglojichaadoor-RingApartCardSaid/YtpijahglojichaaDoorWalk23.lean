/- The walk of the document's exchanges: all orders, one after another. -/
import Derived.Test.YtpijahglojichaaDoorWalk16
namespace Go.Proofs.YtpijahglojichaaDoor
open Go Go.Eng Go.RowKit Go.Proofs
set_option maxRecDepth 100000
/-- all orders that begin so -/
def exO (n : Nat) : Nat → List Int → List (List Int)
  | 0, b => [b]
  | r + 1, b => (List.range n).flatMap fun (k : Nat) => if (k : Int) ∈ b then [] else exO n r (b ++ [(k : Int)])
def exK (n r : Nat) (b : List Int) (j : Nat) : List (List Int) := (List.range j).flatMap fun (k : Nat) => if (k : Int) ∈ b then [] else exO n r (b ++ [(k : Int)])
theorem exK_succ (n r : Nat) (b : List Int) (j : Nat) : exK n r b (j + 1) = exK n r b j ++ (if (j : Int) ∈ b then [] else exO n r (b ++ [(j : Int)])) := by
  unfold exK; rw [List.range_succ, List.flatMap_append]; simp
theorem exK_all (n r : Nat) (b : List Int) : exK n r b n = exO n (r + 1) b := rfl
theorem exO_len {n : Nat} (hn : n ≤ 7) : ∀ r b, (exO n r b).length ≤ 8 ^ r
  | 0, _ => by simp [exO]
  | r + 1, b => by
    have key : ∀ j, (exK n r b j).length ≤ j * 8 ^ r := fun j => by
      induction j with
      | zero => simp [exK]
      | succ j ih =>
        rw [exK_succ, List.length_append, Nat.succ_mul]
        by_cases h : (j : Int) ∈ b
        · rw [if_pos h, List.length_nil]; exact Nat.le_trans ih (Nat.le_add_right _ _)
        · rw [if_neg h]
          have := exO_len hn r (b ++ [(j : Int)])
          omega
    rw [← exK_all]
    refine Nat.le_trans (key n) ?_
    rw [Nat.pow_succ, Nat.mul_comm (8 ^ r)]
    exact Nat.mul_le_mul_right _ (by omega)
structure ExS where
  v : Value
  iv : Iv
  D : Nat → Prop
  w : World
structure ExOk (L : List (List Int)) (iv : Iv) (D : Nat → Prop) (wS : World) (q : ExS) : Prop where
  one : q.v.oneCell' = true
  lists : q.iv.map (·.2) = iv.map (·.2) ++ L
  grow : Grow D wS q.D q.w
  rows : ∀ x, x ∈ q.iv → RowsS iRow 1 q.D q.w x.1.1 x.2
theorem ExOk.len {L iv D wS q} (h : ExOk L iv D wS q) : q.iv.length = iv.length + L.length := by
  have := congrArg List.length h.lists
  simpa using this

theorem has103 (w : World) (a : Option Addr) (c : Nat) (l : List Int) (hl : RowsA iRow 1 0 w a l) (x : Int) : Calls Tryd.prog 103 #[.slice a l.length c, .int .i64 x] w fun e w' => e = .returned (.bool (decide (x ∈ l))) ∧ Below w.heap.size w w' := by
  have hlen := hl.len
  refine calls_of_SC (args := [.slice a l.length c, .int .i64 x]) Tryd.func103 rfl Tryd.ntmps103 rfl ?_
  simp only [argL, Nat.zero_add]
  refine sc_seq ?_
  refine sc_region ?_
  refine qs (y_assign RF) ?_
  refine sq_nil ?_
  refine sx_then ?_
  refine sc_seq ?_
  refine sc_seq ?_
  refine sc_region ?_
  refine qs (y_assign RF) ?_
  refine sq_nil ?_
  refine sx_then ?_
  refine sc_block ?_
  refine sc_loop (σ := Nat)
    (fun s => [(0, .slice a l.length c), (1, .int .i64 x), (5, .int .i64 s)])
    (fun s => [.reg 0 w])
    (fun s => s ≤ l.length ∧ ∀ j, j < s → l.getD j 0 ≠ x)
    (fun s => l.length - s)
    (0) ?_ SU SR ?_
  · exact ⟨Nat.zero_le _, fun j h => absurd h (Nat.not_lt_zero j)⟩
  rintro i ⟨hi, hno⟩
  refine sc_seq ?_
  refine sc_seq ?_
  refine sc_region ?_
  refine qs (y_move RF) ?_
  refine qs (y_move RF) ?_
  refine qs (y_len Tryd.underlying25 RF) ?_
  refine qs (y_lss RF RF) ?_
  refine sq_nil ?_
  refine sx_then ?_
  refine scp (fun hc0 => ?_) (fun hc0 => ?_)
  ·
    have hi' : i < l.length := by omega
    have hs := (hl.get 0 hi').1
    have hca := (hl.get 0 hi').2
    refine sc_skip ?_
    refine sx_then ?_
    refine sc_seq ?_
    refine sc_block ?_
    refine sc_seq ?_
    refine sc_region ?_
    refine qs (y_move RF) ?_
    refine qs (y_move RF) ?_
    refine qs IA25 ?_
    refine qs LD3 ?_
    refine qs (y_move RF) ?_
    refine qs (y_eql RF RF) ?_
    refine sq_nil ?_
    refine sx_then ?_
    refine scp (fun hc1 => ?_) (fun hc1 => ?_)
    ·
      refine sc_seq ?_
      refine sc_region ?_
      refine qs (y_assign RF) ?_
      refine sq_nil ?_
      refine sx_then ?_
      refine sc_ret ?_
      refine sx_blk_ret ?_
      refine sx_then_ret ?_
      refine sx_round_ret ?_
      refine sx_blk_ret ?_
      refine sx_then_ret ?_
      refine sx_ret1 (.inl rfl) rfl Tryd.results103 RF ?_
      intro w' hw'
      rw [decide_eq_true (show x ∈ l by rw [← hc1]; exact getD_mem hi')]
      exact ⟨rfl, hw'.below MM⟩
    ·
      refine sc_skip ?_
      refine sx_blk ?_
      refine sx_then ?_
      refine sc_region ?_
      refine qs (y_move RF) ?_
      refine qs (y_add RF RF (by omega)) ?_
      refine qs (y_assign RF) ?_
      refine sq_nil ?_
      refine sx_round (i + 1) ?_ ?_ SU SR
      · refine ⟨by omega, fun j hj => ?_⟩
        rcases Nat.lt_or_ge j i with h | h
        · exact hno j h
        · have : j = i := by omega
          rw [this]; exact hc1
      · omega
  ·
    have hin : i = l.length := by omega
    subst hin
    refine sc_exit ?_
    refine sx_then_exit ?_
    refine sx_round_exit ?_
    refine sx_blk_hit ?_
    refine sx_then ?_
    refine sc_seq ?_
    refine sc_region ?_
    refine qs (y_assign RF) ?_
    refine sq_nil ?_
    refine sx_then ?_
    refine sc_ret ?_
    refine sx_ret1 (.inl rfl) rfl Tryd.results103 RF ?_
    intro w' hw'
    rw [decide_eq_false (show ¬ x ∈ l from fun hm => by
      obtain ⟨j, hj, e⟩ := List.mem_iff_getElem.1 hm
      exact hno j hj (by rw [getD_of (List.getElem?_eq_getElem hj)]; exact e))]
    exact ⟨rfl, hw'.below MM⟩
theorem has103n (w : World) (a : Option Addr) (c n : Nat) (l : List Int) (hn : l.length = n) (hl : RowsA iRow 1 0 w a l) (x : Int) : Calls Tryd.prog 103 #[.slice a n c, .int .i64 x] w fun e w' => e = .returned (.bool (decide (x ∈ l))) ∧ Below w.heap.size w w' := by
  have h := has103 w a c l hl x
  rw [hn] at h; exact h
def ExAt (w0 : World) (n r : Nat) : Prop := ∀ (b : List Int) (nb : Nat) (ab : Option Addr) (cb : Nat) (v : Value) (iv : Iv) (D : Nat → Prop) (wS : World) (F : List Res) (w : World), b.length = nb → nb + r = n → iv.length + 8 ^ r ≤ 10000000 → v.oneCell' = true → RowsS iRow 1 D wS ab b → (∀ x, x ∈ iv → RowsS iRow 1 D wS x.1.1 x.2) → Hp w0 (.own v 25 1 iv.length (iv.map slV) :: .set D wS :: .reg 0 w0 :: F) w →
  Calls Tryd.prog 81 #[.int .i64 (n : Int), .slice ab nb cb, v] w fun e w' => ∃ q : ExS, ExOk (exO n r b) iv D wS q ∧ e = .returned q.v ∧ Hp w0 (.own q.v 25 1 q.iv.length (q.iv.map slV) :: .set q.D q.w :: .reg 0 w0 :: F) w'
theorem ex81 (w0 : World) {n : Nat} (hn : n ≤ 7) (r : Nat) (ih : r ≠ 0 → ExAt w0 n (r - 1)) : ExAt w0 n r := by
  intro b nb ab cb v iv D wS F w hbl hnr hcap hv1 hb hI hw
  have h8r : 1 ≤ 8 ^ r := Nat.one_le_pow _ _ (by decide)
  refine calls_of_SCr (args := [.int .i64 (n : Int), .slice ab nb cb, v]) Tryd.func81 rfl Tryd.ntmps81 rfl hw ?_
  simp only [argL, Nat.reduceAdd, Nat.zero_add]
  refine sc_seq ?_
  refine sc_region ?_
  refine qs (y_assign RF) ?_
  refine sq_nil ?_
  refine sx_then ?_
  refine sc_seq ?_
  refine sc_seq ?_
  refine sc_region ?_
  refine qs (y_move RF) ?_
  refine qs (y_len Tryd.underlying25 RF) ?_
  refine qs (y_move RF) ?_
  refine qs (y_eql RF RF) ?_
  refine sq_nil ?_
  refine sx_then ?_
  refine scp (fun hc0 => ?_) (fun hc0 => ?_)
  ·
    have hr0 : r = 0 := by omega
    subst hr0
    refine sc_seq ?_
    refine sc_region ?_
    refine qs (y_move RF) ?_
    refine qs (y_move RF) ?_
    refine sq_bs Tryd.underlying22 ei25 (EvI.cons RF EvI.nil) (by first | (simp [Value.cells]; done) | (simp [Value.cells]; rfl) | (simp [Value.cells]; and_intros <;> rfl)) rfl rfl rfl (fun b14 => ?_)
    refine sq_append (news := [.slice ab nb cb]) Tryd.underlying22 ei25 rfl (by decide) RF RM RF rfl (fun _ hw => news_blk hw MM) (by simp [Value.oneCell']) (by omega) rfl (fun v15 ho15 => ?_)
    rw [show iv.map slV ++ [Value.slice ab nb cb] = (iv ++ [((ab, cb), b)]).map slV from by simp [slV, hbl], show iv.length + 1 = (iv ++ [((ab, cb), b)]).length from by simp]
    refine qs (y_assign RF) ?_
    refine sq_nil ?_
    refine sx_then ?_
    refine sc_ret ?_
    refine sx_then_ret ?_
    refine sx_ret1 (.inl rfl) rfl Tryd.results81 RF ?_
    intro w' hw'
    exact ⟨⟨v15, iv ++ [((ab, cb), b)], D, wS⟩, ⟨ho15, by simp [exO], Grow.refl _ _, fun x hx => by
      rcases List.mem_append.1 hx with h | h
      · exact hI x h
      · simp at h; subst h; exact hb⟩, rfl, hw'.sel SR⟩
  ·
    have hr0 : r ≠ 0 := by omega
    have hpw : 8 ^ r = 8 * 8 ^ (r - 1) := by
      have h : 8 ^ (r - 1 + 1) = 8 ^ (r - 1) * 8 := Nat.pow_succ ..
      rw [show r - 1 + 1 = r by omega] at h; omega
    have hbn : ab = none → nb = 0 := fun e => by
      rcases Nat.eq_zero_or_pos nb with h0 | h0
      · exact h0
      · have := (hb.el 0 (b.getD 0 0) (get_of_lt 0 (by omega))).1; rw [e] at this; cases this
    refine sc_skip ?_
    refine sx_then ?_
    refine sc_seq ?_
    refine sc_seq ?_
    refine sc_region ?_
    refine qs (y_assign RF) ?_
    refine sq_nil ?_
    refine sx_then ?_
    refine sc_block ?_
    refine sc_loop (σ := Nat × ExS)
      (fun s_ => [(0, .int .i64 (n : Int)), (1, .slice ab nb cb), (2, s_.2.v), (7, .int .i64 s_.1)])
      (fun s_ => (.own s_.2.v 25 1 s_.2.iv.length (s_.2.iv.map slV) :: .set s_.2.D s_.2.w :: .reg 0 w0 :: F))
      (fun s_ => s_.1 ≤ n ∧ ExOk (exK n (r - 1) b s_.1) iv D wS s_.2 ∧ s_.2.iv.length ≤ iv.length + s_.1 * 8 ^ (r - 1))
      (fun s_ => n - s_.1)
      ((0, ⟨v, iv, D, wS⟩)) ?_ SU SR ?_
    · exact ⟨Nat.zero_le _, ⟨hv1, by simp [exK], Grow.refl _ _, hI⟩, by dsimp only; omega⟩
    rintro ⟨k, vO, iv2, D2, w2⟩ ⟨hk, hex, hcn⟩
    obtain ⟨hvO, hls, hg2, hI2⟩ := hex
    dsimp only at hk hcn hvO hls hg2 hI2 ⊢
    refine sc_seq ?_
    refine sc_seq ?_
    refine sc_region ?_
    refine qs (y_move RF) ?_
    refine qs (y_move RF) ?_
    refine qs (y_lss RF RF) ?_
    refine sq_nil ?_
    refine sx_then ?_
    refine scp (fun hc1 => ?_) (fun hc1 => ?_)
    ·
      have hk' : k < n := by omega
      have hcap2 : iv2.length + 8 ^ (r - 1) ≤ 10000000 := by
        have h1 : (k + 1) * 8 ^ (r - 1) ≤ 8 * 8 ^ (r - 1) := Nat.mul_le_mul_right _ (by omega)
        rw [Nat.succ_mul] at h1
        omega
      refine sc_skip ?_
      refine sx_then ?_
      refine sc_seq ?_
      refine sc_block ?_
      refine sc_seq ?_
      refine sc_region ?_
      refine qs (y_move RF) ?_
      refine qs (y_move RF) ?_
      refine qy (yc Tryd.call103 E2 (fun w1 hw1 => has103n w1 ab cb nb b hbl ((hb.grow hg2).at hw1 MM) (k : Int))) ?_
      refine qs (y_not RF) ?_
      refine sq_nil ?_
      refine sx_then ?_
      refine scp (fun hc2 => ?_) (fun hc2 => ?_)
      ·
        have hnot : ¬ (k : Int) ∈ b := by simpa using hc2
        refine sc_region ?_
        refine qs (y_move RF) ?_
        refine sq_bs Tryd.underlying25 ei3 (EvI.nil) (by simp) rfl rfl rfl (fun b26 => ?_)
        refine sq_blk_own0 (sz := 1) (c := 0) RM rfl (Nat.zero_le _) ?_
        refine qs (y_move RF) ?_
        refine sq_append_rows (news := b.flatMap iRow) Tryd.underlying25 ei3 Tryd.sizeOf3 rfl (by decide) RF RM RF hbn (by rw [iflat_len, hbl, Nat.mul_one]) (fun ad had w1 hw1 => RowsA.cells (row := iRow) iRow_len (by decide) (by rw [← had]; exact (hb.grow hg2).at hw1 MM)) (iflat_one _) (by omega) rfl (fun v28 ho28 => ?_)
        rw [Nat.zero_add nb, List.nil_append]
        refine qs (y_move RF) ?_
        refine sq_bs Tryd.underlying25 ei3 (EvI.cons RF EvI.nil) (by first | (simp [Value.cells]; done) | (simp [Value.cells]; rfl) | (simp [Value.cells]; and_intros <;> rfl)) rfl rfl rfl (fun b30 => ?_)
        refine sq_append (news := [Value.int .i64 (k : Int)]) Tryd.underlying25 ei3 rfl (by decide) RF RM RF rfl (fun _ hw => news_blk hw MM) (by simp [Value.oneCell']) (by omega) rfl (fun v31 ho31 => ?_)
        rw [show b.flatMap iRow ++ [Value.int .i64 (k : Int)] = (b ++ [(k : Int)]).flatMap iRow from by rw [List.flatMap_append]; rfl]
        refine sq_own_dest (v := v31) (e := 3) (sz := 1) (m := nb + 1) (xs := (b ++ [(k : Int)]).flatMap iRow) MM (fun a31 c31 hv31 hmc31 hn31 => ?_)
        subst hv31
        refine sq_join (r := .own (.slice a31 (nb + 1) c31) 3 1 (nb + 1) ((b ++ [(k : Int)]).flatMap iRow)) RMS1 (fun wj hgj hoj => ?_)
        have hrk := own_atS (D := D2) (l := (b ++ [(k : Int)])) hoj (by simp [hbl]) (by omega)
        generalize (fun k_1 => D2 k_1 ∨ (Res.own (.slice a31 (nb + 1) c31) 3 1 (nb + 1) ((b ++ [(k : Int)]).flatMap iRow)).dom k_1) = Dj at *
        refine qs (y_move RF) ?_
        refine sq_call_fr (first := []) (caps := []) (vs := [.int .i64 (n : Int), .slice a31 (nb + 1) c31, vO]) (rs1 := .own vO 25 1 iv2.length (iv2.map slV) :: .set Dj wj :: .reg 0 w0 :: []) (Z := ExS) (fun q => q.v) (fun q => .own q.v 25 1 q.iv.length (q.iv.map slV) :: .set q.D q.w :: .reg 0 w0 :: []) (fun q => ExOk (exO n (r - 1) (b ++ [(k : Int)])) iv2 Dj wj q) RF Tryd.call81 E3 (by repeat (first | exact Rems.nil | apply Rems.cons (by repeat (first | exact Rem.here | apply Rem.there)))) (fun w1 hw1 => (ih hr0 (b ++ [(k : Int)]) (nb + 1) a31 c31 vO iv2 Dj wj _ w1 (by simp [hbl]) (by omega) hcap2 hvO hrk (fun x hx => (hI2 x hx).grow hgj) hw1).mono (fun e w' h => h)) rfl (fun q hq => ?_)
        refine qs (y_assign RF) ?_
        refine sq_nil ?_
        refine sx_blk ?_
        refine sx_then ?_
        refine sc_region ?_
        refine qs (y_move RF) ?_
        refine qs (y_add RF RF (by omega)) ?_
        refine qs (y_assign RF) ?_
        refine sq_nil ?_
        refine sx_round ((k + 1, q)) ?_ ?_ SU SR
        · refine ⟨by dsimp only; omega, ⟨hq.one, ?_, (hg2.trans hgj).trans hq.grow, hq.rows⟩, ?_⟩
          · dsimp only
            rw [hq.lists, hls, exK_succ, if_neg hnot, List.append_assoc]
          · dsimp only
            have h1 := hq.len
            have h2 := exO_len hn (r - 1) (b ++ [(k : Int)])
            rw [Nat.succ_mul]
            omega
        · dsimp only; omega
      ·
        have hin : (k : Int) ∈ b := by simpa using hc2
        refine sc_skip ?_
        refine sx_blk ?_
        refine sx_then ?_
        refine sc_region ?_
        refine qs (y_move RF) ?_
        refine qs (y_add RF RF (by omega)) ?_
        refine qs (y_assign RF) ?_
        refine sq_nil ?_
        refine sx_round ((k + 1, ⟨vO, iv2, D2, w2⟩)) ?_ ?_ SU SR
        · refine ⟨by dsimp only; omega, ⟨hvO, ?_, hg2, hI2⟩, ?_⟩
          · dsimp only
            rw [hls, exK_succ, if_pos hin, List.append_nil]
          · dsimp only
            rw [Nat.succ_mul]
            omega
        · dsimp only; omega
    ·
      have hkn : k = n := by omega
      subst hkn
      refine sc_exit ?_
      refine sx_then_exit ?_
      refine sx_round_exit ?_
      refine sx_blk_hit ?_
      refine sx_then ?_
      refine sc_seq ?_
      refine sc_region ?_
      refine qs (y_move RF) ?_
      refine qs (y_assign RF) ?_
      refine sq_nil ?_
      refine sx_then ?_
      refine sc_ret ?_
      refine sx_ret1 (.inl rfl) rfl Tryd.results81 RF ?_
      intro w' hw'
      refine ⟨⟨vO, iv2, D2, w2⟩, ⟨hvO, ?_, hg2, hI2⟩, rfl, hw'.sel SR⟩
      dsimp only
      rw [hls, exK_all, show r - 1 + 1 = r by omega]
theorem exAll (w0 : World) {n : Nat} (hn : n ≤ 7) : ∀ r, ExAt w0 n r
  | 0 => ex81 w0 hn 0 fun h => absurd rfl h
  | r + 1 => ex81 w0 hn (r + 1) fun _ => exAll w0 hn r
end Go.Proofs.YtpijahglojichaaDoor
