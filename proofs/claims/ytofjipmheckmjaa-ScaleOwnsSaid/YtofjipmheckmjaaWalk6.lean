/- The walk of the reference's lists. -/
import Derived.Test.YtofjipmheckmjaaWalk5
namespace Go.Proofs.Ytofjipmheckmjaa
open Go Go.Eng Go.RowKit Go.Proofs
set_option maxRecDepth 100000
/-- the reference's lists that begin so -/
def refL (b : Bx) : Nat → List Int → List (List Int)
  | 0, done => if canV b done = true then [done] else []
  | k + 1, done => (List.range 8).flatMap fun i => refL b k (done ++ [((i : Nat) : Int) - 4])
def refJ (b : Bx) (k : Nat) (done : List Int) (j : Nat) : List (List Int) := (List.range j).flatMap fun i => refL b k (done ++ [((i : Nat) : Int) - 4])
theorem refJ_succ (b : Bx) (k : Nat) (done : List Int) (j : Nat) : refJ b k done (j + 1) = refJ b k done j ++ refL b k (done ++ [((j : Nat) : Int) - 4]) := by
  unfold refJ; rw [List.range_succ, List.flatMap_append]; simp
theorem refJ_le (b : Bx) (k : Nat) (done : List Int) {j m : Nat} (h : j + 1 ≤ m) : (refJ b k done (j + 1)).length ≤ (refJ b k done m).length := by
  induction m with
  | zero => omega
  | succ m ih =>
    rcases Nat.lt_or_ge j m with h1 | h1
    · have := ih h1
      rw [refJ_succ b k done m, List.length_append]; omega
    · have : j = m := by omega
      subst this; exact Nat.le_refl _
theorem refL_le (b : Bx) : ∀ (k : Nat) (done : List Int), (refL b k done).length ≤ 8 ^ k
  | 0, done => by unfold refL; split <;> simp
  | k + 1, done => by
    have key : ∀ j, (refJ b k done j).length ≤ j * 8 ^ k := by
      intro j
      induction j with
      | zero => simp [refJ]
      | succ j ih =>
        rw [refJ_succ, List.length_append, Nat.add_mul, Nat.one_mul]
        exact Nat.add_le_add ih (refL_le b k _)
    show (refJ b k done 8).length ≤ _
    rw [Nat.pow_succ, Nat.mul_comm]
    exact key 8
/-- an own slice whose shape is known, to be read -/
theorem own_rd {w0 w : World} {rs : List Res} {al : Option Addr} {cl : Nat} {l : List Int} {e : TypeId} (h : Hp w0 rs w) (hm : Res.own (.slice al l.length cl) e 1 l.length (l.flatMap iRow) ∈ rs) (hl : l.length ≤ 9223372036854775807) : RowsA iRow 1 0 w al l := by
  obtain ⟨a2, c2, h1, _, h2⟩ := own_rowsA (row := iRow) (fun _ => rfl) (h.ok _ hm) rfl hl
  injection h1 with h1 _ _
  rw [h1]; exact h2
theorem sel_mid (r : Res) : ∀ (F xs : List Res), Sel (F ++ r :: xs) (r :: (F ++ xs))
  | [], _ => Sel.refl _
  | _ :: F, xs => Sel.cons (.there .here) (sel_mid r F xs)

theorem lists90 {w0 : World} {b : Bx} {a : Option Addr} {c : Nat} (hok : bxB b = true) (hB : RowsA kdRow 3 0 w0 a b.kinds) : ∀ (k : Nat) (done : List Int), b.kinds.length = done.length + k → ∀ (F : List Res) (iv : List (Value × List Int)) (vo vh : Value) (w : World), vo.oneCell' = true → vh.oneCell' = true → iv.length + (refL b k done).length ≤ 100000 → Hp w0 (.own vo 27 1 iv.length (iv.reverse.map (·.1)) :: .own vh 3 1 done.length (done.flatMap iRow) :: .reg 0 w0 :: (F ++ inner iv)) w →
    Calls Try.prog 90 #[.agg (bxRow b a c).toArray, vh, vo] w fun e w' => ∃ y : Value × List (Value × List Int), e = .returned y.1 ∧ y.1.oneCell' = true ∧ y.2.reverse.map (·.2) = iv.reverse.map (·.2) ++ refL b k done ∧ Hp w0 (.own y.1 27 1 y.2.length (y.2.reverse.map (·.1)) :: .reg 0 w0 :: (F ++ inner y.2)) w' := by
  have hbp := bxB_parts hok
  have hblen := hB.len
  intro k
  induction k with
  | zero =>
    intro done hk F iv vo vh w hvo hvh hM hw
    obtain ⟨ah, ch, rfl, _, _⟩ := own_rowsA (row := iRow) (fun _ => rfl) (hw.ok (Res.own vh 3 1 done.length (done.flatMap iRow)) (.tail _ (.head _))) rfl (by omega)
    by_cases hcan : canV b done = true
    · -- a list
      refine calls_of_SCr (args := [.agg (bxRow b a c).toArray, .slice ah done.length ch, vo]) Try.func90 rfl Try.ntmps90 rfl hw ?_
      simp only [argL, Nat.reduceAdd, Nat.zero_add]
      refine sc_seq ?_
      refine sc_region ?_
      refine sq_box RF rfl (fun b3 => ?_)
      refine qs (y_assign RF) ?_
      refine sq_nil ?_
      refine sx_then ?_
      refine sc_seq ?_
      refine sc_seq ?_
      refine sc_region ?_
      refine qs (y_move RF) ?_
      refine qs (y_len Try.underlying27 RF) ?_
      refine qs FA26_22 ?_
      refine qs LD22 ?_
      refine qs (y_len Try.underlying22 RF) ?_
      refine qs (y_eql RF RF) ?_
      refine sq_nil ?_
      refine sx_then ?_
      refine scp (fun hc0 => ?_) (fun hc0 => ?_)
      ·
        refine sc_seq ?_
        refine sc_seq ?_
        refine sc_region ?_
        refine qs LD26 ?_
        refine qs (y_move RF) ?_
        refine qy (yc Try.call38 E2 (fun w1 hw1 => (can38 w1 b a c (hB.at hw1 MM) hok ah ch done (own_rd hw1 MM (by omega))).mono (fun e w' h => ⟨h.1.trans (by rw [hcan]), h.2⟩))) ?_
        refine sq_nil ?_
        refine sx_then ?_
        refine sc_t (lk_bool rfl (rfl)) ?_
        refine sc_seq ?_
        refine sc_region ?_
        refine qs (y_move RF) ?_
        refine qs (y_move RF) ?_
        refine sq_bsv Try.underlying68 ei27 RF rfl rfl (fun b19 => ?_)
        refine sq_append (news := [.slice ah done.length ch]) Try.underlying68 ei27 rfl (by decide) RF RM RF rfl (fun _ hw => news_blk hw MM) (by simp [Value.oneCell']) (by rw [show refL b 0 done = [done] from by unfold refL; rw [if_pos hcan]] at hM; simp only [List.length_cons, List.length_nil] at hM; omega) rfl (fun v20 ho20 => ?_)
        rw [show iv.reverse.map (·.1) ++ [Value.slice ah done.length ch] = ((Value.slice ah done.length ch, done) :: iv).reverse.map (·.1) from by simp]
        refine qs (y_assign RF) ?_
        refine sq_nil ?_
        refine sx_then ?_
        refine sc_ret ?_
        refine sx_then_ret ?_
        refine sx_then_ret ?_
        refine sx_ret1 (.inl rfl) rfl Try.results90 RF ?_
        intro w' hw'
        have h1 : Hp w0 (.own v20 27 1 ((Value.slice ah done.length ch, done) :: iv).length (((Value.slice ah done.length ch, done) :: iv).reverse.map (·.1)) :: .reg 0 w0 :: .own (.slice ah done.length ch) 3 1 done.length (done.flatMap iRow) :: (F ++ inner iv)) w' := hw'.sel SR
        exact ⟨(v20, (.slice ah done.length ch, done) :: iv), rfl, ho20, by unfold refL; rw [if_pos hcan]; simp, h1.sel (Sel.cons .here (Sel.cons .here (sel_mid _ _ _)))⟩
      ·
        omega
    · have hcanf : canV b done = false := by simpa using hcan
      refine calls_of_SCr (args := [.agg (bxRow b a c).toArray, .slice ah done.length ch, vo]) Try.func90 rfl Try.ntmps90 rfl hw ?_
      simp only [argL, Nat.reduceAdd, Nat.zero_add]
      refine sc_seq ?_
      refine sc_region ?_
      refine sq_box RF rfl (fun b3 => ?_)
      refine qs (y_assign RF) ?_
      refine sq_nil ?_
      refine sx_then ?_
      refine sc_seq ?_
      refine sc_seq ?_
      refine sc_region ?_
      refine qs (y_move RF) ?_
      refine qs (y_len Try.underlying27 RF) ?_
      refine qs FA26_22 ?_
      refine qs LD22 ?_
      refine qs (y_len Try.underlying22 RF) ?_
      refine qs (y_eql RF RF) ?_
      refine sq_nil ?_
      refine sx_then ?_
      refine scp (fun hc0 => ?_) (fun hc0 => ?_)
      ·
        refine sc_seq ?_
        refine sc_seq ?_
        refine sc_region ?_
        refine qs LD26 ?_
        refine qs (y_move RF) ?_
        refine qy (yc Try.call38 E2 (fun w1 hw1 => (can38 w1 b a c (hB.at hw1 MM) hok ah ch done (own_rd hw1 MM (by omega))).mono (fun e w' h => ⟨h.1.trans (by rw [hcanf]), h.2⟩))) ?_
        refine sq_nil ?_
        refine sx_then ?_
        refine sc_f (lk_bool rfl (rfl)) ?_
        refine sc_skip ?_
        refine sx_then ?_
        refine sc_seq ?_
        refine sc_region ?_
        refine qs (y_move RF) ?_
        refine qs (y_assign RF) ?_
        refine sq_nil ?_
        refine sx_then ?_
        refine sc_ret ?_
        refine sx_then_ret ?_
        refine sx_ret1 (.inl rfl) rfl Try.results90 RF ?_
        intro w' hw'
        exact ⟨(vo, iv), rfl, hvo, by unfold refL; rw [if_neg hcan]; simp, hw'.sel SR⟩
      ·
        omega
  | succ k ih =>
    intro done hk F iv vo vh w hvo hvh hM hw
    obtain ⟨ah, ch, rfl, _, _⟩ := own_rowsA (row := iRow) (fun _ => rfl) (hw.ok (Res.own vh 3 1 done.length (done.flatMap iRow)) (.tail _ (.head _))) rfl (by omega)
    have hE : refL b (k + 1) done = refJ b k done 8 := rfl
    rw [hE] at hM ⊢
    have hnil : ah = none → done.length = 0 := fun e => by subst e; exact own_none hw (.tail _ (.head _))
    refine calls_of_SCr (args := [.agg (bxRow b a c).toArray, .slice ah done.length ch, vo]) Try.func90 rfl Try.ntmps90 rfl hw ?_
    simp only [argL, Nat.reduceAdd, Nat.zero_add]
    refine sc_seq ?_
    refine sc_region ?_
    refine sq_box RF rfl (fun b3 => ?_)
    refine qs (y_assign RF) ?_
    refine sq_nil ?_
    refine sx_then ?_
    refine sc_seq ?_
    refine sc_seq ?_
    refine sc_region ?_
    refine qs (y_move RF) ?_
    refine qs (y_len Try.underlying27 RF) ?_
    refine qs FA26_22 ?_
    refine qs LD22 ?_
    refine qs (y_len Try.underlying22 RF) ?_
    refine qs (y_eql RF RF) ?_
    refine sq_nil ?_
    refine sx_then ?_
    refine scp (fun hc0 => ?_) (fun hc0 => ?_)
    ·
      omega
    ·
      refine sc_skip ?_
      refine sx_then ?_
      refine sc_seq ?_
      refine sc_seq ?_
      refine sc_region ?_
      refine qs (y_assign RF) ?_
      refine sq_nil ?_
      refine sx_then ?_
      refine sc_block ?_
      refine sc_loop (σ := Nat × Value × List (Value × List Int))
        (fun s => [(1, .slice ah done.length ch), (2, s.2.1), (3, .pointer (some ⟨b3, 0, none⟩)), (7, .int .i64 (((s.1 : Nat) : Int) - 4))])
        (fun s => .own s.2.1 27 1 s.2.2.length (s.2.2.reverse.map (·.1)) :: .own (.slice ah done.length ch) 3 1 done.length (done.flatMap iRow) :: .blk b3 (.cells (bxRow b a c).toArray 26 (0, 0)) :: .reg 0 w0 :: (F ++ inner s.2.2))
        (fun s => s.1 ≤ 8 ∧ s.2.1.oneCell' = true ∧ s.2.2.reverse.map (·.2) = iv.reverse.map (·.2) ++ refJ b k done s.1)
        (fun s => 8 - s.1)
        ((0, vo, iv)) ?_ SU SR ?_
      · exact ⟨Nat.zero_le _, hvo, by simp [refJ]⟩
      rintro ⟨j, vo, iz⟩ ⟨hj, hvo, hiz⟩
      dsimp only at hj hvo hiz ⊢
      refine sc_seq ?_
      refine sc_seq ?_
      refine sc_region ?_
      refine qs (y_move RF) ?_
      refine qs (y_leq RF RF) ?_
      refine sq_nil ?_
      refine sx_then ?_
      refine scp (fun hc2 => ?_) (fun hc2 => ?_)
      ·
        have hj' : j + 1 ≤ 8 := by omega
        have hle := refJ_le b k done hj'
        have hizl : iz.length = iv.length + (refJ b k done j).length := by
          have := congrArg List.length hiz
          simpa using this
        rw [refJ_succ, List.length_append] at hle
        refine sc_skip ?_
        refine sx_then ?_
        refine sc_seq ?_
        refine sc_block ?_
        refine sc_drawX ([.blk b3 (.cells (bxRow b a c).toArray 26 (0, 0)), .reg 0 w0]) (by kernel_rfl) ?_
        refine xj_s 0 RF (by kernel_rfl) SR LD26 rfl ?_
        refine xj_s 2 RF (by kernel_rfl) SR (y_move RF) rfl ?_
        refine xj_s 4 RF (by kernel_rfl) SR (y_move RF) rfl ?_
        refine xj_s 7 RF (by kernel_rfl) SR (y_move RF) rfl ?_
        refine xj_all (l := [1, 5]) (by kernel_rfl) (by simp) (Each.cons ⟨_, rfl, ?_⟩ (Each.cons ⟨_, rfl, ?_⟩ Each.nil))
        ·
          refine sq_bs Try.underlying27 ei3 (EvI.nil) (by simp) rfl rfl rfl (fun b27 => ?_)
          refine sq_blk_own0 (sz := 1) (c := 0) RM rfl (Nat.zero_le _) ?_
          refine sq_nil ?_
          refine sx_xp SR ?_
          refine xj_all (l := [3, 5]) (by kernel_rfl) (by simp) (Each.cons ⟨_, rfl, ?_⟩ (Each.cons ⟨_, rfl, ?_⟩ Each.nil))
          ·
            refine sq_append_rows (news := done.flatMap iRow) Try.underlying27 ei3 Try.sizeOf3 rfl (by decide) RF RM RF hnil (by rw [Nat.mul_one]; exact flat_ilen done) (fun ad e w1 hw1 => by subst e; exact own_news hw1 MM) (flat_ione done) (by omega) rfl (fun v29 ho29 => ?_)
            refine sq_nil ?_
            refine sx_xp SR ?_
            refine xj_one 5 RF (by kernel_rfl) ?_
            refine sq_bs Try.underlying27 ei3 (EvI.cons RF EvI.nil) (by first | (simp [Value.cells]; done) | (simp [Value.cells]; rfl) | (simp [Value.cells]; and_intros <;> rfl)) rfl rfl rfl (fun b31 => ?_)
            refine sq_nil ?_
            refine sx_xp SR ?_
            refine xj_one 6 RF (by kernel_rfl) ?_
            refine sq_append (news := [.int .i64 (((j : Nat) : Int) - 4)]) Try.underlying27 ei3 rfl (by decide) RF RM RF rfl (fun _ hw => news_blk hw MM) (by simp [Value.oneCell']) (by omega) rfl (fun v32 ho32 => ?_)
            refine sq_nil ?_
            refine sx_xp SR ?_
            refine xj_one 8 RF (by kernel_rfl) ?_
            refine sq_call (first := []) (caps := []) (Z := Value × List (Value × List Int)) (fun y => y.1) (fun y => .own y.1 27 1 y.2.length (y.2.reverse.map (·.1)) :: .own (.slice ah done.length ch) 3 1 done.length (done.flatMap iRow) :: .blk b3 (.cells (bxRow b a c).toArray 26 (0, 0)) :: .reg 0 w0 :: (F ++ inner y.2)) (fun y => y.1.oneCell' = true ∧ y.2.reverse.map (·.2) = iz.reverse.map (·.2) ++ refL b k (done ++ [((j : Nat) : Int) - 4])) RF Try.call90 (EvL.cons RF (EvL.cons RF (EvL.cons RF EvL.nil))) (fun w1 hw1 => (ih (done ++ [((j : Nat) : Int) - 4]) (by simp; omega) (.own (.slice ah done.length ch) 3 1 done.length (done.flatMap iRow) :: .blk b3 (.cells (bxRow b a c).toArray 26 (0, 0)) :: F) iz vo v32 w1 hvo ho32 (by omega) (by simp only [flat_add, List.length_append, List.length_cons, List.length_nil, Nat.zero_add, List.cons_append]; rw [Nat.zero_add, List.nil_append] at *; exact hw1.sel SR)).mono (fun e w' ⟨y, h1, h2, h3, h4⟩ => ⟨y, ⟨h2, h3⟩, h1, h4.sel SR⟩)) rfl (fun y hy => ?_)
            refine sq_nil ?_
            refine sx_xp SR ?_
            refine xj_s 9 RF (by kernel_rfl) SR (y_assign RF) rfl ?_
            refine xj_done (by kernel_rfl) ?_
            refine sx_blk ?_
            refine sx_then ?_
            refine sc_region ?_
            refine qs (y_move RF) ?_
            refine qs (y_add RF RF (by omega)) ?_
            refine qs (y_assign RF) ?_
            refine sq_nil ?_
            refine sx_round ((j + 1, y.1, y.2)) ?_ ?_ SU SR
            · refine ⟨by omega, hy.1, ?_⟩
              rw [refJ_succ, hy.2, hiz, List.append_assoc]
            · omega
          ·
            refine sq_bs Try.underlying27 ei3 (EvI.cons RF EvI.nil) (by first | (simp [Value.cells]; done) | (simp [Value.cells]; rfl) | (simp [Value.cells]; and_intros <;> rfl)) rfl rfl rfl (fun b31 => ?_)
            refine sq_nil ?_
            refine sx_xp SR ?_
            refine xj_one 3 RF (by kernel_rfl) ?_
            refine sq_append_rows (news := done.flatMap iRow) Try.underlying27 ei3 Try.sizeOf3 rfl (by decide) RF RM RF hnil (by rw [Nat.mul_one]; exact flat_ilen done) (fun ad e w1 hw1 => by subst e; exact own_news hw1 MM) (flat_ione done) (by omega) rfl (fun v29 ho29 => ?_)
            refine sq_nil ?_
            refine sx_xp SR ?_
            refine xj_one 6 RF (by kernel_rfl) ?_
            refine sq_append (news := [.int .i64 (((j : Nat) : Int) - 4)]) Try.underlying27 ei3 rfl (by decide) RF RM RF rfl (fun _ hw => news_blk hw MM) (by simp [Value.oneCell']) (by omega) rfl (fun v32 ho32 => ?_)
            refine sq_nil ?_
            refine sx_xp SR ?_
            refine xj_one 8 RF (by kernel_rfl) ?_
            refine sq_call (first := []) (caps := []) (Z := Value × List (Value × List Int)) (fun y => y.1) (fun y => .own y.1 27 1 y.2.length (y.2.reverse.map (·.1)) :: .own (.slice ah done.length ch) 3 1 done.length (done.flatMap iRow) :: .blk b3 (.cells (bxRow b a c).toArray 26 (0, 0)) :: .reg 0 w0 :: (F ++ inner y.2)) (fun y => y.1.oneCell' = true ∧ y.2.reverse.map (·.2) = iz.reverse.map (·.2) ++ refL b k (done ++ [((j : Nat) : Int) - 4])) RF Try.call90 (EvL.cons RF (EvL.cons RF (EvL.cons RF EvL.nil))) (fun w1 hw1 => (ih (done ++ [((j : Nat) : Int) - 4]) (by simp; omega) (.own (.slice ah done.length ch) 3 1 done.length (done.flatMap iRow) :: .blk b3 (.cells (bxRow b a c).toArray 26 (0, 0)) :: F) iz vo v32 w1 hvo ho32 (by omega) (by simp only [flat_add, List.length_append, List.length_cons, List.length_nil, Nat.zero_add, List.cons_append]; rw [Nat.zero_add, List.nil_append] at *; exact hw1.sel SR)).mono (fun e w' ⟨y, h1, h2, h3, h4⟩ => ⟨y, ⟨h2, h3⟩, h1, h4.sel SR⟩)) rfl (fun y hy => ?_)
            refine sq_nil ?_
            refine sx_xp SR ?_
            refine xj_s 9 RF (by kernel_rfl) SR (y_assign RF) rfl ?_
            refine xj_done (by kernel_rfl) ?_
            refine sx_blk ?_
            refine sx_then ?_
            refine sc_region ?_
            refine qs (y_move RF) ?_
            refine qs (y_add RF RF (by omega)) ?_
            refine qs (y_assign RF) ?_
            refine sq_nil ?_
            refine sx_round ((j + 1, y.1, y.2)) ?_ ?_ SU SR
            · refine ⟨by omega, hy.1, ?_⟩
              rw [refJ_succ, hy.2, hiz, List.append_assoc]
            · omega
        ·
          refine sq_bs Try.underlying27 ei3 (EvI.cons RF EvI.nil) (by first | (simp [Value.cells]; done) | (simp [Value.cells]; rfl) | (simp [Value.cells]; and_intros <;> rfl)) rfl rfl rfl (fun b31 => ?_)
          refine sq_nil ?_
          refine sx_xp SR ?_
          refine xj_one 1 RF (by kernel_rfl) ?_
          refine sq_bs Try.underlying27 ei3 (EvI.nil) (by simp) rfl rfl rfl (fun b27 => ?_)
          refine sq_blk_own0 (sz := 1) (c := 0) RM rfl (Nat.zero_le _) ?_
          refine sq_nil ?_
          refine sx_xp SR ?_
          refine xj_one 3 RF (by kernel_rfl) ?_
          refine sq_append_rows (news := done.flatMap iRow) Try.underlying27 ei3 Try.sizeOf3 rfl (by decide) RF RM RF hnil (by rw [Nat.mul_one]; exact flat_ilen done) (fun ad e w1 hw1 => by subst e; exact own_news hw1 MM) (flat_ione done) (by omega) rfl (fun v29 ho29 => ?_)
          refine sq_nil ?_
          refine sx_xp SR ?_
          refine xj_one 6 RF (by kernel_rfl) ?_
          refine sq_append (news := [.int .i64 (((j : Nat) : Int) - 4)]) Try.underlying27 ei3 rfl (by decide) RF RM RF rfl (fun _ hw => news_blk hw MM) (by simp [Value.oneCell']) (by omega) rfl (fun v32 ho32 => ?_)
          refine sq_nil ?_
          refine sx_xp SR ?_
          refine xj_one 8 RF (by kernel_rfl) ?_
          refine sq_call (first := []) (caps := []) (Z := Value × List (Value × List Int)) (fun y => y.1) (fun y => .own y.1 27 1 y.2.length (y.2.reverse.map (·.1)) :: .own (.slice ah done.length ch) 3 1 done.length (done.flatMap iRow) :: .blk b3 (.cells (bxRow b a c).toArray 26 (0, 0)) :: .reg 0 w0 :: (F ++ inner y.2)) (fun y => y.1.oneCell' = true ∧ y.2.reverse.map (·.2) = iz.reverse.map (·.2) ++ refL b k (done ++ [((j : Nat) : Int) - 4])) RF Try.call90 (EvL.cons RF (EvL.cons RF (EvL.cons RF EvL.nil))) (fun w1 hw1 => (ih (done ++ [((j : Nat) : Int) - 4]) (by simp; omega) (.own (.slice ah done.length ch) 3 1 done.length (done.flatMap iRow) :: .blk b3 (.cells (bxRow b a c).toArray 26 (0, 0)) :: F) iz vo v32 w1 hvo ho32 (by omega) (by simp only [flat_add, List.length_append, List.length_cons, List.length_nil, Nat.zero_add, List.cons_append]; rw [Nat.zero_add, List.nil_append] at *; exact hw1.sel SR)).mono (fun e w' ⟨y, h1, h2, h3, h4⟩ => ⟨y, ⟨h2, h3⟩, h1, h4.sel SR⟩)) rfl (fun y hy => ?_)
          refine sq_nil ?_
          refine sx_xp SR ?_
          refine xj_s 9 RF (by kernel_rfl) SR (y_assign RF) rfl ?_
          refine xj_done (by kernel_rfl) ?_
          refine sx_blk ?_
          refine sx_then ?_
          refine sc_region ?_
          refine qs (y_move RF) ?_
          refine qs (y_add RF RF (by omega)) ?_
          refine qs (y_assign RF) ?_
          refine sq_nil ?_
          refine sx_round ((j + 1, y.1, y.2)) ?_ ?_ SU SR
          · refine ⟨by omega, hy.1, ?_⟩
            rw [refJ_succ, hy.2, hiz, List.append_assoc]
          · omega
      ·
        refine sc_exit ?_
        refine sx_then_exit ?_
        refine sx_round_exit ?_
        refine sx_blk_hit ?_
        refine sx_then ?_
        refine sc_seq ?_
        refine sc_region ?_
        refine qs (y_move RF) ?_
        refine qs (y_assign RF) ?_
        refine sq_nil ?_
        refine sx_then ?_
        refine sc_ret ?_
        refine sx_ret1 (.inl rfl) rfl Try.results90 RF ?_
        intro w' hw'
        have hj8 : j = 8 := by omega
        subst hj8
        exact ⟨(vo, iz), rfl, hvo, hiz, hw'.sel SR⟩
end Go.Proofs.Ytofjipmheckmjaa
