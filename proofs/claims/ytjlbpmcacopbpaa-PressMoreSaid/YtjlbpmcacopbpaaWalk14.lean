/- The walk of the reference's orders. -/
import Derived.Test.YtjlbpmcacopbpaaWalk13
namespace Go.Proofs.Ytjlbpmcacopbpaa
open Go Go.Eng Go.RowKit Go.Proofs
set_option maxRecDepth 100000
theorem flat_add (done : List Int) (n : Int) : (done ++ [n]).flatMap iRow = done.flatMap iRow ++ [.int .i64 n] := by simp [iRow]
theorem flat_ilen (done : List Int) : (done.flatMap iRow).length = done.length := by
  have := flat_len (row := iRow) (sz := 1) (fun _ => rfl) done; omega
theorem flat_ione (l : List Int) : ∀ u ∈ l.flatMap iRow, u.oneCell' = true := flat_one (fun _ u hu => by simp [iRow] at hu; subst hu; rfl) l
structure LLA (lo : Nat) (wr : World) (a : Option Addr) (f : Nat → Option Addr) (cf : Nat → Nat) (ll : List (List Int)) : Prop where
  el : ∀ i h, ll[i]? = some h → a.isSome = true ∧ CA lo wr (elt a i 1) [.slice (f i) h.length (cf i)] ∧ RowsA iRow 1 lo wr (f i) h
  len : ll.length ≤ 9223372036854775807
theorem LLA.at {w0 rs w lo wr a f cf ll} (h : LLA lo wr a f cf ll) (hw : Hp w0 rs w) (hm : Res.reg lo wr ∈ rs) : LLA 0 w a f cf ll := ⟨fun i x hi => ⟨(h.el i x hi).1, CA.at (h.el i x hi).2.1 hw hm, (h.el i x hi).2.2.at hw hm⟩, h.len⟩
theorem LLA.low {w lo lo' a f cf ll} (h : LLA lo w a f cf ll) (hl : lo' ≤ lo) : LLA lo' w a f cf ll := ⟨fun i x hi => ⟨(h.el i x hi).1, (h.el i x hi).2.1.low hl, (h.el i x hi).2.2.low hl⟩, h.len⟩
def inner (iv : List (Value × List Int)) : List Res := iv.map fun p => .own p.1 3 1 p.2.length (p.2.flatMap iRow)
def vRow (v : Value) : List Value := [v]
def capA : Value → Nat
  | .slice _ _ c => c
  | _ => 0
theorem flat_v (l : List Value) : l.flatMap vRow = l := by induction l with | nil => rfl | cons a l ih => rw [List.flatMap_cons, ih]; rfl
theorem lists_new {w0 w : World} {rs : List Res} (hw : Hp w0 rs w) {e : TypeId} {vo : Value} {iv : List (Value × List Int)} (ho : Res.own vo e 1 iv.length (iv.reverse.map (·.1)) ∈ rs) (hi : ∀ r, r ∈ inner iv → r ∈ rs) (hm : Res.reg 0 w0 ∈ rs) (hlen : ∀ p, p ∈ iv → p.2.length ≤ 1000000) (hb : iv.length ≤ 1000000) :
    ∃ a f c cf, vo = .slice a iv.length c ∧ LLA w0.heap.size w a f cf (iv.reverse.map (·.2)) := by
  have h1 := own_new_mem hw ho hm
  rw [← flat_v (iv.reverse.map (·.1))] at h1
  obtain ⟨a, c, hv, _, hr⟩ := own_rowsA (row := vRow) (fun _ => rfl) h1 (by simp) (by omega)
  refine ⟨a, fun i => baseA ((iv.reverse.map (·.1)).getD i (.slice none 0 0)), c, fun i => capA ((iv.reverse.map (·.1)).getD i (.slice none 0 0)), hv, ⟨fun i h hih => ?_, by simp; omega⟩⟩
  obtain ⟨p, hp, rfl⟩ : ∃ p, iv.reverse[i]? = some p ∧ p.2 = h := by
    rw [List.getElem?_map] at hih
    cases hp : iv.reverse[i]? with
    | none => rw [hp] at hih; cases hih
    | some p => rw [hp] at hih; simp at hih; exact ⟨p, rfl, hih⟩
  have hpm : p ∈ iv := List.mem_reverse.1 (List.mem_of_getElem? hp)
  have hg : (iv.reverse.map (·.1))[i]? = some p.1 := by rw [List.getElem?_map, hp]; rfl
  have h2 := own_new_mem hw (hi _ (List.mem_map.2 ⟨p, hpm, rfl⟩)) hm
  obtain ⟨a2, c2, hv2, _, hr2⟩ := own_rowsA (row := iRow) (fun _ => rfl) h2 rfl (by have := hlen p hpm; omega)
  have h3 := hr.el i p.1 hg
  have hgd : (iv.reverse.map (·.1)).getD i (.slice none 0 0) = p.1 := by rw [List.getD_eq_getElem?_getD, hg]; rfl
  refine ⟨h3.1, ?_, ?_⟩
  · rw [hgd, hv2]; have := h3.2; rw [hv2] at this; exact this
  · rw [hgd, hv2]; exact hr2

theorem own_rd {w0 w : World} {rs : List Res} {al : Option Addr} {cl : Nat} {l : List Int} {e : TypeId} (h : Hp w0 rs w) (hm : Res.own (.slice al l.length cl) e 1 l.length (l.flatMap iRow) ∈ rs) (hl : l.length ≤ 9223372036854775807) : RowsA iRow 1 0 w al l := by
  obtain ⟨a2, c2, h1, _, h2⟩ := own_rowsA (row := iRow) (fun _ => rfl) (h.ok _ hm) rfl hl
  injection h1 with h1 _ _
  rw [h1]; exact h2
theorem sel_mid (r : Res) : ∀ (F xs : List Res), Sel (F ++ r :: xs) (r :: (F ++ xs))
  | [], _ => Sel.refl _
  | _ :: F, xs => Sel.cons (.there .here) (sel_mid r F xs)


/-- the reference's orders that begin so -/
def refO (n : Nat) : Nat → List Int → List (List Int)
  | 0, done => [done]
  | k + 1, done => (List.range n).flatMap fun j => if hasB done (j : Nat) = true then [] else refO n k (done ++ [((j : Nat) : Int)])
def refOJ (n k : Nat) (done : List Int) (j : Nat) : List (List Int) := (List.range j).flatMap fun j => if hasB done (j : Nat) = true then [] else refO n k (done ++ [((j : Nat) : Int)])
theorem refOJ_succ (n k : Nat) (done : List Int) (j : Nat) : refOJ n k done (j + 1) = refOJ n k done j ++ (if hasB done (j : Nat) = true then [] else refO n k (done ++ [((j : Nat) : Int)])) := by
  unfold refOJ; rw [List.range_succ, List.flatMap_append]; simp
theorem refOJ_le (n k : Nat) (done : List Int) {j m : Nat} (h : j + 1 ≤ m) : (refOJ n k done (j + 1)).length ≤ (refOJ n k done m).length := by
  induction m with
  | zero => omega
  | succ m ih =>
    rcases Nat.lt_or_ge j m with h1 | h1
    · have := ih h1
      rw [refOJ_succ n k done m, List.length_append]; omega
    · have : j = m := by omega
      subst this; exact Nat.le_refl _
theorem refO_le (n : Nat) : ∀ (k : Nat) (done : List Int), (refO n k done).length ≤ n ^ k
  | 0, done => by unfold refO; simp
  | k + 1, done => by
    have key : ∀ j, (refOJ n k done j).length ≤ j * n ^ k := by
      intro j
      induction j with
      | zero => simp [refOJ]
      | succ j ih =>
        rw [refOJ_succ, List.length_append, Nat.add_mul, Nat.one_mul]
        refine Nat.add_le_add ih ?_
        split
        · simp
        · exact refO_le n k _
    show (refOJ n k done n).length ≤ _
    rw [Nat.pow_succ, Nat.mul_comm]
    exact key n

theorem orders66 {w0 : World} (n : Nat) (h7 : n ≤ 7) : ∀ (k : Nat) (done : List Int), n = done.length + k → ∀ (F : List Res) (iv : List (Value × List Int)) (vo vh : Value) (w : World), vo.oneCell' = true → vh.oneCell' = true → iv.length + (refO n k done).length ≤ 1000000 → Hp w0 (.own vo 35 1 iv.length (iv.reverse.map (·.1)) :: .own vh 3 1 done.length (done.flatMap iRow) :: .reg 0 w0 :: (F ++ inner iv)) w →
    Calls Try.prog 66 #[.int .i64 n, vh, vo] w fun e w' => ∃ y : Value × List (Value × List Int), e = .returned y.1 ∧ y.1.oneCell' = true ∧ y.2.reverse.map (·.2) = iv.reverse.map (·.2) ++ refO n k done ∧ Hp w0 (.own y.1 35 1 y.2.length (y.2.reverse.map (·.1)) :: .reg 0 w0 :: (F ++ inner y.2)) w' := by
  intro k
  induction k with
  | zero =>
    intro done hk F iv vo vh w hvo hvh hM hw
    obtain ⟨ah, ch, rfl, _, _⟩ := own_rowsA (row := iRow) (fun _ => rfl) (hw.ok (Res.own vh 3 1 done.length (done.flatMap iRow)) (.tail _ (.head _))) rfl (by omega)
    have hE : refO n 0 done = [done] := rfl
    rw [hE] at hM ⊢
    simp only [List.length_cons, List.length_nil] at hM
    refine calls_of_SCr (args := [.int .i64 n, .slice ah done.length ch, vo]) Try.func66 rfl Try.ntmps66 rfl hw ?_
    simp only [argL, Nat.reduceAdd, Nat.zero_add]
    refine sc_seq ?_
    refine sc_region ?_
    refine qs (y_assign RF) ?_
    refine sq_nil ?_
    refine sx_then ?_
    refine sc_seq ?_
    refine sc_seq ?_
    refine sc_region ?_
    refine qs (y_move RF) ?_
    refine qs (y_len Try.underlying35 RF) ?_
    refine qs (y_move RF) ?_
    refine qs (y_eql RF RF) ?_
    refine sq_nil ?_
    refine sx_then ?_
    refine scp (fun hc0 => ?_) (fun hc0 => ?_)
    ·
      refine sc_seq ?_
      refine sc_region ?_
      refine qs (y_move RF) ?_
      refine qs (y_move RF) ?_
      refine sq_bsv Try.underlying100 ei35 RF rfl rfl (fun b14 => ?_)
      refine sq_append (news := [.slice ah done.length ch]) Try.underlying100 ei35 rfl (by decide) RF RM RF rfl (fun _ hw => news_blk hw MM) (by simp [Value.oneCell']) (by omega) rfl (fun v15 ho15 => ?_)
      rw [show iv.reverse.map (·.1) ++ [Value.slice ah done.length ch] = ((Value.slice ah done.length ch, done) :: iv).reverse.map (·.1) from by simp]
      refine qs (y_assign RF) ?_
      refine sq_nil ?_
      refine sx_then ?_
      refine sc_ret ?_
      refine sx_then_ret ?_
      refine sx_ret1 (.inl rfl) rfl Try.results66 RF ?_
      intro w' hw'
      have h1 : Hp w0 (.own v15 35 1 ((Value.slice ah done.length ch, done) :: iv).length (((Value.slice ah done.length ch, done) :: iv).reverse.map (·.1)) :: .reg 0 w0 :: .own (.slice ah done.length ch) 3 1 done.length (done.flatMap iRow) :: (F ++ inner iv)) w' := hw'.sel SR
      exact ⟨(v15, (.slice ah done.length ch, done) :: iv), rfl, ho15, by simp, h1.sel (Sel.cons .here (Sel.cons .here (sel_mid _ _ _)))⟩
    ·
      omega
  | succ k ih =>
    intro done hk F iv vo vh w hvo hvh hM hw
    obtain ⟨ah, ch, rfl, _, _⟩ := own_rowsA (row := iRow) (fun _ => rfl) (hw.ok (Res.own vh 3 1 done.length (done.flatMap iRow)) (.tail _ (.head _))) rfl (by omega)
    have hE : refO n (k + 1) done = refOJ n k done n := rfl
    rw [hE] at hM ⊢
    have hnil : ah = none → done.length = 0 := fun e => by subst e; exact own_none hw (.tail _ (.head _))
    refine calls_of_SCr (args := [.int .i64 n, .slice ah done.length ch, vo]) Try.func66 rfl Try.ntmps66 rfl hw ?_
    simp only [argL, Nat.reduceAdd, Nat.zero_add]
    refine sc_seq ?_
    refine sc_region ?_
    refine qs (y_assign RF) ?_
    refine sq_nil ?_
    refine sx_then ?_
    refine sc_seq ?_
    refine sc_seq ?_
    refine sc_region ?_
    refine qs (y_move RF) ?_
    refine qs (y_len Try.underlying35 RF) ?_
    refine qs (y_move RF) ?_
    refine qs (y_eql RF RF) ?_
    refine sq_nil ?_
    refine sx_then ?_
    refine scp (fun hc0 => ?_) (fun hc0 => ?_)
    ·
      omega
    ·
      refine sc_skip ?_
      refine sx_then ?_
      refine sc_seq ?_
      refine sc_seq ?_
      refine sc_region ?_
      refine qs (y_assign RF) ?_
      refine sq_nil ?_
      refine sx_then ?_
      refine sc_block ?_
      refine sc_loop (σ := Nat × Value × List (Value × List Int))
        (fun s => [(0, .int .i64 n), (1, .slice ah done.length ch), (2, s.2.1), (7, .int .i64 s.1)])
        (fun s => (.own s.2.1 35 1 s.2.2.length (s.2.2.reverse.map (·.1)) :: .own (.slice ah done.length ch) 3 1 done.length (done.flatMap iRow) :: .reg 0 w0 :: (F ++ inner s.2.2)))
        (fun s => s.1 ≤ n ∧ s.2.1.oneCell' = true ∧ s.2.2.reverse.map (·.2) = iv.reverse.map (·.2) ++ refOJ n k done s.1)
        (fun s => n - s.1)
        ((0, vo, iv)) ?_ SU SR ?_
      · exact ⟨Nat.zero_le _, hvo, by simp [refOJ]⟩
      rintro ⟨j, vo, iz⟩ ⟨hj, hvo, hiz⟩
      dsimp only at hj hvo hiz ⊢
      refine sc_seq ?_
      refine sc_seq ?_
      refine sc_region ?_
      refine qs (y_move RF) ?_
      refine qs (y_move RF) ?_
      refine qs (y_lss RF RF) ?_
      refine sq_nil ?_
      refine sx_then ?_
      refine scp (fun hc1 => ?_) (fun hc1 => ?_)
      ·
        have hj' : j + 1 ≤ n := by omega
        have hle := refOJ_le n k done hj'
        have hizl : iz.length = iv.length + (refOJ n k done j).length := by
          have := congrArg List.length hiz
          simpa using this
        rw [refOJ_succ, List.length_append] at hle
        refine sc_skip ?_
        refine sx_then ?_
        refine sc_seq ?_
        refine sc_block ?_
        refine sc_seq ?_
        refine sc_region ?_
        refine qs (y_move RF) ?_
        refine qs (y_move RF) ?_
        refine qy (yc Try.call78 E2 (fun w1 hw1 => has78 w1 ah ch done (own_rd hw1 MM (by omega)) j)) ?_
        refine qs (y_not RF) ?_
        refine sq_nil ?_
        refine sx_then ?_
        refine scp (fun hc2 => ?_) (fun hc2 => ?_)
        ·
          have hnh : hasB done (j : Nat) = false := decide_eq_false (by simpa using hc2)
          rw [if_neg (by simp [hnh])] at hle
          refine sc_region ?_
          refine qs (y_move RF) ?_
          refine sq_bs Try.underlying35 ei3 (EvI.nil) (by simp) rfl rfl rfl (fun b26 => ?_)
          refine sq_blk_own0 (sz := 1) (c := 0) RM rfl (Nat.zero_le _) ?_
          refine qs (y_move RF) ?_
          refine sq_append_rows (news := done.flatMap iRow) Try.underlying35 ei3 Try.sizeOf3 rfl (by decide) RF RM RF hnil (by rw [Nat.mul_one]; exact flat_ilen done) (fun ad e w1 hw1 => by subst e; exact own_news hw1 MM) (flat_ione done) (by omega) rfl (fun v28 ho28 => ?_)
          refine qs (y_move RF) ?_
          refine sq_bs Try.underlying35 ei3 (EvI.cons RF EvI.nil) (by first | (simp [Value.cells]; done) | (simp [Value.cells]; rfl) | (simp [Value.cells]; and_intros <;> rfl)) rfl rfl rfl (fun b30 => ?_)
          refine sq_append (news := [.int .i64 ((j : Nat) : Int)]) Try.underlying35 ei3 rfl (by decide) RF RM RF rfl (fun _ hw => news_blk hw MM) (by simp [Value.oneCell']) (by omega) rfl (fun v31 ho31 => ?_)
          refine qs (y_move RF) ?_
          refine sq_call (first := []) (caps := []) (Z := Value × List (Value × List Int)) (fun y => y.1) (fun y => .own y.1 35 1 y.2.length (y.2.reverse.map (·.1)) :: .own (.slice ah done.length ch) 3 1 done.length (done.flatMap iRow) :: .reg 0 w0 :: (F ++ inner y.2)) (fun y => y.1.oneCell' = true ∧ y.2.reverse.map (·.2) = iz.reverse.map (·.2) ++ refO n k (done ++ [((j : Nat) : Int)])) RF Try.call66 (EvL.cons RF (EvL.cons RF (EvL.cons RF EvL.nil))) (fun w1 hw1 => (ih (done ++ [((j : Nat) : Int)]) (by simp; omega) (.own (.slice ah done.length ch) 3 1 done.length (done.flatMap iRow) :: F) iz vo v31 w1 hvo ho31 (by omega) (by simp only [flat_add, List.length_append, List.length_cons, List.length_nil, Nat.zero_add, List.cons_append]; rw [Nat.zero_add, List.nil_append] at *; exact hw1.sel SR)).mono (fun e w' ⟨y, h1, h2, h3, h4⟩ => ⟨y, ⟨h2, h3⟩, h1, h4.sel SR⟩)) rfl (fun y hy => ?_)
          refine qs (y_assign RF) ?_
          refine sq_nil ?_
          refine sx_blk ?_
          refine sx_then ?_
          refine sc_region ?_
          refine qs (y_move RF) ?_
          refine qs (y_add RF RF (by omega)) ?_
          refine qs (y_assign RF) ?_
          refine sq_nil ?_
          refine sx_round ((j + 1, y.1, y.2)) ?_ ?_ SU SR
          · refine ⟨by omega, hy.1, ?_⟩
            rw [refOJ_succ, if_neg (by simp [hnh]), hy.2, hiz, List.append_assoc]
          · omega
        ·
          have hnh : hasB done (j : Nat) = true := decide_eq_true (by simpa using hc2)
          refine sc_skip ?_
          refine sx_blk ?_
          refine sx_then ?_
          refine sc_region ?_
          refine qs (y_move RF) ?_
          refine qs (y_add RF RF (by omega)) ?_
          refine qs (y_assign RF) ?_
          refine sq_nil ?_
          refine sx_round ((j + 1, vo, iz)) ?_ ?_ SU SR
          · refine ⟨by omega, hvo, ?_⟩
            rw [refOJ_succ, if_pos hnh, List.append_nil, hiz]
          · omega
      ·
        refine sc_exit ?_
        refine sx_then_exit ?_
        refine sx_round_exit ?_
        refine sx_blk_hit ?_
        refine sx_then ?_
        refine sc_seq ?_
        refine sc_region ?_
        refine qs (y_move RF) ?_
        refine qs (y_assign RF) ?_
        refine sq_nil ?_
        refine sx_then ?_
        refine sc_ret ?_
        refine sx_ret1 (.inl rfl) rfl Try.results66 RF ?_
        intro w' hw'
        have hjn : n = j := by omega
        subst hjn
        exact ⟨(vo, iz), rfl, hvo, hiz, hw'.sel SR⟩
end Go.Proofs.Ytjlbpmcacopbpaa
