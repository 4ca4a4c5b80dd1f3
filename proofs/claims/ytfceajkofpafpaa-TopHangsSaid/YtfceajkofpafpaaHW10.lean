/- The walk of the law TopHangs. -/
import Derived.Test.YtfceajkofpafpaaLawH3
namespace Go.Proofs.Ytfceajkofpafpaa
open Go Go.Eng Go.RowKit Go.Proofs
open Go.Proofs.Ytfceajkofpafpaa.Sc (iRow spRow sp0 Sp Kd Bx Te Rd kdRow bxRow rdRow teRow getD_of get_of_lt judge16 judgeAns reads14 readAns left18 leftR openE)
set_option maxRecDepth 100000
def kz (k : Kd × Kd) (z : Nat) : Kd := if z = 0 then k.1 else k.2
theorem kc_at (k : Kd × Kd) {z : Nat} (h : z < 2) : (#[.int .i64 k.1.many, .int .i64 k.1.wt.lo, .int .i64 k.1.wt.hi, .int .i64 k.2.many, .int .i64 k.2.wt.lo, .int .i64 k.2.wt.hi] : Array Value)[0 + z * 3 + 0]? = some (.int .i64 (kz k z).many) := by
  rcases (show z = 0 ∨ z = 1 by omega) with rfl | rfl <;> rfl
theorem want_eq (k : Kd × Kd) {z : Nat} (h : z < 2) : wantH k z = ⟨if 0 < (kz k z).many then -1 else 0, if (kz k (1 - z)).many = 0 then -1 else 0⟩ := by
  rcases (show z = 0 ∨ z = 1 by omega) with rfl | rfl <;> rfl
theorem made6 : madeCells (Value.agg #[.int .i64 0, .int .i64 0, .int .i64 0]).cells (2 * 3) = #[.int .i64 0, .int .i64 0, .int .i64 0, .int .i64 0, .int .i64 0, .int .i64 0] := by kernel_rfl
theorem spRow_len (q : Sp) : (spRow q).length = 2 := rfl
theorem kdRow_len (q : Kd) : (kdRow q).length = 3 := rfl
theorem rdRow_len (q : Rd) : (rdRow q).length = 8 := rfl
/-- does a piece lie on the border? -/
def bdB (c : Ct) (p : Nat) : Bool := decide (0 < (sdN c p (nP c + 1)).length) && decide (((sdN c p (nP c + 1)).getD 0 (0, 0)).1 = -1)
/-- Join's answer, to be read -/
def JnF (c : Ct) (ja jb : Int) (lo : Nat) (w' : World) (y : Value × Int) : Prop := y.2 = 0 → JoinOk c ja jb ∧ ∃ sa cs, y.1 = .slice sa (joinC c ja jb).piece.length cs ∧ RowsA iRow 1 lo w' sa (joinC c ja jb).piece
theorem join6r (w : World) (c : Ct) (a : Option Addr) (cp : Nat) (hp : RowsA iRow 1 0 w a c.piece) (ja jb : Int) : Calls Try.prog 6 #[.agg (ctV c a cp).toArray, .int .i64 ja, .int .i64 jb] w fun e w' => ∃ y : Value × Int, e = .returned (.tuple #[.agg (jnV c y).toArray, .int .i64 y.2]) ∧ Below w.heap.size w w' ∧ JnF c ja jb w.heap.size w' y :=
  (join6 w c a cp hp ja jb).mono fun e w' ⟨y, h1, h2, h3⟩ => ⟨y, h1, h2, fun h => by
    obtain ⟨hj, _, ho⟩ := h3 h
    have hlen := hj.1.1.ok.n0
    have hl : (joinC c ja jb).piece.length = c.piece.length := List.length_map ..
    rw [← hl] at ho
    obtain ⟨sa, cs, h5, _, h6⟩ := own_rowsA (row := iRow) iRow_len ho rfl (by omega)
    exact ⟨hj, sa, cs, h5, h6⟩⟩
theorem jnV_len (c : Ct) (y : Value × Int) : (jnV c y).length = 3 := by unfold jnV; split <;> rfl
theorem jnV_one {c : Ct} {ja jb : Int} {lo : Nat} {w' : World} {y : Value × Int} (h : JnF c ja jb lo w' y) : (jnV c y).all (·.oneCell') = true := by
  unfold jnV
  split
  · rename_i h0
    obtain ⟨_, sa, cs, h1, _⟩ := h h0
    rw [h1]; rfl
  · rfl
/-- what is missing, read -/
theorem left18r (w : World) (b : Bx) (a : Option Addr) (c : Nat) (hB : RowsA kdRow 3 0 w a b.kinds) (al : Option Addr) (cl : Nat) (ls : List Rd) (hl : RowsA rdRow 8 0 w al ls) (hsz : (leftR b ls).length ≤ 1000) : Calls Try.prog 13 #[.agg (bxRow b a c).toArray, .slice al ls.length cl] w fun e w' => ∃ q : Option Addr × Nat, e = .returned (.tuple #[.slice q.1 (leftR b ls).length q.2, .int .i64 (openE b ls [])]) ∧ Below w.heap.size w w' ∧ RowsA spRow 2 w.heap.size w' q.1 (leftR b ls) :=
  (left18 w b a c hB al cl ls hl).mono fun e w' ⟨v, h1, h2, h3⟩ => by
    obtain ⟨sa, cs, h5, _, h6⟩ := own_rowsA (row := spRow) spRow_len h3 rfl (by omega)
    exact ⟨(sa, cs), by rw [h1, h5], h2, h6⟩
theorem kdsS_t {c : Ct} {bd : Nat → Bool} {s : Nat} (h : bd s = true) : kdsS c bd (s + 1) = (addK (kdsS c bd s).1 (cntK c s c.piece.length : Nat), (kdsS c bd s).2) := if_pos h
theorem kdsS_f {c : Ct} {bd : Nat → Bool} {s : Nat} (h : ¬ bd s = true) : kdsS c bd (s + 1) = ((kdsS c bd s).1, addK (kdsS c bd s).2 (cntK c s c.piece.length : Nat)) := if_neg h
theorem addK_0 {k : Kd} {n : Int} (h : k.many = 0) : addK k n = ⟨k.many + 1, ⟨min n n, max n n⟩⟩ := by unfold addK; rw [if_pos h, Int.min_self, Int.max_self]
theorem addK_1 {k : Kd} {n : Int} (h : ¬ k.many = 0) : addK k n = ⟨k.many + 1, ⟨min k.wt.lo n, max k.wt.hi n⟩⟩ := if_neg h
theorem eql38 (a b c d : Int) : ∀ w, (binOp .eql 38 (.agg #[.int .i64 a, .int .i64 b]) (.agg #[.int .i64 c, .int .i64 d])).run Try.prog w = .ok (.bool (decide (a = c ∧ b = d))) w := fun w => by
  have h1 := Try.underlying38
  have h2 := Try.underlying3
  have h3 : Try.prog.stoodInHeld 38 = false := by kernel_rfl
  have hf : Try.prog.fieldsOf 38 = #[⟨"Lo", 3, 0, false, "", "", 0⟩, ⟨"Hi", 3, 1, false, "", "", 8⟩] := by kernel_rfl
  have h4 : Try.prog.underlying 38 = some (.struct (Try.prog.fieldsOf 38)) := by rw [hf]; exact h1
  rw [run_eql_struct, run_equalIn_struct w 9999 38 _ _ h4 h3, hf]
  by_cases e1 : a = c <;> by_cases e2 : b = d <;> simp [Op.eqFields, part, run_isAgg_scal h2 rfl, run_equalIn_int w _ 3 .i64 .i64 _ _ h2, e1, e2]
theorem neq38 (a b c d : Int) : ∀ w, (binOp .neq 38 (.agg #[.int .i64 a, .int .i64 b]) (.agg #[.int .i64 c, .int .i64 d])).run Try.prog w = .ok (.bool (!decide (a = c ∧ b = d))) w := fun w => by
  have h := eql38 a b c d w
  rw [run_eql_struct] at h
  rw [run_neq_struct]
  cases hr : (Op.equalIn 10000 38 (.agg #[.int .i64 a, .int .i64 b]) (.agg #[.int .i64 c, .int .i64 d])).run Try.prog w with
  | ok x w1 => rw [hr] at h; simp at h; obtain ⟨h5, h6⟩ := h; subst h6; simp [h5]
  | halt x w1 => rw [hr] at h; simp at h
theorem hangs3 (w : World) (c : Ct) (a : Option Addr) (cp : Nat) (hp : RowsA iRow 1 0 w a c.piece) (ja jb : Int) : Calls Try.prog 3 #[.agg (ctV c a cp).toArray, .int .i64 ja, .int .i64 jb] w fun e w' => e = .returned (.bool true) ∧ Below w.heap.size w w' := by
  have hlen := hp.len
  unfold ctV
  refine calls_of_SC (args := [.agg #[.int .i64 c.wide, .int .i64 c.high, .slice a c.piece.length cp], .int .i64 ja, .int .i64 jb]) Try.func3 rfl Try.ntmps3 rfl ?_
  simp only [argL, Nat.reduceAdd, Nat.zero_add]
  refine sc_seq ?_
  refine sc_region ?_
  refine sq_box RF rfl (fun b3 => ?_)
  refine qs (y_assign RF) ?_
  refine sq_nil ?_
  refine sx_then ?_
  refine sc_seq ?_
  refine sc_seq ?_
  refine sc_region ?_
  refine qs FA24_22 ?_
  refine qs LD22 ?_
  refine qs (y_len Try.underlying22 RF) ?_
  refine qs (y_gtr RF RF) ?_
  refine sq_nil ?_
  refine sx_then ?_
  refine scp (fun hc0 => ?_) (fun hc0 => ?_)
  ·
    refine sc_seq ?_
    refine sc_region ?_
    refine qy (yc Try.call5 E0 (fun w1 _ => awake5 w1)) ?_
    refine qs (y_assign RF) ?_
    refine sq_nil ?_
    refine sx_then ?_
    refine sc_ret ?_
    refine sx_then_ret ?_
    refine sx_ret1 (.inl rfl) rfl Try.results3 RF ?_
    intro w' hw'
    exact ⟨rfl, hw'.below MM⟩
  ·
    refine sc_skip ?_
    refine sx_then ?_
    refine sc_seq ?_
    refine sc_region ?_
    refine qs LD24 ?_
    refine qs (y_move RF) ?_
    refine qs (y_move RF) ?_
    refine sq_call_new (first := []) (caps := []) (Z := Value × Int) (fun y => .tuple #[.agg (jnV c y).toArray, .int .i64 y.2]) (fun lo w' y => JnF c ja jb lo w' y) RF Try.call6 (EvL.cons RF (EvL.cons RF (EvL.cons RF EvL.nil))) (fun w1 hw1 => join6r w1 c a cp (hp.at hw1 MM) ja jb) rfl (fun lo2 wr2 y hy => ?_)
    refine qs (y_move RF) ?_
    refine qs (y_extract RF RF) ?_
    refine qs (y_extract RF RF) ?_
    refine sq_alloc Try.zeroValue24 rfl (fun b7 => ?_)
    refine sq_store_all (vs := jnV c y) Try.sizeOf24 RF RF (jnV_one hy) RM (jnV_len c y) rfl ?_
    refine qs (y_assign RF) ?_
    refine sq_nil ?_
    refine sx_then ?_
    refine sc_seq ?_
    refine sc_seq ?_
    refine sc_region ?_
    refine qs (y_move RF) ?_
    refine qs (y_neq RF RF) ?_
    refine sq_nil ?_
    refine sx_then ?_
    refine scp (fun hc1 => ?_) (fun hc1 => ?_)
    ·
      rw [show jnV c y = [.int .i64 0, .int .i64 0, .slice none 0 0] from if_neg hc1]
      refine sc_seq ?_
      refine sc_region ?_
      refine qs FA24_22 ?_
      refine qs LD22 ?_
      refine qs (y_len Try.underlying22 RF) ?_
      refine qs (y_eql RF RF) ?_
      refine qs (y_move RF) ?_
      refine sq_known (tt := 52) (b' := true) RF (by decide) ?_
      refine sq_gt RF RF (y_call (first := []) (caps := []) RF Try.call5 EvL.nil (fun w1 _ => awake5 w1)) rfl ?_
      refine qs (y_pick_t RF RF) ?_
      refine qs (y_assign RF) ?_
      refine sq_nil ?_
      refine sx_then ?_
      refine sc_ret ?_
      refine sx_then_ret ?_
      refine sx_ret1 (.inl rfl) rfl Try.results3 RF ?_
      intro w' hw'
      exact ⟨rfl, hw'.below MM⟩
    ·
      obtain ⟨hj, sa, cs, hy1, hsa⟩ := hy hc1
      have hjo := join_ok hj
      have hF := hj.1.1.ok
      have hnP := nP_eq hF
      have hn0 := hF.n0
      rw [show jnV c y = [.int .i64 c.wide, .int .i64 c.high, .slice sa (joinC c ja jb).piece.length cs] from by rw [← hy1]; exact if_pos hc1]
      refine sc_skip ?_
      refine sx_then ?_
      refine sc_seq ?_
      refine sc_region ?_
      refine qs LD24 ?_
      refine sq_call_new (first := []) (caps := []) (Z := Int × Int) (fun y => .tuple #[.int .i64 y.1, .int .i64 y.2]) (fun _ _ y => ChkR c y.1 y.2) RF Try.call7 (EvL.cons RF EvL.nil) (fun w1 hw1 => check7 w1 c a cp (hp.at hw1 MM)) rfl (fun lo6 wr6 y6 hy6 => ?_)
      have e6 : y6.2 = 0 := Classical.byContradiction fun h => hy6.2 h hj.1.1
      have n6 := (hy6.1 e6).2
      obtain ⟨z6, e6'⟩ := y6
      dsimp only at e6 n6 ⊢
      rw [e6, n6]
      refine qs (y_move RF) ?_
      refine qs (y_extract RF RF) ?_
      refine qs (y_extract RF RF) ?_
      refine qs (y_assign RF) ?_
      refine qs (y_assign RF) ?_
      refine sq_nil ?_
      refine sx_then ?_
      refine sc_seq ?_
      refine sc_region ?_
      refine qs LD24 ?_
      refine sq_call_new (first := []) (caps := []) (Z := Int × Int) (fun y => .tuple #[.int .i64 y.1, .int .i64 y.2]) (fun _ _ y => ChkR (joinC c ja jb) y.1 y.2) RF Try.call7 (EvL.cons RF EvL.nil) (fun w1 hw1 => check7 w1 (joinC c ja jb) sa cs (hsa.at hw1 MM)) rfl (fun lo7 wr7 y7 hy7 => ?_)
      have e7 : y7.2 = 0 := Classical.byContradiction fun h => hy7.2 h (by rw [hjo.2.1]; exact hjo.1)
      have n7 := (hy7.1 e7).2
      obtain ⟨z7, e7'⟩ := y7
      dsimp only at e7 n7 ⊢
      rw [e7, n7]
      refine qs (y_move RF) ?_
      refine qs (y_extract RF RF) ?_
      refine qs (y_extract RF RF) ?_
      refine qs (y_assign RF) ?_
      refine qs (y_assign RF) ?_
      refine sq_nil ?_
      refine sx_then ?_
      refine sc_seq ?_
      refine sc_seq ?_
      refine sc_region ?_
      refine qs (y_move RF) ?_
      refine qs (y_neq RF RF) ?_
      refine qs (y_move RF) ?_
      refine sq_known (tt := 67) (b' := false) RF (by decide) ?_
      refine qg (y_move RF) ?_
      refine qg (y_neq RF RF) ?_
      refine qs (y_pick_f RF RF) ?_
      refine qs (y_move RF) ?_
      refine sq_known (tt := 71) (b' := false) RF (by decide) ?_
      refine qg (y_move RF) ?_
      refine qg (y_move RF) ?_
      refine qg (y_sub RF RF (by omega)) ?_
      refine qg (y_neq RF RF) ?_
      refine qs (y_pick_f RF RF) ?_
      refine qs (y_move RF) ?_
      refine sq_known (tt := 77) (b' := false) RF (by simp; omega) ?_
      refine qg LD24 ?_
      refine sq_gt RF RF (y_call (first := []) (caps := []) RF Try.call8 (EvL.cons RF EvL.nil) (fun w1 hw1 => cut8 w1 c a cp (hp.at hw1 MM))) rfl ?_
      refine qg (y_not RF) ?_
      refine qs (y_pick_f RF RF) ?_
      refine sq_nil ?_
      refine sx_then ?_
      refine sc_f (lk_bool rfl (by rw [ctF.2 hF]; rfl)) ?_
      refine sc_skip ?_
      refine sx_then ?_
      refine sc_seq ?_
      refine sc_region ?_
      refine sq_make (l := 2) (c := 2) Try.underlying32 ei40 RF RF (by decide) (by decide) (by decide) rfl (fun b82 => ?_)
      rw [made6]
      refine qs (y_assign RF) ?_
      refine sq_nil ?_
      refine sx_then ?_
      refine sc_seq ?_
      refine sc_seq ?_
      refine sc_region ?_
      refine qs (y_move RF) ?_
      refine qs (y_move RF) ?_
      refine sq_nil ?_
      refine sx_then ?_
      refine sc_block ?_
      refine sc_loop (σ := Nat × (Kd × Kd))
        (fun s_ => [(3, .pointer (some ⟨b3, 0, none⟩)), (7, .pointer (some ⟨b7, 0, none⟩)), (9, .int .i64 ((nP c : Nat) : Int)), (11, .int .i64 ((nP (joinC c ja jb) : Nat) : Int)), (13, .slice (some ⟨b82, 0, none⟩) 2 2), (83, .int .i64 ((nP c : Nat) : Int)), (84, .int .i64 s_.1)])
        (fun s_ => [.blk b82 (.cells #[.int .i64 s_.2.1.many, .int .i64 s_.2.1.wt.lo, .int .i64 s_.2.1.wt.hi, .int .i64 s_.2.2.many, .int .i64 s_.2.2.wt.lo, .int .i64 s_.2.2.wt.hi] 40 (0, 0)), .blk b7 (.cells #[.int .i64 c.wide, .int .i64 c.high, .slice sa (joinC c ja jb).piece.length cs] 24 (0, 0)), .blk b3 (.cells #[.int .i64 c.wide, .int .i64 c.high, .slice a c.piece.length cp] 24 (0, 0)), .reg lo2 wr2, .reg 0 w])
        (fun s_ => s_.1 ≤ nP c ∧ s_.2 = kdsS c (bdB c) s_.1)
        (fun s_ => nP c - s_.1)
        ((0, kdsS c (bdB c) 0)) ?_ SU SR ?_
      · exact ⟨Nat.zero_le _, rfl⟩
      rintro ⟨p, k⟩ ⟨hp1, hk⟩
      dsimp only at hp1 hk ⊢
      refine sc_seq ?_
      refine sc_region ?_
      refine qs (y_lss RF RF) ?_
      refine sq_nil ?_
      refine sx_then ?_
      refine sc_seq ?_
      refine scp (fun hc3 => ?_) (fun hc3 => ?_)
      ·
        have hp' : p < nP c := by omega
        have hks0 := kdsS_F hF (bdB c) p
        rw [← hk] at hks0
        have hsum := hks0.sum
        have hm0 := hks0.k0.m0
        have hm1 := hks0.k1.m0
        refine sc_skip ?_
        refine sx_then ?_
        refine sc_seq ?_
        refine sc_block ?_
        refine sc_seq ?_
        refine sc_region ?_
        refine qs (y_move RF) ?_
        refine qs (y_assign RF) ?_
        refine sq_nil ?_
        refine sx_then ?_
        refine sc_seq ?_
        refine sc_region ?_
        refine qs LD24 ?_
        refine qs (y_move RF) ?_
        refine sq_call_new (first := []) (caps := []) (Z := Value × Int) (fun y => .tuple #[y.1, .int .i64 y.2]) (fun lo w' y => SidesF c (p : Int) lo w' y) RF Try.call9 (EvL.cons RF (EvL.cons RF EvL.nil)) (fun w1 hw1 => sides9r w1 c a cp (hp.at hw1 MM) (p : Int)) rfl (fun lo14 wr14 y14 hy14 => ?_)
        have hgd : Good c (p : Int) := ⟨hj.1.1, by omega, by omega⟩
        have hy0 : y14.2 = 0 := Classical.byContradiction fun h => hy14.2 h hgd
        obtain ⟨s14, c14, hy1, hrow⟩ := (hy14.1 hy0).2
        obtain ⟨y1, y2⟩ := y14
        dsimp only at hy0 hy1
        subst hy0
        subst hy1
        refine qs (y_move RF) ?_
        refine qs (y_extract RF RF) ?_
        refine qs (y_extract RF RF) ?_
        refine qs (y_assign RF) ?_
        refine qs (y_assign RF) ?_
        refine sq_nil ?_
        refine sx_then ?_
        refine sc_seq ?_
        refine sc_seq ?_
        refine sc_region ?_
        refine qs (y_move RF) ?_
        refine qs (y_neq RF RF) ?_
        refine sq_nil ?_
        refine sx_then ?_
        refine sc_f (lk_bool rfl (rfl)) ?_
        refine sc_skip ?_
        refine sx_then ?_
        refine sc_seq ?_
        refine sc_region ?_
        refine qs (y_move RF) ?_
        refine qs (y_ia_blk (i := 1) Try.underlying32 Try.sizeOf40 RF RF (by decide)) ?_
        refine qs (y_assign RF) ?_
        refine sq_nil ?_
        refine sx_then ?_
        refine sc_seq ?_
        refine sc_seq ?_
        refine sc_merge 106 (.bool (bdB c p)) ?_ ?_
        ·
          refine sc_region ?_
          refine qs (y_move RF) ?_
          refine qs (y_len Try.underlying33 RF) ?_
          refine qs (y_gtr RF RF) ?_
          refine qs (y_move RF) ?_
          refine sp 100 (fun hg18_3 => ?_) (fun hg18_3 => ?_)
          ·
            refine qg (y_move RF) ?_
            refine qg (y_ia_el (i := 0) Try.underlying33 Try.sizeOf42 RF RF (by omega) (hrow.get (i := 0) (0, 0) (by omega)).1) ?_
            refine qg FA42_3 ?_
            refine qg (by first | exact y_load_ca0 Try.underlying3 rfl RF MM (hrow.get (i := 0) (0, 0) (by omega)).2 rfl | exact LD3) ?_
            refine qg (y_eql RF RF) ?_
            refine qs (y_pick_t RF RF) ?_
            refine sq_nil ?_
            refine sx_merge ?_ ?_
            · exact lk_bool rfl (by unfold bdB; first | (rw [decide_eq_true (show 0 < (sdN c p (nP c + 1)).length by omega)]; rfl) | (rw [decide_eq_false (show ¬ 0 < (sdN c p (nP c + 1)).length by omega)]; rfl))
            · exact (by repeat (first | exact SubX.refl _ _ | refine SubX.skipT ?_ | refine SubX.skip rfl ?_))
          ·
            refine qf ?_
            refine qf ?_
            refine qf ?_
            refine qf ?_
            refine qf ?_
            refine qs (y_pick_f RF RF) ?_
            refine sq_nil ?_
            refine sx_merge ?_ ?_
            · exact lk_bool rfl (by unfold bdB; first | (rw [decide_eq_true (show 0 < (sdN c p (nP c + 1)).length by omega)]; rfl) | (rw [decide_eq_false (show ¬ 0 < (sdN c p (nP c + 1)).length by omega)]; rfl))
            · exact (by repeat (first | exact SubX.refl _ _ | refine SubX.skipT ?_ | refine SubX.skip rfl ?_))
        refine sx_then ?_
        refine scp (fun hc5 => ?_) (fun hc5 => ?_)
        ·
          refine sc_region ?_
          refine qs (y_move RF) ?_
          refine qs (y_ia_blk (i := 0) Try.underlying32 Try.sizeOf40 RF RF (by decide)) ?_
          refine qs (y_assign RF) ?_
          refine sq_nil ?_
          refine sx_then ?_
          refine sc_seq ?_
          refine sc_region ?_
          refine qs LD24 ?_
          refine qs (y_move RF) ?_
          refine qy (yc Try.call10 E2 (fun w1 hw1 => cells10 w1 c a cp (hp.at hw1 MM) (p : Int))) ?_
          refine qs (y_assign RF) ?_
          refine sq_nil ?_
          refine sx_then ?_
          refine sc_seq ?_
          refine sc_seq ?_
          refine sc_region ?_
          refine qs (y_move RF) ?_
          refine qs (y_nilCheck RF) ?_
          refine qs FA40_3 ?_
          refine qs LD3 ?_
          refine qs (y_eql RF RF) ?_
          refine sq_nil ?_
          refine sx_then ?_
          refine scp (fun hc6 => ?_) (fun hc6 => ?_)
          ·
            refine sc_region ?_
            refine qs (y_move RF) ?_
            refine qs (y_move RF) ?_
            refine qs (y_move RF) ?_
            refine qs (y_build bt38 (EvP.cons RF (EvP.cons RF EvP.nil)) RF) ?_
            refine qs (y_nilCheck RF) ?_
            refine qs FA40_38 ?_
            refine sq_store_part (vs := [.int .i64 ((cntK c p c.piece.length : Nat) : Int), .int .i64 ((cntK c p c.piece.length : Nat) : Int)]) Try.sizeOf38 RF RF rfl RM rfl (Nat.le_of_ble_eq_true rfl) rfl ?_
            refine sq_nil ?_
            refine sx_then ?_
            refine sc_seq ?_
            refine sc_region ?_
            refine qs (y_move RF) ?_
            refine qs (y_nilCheck RF) ?_
            refine qs FA40_3 ?_
            refine qs LD3 ?_
            refine qs (y_add RF RF (by omega)) ?_
            refine qs (y_nilCheck RF) ?_
            refine qs FA40_3 ?_
            refine sq_store Try.sizeOf3 RF RF (by first | rfl | assumption) RM (by first | exact Nat.le_of_ble_eq_true rfl | simp | omega) ?_
            refine sq_nil ?_
            refine sx_then ?_
            refine sc_drawR (by kernel_rfl) ?_
            refine xj_s 0 RF (by kernel_rfl) SR (y_move RF) rfl ?_
            refine xj_s 1 RF (by kernel_rfl) SR (y_move RF) rfl ?_
            refine xj_s 2 RF (by kernel_rfl) SR (y_nilCheck RF) rfl ?_
            refine xj_s 3 RF (by kernel_rfl) SR FA40_38 rfl ?_
            refine xj_s 4 RF (by kernel_rfl) SR FA38_3 rfl ?_
            refine xj_s 5 RF (by kernel_rfl) SR LD3 rfl ?_
            refine xj_s 6 RF (by kernel_rfl) SR (y_move RF) rfl ?_
            refine xj_s 7 RF (by kernel_rfl) SR (y_min RF RF) rfl ?_
            refine xj_s 8 RF (by kernel_rfl) SR (y_move RF) rfl ?_
            refine xj_s 9 RF (by kernel_rfl) SR (y_nilCheck RF) rfl ?_
            refine xj_s 10 RF (by kernel_rfl) SR FA40_38 rfl ?_
            refine xj_s 11 RF (by kernel_rfl) SR FA38_3 rfl ?_
            refine xj_s 12 RF (by kernel_rfl) SR LD3 rfl ?_
            refine xj_s 13 RF (by kernel_rfl) SR (y_move RF) rfl ?_
            refine xj_s 14 RF (by kernel_rfl) SR (y_max RF RF) rfl ?_
            refine xj_s 15 RF (by kernel_rfl) SR (y_build (cells := #[.int .i64 (min ((cntK c p c.piece.length : Nat) : Int) ((cntK c p c.piece.length : Nat) : Int)), .int .i64 (max ((cntK c p c.piece.length : Nat) : Int) ((cntK c p c.piece.length : Nat) : Int))]) bt38 (EvP.cons RF (EvP.cons RF EvP.nil)) (by kernel_rfl)) rfl ?_
            refine xj_s 16 RF (by kernel_rfl) SR (y_nilCheck RF) rfl ?_
            refine xj_s 17 RF (by kernel_rfl) SR FA40_38 rfl ?_
            refine xj_one 18 RF (by kernel_rfl) ?_
            refine sq_store_part (vs := [.int .i64 (min ((cntK c p c.piece.length : Nat) : Int) ((cntK c p c.piece.length : Nat) : Int)), .int .i64 (max ((cntK c p c.piece.length : Nat) : Int) ((cntK c p c.piece.length : Nat) : Int))]) Try.sizeOf38 RF RF rfl RM rfl (Nat.le_of_ble_eq_true rfl) rfl ?_
            refine sq_nil ?_
            refine sx_xpl (by kernel_rfl) ?_
            refine xj_done (by kernel_rfl) ?_
            refine sx_blk ?_
            refine sx_then ?_
            refine sc_region ?_
            refine qs (y_add RF RF (by omega)) ?_
            refine qs (y_move RF) ?_
            refine sq_nil ?_
            refine sx_round ((p + 1, (⟨k.1.many + 1, ⟨min ((cntK c p c.piece.length : Nat) : Int) ((cntK c p c.piece.length : Nat) : Int), max ((cntK c p c.piece.length : Nat) : Int) ((cntK c p c.piece.length : Nat) : Int)⟩⟩, k.2))) ?_ ?_ SU SR
            · exact ⟨by dsimp only; omega, by dsimp only; rw [kdsS_t hc5, ← hk, addK_0 hc6]⟩
            · dsimp only; omega
          ·
            refine sc_skip ?_
            refine sx_then ?_
            refine sc_seq ?_
            refine sc_region ?_
            refine qs (y_move RF) ?_
            refine qs (y_nilCheck RF) ?_
            refine qs FA40_3 ?_
            refine qs LD3 ?_
            refine qs (y_add RF RF (by omega)) ?_
            refine qs (y_nilCheck RF) ?_
            refine qs FA40_3 ?_
            refine sq_store Try.sizeOf3 RF RF (by first | rfl | assumption) RM (by first | exact Nat.le_of_ble_eq_true rfl | simp | omega) ?_
            refine sq_nil ?_
            refine sx_then ?_
            refine sc_drawR (by kernel_rfl) ?_
            refine xj_s 0 RF (by kernel_rfl) SR (y_move RF) rfl ?_
            refine xj_s 1 RF (by kernel_rfl) SR (y_move RF) rfl ?_
            refine xj_s 2 RF (by kernel_rfl) SR (y_nilCheck RF) rfl ?_
            refine xj_s 3 RF (by kernel_rfl) SR FA40_38 rfl ?_
            refine xj_s 4 RF (by kernel_rfl) SR FA38_3 rfl ?_
            refine xj_s 5 RF (by kernel_rfl) SR LD3 rfl ?_
            refine xj_s 6 RF (by kernel_rfl) SR (y_move RF) rfl ?_
            refine xj_s 7 RF (by kernel_rfl) SR (y_min RF RF) rfl ?_
            refine xj_s 8 RF (by kernel_rfl) SR (y_move RF) rfl ?_
            refine xj_s 9 RF (by kernel_rfl) SR (y_nilCheck RF) rfl ?_
            refine xj_s 10 RF (by kernel_rfl) SR FA40_38 rfl ?_
            refine xj_s 11 RF (by kernel_rfl) SR FA38_3 rfl ?_
            refine xj_s 12 RF (by kernel_rfl) SR LD3 rfl ?_
            refine xj_s 13 RF (by kernel_rfl) SR (y_move RF) rfl ?_
            refine xj_s 14 RF (by kernel_rfl) SR (y_max RF RF) rfl ?_
            refine xj_s 15 RF (by kernel_rfl) SR (y_build (cells := #[.int .i64 (min k.1.wt.lo ((cntK c p c.piece.length : Nat) : Int)), .int .i64 (max k.1.wt.hi ((cntK c p c.piece.length : Nat) : Int))]) bt38 (EvP.cons RF (EvP.cons RF EvP.nil)) (by kernel_rfl)) rfl ?_
            refine xj_s 16 RF (by kernel_rfl) SR (y_nilCheck RF) rfl ?_
            refine xj_s 17 RF (by kernel_rfl) SR FA40_38 rfl ?_
            refine xj_one 18 RF (by kernel_rfl) ?_
            refine sq_store_part (vs := [.int .i64 (min k.1.wt.lo ((cntK c p c.piece.length : Nat) : Int)), .int .i64 (max k.1.wt.hi ((cntK c p c.piece.length : Nat) : Int))]) Try.sizeOf38 RF RF rfl RM rfl (Nat.le_of_ble_eq_true rfl) rfl ?_
            refine sq_nil ?_
            refine sx_xpl (by kernel_rfl) ?_
            refine xj_done (by kernel_rfl) ?_
            refine sx_blk ?_
            refine sx_then ?_
            refine sc_region ?_
            refine qs (y_add RF RF (by omega)) ?_
            refine qs (y_move RF) ?_
            refine sq_nil ?_
            refine sx_round ((p + 1, (⟨k.1.many + 1, ⟨min k.1.wt.lo ((cntK c p c.piece.length : Nat) : Int), max k.1.wt.hi ((cntK c p c.piece.length : Nat) : Int)⟩⟩, k.2))) ?_ ?_ SU SR
            · exact ⟨by dsimp only; omega, by dsimp only; rw [kdsS_t hc5, ← hk, addK_1 hc6]⟩
            · dsimp only; omega
        ·
          refine sc_skip ?_
          refine sx_then ?_
          refine sc_seq ?_
          refine sc_region ?_
          refine qs LD24 ?_
          refine qs (y_move RF) ?_
          refine qy (yc Try.call10 E2 (fun w1 hw1 => cells10 w1 c a cp (hp.at hw1 MM) (p : Int))) ?_
          refine qs (y_assign RF) ?_
          refine sq_nil ?_
          refine sx_then ?_
          refine sc_seq ?_
          refine sc_seq ?_
          refine sc_region ?_
          refine qs (y_move RF) ?_
          refine qs (y_nilCheck RF) ?_
          refine qs FA40_3 ?_
          refine qs LD3 ?_
          refine qs (y_eql RF RF) ?_
          refine sq_nil ?_
          refine sx_then ?_
          refine scp (fun hc6 => ?_) (fun hc6 => ?_)
          ·
            refine sc_region ?_
            refine qs (y_move RF) ?_
            refine qs (y_move RF) ?_
            refine qs (y_move RF) ?_
            refine qs (y_build bt38 (EvP.cons RF (EvP.cons RF EvP.nil)) RF) ?_
            refine qs (y_nilCheck RF) ?_
            refine qs FA40_38 ?_
            refine sq_store_part (vs := [.int .i64 ((cntK c p c.piece.length : Nat) : Int), .int .i64 ((cntK c p c.piece.length : Nat) : Int)]) Try.sizeOf38 RF RF rfl RM rfl (Nat.le_of_ble_eq_true rfl) rfl ?_
            refine sq_nil ?_
            refine sx_then ?_
            refine sc_seq ?_
            refine sc_region ?_
            refine qs (y_move RF) ?_
            refine qs (y_nilCheck RF) ?_
            refine qs FA40_3 ?_
            refine qs LD3 ?_
            refine qs (y_add RF RF (by omega)) ?_
            refine qs (y_nilCheck RF) ?_
            refine qs FA40_3 ?_
            refine sq_store Try.sizeOf3 RF RF (by first | rfl | assumption) RM (by first | exact Nat.le_of_ble_eq_true rfl | simp | omega) ?_
            refine sq_nil ?_
            refine sx_then ?_
            refine sc_drawR (by kernel_rfl) ?_
            refine xj_s 0 RF (by kernel_rfl) SR (y_move RF) rfl ?_
            refine xj_s 1 RF (by kernel_rfl) SR (y_move RF) rfl ?_
            refine xj_s 2 RF (by kernel_rfl) SR (y_nilCheck RF) rfl ?_
            refine xj_s 3 RF (by kernel_rfl) SR FA40_38 rfl ?_
            refine xj_s 4 RF (by kernel_rfl) SR FA38_3 rfl ?_
            refine xj_s 5 RF (by kernel_rfl) SR LD3 rfl ?_
            refine xj_s 6 RF (by kernel_rfl) SR (y_move RF) rfl ?_
            refine xj_s 7 RF (by kernel_rfl) SR (y_min RF RF) rfl ?_
            refine xj_s 8 RF (by kernel_rfl) SR (y_move RF) rfl ?_
            refine xj_s 9 RF (by kernel_rfl) SR (y_nilCheck RF) rfl ?_
            refine xj_s 10 RF (by kernel_rfl) SR FA40_38 rfl ?_
            refine xj_s 11 RF (by kernel_rfl) SR FA38_3 rfl ?_
            refine xj_s 12 RF (by kernel_rfl) SR LD3 rfl ?_
            refine xj_s 13 RF (by kernel_rfl) SR (y_move RF) rfl ?_
            refine xj_s 14 RF (by kernel_rfl) SR (y_max RF RF) rfl ?_
            refine xj_s 15 RF (by kernel_rfl) SR (y_build (cells := #[.int .i64 (min ((cntK c p c.piece.length : Nat) : Int) ((cntK c p c.piece.length : Nat) : Int)), .int .i64 (max ((cntK c p c.piece.length : Nat) : Int) ((cntK c p c.piece.length : Nat) : Int))]) bt38 (EvP.cons RF (EvP.cons RF EvP.nil)) (by kernel_rfl)) rfl ?_
            refine xj_s 16 RF (by kernel_rfl) SR (y_nilCheck RF) rfl ?_
            refine xj_s 17 RF (by kernel_rfl) SR FA40_38 rfl ?_
            refine xj_one 18 RF (by kernel_rfl) ?_
            refine sq_store_part (vs := [.int .i64 (min ((cntK c p c.piece.length : Nat) : Int) ((cntK c p c.piece.length : Nat) : Int)), .int .i64 (max ((cntK c p c.piece.length : Nat) : Int) ((cntK c p c.piece.length : Nat) : Int))]) Try.sizeOf38 RF RF rfl RM rfl (Nat.le_of_ble_eq_true rfl) rfl ?_
            refine sq_nil ?_
            refine sx_xpl (by kernel_rfl) ?_
            refine xj_done (by kernel_rfl) ?_
            refine sx_blk ?_
            refine sx_then ?_
            refine sc_region ?_
            refine qs (y_add RF RF (by omega)) ?_
            refine qs (y_move RF) ?_
            refine sq_nil ?_
            refine sx_round ((p + 1, (k.1, ⟨k.2.many + 1, ⟨min ((cntK c p c.piece.length : Nat) : Int) ((cntK c p c.piece.length : Nat) : Int), max ((cntK c p c.piece.length : Nat) : Int) ((cntK c p c.piece.length : Nat) : Int)⟩⟩))) ?_ ?_ SU SR
            · exact ⟨by dsimp only; omega, by dsimp only; rw [kdsS_f (by rw [hc5]; decide), ← hk, addK_0 hc6]⟩
            · dsimp only; omega
          ·
            refine sc_skip ?_
            refine sx_then ?_
            refine sc_seq ?_
            refine sc_region ?_
            refine qs (y_move RF) ?_
            refine qs (y_nilCheck RF) ?_
            refine qs FA40_3 ?_
            refine qs LD3 ?_
            refine qs (y_add RF RF (by omega)) ?_
            refine qs (y_nilCheck RF) ?_
            refine qs FA40_3 ?_
            refine sq_store Try.sizeOf3 RF RF (by first | rfl | assumption) RM (by first | exact Nat.le_of_ble_eq_true rfl | simp | omega) ?_
            refine sq_nil ?_
            refine sx_then ?_
            refine sc_drawR (by kernel_rfl) ?_
            refine xj_s 0 RF (by kernel_rfl) SR (y_move RF) rfl ?_
            refine xj_s 1 RF (by kernel_rfl) SR (y_move RF) rfl ?_
            refine xj_s 2 RF (by kernel_rfl) SR (y_nilCheck RF) rfl ?_
            refine xj_s 3 RF (by kernel_rfl) SR FA40_38 rfl ?_
            refine xj_s 4 RF (by kernel_rfl) SR FA38_3 rfl ?_
            refine xj_s 5 RF (by kernel_rfl) SR LD3 rfl ?_
            refine xj_s 6 RF (by kernel_rfl) SR (y_move RF) rfl ?_
            refine xj_s 7 RF (by kernel_rfl) SR (y_min RF RF) rfl ?_
            refine xj_s 8 RF (by kernel_rfl) SR (y_move RF) rfl ?_
            refine xj_s 9 RF (by kernel_rfl) SR (y_nilCheck RF) rfl ?_
            refine xj_s 10 RF (by kernel_rfl) SR FA40_38 rfl ?_
            refine xj_s 11 RF (by kernel_rfl) SR FA38_3 rfl ?_
            refine xj_s 12 RF (by kernel_rfl) SR LD3 rfl ?_
            refine xj_s 13 RF (by kernel_rfl) SR (y_move RF) rfl ?_
            refine xj_s 14 RF (by kernel_rfl) SR (y_max RF RF) rfl ?_
            refine xj_s 15 RF (by kernel_rfl) SR (y_build (cells := #[.int .i64 (min k.2.wt.lo ((cntK c p c.piece.length : Nat) : Int)), .int .i64 (max k.2.wt.hi ((cntK c p c.piece.length : Nat) : Int))]) bt38 (EvP.cons RF (EvP.cons RF EvP.nil)) (by kernel_rfl)) rfl ?_
            refine xj_s 16 RF (by kernel_rfl) SR (y_nilCheck RF) rfl ?_
            refine xj_s 17 RF (by kernel_rfl) SR FA40_38 rfl ?_
            refine xj_one 18 RF (by kernel_rfl) ?_
            refine sq_store_part (vs := [.int .i64 (min k.2.wt.lo ((cntK c p c.piece.length : Nat) : Int)), .int .i64 (max k.2.wt.hi ((cntK c p c.piece.length : Nat) : Int))]) Try.sizeOf38 RF RF rfl RM rfl (Nat.le_of_ble_eq_true rfl) rfl ?_
            refine sq_nil ?_
            refine sx_xpl (by kernel_rfl) ?_
            refine xj_done (by kernel_rfl) ?_
            refine sx_blk ?_
            refine sx_then ?_
            refine sc_region ?_
            refine qs (y_add RF RF (by omega)) ?_
            refine qs (y_move RF) ?_
            refine sq_nil ?_
            refine sx_round ((p + 1, (k.1, ⟨k.2.many + 1, ⟨min k.2.wt.lo ((cntK c p c.piece.length : Nat) : Int), max k.2.wt.hi ((cntK c p c.piece.length : Nat) : Int)⟩⟩))) ?_ ?_ SU SR
            · exact ⟨by dsimp only; omega, by dsimp only; rw [kdsS_f (by rw [hc5]; decide), ← hk, addK_1 hc6]⟩
            · dsimp only; omega
      ·
        have hpn : p = nP c := by omega
        subst hpn
        have hks := kds_all hF (bdB c)
        rw [← hk] at hks
        have hx : ((nP (joinC c ja jb) : Nat) : Int) = ((nP c : Nat) : Int) - 1 := by have := hjo.2.1; have := hjo.2.2; omega
        have hxl : (joinC c ja jb).piece.length = c.piece.length := List.length_map ..
        obtain ⟨sp, hread, hlo, hhi⟩ := read_H hks hnP.2.2
        have hwhole := judge_whole hks hnP.2.1 hnP.2.2
        obtain ⟨jo, hjo0, honly⟩ := judge_only hks hnP.2.1 hnP.2.2
        rw [← hxl] at honly
        have hnever := judge_never hks hnP.2.1 hnP.2.2
        rw [← hx] at hnever
        have hleft := left_H hks hnP.2.1 hnP.2.2
        rw [← hx] at hleft
        have hopen := open_short hks hnP.2.1 hnP.2.2
        rw [← hx] at hopen
        refine sc_exit ?_
        refine sx_then_exit ?_
        refine sx_round_exit ?_
        refine sx_blk_hit ?_
        refine sx_then ?_
        refine sc_seq ?_
        refine sc_region ?_
        refine qs (y_move RF) ?_
        refine qs (y_build bt45 (EvP.cons RF (EvP.cons RF EvP.nil)) RF) ?_
        refine sq_alloc Try.zeroValue45 rfl (fun b19 => ?_)
        refine sq_store_all Try.sizeOf45 RF RF rfl RM rfl rfl ?_
        refine sq_nil ?_
        refine sx_then ?_
        refine sc_seq ?_
        refine sc_region ?_
        refine qs (y_build bt47 (EvP.cons RF (EvP.cons RF EvP.nil)) RF) ?_
        refine qs (y_build bt47 (EvP.cons RF EvP.nil) RF) ?_
        refine sq_alloc Try.zeroValue47 rfl (fun b20 => ?_)
        refine sq_alloc Try.zeroValue47 rfl (fun b21 => ?_)
        refine sq_store_all Try.sizeOf47 RF RF rfl RM rfl rfl ?_
        refine sq_store_all Try.sizeOf47 RF RF rfl RM rfl rfl ?_
        refine sq_nil ?_
        refine sx_then ?_
        refine sc_seq ?_
        refine sc_region ?_
        refine qs LD45 ?_
        refine sq_bs Try.underlying22 ei3 (EvI.cons RF (EvI.cons RF EvI.nil)) (by first | (simp [Value.cells]; done) | (simp [Value.cells]; rfl) | (simp [Value.cells]; and_intros <;> rfl)) rfl rfl rfl (fun b155 => ?_)
        refine qs LD47 ?_
        refine qy (yc Try.call11 E3 (fun w1 hw1 => reads14 w1 (boxH k) (some ⟨b82, 0, none⟩) 2 (lit_rowsA (row := kdRow) (l := [k.1, k.2]) kdRow_len hw1 MM rfl (by simp)) (some ⟨b155, 0, none⟩) 2 [0, 0] (lit_rowsA (row := iRow) (l := [0, 0]) iRow_len hw1 MM rfl (by decide)) weighT)) ?_
        rw [hread]
        refine qs (y_move RF) ?_
        refine qs (y_extract RF RF) ?_
        refine qs (y_extract RF RF) ?_
        refine sq_alloc Try.zeroValue38 rfl (fun b22 => ?_)
        refine sq_store_all Try.sizeOf38 RF RF rfl RM rfl rfl ?_
        refine qs (y_assign RF) ?_
        refine sq_nil ?_
        refine sx_then ?_
        refine sc_seq ?_
        refine sc_region ?_
        refine qs LD45 ?_
        refine qs LD47 ?_
        refine qs FA24_22 ?_
        refine qs LD22 ?_
        refine qs (y_len Try.underlying22 RF) ?_
        refine qs (y_build bt52 (EvP.cons RF (EvP.cons RF EvP.nil)) RF) ?_
        refine qs LD47 ?_
        refine qs (y_move RF) ?_
        refine qs (y_build bt52 (EvP.cons RF (EvP.cons RF EvP.nil)) RF) ?_
        refine sq_bs Try.underlying53 ei52 (EvI.cons RF (EvI.cons RF EvI.nil)) (by first | (simp [Value.cells]; done) | (simp [Value.cells]; rfl) | (simp [Value.cells]; and_intros <;> rfl)) rfl rfl rfl (fun b170 => ?_)
        refine qy (yc Try.call12 E2 (fun w1 hw1 => judge16 w1 (boxH k) (some ⟨b82, 0, none⟩) 2 (lit_rowsA (row := kdRow) (l := [k.1, k.2]) kdRow_len hw1 MM rfl (by simp)) (some ⟨b170, 0, none⟩) 2 [⟨weighT, c.piece.length⟩, ⟨camT, (nP c : Nat)⟩] (lit_rowsA (row := rdRow) (l := [⟨weighT, c.piece.length⟩, ⟨camT, (nP c : Nat)⟩]) rdRow_len hw1 MM rfl (by simp)))) ?_
        rw [hwhole]
        refine qs (y_move RF) ?_
        refine qs (y_extract RF RF) ?_
        refine qs (y_extract RF RF) ?_
        refine qs (y_assign RF) ?_
        refine qs (y_assign RF) ?_
        refine sq_nil ?_
        refine sx_then ?_
        refine sc_seq ?_
        refine sc_region ?_
        refine qs LD45 ?_
        refine qs LD47 ?_
        refine qs FA24_22 ?_
        refine qs LD22 ?_
        refine qs (y_len Try.underlying22 RF) ?_
        refine qs (y_build bt52 (EvP.cons RF (EvP.cons RF EvP.nil)) RF) ?_
        refine sq_bs Try.underlying53 ei52 (EvI.cons RF EvI.nil) (by first | (simp [Value.cells]; done) | (simp [Value.cells]; rfl) | (simp [Value.cells]; and_intros <;> rfl)) rfl rfl rfl (fun b181 => ?_)
        refine qy (yc Try.call12 E2 (fun w1 hw1 => judge16 w1 (boxH k) (some ⟨b82, 0, none⟩) 2 (lit_rowsA (row := kdRow) (l := [k.1, k.2]) kdRow_len hw1 MM rfl (by simp)) (some ⟨b181, 0, none⟩) 1 [⟨weighT, (joinC c ja jb).piece.length⟩] (lit_rowsA (row := rdRow) (l := [⟨weighT, (joinC c ja jb).piece.length⟩]) rdRow_len hw1 MM rfl (by simp)))) ?_
        rw [honly]
        refine qs (y_move RF) ?_
        refine qs (y_extract RF RF) ?_
        refine qs (y_extract RF RF) ?_
        refine qs (y_assign RF) ?_
        refine qs (y_assign RF) ?_
        refine sq_nil ?_
        refine sx_then ?_
        refine sc_seq ?_
        refine sc_region ?_
        refine qs LD45 ?_
        refine qs LD47 ?_
        refine qs (y_move RF) ?_
        refine qs (y_build bt52 (EvP.cons RF (EvP.cons RF EvP.nil)) RF) ?_
        refine sq_bs Try.underlying53 ei52 (EvI.cons RF EvI.nil) (by first | (simp [Value.cells]; done) | (simp [Value.cells]; rfl) | (simp [Value.cells]; and_intros <;> rfl)) rfl rfl rfl (fun b190 => ?_)
        refine qy (yc Try.call12 E2 (fun w1 hw1 => judge16 w1 (boxH k) (some ⟨b82, 0, none⟩) 2 (lit_rowsA (row := kdRow) (l := [k.1, k.2]) kdRow_len hw1 MM rfl (by simp)) (some ⟨b190, 0, none⟩) 1 [⟨camT, (nP (joinC c ja jb) : Nat)⟩] (lit_rowsA (row := rdRow) (l := [⟨camT, (nP (joinC c ja jb) : Nat)⟩]) rdRow_len hw1 MM rfl (by simp)))) ?_
        rw [hnever]
        refine qs (y_move RF) ?_
        refine qs (y_extract RF RF) ?_
        refine qs (y_extract RF RF) ?_
        refine qs (y_assign RF) ?_
        refine qs (y_assign RF) ?_
        refine sq_nil ?_
        refine sx_then ?_
        refine sc_seq ?_
        refine sc_region ?_
        refine qs LD45 ?_
        refine qs LD47 ?_
        refine qs (y_move RF) ?_
        refine qs (y_build bt52 (EvP.cons RF (EvP.cons RF EvP.nil)) RF) ?_
        refine sq_bs Try.underlying53 ei52 (EvI.cons RF EvI.nil) (by first | (simp [Value.cells]; done) | (simp [Value.cells]; rfl) | (simp [Value.cells]; and_intros <;> rfl)) rfl rfl rfl (fun b199 => ?_)
        refine sq_call_new (first := []) (caps := []) (Z := Option Addr × Nat) (fun q => .tuple #[.slice q.1 (leftR (boxH k) [⟨camT, (nP (joinC c ja jb) : Nat)⟩]).length q.2, .int .i64 (openE (boxH k) [⟨camT, (nP (joinC c ja jb) : Nat)⟩] [])]) (fun lo w' q => RowsA spRow 2 lo w' q.1 (leftR (boxH k) [⟨camT, (nP (joinC c ja jb) : Nat)⟩])) RF Try.call13 (EvL.cons RF (EvL.cons RF EvL.nil)) (fun w1 hw1 => left18r w1 (boxH k) (some ⟨b82, 0, none⟩) 2 (lit_rowsA (row := kdRow) (l := [k.1, k.2]) kdRow_len hw1 MM rfl (by simp)) (some ⟨b199, 0, none⟩) 1 [⟨camT, (nP (joinC c ja jb) : Nat)⟩] (lit_rowsA (row := rdRow) (l := [⟨camT, (nP (joinC c ja jb) : Nat)⟩]) rdRow_len hw1 MM rfl (by simp)) (by rw [hleft]; simp)) rfl (fun lo32 wr32 q hq => ?_)
        rw [hleft] at hq
        rw [hleft, hopen]
        refine qs (y_move RF) ?_
        refine qs (y_extract RF RF) ?_
        refine qs (y_extract RF RF) ?_
        refine qs (y_assign RF) ?_
        refine qs (y_assign RF) ?_
        refine sq_nil ?_
        refine sx_then ?_
        refine sc_seq ?_
        refine sc_seq ?_
        refine sc_region ?_
        refine qs (y_move RF) ?_
        refine qs (y_neq RF RF) ?_
        refine qs (y_move RF) ?_
        refine sq_known (tt := 205) (b' := false) RF (by decide) ?_
        refine qg FA24_22 ?_
        refine qg LD22 ?_
        refine qg (y_len Try.underlying22 RF) ?_
        refine qg FA38_3 ?_
        refine qg LD3 ?_
        refine qg (y_lss RF RF) ?_
        refine qs (y_pick_f RF RF) ?_
        refine qs (y_move RF) ?_
        refine sq_known (tt := 213) (b' := false) RF (decide_eq_false (by omega)) ?_
        refine qg FA24_22 ?_
        refine qg LD22 ?_
        refine qg (y_len Try.underlying22 RF) ?_
        refine qg FA38_3 ?_
        refine qg LD3 ?_
        refine qg (y_gtr RF RF) ?_
        refine qs (y_pick_f RF RF) ?_
        refine qs (y_move RF) ?_
        refine sq_known (tt := 221) (b' := false) RF (decide_eq_false (by omega)) ?_
        refine qg (y_move RF) ?_
        refine qg (y_neq RF RF) ?_
        refine qs (y_pick_f RF RF) ?_
        refine qs (y_move RF) ?_
        refine sq_known (tt := 225) (b' := false) RF (by decide) ?_
        refine qg (y_move RF) ?_
        refine qg (y_neq RF RF) ?_
        refine qs (y_pick_f RF RF) ?_
        refine qs (y_move RF) ?_
        refine sq_known (tt := 229) (b' := false) RF (by decide) ?_
        refine qg (y_move RF) ?_
        refine qg (y_eql RF RF) ?_
        refine qs (y_pick_f RF RF) ?_
        refine qs (y_move RF) ?_
        refine sq_known (tt := 233) (b' := false) RF (decide_eq_false hjo0) ?_
        refine qg (y_move RF) ?_
        refine qg (y_neq RF RF) ?_
        refine qs (y_pick_f RF RF) ?_
        refine qs (y_move RF) ?_
        refine sq_known (tt := 237) (b' := false) RF (by decide) ?_
        refine qg (y_move RF) ?_
        refine qg (y_neq RF RF) ?_
        refine qs (y_pick_f RF RF) ?_
        refine qs (y_move RF) ?_
        refine sq_known (tt := 241) (b' := false) RF (by decide) ?_
        refine qg (y_move RF) ?_
        refine qg (y_neq RF RF) ?_
        refine qs (y_pick_f RF RF) ?_
        refine qs (y_move RF) ?_
        refine sq_known (tt := 245) (b' := false) RF (by decide) ?_
        refine qg (y_move RF) ?_
        refine qg (y_neq RF RF) ?_
        refine qs (y_pick_f RF RF) ?_
        refine qs (y_move RF) ?_
        refine sq_known (tt := 249) (b' := false) RF (by decide) ?_
        refine qg (y_move RF) ?_
        refine qg (y_len Try.underlying54 RF) ?_
        refine qg (y_neq RF RF) ?_
        refine qs (y_pick_f RF RF) ?_
        refine sq_nil ?_
        refine sx_then ?_
        refine sc_f (lk_bool rfl (rfl)) ?_
        refine sc_skip ?_
        refine sx_then ?_
        refine sc_seq ?_
        refine sc_seq ?_
        refine sc_region ?_
        refine qs (y_move RF) ?_
        refine qs (y_len Try.underlying54 RF) ?_
        refine qs (y_move RF) ?_
        refine sq_nil ?_
        refine sx_then ?_
        refine sc_block ?_
        refine sc_loop (σ := Nat)
          (fun s_ => [(13, .slice (some ⟨b82, 0, none⟩) 2 2), (30, .slice q.1 [wantH k 0, wantH k 1].length q.2), (255, .int .i64 (([wantH k 0, wantH k 1].length : Nat) : Int)), (256, .int .i64 s_)])
          (fun s_ => [.blk b82 (.cells #[.int .i64 k.1.many, .int .i64 k.1.wt.lo, .int .i64 k.1.wt.hi, .int .i64 k.2.many, .int .i64 k.2.wt.lo, .int .i64 k.2.wt.hi] 40 (0, 0)), .reg lo32 wr32, .reg 0 w])
          (fun s_ => s_ ≤ 2)
          (fun s_ => 2 - s_)
          (0) ?_ SU SR ?_
        · exact Nat.zero_le _
        rintro z hz
        refine sc_seq ?_
        refine sc_region ?_
        refine qs (y_lss RF RF) ?_
        refine sq_nil ?_
        refine sx_then ?_
        refine sc_seq ?_
        refine scp (fun hc8 => ?_) (fun hc8 => ?_)
        ·
          have hz' : z < 2 := by have h9 : (z : Int) < 2 := hc8; omega
          have hsz := (hq.get sp0 hz').1
          have hcz := (hq.get sp0 hz').2
          rw [show [wantH k 0, wantH k 1].getD z sp0 = wantH k z from by rcases (show z = 0 ∨ z = 1 by omega) with rfl | rfl <;> rfl] at hcz
          refine sc_skip ?_
          refine sx_then ?_
          refine sc_seq ?_
          refine sc_block ?_
          refine sc_seq ?_
          refine sc_region ?_
          refine qs (y_move RF) ?_
          refine qs (y_assign RF) ?_
          refine sq_nil ?_
          refine sx_then ?_
          refine sc_seq ?_
          refine sc_region ?_
          refine qs (y_build bt38 EvP.nil RF) ?_
          refine sq_alloc Try.zeroValue38 rfl (fun b33 => ?_)
          refine sq_store_all Try.sizeOf38 RF RF rfl RM rfl rfl ?_
          refine sq_nil ?_
          refine sx_then ?_
          refine sc_seq ?_
          refine sc_seq ?_
          refine sc_region ?_
          refine qs (y_move RF) ?_
          refine qs (y_move RF) ?_
          refine qs (y_ia_blk (i := z) Try.underlying32 Try.sizeOf40 RF RF hz') ?_
          refine qs FA40_3 ?_
          refine qs (by first | exact y_load_blk Try.underlying3 rfl RF MM (kc_at k hz') | exact LD3) ?_
          refine qs (y_gtr RF RF) ?_
          refine sq_nil ?_
          refine sx_then ?_
          refine scp (fun hc9 => ?_) (fun hc9 => ?_)
          ·
            refine sc_region ?_
            refine qs FA38_3 ?_
            refine sq_store Try.sizeOf3 RF RF (by first | rfl | assumption) RM (by first | exact Nat.le_of_ble_eq_true rfl | simp | omega) ?_
            refine sq_nil ?_
            refine sx_then ?_
            refine sc_seq ?_
            refine sc_seq ?_
            refine sc_region ?_
            refine qs (y_move RF) ?_
            refine qs (y_move RF) ?_
            refine qs (y_sub RF RF (by omega)) ?_
            rw [show (1 : Int) - (z : Int) = ((1 - z : Nat) : Int) by omega]
            refine qs (y_ia_blk (i := 1 - z) Try.underlying32 Try.sizeOf40 RF RF (by omega)) ?_
            refine qs FA40_3 ?_
            refine qs (by first | exact y_load_blk Try.underlying3 rfl RF MM (kc_at k (show 1 - z < 2 by omega)) | exact LD3) ?_
            refine qs (y_eql RF RF) ?_
            refine sq_nil ?_
            refine sx_then ?_
            refine scp (fun hc10 => ?_) (fun hc10 => ?_)
            ·
              refine sc_region ?_
              refine qs FA38_3 ?_
              refine sq_store Try.sizeOf3 RF RF (by first | rfl | assumption) RM (by first | exact Nat.le_of_ble_eq_true rfl | simp | omega) ?_
              refine sq_nil ?_
              refine sx_then ?_
              refine sc_seq ?_
              refine sc_drawR (by kernel_rfl) ?_
              refine xj_s 0 RF (by kernel_rfl) SR (y_move RF) rfl ?_
              refine xj_s 1 RF (by kernel_rfl) SR (y_move RF) rfl ?_
              refine xj_s 2 RF (by kernel_rfl) SR (y_ia_el (i := z) Try.underlying54 Try.sizeOf38 RF RF hz' hsz) rfl ?_
              refine xj_s 3 RF (by kernel_rfl) SR (by first | exact y_load_ca Try.underlying38 rfl Try.sizeOf38 RF MM hcz rfl | exact LD38) rfl ?_
              refine xj_s 4 RF (by kernel_rfl) SR LD38 rfl ?_
              refine xj_s 5 RF (by kernel_rfl) SR (y_neqs (by kernel_rfl) RF RF (neq38 _ _ _ _)) rfl ?_
              refine xj_done (by kernel_rfl) ?_
              refine sx_then ?_
              refine sc_f (lk_bool rfl ((by rw [want_eq k hz']; simp [hc9, hc10]))) ?_
              refine sc_skip ?_
              refine sx_blk ?_
              refine sx_then ?_
              refine sc_region ?_
              refine qs (y_add RF RF (by omega)) ?_
              refine qs (y_move RF) ?_
              refine sq_nil ?_
              refine sx_round (z + 1) ?_ ?_ SU SR
              · omega
              · omega
            ·
              refine sc_skip ?_
              refine sx_then ?_
              refine sc_seq ?_
              refine sc_drawR (by kernel_rfl) ?_
              refine xj_s 0 RF (by kernel_rfl) SR (y_move RF) rfl ?_
              refine xj_s 1 RF (by kernel_rfl) SR (y_move RF) rfl ?_
              refine xj_s 2 RF (by kernel_rfl) SR (y_ia_el (i := z) Try.underlying54 Try.sizeOf38 RF RF hz' hsz) rfl ?_
              refine xj_s 3 RF (by kernel_rfl) SR (by first | exact y_load_ca Try.underlying38 rfl Try.sizeOf38 RF MM hcz rfl | exact LD38) rfl ?_
              refine xj_s 4 RF (by kernel_rfl) SR LD38 rfl ?_
              refine xj_s 5 RF (by kernel_rfl) SR (y_neqs (by kernel_rfl) RF RF (neq38 _ _ _ _)) rfl ?_
              refine xj_done (by kernel_rfl) ?_
              refine sx_then ?_
              refine sc_f (lk_bool rfl ((by rw [want_eq k hz']; simp [hc9, hc10]))) ?_
              refine sc_skip ?_
              refine sx_blk ?_
              refine sx_then ?_
              refine sc_region ?_
              refine qs (y_add RF RF (by omega)) ?_
              refine qs (y_move RF) ?_
              refine sq_nil ?_
              refine sx_round (z + 1) ?_ ?_ SU SR
              · omega
              · omega
          ·
            refine sc_skip ?_
            refine sx_then ?_
            refine sc_seq ?_
            refine sc_seq ?_
            refine sc_region ?_
            refine qs (y_move RF) ?_
            refine qs (y_move RF) ?_
            refine qs (y_sub RF RF (by omega)) ?_
            rw [show (1 : Int) - (z : Int) = ((1 - z : Nat) : Int) by omega]
            refine qs (y_ia_blk (i := 1 - z) Try.underlying32 Try.sizeOf40 RF RF (by omega)) ?_
            refine qs FA40_3 ?_
            refine qs (by first | exact y_load_blk Try.underlying3 rfl RF MM (kc_at k (show 1 - z < 2 by omega)) | exact LD3) ?_
            refine qs (y_eql RF RF) ?_
            refine sq_nil ?_
            refine sx_then ?_
            refine scp (fun hc10 => ?_) (fun hc10 => ?_)
            ·
              refine sc_region ?_
              refine qs FA38_3 ?_
              refine sq_store Try.sizeOf3 RF RF (by first | rfl | assumption) RM (by first | exact Nat.le_of_ble_eq_true rfl | simp | omega) ?_
              refine sq_nil ?_
              refine sx_then ?_
              refine sc_seq ?_
              refine sc_drawR (by kernel_rfl) ?_
              refine xj_s 0 RF (by kernel_rfl) SR (y_move RF) rfl ?_
              refine xj_s 1 RF (by kernel_rfl) SR (y_move RF) rfl ?_
              refine xj_s 2 RF (by kernel_rfl) SR (y_ia_el (i := z) Try.underlying54 Try.sizeOf38 RF RF hz' hsz) rfl ?_
              refine xj_s 3 RF (by kernel_rfl) SR (by first | exact y_load_ca Try.underlying38 rfl Try.sizeOf38 RF MM hcz rfl | exact LD38) rfl ?_
              refine xj_s 4 RF (by kernel_rfl) SR LD38 rfl ?_
              refine xj_s 5 RF (by kernel_rfl) SR (y_neqs (by kernel_rfl) RF RF (neq38 _ _ _ _)) rfl ?_
              refine xj_done (by kernel_rfl) ?_
              refine sx_then ?_
              refine sc_f (lk_bool rfl ((by rw [want_eq k hz']; simp [hc9, hc10]))) ?_
              refine sc_skip ?_
              refine sx_blk ?_
              refine sx_then ?_
              refine sc_region ?_
              refine qs (y_add RF RF (by omega)) ?_
              refine qs (y_move RF) ?_
              refine sq_nil ?_
              refine sx_round (z + 1) ?_ ?_ SU SR
              · omega
              · omega
            ·
              refine sc_skip ?_
              refine sx_then ?_
              refine sc_seq ?_
              refine sc_drawR (by kernel_rfl) ?_
              refine xj_s 0 RF (by kernel_rfl) SR (y_move RF) rfl ?_
              refine xj_s 1 RF (by kernel_rfl) SR (y_move RF) rfl ?_
              refine xj_s 2 RF (by kernel_rfl) SR (y_ia_el (i := z) Try.underlying54 Try.sizeOf38 RF RF hz' hsz) rfl ?_
              refine xj_s 3 RF (by kernel_rfl) SR (by first | exact y_load_ca Try.underlying38 rfl Try.sizeOf38 RF MM hcz rfl | exact LD38) rfl ?_
              refine xj_s 4 RF (by kernel_rfl) SR LD38 rfl ?_
              refine xj_s 5 RF (by kernel_rfl) SR (y_neqs (by kernel_rfl) RF RF (neq38 _ _ _ _)) rfl ?_
              refine xj_done (by kernel_rfl) ?_
              refine sx_then ?_
              refine sc_f (lk_bool rfl ((by rw [want_eq k hz']; simp [hc9, hc10]))) ?_
              refine sc_skip ?_
              refine sx_blk ?_
              refine sx_then ?_
              refine sc_region ?_
              refine qs (y_add RF RF (by omega)) ?_
              refine qs (y_move RF) ?_
              refine sq_nil ?_
              refine sx_round (z + 1) ?_ ?_ SU SR
              · omega
              · omega
        ·
          refine sc_exit ?_
          refine sx_then_exit ?_
          refine sx_round_exit ?_
          refine sx_blk_hit ?_
          refine sx_then ?_
          refine sc_seq ?_
          refine sc_region ?_
          refine qy (yc Try.call5 E0 (fun w1 _ => awake5 w1)) ?_
          refine qs (y_assign RF) ?_
          refine sq_nil ?_
          refine sx_then ?_
          refine sc_ret ?_
          refine sx_ret1 (.inl rfl) rfl Try.results3 RF ?_
          intro w' hw'
          exact ⟨rfl, hw'.below MM⟩
end Go.Proofs.Ytfceajkofpafpaa
