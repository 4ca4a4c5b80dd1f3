/- The walk of the members of a set, whoever ranges over them. -/
import Derived.Test.YtpijahglojichaaDoorWalk2
namespace Go.Proofs.YtpijahglojichaaDoor
open Go Go.Eng Go.RowKit Go.Proofs
set_option maxRecDepth 100000
theorem memL_nil {x : Nat} (hx : x < 512) (h : memL x = []) : x = 0 := by
  rcases Nat.eq_zero_or_pos x with h0 | h0
  · exact h0
  · rw [(memL_step x hx (by omega)).1] at h; cases h

theorem members61 (w : World) (n : Int) : Calls Tryd.prog 61 #[.int .i64 n] w fun e w' => ∃ p : Addr, e = .returned (.func (.func 87) #[] #[.pointer (some p)]) ∧ Below w.heap.size w w' ∧ CA w.heap.size w' p [.int .i64 n] := by
  refine calls_of_SC (args := [.int .i64 n]) Tryd.func61 rfl Tryd.ntmps61 rfl ?_
  simp only [argL]
  refine sc_seq ?_
  refine sc_region ?_
  refine sq_box RF rfl (fun b1 => ?_)
  refine qs (y_assign RF) ?_
  refine sq_nil ?_
  refine sx_then ?_
  refine sc_seq ?_
  refine sc_region ?_
  refine qs (y_makeFunc EvL.nil (EvL.cons RF EvL.nil)) ?_
  refine qs (y_assign RF) ?_
  refine sq_nil ?_
  refine sx_then ?_
  refine sc_ret ?_
  refine sx_ret1 (.inl rfl) rfl Tryd.results61 RF ?_
  intro w' hw'
  exact ⟨⟨b1, 0, none⟩, rfl, hw'.below MM, ⟨blk_new hw' RM MM, (CA.blk (vs := [Value.int .i64 n]) hw' MM).2⟩⟩
theorem each87 {w0 w wr : World} {lo : Nat} {p1 : Addr} {x : Nat} (hT : TabAt w0) (hx : x < 512) (hp1 : CA lo wr p1 [.int .i64 (x : Int)]) {l : Nat} {lp : Loop} {Z : Type} (UR : Z → List Res) (Inv : List Nat → Z → Prop) (Stp : Z → Prop) (hloop : ∀ ds y, Inv ds y → Res.blk l (.loop lp) ∈ UR y) (hone : lp.params.size = 1)
    (hround : ∀ (y : Z) (ds : List Nat) (i : Nat) (r : List Nat), memL x = ds ++ i :: r → Inv ds y → ∀ F w, Hp w0 (UR y ++ .reg 0 w0 :: F) w → RoundIn (FW none) 0 Tryd.prog l lp.fn ((lp.params.zip #[.int .i64 (i : Int)]).foldl (fun tmps (t, a) => tmps.setIfInBounds t a) lp.tmps) lp.assign lp.body w fun e w' => ∃ y' go, (if go = true then Inv (ds ++ [i]) y' else Stp y') ∧ e = .returned (.bool go) ∧ Hp w0 (UR y' ++ .reg 0 w0 :: F) w')
    (y : Z) (hy : Inv [] y) (hw : Hp w0 (.reg lo wr :: .reg 0 w0 :: UR y) w) : Calls Tryd.prog 87 #[.func (.yield l) #[] #[], .pointer (some p1)] w fun e w' => (∃ v, e = .returned v) ∧ ∃ y' go, (if go = true then Inv (memL x) y' else Stp y') ∧ Hp w0 (.reg lo wr :: .reg 0 w0 :: UR y') w' := by
  refine calls_of_SCr (args := [.func (.yield l) #[] #[], .pointer (some p1)]) Tryd.func87 rfl Tryd.ntmps87 rfl hw ?_
  simp only [argL, Nat.zero_add]
  refine sc_seq ?_
  refine sc_region ?_
  refine qs (by first | exact y_load_ca0 Tryd.underlying3 rfl RF MM hp1 rfl | exact LD3) ?_
  refine qs (y_conv Tryd.underlying3 Tryd.underlying103 RF (wrap_u64n x (by omega))) ?_
  refine qs (y_assign RF) ?_
  refine sq_nil ?_
  refine sx_then ?_
  refine sc_block ?_
  refine sc_loop (σ := List Nat × Nat × Z)
    (fun s_ => [(0, .func (.yield l) #[] #[]), (1, .pointer (some p1)), (3, .int .u64 (s_.2.1 : Int))])
    (fun s_ => (.reg lo wr :: .reg 0 w0 :: UR s_.2.2))
    (fun s_ => memL x = s_.1 ++ memL s_.2.1 ∧ s_.2.1 < 512 ∧ Inv s_.1 s_.2.2)
    (fun s_ => s_.2.1)
    (([], x, y)) ?_ SU SR ?_
  · exact ⟨rfl, hx, hy⟩
  rintro ⟨ds, left, y⟩ ⟨hmem, hlt, hinv⟩
  dsimp only at hmem hlt hinv ⊢
  refine sc_seq ?_
  refine sc_seq ?_
  refine sc_region ?_
  refine qs (y_move RF) ?_
  refine qs (y_neq RF RF) ?_
  refine sq_nil ?_
  refine sx_then ?_
  refine scp (fun hc0 => ?_) (fun hc0 => ?_)
  ·
    have hpos : 0 < left := by have := hc0; omega
    obtain ⟨hst, htz9, hdec⟩ := memL_step left hlt (by omega)
    obtain ⟨i, hi⟩ : ∃ i, tzV left = i := ⟨_, rfl⟩
    rw [hi] at hst htz9
    rw [hst] at hmem
    refine sc_skip ?_
    refine sx_then ?_
    refine sc_seq ?_
    refine sc_block ?_
    refine sc_seq ?_
    refine sc_region ?_
    refine qs (y_move RF) ?_
    refine qs (y_move RF) ?_
    refine qy (yc Tryd.call59 E1 (fun w1 hw1 => tz59 w1 (CA.at hT hw1 MM) left hpos (by omega))) ?_
    rw [hi]
    refine sq_yield (rs' := .reg lo wr :: .reg 0 w0 :: UR y) (Z := Z × Bool) (fun q => .bool q.2) (fun q => .reg lo wr :: .reg 0 w0 :: UR q.1) (fun q => if q.2 = true then Inv (ds ++ [i]) q.1 else Stp q.1) RF E1 (.tail _ (.tail _ (hloop _ y hinv))) (Sel.refl _) (by simpa using hone.symm) (fun w1 hw1 => (hround y ds i _ hmem hinv [.reg lo wr] w1 ((hw1.sel (Sel.cons (.there .here) (Sel.cons .here (Sel.refl _)))).sel (Sel.comm [.reg 0 w0, .reg lo wr] (UR y)))).mono (fun e w' ⟨y', go, h1, h2, h3⟩ => ⟨(y', go), h1, h2, (h3.sel (Sel.comm (UR y') [.reg 0 w0, .reg lo wr])).sel (Sel.cons (.there .here) (Sel.cons .here (Sel.refl _)))⟩)) rfl (fun q hq => ?_)
    refine qs (y_not RF) ?_
    refine sq_nil ?_
    refine sx_then ?_
    refine scp (fun hc1 => ?_) (fun hc1 => ?_)
    ·
      rw [if_neg (by simpa using hc1)] at hq
      refine sc_ret ?_
      refine sx_blk_ret ?_
      refine sx_then_ret ?_
      refine sx_round_ret ?_
      refine sx_blk_ret ?_
      refine sx_ret0 (.inl rfl) rfl Tryd.results87 ?_
      intro w' hw'
      exact ⟨⟨_, rfl⟩, q.1, false, by rw [if_neg (by simp)]; exact hq, hw'⟩
    ·
      rw [if_pos (by simpa using hc1)] at hq
      have hqI := hq
      refine sc_skip ?_
      refine sx_blk ?_
      refine sx_then ?_
      refine sc_region ?_
      refine qs (y_move RF) ?_
      refine qs (y_move RF) ?_
      refine qs (y_subw RF RF) ?_
      rw [show IntKind.u64.wrap ((left : Int) - 1) = ((left - 1 : Nat) : Int) from by rw [IntKind.wrap_u64]; omega]
      refine qs (y_andU (p := left) (q := left - 1) RF RF (by omega) (by omega)) ?_
      refine qs (y_assign RF) ?_
      refine sq_nil ?_
      refine sx_round ((ds ++ [i], left &&& (left - 1), q.1)) ?_ ?_ SU SR
      · refine ⟨by rw [hmem]; simp, by dsimp only; omega, hqI⟩
      · dsimp only; omega
  ·
    have hl0 : left = 0 := by have := hc0; omega
    subst hl0
    rw [memL_zero, List.append_nil] at hmem
    refine sc_exit ?_
    refine sx_then_exit ?_
    refine sx_round_exit ?_
    refine sx_blk_hit ?_
    refine sx_ret0 (.inr rfl) rfl Tryd.results87 ?_
    intro w' hw'
    exact ⟨⟨_, rfl⟩, y, true, by rw [if_pos rfl, hmem]; exact hinv, hw'⟩
/-- the same, for a body that goes on with the next one -/
theorem eachB {w0 w wr : World} {lo : Nat} {p1 : Addr} {x : Nat} {rs : List Res} {fn : FuncId} {tm : Array Value} {l D pa : Nat} {c cd : Code} (hw : Hp w0 (.blk l (.loop (LP fn tm [pa] c cd D)) :: .blk D (.deferred (some [])) :: rs) w) (hT : TabAt w0) (hx : x < 512) (hp1 : CA lo wr p1 [.int .i64 (x : Int)])
    {Z : Type} (FR : Z → List Res) (Inv : List Nat → Z → Prop) (y : Z) (hy : Inv [] y) (hsel : Sel (.reg lo wr :: .reg 0 w0 :: FR y) rs)
    (hround : ∀ (c' cd' : Code) (y : Z) (ds : List Nat) (i : Nat) (r : List Nat), memL x = ds ++ i :: r → Inv ds y → ∀ F w, Hp w0 (.blk l (.loop (LP fn tm [pa] c' cd' D)) :: .blk D (.deferred (some [])) :: (FR y ++ .reg 0 w0 :: F)) w → RoundIn (FW none) 0 Tryd.prog l fn (tm.setIfInBounds pa (.int .i64 (i : Int))) c cd w fun e w' => ∃ y', Inv (ds ++ [i]) y' ∧ e = .returned (.bool true) ∧ Hp w0 (.blk l (.loop (LP fn tm [pa] c' cd' D)) :: .blk D (.deferred (some [])) :: (FR y' ++ .reg 0 w0 :: F)) w') :
    Calls Tryd.prog 87 #[.func (.yield l) #[] #[], .pointer (some p1)] w fun e w' => (∃ v, e = .returned v) ∧ ∃ y, Inv (memL x) y ∧ Hp w0 (.blk l (.loop (LP fn tm [pa] c cd D)) :: .blk D (.deferred (some [])) :: .reg lo wr :: .reg 0 w0 :: FR y) w' := by
  have hw2 : Hp w0 (.reg lo wr :: .reg 0 w0 :: .blk l (.loop (LP fn tm [pa] c cd D)) :: .blk D (.deferred (some [])) :: FR y) w := (hw.sel (Sel.cons .here (Sel.cons .here hsel))).sel (Sel.cons (.there (.there .here)) (Sel.cons (.there (.there .here)) (Sel.refl _)))
  refine (each87 (w0 := w0) (lo := lo) (wr := wr) (lp := LP fn tm [pa] c cd D) hT hx hp1 (fun y => .blk l (.loop (LP fn tm [pa] c cd D)) :: .blk D (.deferred (some [])) :: FR y) Inv (fun _ => False) (fun _ _ _ => .head _) rfl ?_ y hy hw2).mono ?_
  · intro y ds i r hmem hinv F w2 hw2
    rw [fold1]
    refine (hround _ _ y ds i r hmem hinv F w2 hw2).mono ?_
    rintro e w' ⟨y', h1, h2, h3⟩
    exact ⟨y', true, by rw [if_pos rfl]; exact h1, h2, h3⟩
  · rintro e w' ⟨hv, y', go, h1, h2⟩
    refine ⟨hv, ?_⟩
    by_cases hgo : go = true
    · rw [if_pos hgo] at h1
      exact ⟨y', h1, h2.sel (Sel.cons (.there (.there .here)) (Sel.cons (.there (.there .here)) (Sel.refl _)))⟩
    · rw [if_neg hgo] at h1; exact h1.elim
end Go.Proofs.YtpijahglojichaaDoor
