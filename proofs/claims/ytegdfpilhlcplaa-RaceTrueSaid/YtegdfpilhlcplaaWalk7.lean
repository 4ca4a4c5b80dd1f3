/- The walks of what is told of a team: whether a truth fits, its count, its points. -/
import Derived.Test.YtegdfpilhlcplaaWalk6
import Derived.Test.YtegdfpilhlcplaaLaw3
namespace Go.Proofs.Ytegdfpilhlcplaa
open Go Go.Eng Go.RowKit Go.Proofs
set_option maxRecDepth 100000

theorem count45 (w : World) (p : Addr) (r : Rc) (team : Nat) (ws : List (Int × Sp)) (mm : Int) (hco : CoA 0 w p r team ws) (hok : rcB r = true) (hmm : 0 ≤ mm ∧ mm ≤ 1000) : Calls Try.prog 45 #[.pointer (some p), .int .i64 mm] w fun e w' => e = .returned (.agg #[.int .i64 (lowC ws r.rate mm), .int .i64 (highC r.p ws r.rate mm)]) ∧ Below w.heap.size w w' := by
  refine calls_of_SC (args := [.pointer (some p), .int .i64 mm]) Try.func45 rfl Try.ntmps45 rfl ?_
  simp only [argL, Nat.zero_add]
  refine sc_seq ?_
  refine sc_region ?_
  refine sq_alloc Try.zeroValue32 rfl (fun b4 => ?_)
  refine sq_nil ?_
  refine sx_then ?_
  refine sc_seq ?_
  refine sc_region ?_
  refine sq_y (OpY.s (y_move (by exact rfl))) rfl ?_
  refine sq_y (OpY.s (y_move (by exact rfl))) rfl ?_
  refine sq_y (y_call (first := []) (caps := []) (by exact rfl) Try.call46 (EvL.cons (by exact rfl) (EvL.cons (by exact rfl) EvL.nil)) (fun w1 hw1 => low46 w1 _ _ _ _ _ (hco.at hw1 (by repeat (first | exact .head _ | refine .tail _ ?_))) hok hmm)) rfl ?_
  refine sq_y (OpY.s (y_move (by exact rfl))) rfl ?_
  refine sq_y (OpY.s (y_move (by exact rfl))) rfl ?_
  refine sq_y (y_call (first := []) (caps := []) (by exact rfl) Try.call47 (EvL.cons (by exact rfl) (EvL.cons (by exact rfl) EvL.nil)) (fun w1 hw1 => high47 w1 _ _ _ _ _ (hco.at hw1 (by repeat (first | exact .head _ | refine .tail _ ?_))) hok hmm)) rfl ?_
  refine sq_y (OpY.s (y_build bt32 (EvP.cons (by exact rfl) (EvP.cons (by exact rfl) EvP.nil)) (by exact rfl))) rfl ?_
  refine sq_store_all Try.sizeOf32 (by exact rfl) (by exact rfl) rfl (by repeat (first | exact Rem.here | apply Rem.there)) rfl rfl ?_
  refine sq_nil ?_
  refine sx_then ?_
  refine sc_ret ?_
  refine sx_retc (.inl rfl) rfl Try.results45 Try.underlying32 rfl Try.sizeOf32 (by exact rfl) (by repeat (first | exact .head _ | refine .tail _ ?_)) rfl ?_
  intro w' hw'
  exact ⟨rfl, hw'.below (by repeat (first | exact .head _ | refine .tail _ ?_))⟩
theorem bad79 (w : World) (p : Addr) (r : Rc) (team : Nat) (ws : List (Int × Sp)) (b : Addr) (mm : Int) (hco : CoA 0 w p r team ws) (hok : rcB r = true) (hb : CA 0 w b [.pointer (some p)]) (hmm : 0 ≤ mm ∧ mm ≤ 1000) : Calls Try.prog 79 #[.int .i64 mm, .pointer (some b)] w fun e w' => e = .returned (.bool (decide (lowC ws r.rate mm > highC r.p ws r.rate mm))) ∧ Below w.heap.size w w' := by
  refine calls_of_SC (args := [.int .i64 mm, .pointer (some b)]) Try.func79 rfl Try.ntmps79 rfl ?_
  simp only [argL, Nat.zero_add]
  refine sc_seq ?_
  refine sc_region ?_
  refine sq_y (OpY.s (y_assign (by exact rfl))) rfl ?_
  refine sq_nil ?_
  refine sx_then ?_
  refine sc_seq ?_
  refine sc_draw rfl (by kernel_rfl) (by kernel_rfl) ?_
  refine qq_y (OpY.s (by first | exact y_load_blk Try.underlying72 rfl (by exact rfl) (by repeat (first | exact .head _ | refine .tail _ ?_)) (by exact rfl) | exact y_load_caj Try.underlying72 rfl (by exact rfl) (by repeat (first | exact .head _ | refine .tail _ ?_)) (by assumption) (by exact rfl) | exact y_load_ca0 Try.underlying72 rfl (by exact rfl) (by repeat (first | exact .head _ | refine .tail _ ?_)) (by assumption) (by exact rfl))) rfl ?_
  refine qq_y (OpY.s (y_move (by exact rfl))) rfl ?_
  refine qq_y (y_call (first := []) (caps := []) (by exact rfl) Try.call46 (EvL.cons (by exact rfl) (EvL.cons (by exact rfl) EvL.nil)) (fun w1 hw1 => low46 w1 _ _ _ _ _ (hco.at hw1 (by repeat (first | exact .head _ | refine .tail _ ?_))) hok hmm)) rfl ?_
  refine qq_y (OpY.s (by first | exact y_load_blk Try.underlying72 rfl (by exact rfl) (by repeat (first | exact .head _ | refine .tail _ ?_)) (by exact rfl) | exact y_load_caj Try.underlying72 rfl (by exact rfl) (by repeat (first | exact .head _ | refine .tail _ ?_)) (by assumption) (by exact rfl) | exact y_load_ca0 Try.underlying72 rfl (by exact rfl) (by repeat (first | exact .head _ | refine .tail _ ?_)) (by assumption) (by exact rfl))) rfl ?_
  refine qq_y (OpY.s (y_move (by exact rfl))) rfl ?_
  refine qq_y (y_call (first := []) (caps := []) (by exact rfl) Try.call47 (EvL.cons (by exact rfl) (EvL.cons (by exact rfl) EvL.nil)) (fun w1 hw1 => high47 w1 _ _ _ _ _ (hco.at hw1 (by repeat (first | exact .head _ | refine .tail _ ?_))) hok hmm)) rfl ?_
  refine qq_y (OpY.s (y_gtr (by exact rfl) (by exact rfl))) rfl ?_
  refine qq_y (OpY.s (y_assign (by exact rfl))) rfl ?_
  refine qq_nil ?_
  refine sx_then ?_
  refine sc_ret ?_
  refine sx_ret1 (.inl rfl) rfl Try.results79 (by exact rfl) ?_
  intro w' hw'
  exact ⟨rfl, hw'.below (by repeat (first | exact .head _ | refine .tail _ ?_))⟩
theorem isTrue59 (w : World) (p : Addr) (r : Rc) (team : Nat) (ws : List (Int × Sp)) (hco : CoA 0 w p r team ws) (hok : rcB r = true) : Calls Try.prog 59 #[.pointer (some p)] w fun e w' => e = .returned (.bool (trueC r.p ws r.rate)) ∧ Below w.heap.size w w' := by
  obtain ⟨a, c, f, cf, a1, c1, a2, c2, a3, c3, hca, hT, hl1, hl2, hl3⟩ := hco.ex
  have hws := hco.ok
  have hlen := hco.n
  have hnum := rcB_nums hok
  simp only [rcVal, List.cons_append, List.nil_append] at hca
  refine calls_of_SC (args := [.pointer (some p)]) Try.func59 rfl Try.ntmps59 rfl ?_
  simp only [argL]
  refine sc_seq ?_
  refine sc_region ?_
  refine sq_box (by exact rfl) rfl (fun b1 => ?_)
  refine sq_y (OpY.s (y_assign (by exact rfl))) rfl ?_
  refine sq_nil ?_
  refine sx_then ?_
  refine sc_seq ?_
  refine sc_region ?_
  refine sq_y (OpY.s (y_makeFunc EvL.nil (EvL.cons (by exact rfl) EvL.nil))) rfl ?_
  refine sq_y (OpY.s (y_assign (by exact rfl))) rfl ?_
  refine sq_nil ?_
  refine sx_then ?_
  refine sc_seq ?_
  refine sc_region ?_
  refine sq_y (OpY.s (by first | exact y_load_blk Try.underlying72 rfl (by exact rfl) (by repeat (first | exact .head _ | refine .tail _ ?_)) (by exact rfl) | exact y_load_caj Try.underlying72 rfl (by exact rfl) (by repeat (first | exact .head _ | refine .tail _ ?_)) (by assumption) (by exact rfl) | exact y_load_ca0 Try.underlying72 rfl (by exact rfl) (by repeat (first | exact .head _ | refine .tail _ ?_)) (by assumption) (by exact rfl))) rfl ?_
  refine sq_y (OpY.s (y_nilCheck (by exact rfl))) rfl ?_
  refine sq_y (OpY.s (by first | exact y_fab Try.underlying100 (by exact rfl) (by exact Try.sizeOf51) (by exact rfl) rfl | exact y_fa Try.underlying100 (by exact rfl) (by exact Try.sizeOf51) (by exact rfl) rfl)) rfl ?_
  refine sq_y (OpY.s (by first | exact y_load_blk Try.underlying51 rfl (by exact rfl) (by repeat (first | exact .head _ | refine .tail _ ?_)) (by exact rfl) | exact y_load_caj Try.underlying51 rfl (by exact rfl) (by repeat (first | exact .head _ | refine .tail _ ?_)) (by assumption) (by exact rfl) | exact y_load_ca0 Try.underlying51 rfl (by exact rfl) (by repeat (first | exact .head _ | refine .tail _ ?_)) (by assumption) (by exact rfl))) rfl ?_
  refine sq_y (OpY.s (y_move (by exact rfl))) rfl ?_
  refine sq_y (y_call (first := []) (caps := []) (by exact rfl) Try.call80 (EvL.cons (by exact rfl) (EvL.cons (by exact rfl) EvL.nil)) (fun w1 hw1 => containsIn 79 [.pointer (some ⟨b1, 0, none⟩)] (fun i => decide (lowC ws r.rate (ws.getD i (0, sp0)).1 > highC r.p ws r.rate (ws.getD i (0, sp0)).1)) w1 a3 _ c3 (fun i => (ws.getD i (0, sp0)).1) (by omega) (fun i hi => ((hl3.at hw1 (by repeat (first | exact .head _ | refine .tail _ ?_))) i _ (by rw [List.getElem?_map, get_of_lt (0, sp0) hi]; rfl))) Try.call79 (fun i hi w2 hb => bad79 w2 p r team ws _ _ ((hco.at hw1 (by repeat (first | exact .head _ | refine .tail _ ?_))).below hb) hok (CA.below (CA.blk (vs := [.pointer (some p)]) hw1 (by repeat (first | exact .head _ | refine .tail _ ?_))) hb) (hws _ (List.mem_of_getElem? (get_of_lt (0, sp0) hi))).1))) rfl ?_
  refine sq_y (OpY.s (y_not (by exact rfl))) rfl ?_
  refine sq_y (OpY.s (y_assign (by exact rfl))) rfl ?_
  refine sq_nil ?_
  refine sx_then ?_
  refine sc_ret ?_
  refine sx_ret1 (.inl rfl) rfl Try.results59 (by exact rfl) ?_
  intro w' hw'
  refine ⟨?_, hw'.below (by repeat (first | exact .head _ | refine .tail _ ?_))⟩
  rw [any_range_get ws (0, sp0) (fun x => decide (lowC ws r.rate x.1 > highC r.p ws r.rate x.1))]
  unfold trueC
  rw [List.any_eq_not_all_not, Bool.not_not]
  congr 3
  funext x
  rw [← decide_not]; exact decide_eq_decide.2 (by omega)
theorem search84 (w : World) (g : FuncId) (caps : List Value) (n : Nat) (q : Nat → Bool) (hn : n ≤ 1000000) (hmono : ∀ i j, i ≤ j → j < n → q i = true → q j = true) (hcg : ∀ args w, (callFunc g args).run Try.prog w = .ok (.enter g args) w)
    (hq : ∀ i, i < n → ∀ w1, Below w.heap.size w w1 → Calls Try.prog g (.int .i64 (i : Int) :: caps).toArray w1 fun e w' => e = .returned (.bool (q i)) ∧ Below w1.heap.size w1 w') :
    Calls Try.prog 84 #[.int .i64 n, .func (.func g) #[] caps.toArray] w fun e w' => (∃ s : Nat, e = .returned (.int .i64 (s : Int)) ∧ (s ≤ n ∧ (List.range n).countP q = n - s)) ∧ Below w.heap.size w w' := by
  refine calls_of_SC (args := [.int .i64 n, .func (.func g) #[] caps.toArray]) Try.func84 rfl Try.ntmps84 rfl ?_
  simp only [argL, Nat.zero_add]
  refine sc_seq ?_
  refine sc_region ?_
  refine sq_y (OpY.s (y_assign (by exact rfl))) rfl ?_
  refine sq_nil ?_
  refine sx_then ?_
  refine sc_seq ?_
  refine sc_region ?_
  refine sq_y (OpY.s (y_move (by exact rfl))) rfl ?_
  refine sq_y (OpY.s (y_assign (by exact rfl))) rfl ?_
  refine sq_y (OpY.s (y_assign (by exact rfl))) rfl ?_
  refine sq_nil ?_
  refine sx_then ?_
  refine sc_seq ?_
  refine sc_block ?_
  refine sc_loop (σ := Nat × Nat)
    (fun s => [(1, .func (.func g) #[] caps.toArray), (5, .int .i64 s.1), (6, .int .i64 s.2)])
    (fun s => [.reg 0 w])
    (fun s => s.1 ≤ s.2 ∧ s.2 ≤ n ∧ (∀ k, k < s.1 → q k = false) ∧ (∀ k, s.2 ≤ k → k < n → q k = true))
    (fun s => s.2 - s.1)
    ((0, n)) ?_ (by repeat (first | exact SubL.nil | refine SubL.cons (by first | exact rfl | exact lk_int rfl (by omega) | exact lk_eq rfl (by simp)) ?_)) (by repeat (first | exact Sel.nil | refine Sel.cons (by repeat (first | exact Rem.here | apply Rem.there)) ?_)) ?_
  · exact ⟨Nat.zero_le _, Nat.le_refl _, fun k hk => absurd hk (Nat.not_lt_zero k), fun k h1 h2 => absurd h2 (by omega)⟩
  rintro ⟨i, j⟩ ⟨hij, hjn, hlo, hhi⟩
  dsimp only at hij hjn hlo hhi ⊢
  refine sc_seq ?_
  refine sc_seq ?_
  refine sc_region ?_
  refine sq_y (OpY.s (y_move (by exact rfl))) rfl ?_
  refine sq_y (OpY.s (y_move (by exact rfl))) rfl ?_
  refine sq_y (OpY.s (y_lss (by exact rfl) (by exact rfl))) rfl ?_
  refine sq_nil ?_
  refine sx_then ?_
  first | refine sc_if (by exact rfl) (fun hc0 => ?_) (fun hc0 => ?_) | refine sc_ifn (by exact rfl) (fun hc0 => ?_) (fun hc0 => ?_) | refine sc_cond (by exact rfl) (fun hc0 => ?_) (fun hc0 => ?_)
  ·
    have hmid : ((i : Int) + (j : Int)) / 2 ^ (1 : Int).toNat = (((i + j) / 2 : Nat) : Int) := by simp
    have hmn : (i + j) / 2 < n := by omega
    refine sc_skip ?_
    refine sx_then ?_
    refine sc_block ?_
    refine sc_seq ?_
    refine sc_region ?_
    refine sq_y (OpY.s (y_move (by exact rfl))) rfl ?_
    refine sq_y (OpY.s (y_move (by exact rfl))) rfl ?_
    refine sq_y (OpY.s (y_add (by exact rfl) (by exact rfl) (by omega))) rfl ?_
    refine sq_y (OpY.s (y_conv Try.underlying3 Try.underlying88 (by exact rfl) (IntKind.wrap_u64 _ ▸ Int.emod_eq_of_lt (by omega) (by omega)))) rfl ?_
    refine sq_y (OpY.s (y_shr (by exact rfl) (by exact rfl) (by first | decide | (simp [IntKind.bits]; omega)))) rfl ?_
    rw [hmid]
    refine sq_y (OpY.s (y_conv Try.underlying88 Try.underlying3 (by exact rfl) (by simp only [IntKind.wrap_i64]; omega))) rfl ?_
    refine sq_y (OpY.s (y_assign (by exact rfl))) rfl ?_
    refine sq_nil ?_
    refine sx_then ?_
    refine sc_seq ?_
    refine sc_region ?_
    refine sq_y (OpY.s (y_move (by exact rfl))) rfl ?_
    refine sq_y (OpY.s (y_move (by exact rfl))) rfl ?_
    refine sq_y (y_call (first := []) (caps := caps) (by exact rfl) hcg (EvL.cons (by exact rfl) EvL.nil) (fun w1 hw1 => hq _ hmn w1 (hw1.below (by repeat (first | exact .head _ | refine .tail _ ?_))))) rfl ?_
    refine sq_y (OpY.s (y_not (by exact rfl))) rfl ?_
    refine sq_nil ?_
    refine sx_then ?_
    first | refine sc_if (by exact rfl) (fun hc1 => ?_) (fun hc1 => ?_) | refine sc_ifn (by exact rfl) (fun hc1 => ?_) (fun hc1 => ?_) | refine sc_cond (by exact rfl) (fun hc1 => ?_) (fun hc1 => ?_)
    ·
      refine sc_region ?_
      refine sq_y (OpY.s (y_move (by exact rfl))) rfl ?_
      refine sq_y (OpY.s (y_add (by exact rfl) (by exact rfl) (by omega))) rfl ?_
      refine sq_y (OpY.s (y_assign (by exact rfl))) rfl ?_
      refine sq_nil ?_
      refine sx_blk ?_
      refine sx_round (((i + j) / 2 + 1, j)) ?_ ?_ (by repeat (first | exact SubL.nil | refine SubL.cons (by first | exact rfl | exact lk_int rfl (by omega) | exact lk_eq rfl (by simp)) ?_)) (by repeat (first | exact Sel.nil | refine Sel.cons (by repeat (first | exact Rem.here | apply Rem.there)) ?_))
      · refine ⟨by dsimp only; omega, hjn, fun k hk => ?_, hhi⟩
        cases hqk : q k
        · rfl
        · have := hmono k ((i + j) / 2) (by dsimp only at hk; omega) (by omega) hqk
          rw [this] at hc1; simp at hc1
      · dsimp only; omega
    ·
      refine sc_region ?_
      refine sq_y (OpY.s (y_move (by exact rfl))) rfl ?_
      refine sq_y (OpY.s (y_assign (by exact rfl))) rfl ?_
      refine sq_nil ?_
      refine sx_blk ?_
      refine sx_round ((i, (i + j) / 2)) ?_ ?_ (by repeat (first | exact SubL.nil | refine SubL.cons (by first | exact rfl | exact lk_int rfl (by omega) | exact lk_eq rfl (by simp)) ?_)) (by repeat (first | exact Sel.nil | refine Sel.cons (by repeat (first | exact Rem.here | apply Rem.there)) ?_))
      · refine ⟨by dsimp only; omega, by dsimp only; omega, hlo, fun k h1 h2 => ?_⟩
        exact hmono ((i + j) / 2) k h1 h2 (by simpa using hc1)
      · dsimp only; omega
  ·
    refine sc_exit ?_
    refine sx_then_exit ?_
    refine sx_round_exit ?_
    refine sx_blk_hit ?_
    refine sx_then ?_
    refine sc_seq ?_
    refine sc_region ?_
    refine sq_y (OpY.s (y_move (by exact rfl))) rfl ?_
    refine sq_y (OpY.s (y_assign (by exact rfl))) rfl ?_
    refine sq_nil ?_
    refine sx_then ?_
    refine sc_ret ?_
    refine sx_ret1 (.inl rfl) rfl Try.results84 (by exact rfl) ?_
    intro w' hw'
    refine ⟨⟨i, rfl, by omega, ?_⟩, hw'.below (by repeat (first | exact .head _ | refine .tail _ ?_))⟩
    have hji : j = i := by omega
    subst hji
    exact countP_split hjn hlo hhi
theorem reached85 (w : World) (p : Addr) (r : Rc) (team : Nat) (ws : List (Int × Sp)) (b b' : Addr) (g : FuncId) (h : Nat → Int) (mm : Nat) (hcg : ∀ args w, (callFunc g args).run Try.prog w = .ok (.enter g args) w) (hh : ∀ w1, Below w.heap.size w w1 → Calls Try.prog g #[.pointer (some p), .int .i64 mm] w1 fun e w' => e = .returned (.int .i64 (h mm)) ∧ Below w1.heap.size w1 w') (hco : CoA 0 w p r team ws) (hok : rcB r = true) (hb : CA 0 w b [.func (.func g) #[.pointer (some p)] #[]]) (hb' : CA 0 w b' [.pointer (some p)]) :
    Calls Try.prog 85 #[.int .i64 mm, .pointer (some b), .pointer (some b')] w fun e w' => e = .returned (.bool (decide (h mm ≥ r.p))) ∧ Below w.heap.size w w' := by
  obtain ⟨a, c, f, cf, a1, c1, a2, c2, a3, c3, hca, hT, hl1, hl2, hl3⟩ := hco.ex
  have hws := hco.ok
  have hlen := hco.n
  have hnum := rcB_nums hok
  simp only [rcVal, List.cons_append, List.nil_append] at hca
  refine calls_of_SC (args := [.int .i64 mm, .pointer (some b), .pointer (some b')]) Try.func85 rfl Try.ntmps85 rfl ?_
  simp only [argL, Nat.reduceAdd, Nat.zero_add]
  refine sc_seq ?_
  refine sc_region ?_
  refine sq_y (OpY.s (y_assign (by exact rfl))) rfl ?_
  refine sq_nil ?_
  refine sx_then ?_
  refine sc_seq ?_
  refine sc_draw rfl (by kernel_rfl) (by kernel_rfl) ?_
  refine qq_y (OpY.s (by first | exact y_load_blk Try.underlying73 rfl (by exact rfl) (by repeat (first | exact .head _ | refine .tail _ ?_)) (by exact rfl) | exact y_load_caj Try.underlying73 rfl (by exact rfl) (by repeat (first | exact .head _ | refine .tail _ ?_)) (by assumption) (by exact rfl) | exact y_load_ca0 Try.underlying73 rfl (by exact rfl) (by repeat (first | exact .head _ | refine .tail _ ?_)) (by assumption) (by exact rfl))) rfl ?_
  refine qq_y (OpY.s (y_move (by exact rfl))) rfl ?_
  refine qq_y (y_call (first := [.pointer (some p)]) (caps := []) (by exact rfl) hcg (EvL.cons (by exact rfl) EvL.nil) (fun w1 hw1 => hh w1 (hw1.below (by repeat (first | exact .head _ | refine .tail _ ?_))))) rfl ?_
  refine qq_y (OpY.s (by first | exact y_load_blk Try.underlying72 rfl (by exact rfl) (by repeat (first | exact .head _ | refine .tail _ ?_)) (by exact rfl) | exact y_load_caj Try.underlying72 rfl (by exact rfl) (by repeat (first | exact .head _ | refine .tail _ ?_)) (by assumption) (by exact rfl) | exact y_load_ca0 Try.underlying72 rfl (by exact rfl) (by repeat (first | exact .head _ | refine .tail _ ?_)) (by assumption) (by exact rfl))) rfl ?_
  refine qq_y (OpY.s (y_nilCheck (by exact rfl))) rfl ?_
  refine qq_y (OpY.s (by first | exact y_fab Try.underlying100 (by exact rfl) (by exact Try.sizeOf24) (by exact rfl) rfl | exact y_fa Try.underlying100 (by exact rfl) (by exact Try.sizeOf24) (by exact rfl) rfl)) rfl ?_
  refine qq_y (OpY.s (by first | exact y_fab Try.underlying24 (by exact rfl) (by exact Try.sizeOf3) (by exact rfl) rfl | exact y_fa Try.underlying24 (by exact rfl) (by exact Try.sizeOf3) (by exact rfl) rfl)) rfl ?_
  refine qq_y (OpY.s (by first | exact y_load_blk Try.underlying3 rfl (by exact rfl) (by repeat (first | exact .head _ | refine .tail _ ?_)) (by exact rfl) | exact y_load_caj Try.underlying3 rfl (by exact rfl) (by repeat (first | exact .head _ | refine .tail _ ?_)) (by assumption) (by exact rfl) | exact y_load_ca0 Try.underlying3 rfl (by exact rfl) (by repeat (first | exact .head _ | refine .tail _ ?_)) (by assumption) (by exact rfl))) rfl ?_
  refine qq_y (OpY.s (y_geq (by exact rfl) (by exact rfl))) rfl ?_
  refine qq_y (OpY.s (y_assign (by exact rfl))) rfl ?_
  refine qq_nil ?_
  refine sx_then ?_
  refine sc_ret ?_
  refine sx_ret1 (.inl rfl) rfl Try.results85 (by exact rfl) ?_
  intro w' hw'
  exact ⟨rfl, hw'.below (by repeat (first | exact .head _ | refine .tail _ ?_))⟩
theorem points73 (w : World) (p : Addr) (r : Rc) (team : Nat) (ws : List (Int × Sp)) (g : FuncId) (h : Nat → Int) (mm : Nat) (hmm : mm ≤ 1000) (hteam : team < r.teams.length) (hmono : ∀ i j, i ≤ j → h i ≤ h j) (hbd : ∀ i, 0 ≤ h i ∧ h i ≤ 10000) (hcg : ∀ args w, (callFunc g args).run Try.prog w = .ok (.enter g args) w) (hh : ∀ m : Nat, m ≤ 1000 → ∀ w1, Below w.heap.size w w1 → Calls Try.prog g #[.pointer (some p), .int .i64 m] w1 fun e w' => e = .returned (.int .i64 (h m)) ∧ Below w1.heap.size w1 w') (hco : CoA 0 w p r team ws) (hok : rcB r = true) :
    Calls Try.prog 73 #[.pointer (some p), .func (.func g) #[.pointer (some p)] #[], .int .i64 mm] w fun e w' => e = .returned (.int .i64 (ptsC h r.p (penOf r team) mm)) ∧ Below w.heap.size w w' := by
  obtain ⟨a, c, f, cf, a1, c1, a2, c2, a3, c3, hca, hT, hl1, hl2, hl3⟩ := hco.ex
  have hws := hco.ok
  have hlen := hco.n
  have hnum := rcB_nums hok
  simp only [rcVal, List.cons_append, List.nil_append] at hca
  obtain ⟨tm, ht⟩ : ∃ tm, r.teams[team]? = some tm := ⟨_, List.getElem?_eq_getElem hteam⟩
  have hsomeT := (hT.el team tm ht).1
  have hcaT := (hT.el team tm ht).2
  have htm := rcB_team hok (List.mem_of_getElem? ht)
  have hpen : 0 ≤ tm.pen ∧ tm.pen ≤ 1000 := by simp only [tmB, Bool.and_eq_true, decide_eq_true_eq] at htm; exact htm.1.1
  have hpe : penOf r team = tm.pen := by unfold penOf; rw [getD_of ht]
  have hlenT := hT.len
  have hbm := hbd mm
  refine calls_of_SC (args := [.pointer (some p), .func (.func g) #[.pointer (some p)] #[], .int .i64 mm]) Try.func73 rfl Try.ntmps73 rfl ?_
  simp only [argL, Nat.reduceAdd, Nat.zero_add]
  refine sc_seq ?_
  refine sc_region ?_
  refine sq_box (by exact rfl) rfl (fun b3 => ?_)
  refine sq_box (by exact rfl) rfl (fun b4 => ?_)
  refine sq_y (OpY.s (y_assign (by exact rfl))) rfl ?_
  refine sq_nil ?_
  refine sx_then ?_
  refine sc_seq ?_
  refine sc_region ?_
  refine sq_y (OpY.s (y_move (by exact rfl))) rfl ?_
  refine sq_y (OpY.s (y_makeFunc EvL.nil (EvL.cons (by exact rfl) (EvL.cons (by exact rfl) EvL.nil)))) rfl ?_
  refine sq_call (first := []) (caps := []) (vs := [.int .i64 mm, .func (.func 85) #[] #[.pointer (some ⟨b4, 0, none⟩), .pointer (some ⟨b3, 0, none⟩)]]) (Z := Nat) (fun z => .int .i64 z) (fun _ => [.blk b4 (.cells (Value.func (.func g) #[.pointer (some p)] #[]).cells 73 (0, 0)), .blk b3 (.cells (Value.pointer (some p)).cells 72 (0, 0)), .reg 0 w]) (fun z => z ≤ mm ∧ (List.range mm).countP (fun i => decide (h i ≥ r.p)) = mm - z) (by exact rfl) Try.call84 (EvL.cons (by exact rfl) (EvL.cons (by exact rfl) EvL.nil)) (fun w1 hw1 => (search84 w1 85 [.pointer (some ⟨b4, 0, none⟩), .pointer (some ⟨b3, 0, none⟩)] mm (fun i => decide (h i ≥ r.p)) (by omega) (fun i j hij _ hq => decide_eq_true (Int.le_trans (of_decide_eq_true hq) (hmono i j hij))) Try.call85 (fun i hi w2 hb => reached85 w2 p r team ws _ _ g h i hcg (fun w3 hb3 => hh i (by omega) w3 (((hw1.below (by repeat (first | exact .head _ | refine .tail _ ?_))).trans (hb.mono (hw1.below (by repeat (first | exact .head _ | refine .tail _ ?_))).size)).trans (hb3.mono (Nat.le_trans (hw1.below (by repeat (first | exact .head _ | refine .tail _ ?_))).size hb.size)))) ((hco.at hw1 (by repeat (first | exact .head _ | refine .tail _ ?_))).below hb) hok (CA.below (CA.blk (vs := [.func (.func g) #[.pointer (some p)] #[]]) hw1 (by repeat (first | exact .head _ | refine .tail _ ?_))) hb) (CA.below (CA.blk (vs := [.pointer (some p)]) hw1 (by repeat (first | exact .head _ | refine .tail _ ?_))) hb))).mono (fun e w2 ⟨⟨z, he, hz⟩, hb⟩ => ⟨z, hz, he, (hw1.ext hb).sel (by repeat (first | exact Sel.nil | refine Sel.cons (by repeat (first | exact Rem.here | apply Rem.there)) ?_))⟩)) rfl (fun z hz => ?_)
  refine sq_y (OpY.s (y_assign (by exact rfl))) rfl ?_
  refine sq_nil ?_
  refine sx_then ?_
  refine sc_seq ?_
  refine sc_draw rfl (by kernel_rfl) (by kernel_rfl) ?_
  refine qq_y (OpY.s (by first | exact y_load_blk Try.underlying73 rfl (by exact rfl) (by repeat (first | exact .head _ | refine .tail _ ?_)) (by exact rfl) | exact y_load_caj Try.underlying73 rfl (by exact rfl) (by repeat (first | exact .head _ | refine .tail _ ?_)) (by assumption) (by exact rfl) | exact y_load_ca0 Try.underlying73 rfl (by exact rfl) (by repeat (first | exact .head _ | refine .tail _ ?_)) (by assumption) (by exact rfl))) rfl ?_
  refine qq_y (OpY.s (y_move (by exact rfl))) rfl ?_
  refine qq_y (y_call (first := [.pointer (some p)]) (caps := []) (by exact rfl) hcg (EvL.cons (by exact rfl) EvL.nil) (fun w1 hw1 => hh mm hmm w1 (hw1.below (by repeat (first | exact .head _ | refine .tail _ ?_))))) rfl ?_
  refine qq_y (OpY.s (y_move (by exact rfl))) rfl ?_
  refine qq_y (OpY.s (y_add (by exact rfl) (by exact rfl) (by omega))) rfl ?_
  refine qq_y (OpY.s (y_move (by exact rfl))) rfl ?_
  refine qq_y (OpY.s (y_sub (by exact rfl) (by exact rfl) (by omega))) rfl ?_
  refine qq_y (OpY.s (by first | exact y_load_blk Try.underlying72 rfl (by exact rfl) (by repeat (first | exact .head _ | refine .tail _ ?_)) (by exact rfl) | exact y_load_caj Try.underlying72 rfl (by exact rfl) (by repeat (first | exact .head _ | refine .tail _ ?_)) (by assumption) (by exact rfl) | exact y_load_ca0 Try.underlying72 rfl (by exact rfl) (by repeat (first | exact .head _ | refine .tail _ ?_)) (by assumption) (by exact rfl))) rfl ?_
  refine qq_y (OpY.s (y_nilCheck (by exact rfl))) rfl ?_
  refine qq_y (OpY.s (by first | exact y_fab Try.underlying100 (by exact rfl) (by exact Try.sizeOf24) (by exact rfl) rfl | exact y_fa Try.underlying100 (by exact rfl) (by exact Try.sizeOf24) (by exact rfl) rfl)) rfl ?_
  refine qq_y (OpY.s (by first | exact y_fab Try.underlying24 (by exact rfl) (by exact Try.sizeOf22) (by exact rfl) rfl | exact y_fa Try.underlying24 (by exact rfl) (by exact Try.sizeOf22) (by exact rfl) rfl)) rfl ?_
  refine qq_y (OpY.s (by first | exact y_load_blk Try.underlying22 rfl (by exact rfl) (by repeat (first | exact .head _ | refine .tail _ ?_)) (by exact rfl) | exact y_load_caj Try.underlying22 rfl (by exact rfl) (by repeat (first | exact .head _ | refine .tail _ ?_)) (by assumption) (by exact rfl) | exact y_load_ca0 Try.underlying22 rfl (by exact rfl) (by repeat (first | exact .head _ | refine .tail _ ?_)) (by assumption) (by exact rfl))) rfl ?_
  refine qq_y (OpY.s (by first | exact y_load_blk Try.underlying72 rfl (by exact rfl) (by repeat (first | exact .head _ | refine .tail _ ?_)) (by exact rfl) | exact y_load_caj Try.underlying72 rfl (by exact rfl) (by repeat (first | exact .head _ | refine .tail _ ?_)) (by assumption) (by exact rfl) | exact y_load_ca0 Try.underlying72 rfl (by exact rfl) (by repeat (first | exact .head _ | refine .tail _ ?_)) (by assumption) (by exact rfl))) rfl ?_
  refine qq_y (OpY.s (y_nilCheck (by exact rfl))) rfl ?_
  refine qq_y (OpY.s (by first | exact y_fab Try.underlying100 (by exact rfl) (by exact Try.sizeOf3) (by exact rfl) rfl | exact y_fa Try.underlying100 (by exact rfl) (by exact Try.sizeOf3) (by exact rfl) rfl)) rfl ?_
  refine qq_y (OpY.s (by first | exact y_load_blk Try.underlying3 rfl (by exact rfl) (by repeat (first | exact .head _ | refine .tail _ ?_)) (by exact rfl) | exact y_load_caj Try.underlying3 rfl (by exact rfl) (by repeat (first | exact .head _ | refine .tail _ ?_)) (by assumption) (by exact rfl) | exact y_load_ca0 Try.underlying3 rfl (by exact rfl) (by repeat (first | exact .head _ | refine .tail _ ?_)) (by assumption) (by exact rfl))) rfl ?_
  refine qq_y (OpY.s (by first | exact y_ia_blk Try.underlying22 Try.sizeOf66 (by exact rfl) (by exact rfl) (by omega) | exact y_ia_el Try.underlying22 Try.sizeOf66 (by exact rfl) (by exact rfl) (by omega) (by first | assumption | simp))) rfl ?_
  refine qq_y (OpY.s (by first | exact y_fab Try.underlying66 (by exact rfl) (by exact Try.sizeOf3) (by exact rfl) rfl | exact y_fa Try.underlying66 (by exact rfl) (by exact Try.sizeOf3) (by exact rfl) rfl)) rfl ?_
  refine qq_y (OpY.s (by first | exact y_load_blk Try.underlying3 rfl (by exact rfl) (by repeat (first | exact .head _ | refine .tail _ ?_)) (by exact rfl) | exact y_load_caj Try.underlying3 rfl (by exact rfl) (by repeat (first | exact .head _ | refine .tail _ ?_)) (by assumption) (by exact rfl) | exact y_load_ca0 Try.underlying3 rfl (by exact rfl) (by repeat (first | exact .head _ | refine .tail _ ?_)) (by assumption) (by exact rfl))) rfl ?_
  refine qq_y (OpY.s (y_sub (by exact rfl) (by exact rfl) (by omega))) rfl ?_
  refine qq_y (OpY.s (y_assign (by exact rfl))) rfl ?_
  refine qq_nil ?_
  refine sx_then ?_
  refine sc_ret ?_
  refine sx_ret1 (.inl rfl) rfl Try.results73 (by exact rfl) ?_
  intro w' hw'
  refine ⟨?_, hw'.below (by repeat (first | exact .head _ | refine .tail _ ?_))⟩
  unfold ptsC
  rw [hz.2, hpe]
  congr 3
  omega
theorem span50 (w : World) (p : Addr) (r : Rc) (team : Nat) (ws : List (Int × Sp)) (mm : Nat) (hmm : mm ≤ 1000) (hteam : team < r.teams.length) (hco : CoA 0 w p r team ws) (hok : rcB r = true) :
    Calls Try.prog 50 #[.pointer (some p), .int .i64 mm] w fun e w' => e = .returned (.agg #[.int .i64 (ptsLo r team ws mm), .int .i64 (ptsHi r team ws mm)]) ∧ Below w.heap.size w w' := by
  have hnum := rcB_nums hok
  have hws := hco.ok
  refine calls_of_SC (args := [.pointer (some p), .int .i64 mm]) Try.func50 rfl Try.ntmps50 rfl ?_
  simp only [argL, Nat.zero_add]
  refine sc_seq ?_
  refine sc_region ?_
  refine sq_alloc Try.zeroValue32 rfl (fun b4 => ?_)
  refine sq_nil ?_
  refine sx_then ?_
  refine sc_seq ?_
  refine sc_region ?_
  refine sq_y (OpY.s (y_move (by exact rfl))) rfl ?_
  refine sq_y (OpY.s (y_makeFunc (EvL.cons (by exact rfl) EvL.nil) EvL.nil)) rfl ?_
  refine sq_y (OpY.s (y_move (by exact rfl))) rfl ?_
  refine sq_y (OpY.s (y_makeFunc (EvL.cons (by exact rfl) EvL.nil) EvL.nil)) rfl ?_
  refine sq_y (OpY.s (y_assign (by exact rfl))) rfl ?_
  refine sq_y (OpY.s (y_assign (by exact rfl))) rfl ?_
  refine sq_nil ?_
  refine sx_then ?_
  refine sc_seq ?_
  refine sc_region ?_
  refine sq_y (OpY.s (y_move (by exact rfl))) rfl ?_
  refine sq_y (OpY.s (y_move (by exact rfl))) rfl ?_
  refine sq_y (OpY.s (y_move (by exact rfl))) rfl ?_
  refine sq_y (y_call (first := []) (caps := []) (by exact rfl) Try.call73 (EvL.cons (by exact rfl) (EvL.cons (by exact rfl) (EvL.cons (by exact rfl) EvL.nil))) (fun w1 hw1 => points73 w1 p r team ws 46 (fun m => lowC ws r.rate m) mm hmm hteam (fun i j hij => lowC_mono (by omega) (by omega)) (fun i => lowC_bd hws (by omega)) Try.call46 (fun m hm w2 hb => low46 w2 _ _ _ _ _ ((hco.at hw1 (by repeat (first | exact .head _ | refine .tail _ ?_))).below hb) hok (by omega)) (hco.at hw1 (by repeat (first | exact .head _ | refine .tail _ ?_))) hok)) rfl ?_
  refine sq_y (OpY.s (y_move (by exact rfl))) rfl ?_
  refine sq_y (OpY.s (y_move (by exact rfl))) rfl ?_
  refine sq_y (OpY.s (y_move (by exact rfl))) rfl ?_
  refine sq_y (y_call (first := []) (caps := []) (by exact rfl) Try.call73 (EvL.cons (by exact rfl) (EvL.cons (by exact rfl) (EvL.cons (by exact rfl) EvL.nil))) (fun w1 hw1 => points73 w1 p r team ws 47 (fun m => highC r.p ws r.rate m) mm hmm hteam (fun i j hij => highC_mono (by omega) (by omega)) (fun i => by have := highC_bd (m := i) hws (rate := r.rate) (p := r.p) (by omega) (by omega); omega) Try.call47 (fun m hm w2 hb => high47 w2 _ _ _ _ _ ((hco.at hw1 (by repeat (first | exact .head _ | refine .tail _ ?_))).below hb) hok (by omega)) (hco.at hw1 (by repeat (first | exact .head _ | refine .tail _ ?_))) hok)) rfl ?_
  refine sq_y (OpY.s (y_build bt32 (EvP.cons (by exact rfl) (EvP.cons (by exact rfl) EvP.nil)) (by exact rfl))) rfl ?_
  refine sq_store_all Try.sizeOf32 (by exact rfl) (by exact rfl) rfl (by repeat (first | exact Rem.here | apply Rem.there)) rfl rfl ?_
  refine sq_nil ?_
  refine sx_then ?_
  refine sc_ret ?_
  refine sx_retc (.inl rfl) rfl Try.results50 Try.underlying32 rfl Try.sizeOf32 (by exact rfl) (by repeat (first | exact .head _ | refine .tail _ ?_)) rfl ?_
  intro w' hw'
  exact ⟨rfl, hw'.below (by repeat (first | exact .head _ | refine .tail _ ?_))⟩
end Go.Proofs.Ytegdfpilhlcplaa
