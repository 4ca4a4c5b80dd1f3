/- The walks of bounds, and of what follows from all that is said of a team. -/
import Derived.Test.YtegdfpilhlcplaaWalk5
import Derived.Test.YtegdfpilhlcplaaEng7
namespace Go.Proofs.Ytegdfpilhlcplaa
open Go Go.Eng Go.RowKit Go.Proofs
set_option maxRecDepth 100000
theorem mul_bd {a b A B : Int} (ha : 0 ≤ a ∧ a ≤ A) (hb : 0 ≤ b ∧ b ≤ B) : 0 ≤ a * b ∧ a * b ≤ A * B :=
  ⟨Int.mul_nonneg ha.1 hb.1, Int.mul_le_mul ha.2 hb.2 hb.1 (by omega)⟩

theorem least104 (w : World) (m p rate mm : Int) (hm : 0 ≤ m ∧ m ≤ 1000) (hp : 0 ≤ p ∧ p ≤ 10000) (hr : 0 ≤ rate ∧ rate ≤ 100) (hmm : 0 ≤ mm ∧ mm ≤ 1000) : Calls Try.prog 104 #[.agg #[.int .i64 m, .int .i64 p, .int .i64 rate], .int .i64 mm] w fun e w' => e = .returned (.int .i64 (p - max 0 (m - mm) * rate)) ∧ Below w.heap.size w w' := by
  have hbd : 0 ≤ max 0 (m - mm) * rate ∧ max 0 (m - mm) * rate ≤ 1000 * 100 := mul_bd (by omega) hr
  refine calls_of_SC (args := [.agg #[.int .i64 m, .int .i64 p, .int .i64 rate], .int .i64 mm]) Try.func104 rfl Try.ntmps104 rfl ?_
  simp only [argL, Nat.zero_add]
  refine sc_seq ?_
  refine sc_region ?_
  refine sq_box (by exact rfl) rfl (fun b2 => ?_)
  refine sq_y (OpY.s (y_assign (by exact rfl))) rfl ?_
  refine sq_nil ?_
  refine sx_then ?_
  refine sc_seq ?_
  refine sc_region ?_
  refine sq_y (OpY.s (by first | exact y_fab Try.underlying106 (by exact rfl) (by exact Try.sizeOf3) (by exact rfl) rfl | exact y_fa Try.underlying106 (by exact rfl) (by exact Try.sizeOf3) (by exact rfl) rfl)) rfl ?_
  refine sq_y (OpY.s (by first | exact y_load_blk Try.underlying3 rfl (by exact rfl) (by repeat (first | exact .head _ | refine .tail _ ?_)) (by exact rfl) | exact y_load_caj Try.underlying3 rfl (by exact rfl) (by repeat (first | exact .head _ | refine .tail _ ?_)) (by assumption) (by exact rfl) | exact y_load_ca0 Try.underlying3 rfl (by exact rfl) (by repeat (first | exact .head _ | refine .tail _ ?_)) (by assumption) (by exact rfl))) rfl ?_
  refine sq_y (OpY.s (by first | exact y_fab Try.underlying106 (by exact rfl) (by exact Try.sizeOf3) (by exact rfl) rfl | exact y_fa Try.underlying106 (by exact rfl) (by exact Try.sizeOf3) (by exact rfl) rfl)) rfl ?_
  refine sq_y (OpY.s (by first | exact y_load_blk Try.underlying3 rfl (by exact rfl) (by repeat (first | exact .head _ | refine .tail _ ?_)) (by exact rfl) | exact y_load_caj Try.underlying3 rfl (by exact rfl) (by repeat (first | exact .head _ | refine .tail _ ?_)) (by assumption) (by exact rfl) | exact y_load_ca0 Try.underlying3 rfl (by exact rfl) (by repeat (first | exact .head _ | refine .tail _ ?_)) (by assumption) (by exact rfl))) rfl ?_
  refine sq_y (OpY.s (y_move (by exact rfl))) rfl ?_
  refine sq_y (OpY.s (y_sub (by exact rfl) (by exact rfl) (by omega))) rfl ?_
  refine sq_y (OpY.s (y_max (by exact rfl) (by exact rfl))) rfl ?_
  refine sq_y (OpY.s (by first | exact y_fab Try.underlying106 (by exact rfl) (by exact Try.sizeOf3) (by exact rfl) rfl | exact y_fa Try.underlying106 (by exact rfl) (by exact Try.sizeOf3) (by exact rfl) rfl)) rfl ?_
  refine sq_y (OpY.s (by first | exact y_load_blk Try.underlying3 rfl (by exact rfl) (by repeat (first | exact .head _ | refine .tail _ ?_)) (by exact rfl) | exact y_load_caj Try.underlying3 rfl (by exact rfl) (by repeat (first | exact .head _ | refine .tail _ ?_)) (by assumption) (by exact rfl) | exact y_load_ca0 Try.underlying3 rfl (by exact rfl) (by repeat (first | exact .head _ | refine .tail _ ?_)) (by assumption) (by exact rfl))) rfl ?_
  refine sq_y (OpY.s (y_mul (by exact rfl) (by exact rfl) (by omega))) rfl ?_
  refine sq_y (OpY.s (y_sub (by exact rfl) (by exact rfl) (by omega))) rfl ?_
  refine sq_y (OpY.s (y_assign (by exact rfl))) rfl ?_
  refine sq_nil ?_
  refine sx_then ?_
  refine sc_ret ?_
  refine sx_ret1 (.inl rfl) rfl Try.results104 (by exact rfl) ?_
  intro w' hw'
  exact ⟨rfl, hw'.below (by repeat (first | exact .head _ | refine .tail _ ?_))⟩
theorem most105 (w : World) (m p rate mm : Int) (hm : 0 ≤ m ∧ m ≤ 1000) (hp : 0 ≤ p ∧ p ≤ 10000) (hr : 0 ≤ rate ∧ rate ≤ 100) (hmm : 0 ≤ mm ∧ mm ≤ 1000) : Calls Try.prog 105 #[.agg #[.int .i64 m, .int .i64 p, .int .i64 rate], .int .i64 mm] w fun e w' => e = .returned (.int .i64 (p + max 0 (mm - m) * rate)) ∧ Below w.heap.size w w' := by
  have hbd : 0 ≤ max 0 (mm - m) * rate ∧ max 0 (mm - m) * rate ≤ 1000 * 100 := mul_bd (by omega) hr
  refine calls_of_SC (args := [.agg #[.int .i64 m, .int .i64 p, .int .i64 rate], .int .i64 mm]) Try.func105 rfl Try.ntmps105 rfl ?_
  simp only [argL, Nat.zero_add]
  refine sc_seq ?_
  refine sc_region ?_
  refine sq_box (by exact rfl) rfl (fun b2 => ?_)
  refine sq_y (OpY.s (y_assign (by exact rfl))) rfl ?_
  refine sq_nil ?_
  refine sx_then ?_
  refine sc_seq ?_
  refine sc_region ?_
  refine sq_y (OpY.s (by first | exact y_fab Try.underlying107 (by exact rfl) (by exact Try.sizeOf3) (by exact rfl) rfl | exact y_fa Try.underlying107 (by exact rfl) (by exact Try.sizeOf3) (by exact rfl) rfl)) rfl ?_
  refine sq_y (OpY.s (by first | exact y_load_blk Try.underlying3 rfl (by exact rfl) (by repeat (first | exact .head _ | refine .tail _ ?_)) (by exact rfl) | exact y_load_caj Try.underlying3 rfl (by exact rfl) (by repeat (first | exact .head _ | refine .tail _ ?_)) (by assumption) (by exact rfl) | exact y_load_ca0 Try.underlying3 rfl (by exact rfl) (by repeat (first | exact .head _ | refine .tail _ ?_)) (by assumption) (by exact rfl))) rfl ?_
  refine sq_y (OpY.s (y_move (by exact rfl))) rfl ?_
  refine sq_y (OpY.s (by first | exact y_fab Try.underlying107 (by exact rfl) (by exact Try.sizeOf3) (by exact rfl) rfl | exact y_fa Try.underlying107 (by exact rfl) (by exact Try.sizeOf3) (by exact rfl) rfl)) rfl ?_
  refine sq_y (OpY.s (by first | exact y_load_blk Try.underlying3 rfl (by exact rfl) (by repeat (first | exact .head _ | refine .tail _ ?_)) (by exact rfl) | exact y_load_caj Try.underlying3 rfl (by exact rfl) (by repeat (first | exact .head _ | refine .tail _ ?_)) (by assumption) (by exact rfl) | exact y_load_ca0 Try.underlying3 rfl (by exact rfl) (by repeat (first | exact .head _ | refine .tail _ ?_)) (by assumption) (by exact rfl))) rfl ?_
  refine sq_y (OpY.s (y_sub (by exact rfl) (by exact rfl) (by omega))) rfl ?_
  refine sq_y (OpY.s (y_max (by exact rfl) (by exact rfl))) rfl ?_
  refine sq_y (OpY.s (by first | exact y_fab Try.underlying107 (by exact rfl) (by exact Try.sizeOf3) (by exact rfl) rfl | exact y_fa Try.underlying107 (by exact rfl) (by exact Try.sizeOf3) (by exact rfl) rfl)) rfl ?_
  refine sq_y (OpY.s (by first | exact y_load_blk Try.underlying3 rfl (by exact rfl) (by repeat (first | exact .head _ | refine .tail _ ?_)) (by exact rfl) | exact y_load_caj Try.underlying3 rfl (by exact rfl) (by repeat (first | exact .head _ | refine .tail _ ?_)) (by assumption) (by exact rfl) | exact y_load_ca0 Try.underlying3 rfl (by exact rfl) (by repeat (first | exact .head _ | refine .tail _ ?_)) (by assumption) (by exact rfl))) rfl ?_
  refine sq_y (OpY.s (y_mul (by exact rfl) (by exact rfl) (by omega))) rfl ?_
  refine sq_y (OpY.s (y_add (by exact rfl) (by exact rfl) (by omega))) rfl ?_
  refine sq_y (OpY.s (y_assign (by exact rfl))) rfl ?_
  refine sq_nil ?_
  refine sx_then ?_
  refine sc_ret ?_
  refine sx_ret1 (.inl rfl) rfl Try.results105 (by exact rfl) ?_
  intro w' hw'
  exact ⟨rfl, hw'.below (by repeat (first | exact .head _ | refine .tail _ ?_))⟩
theorem max70 (x y : Int) (w : World) : Calls Try.prog 70 #[.int .i64 x, .int .i64 y] w fun e w' => e = .returned (.int .i64 (max x y)) ∧ Below w.heap.size w w' := by
  refine calls_of_SC (args := [.int .i64 x, .int .i64 y]) Try.func70 rfl Try.ntmps70 rfl ?_
  simp only [argL, Nat.zero_add]
  refine sc_seq ?_
  refine sc_region ?_
  refine sq_y (OpY.s (y_assign (by exact rfl))) rfl ?_
  refine sq_nil ?_
  refine sx_then ?_
  refine sc_seq ?_
  refine sc_region ?_
  refine sq_y (OpY.s (y_move (by exact rfl))) rfl ?_
  refine sq_y (OpY.s (y_move (by exact rfl))) rfl ?_
  refine sq_y (OpY.s (y_max (by exact rfl) (by exact rfl))) rfl ?_
  refine sq_y (OpY.s (y_assign (by exact rfl))) rfl ?_
  refine sq_nil ?_
  refine sx_then ?_
  refine sc_ret ?_
  refine sx_ret1 (.inl rfl) rfl Try.results70 (by exact rfl) ?_
  intro w' hw'
  exact ⟨rfl, hw'.below (by repeat (first | exact .head _ | refine .tail _ ?_))⟩
theorem min72 (x y : Int) (w : World) : Calls Try.prog 72 #[.int .i64 x, .int .i64 y] w fun e w' => e = .returned (.int .i64 (min x y)) ∧ Below w.heap.size w w' := by
  refine calls_of_SC (args := [.int .i64 x, .int .i64 y]) Try.func72 rfl Try.ntmps72 rfl ?_
  simp only [argL, Nat.zero_add]
  refine sc_seq ?_
  refine sc_region ?_
  refine sq_y (OpY.s (y_assign (by exact rfl))) rfl ?_
  refine sq_nil ?_
  refine sx_then ?_
  refine sc_seq ?_
  refine sc_region ?_
  refine sq_y (OpY.s (y_move (by exact rfl))) rfl ?_
  refine sq_y (OpY.s (y_move (by exact rfl))) rfl ?_
  refine sq_y (OpY.s (y_min (by exact rfl) (by exact rfl))) rfl ?_
  refine sq_y (OpY.s (y_assign (by exact rfl))) rfl ?_
  refine sq_nil ?_
  refine sx_then ?_
  refine sc_ret ?_
  refine sx_ret1 (.inl rfl) rfl Try.results72 (by exact rfl) ?_
  intro w' hw'
  exact ⟨rfl, hw'.below (by repeat (first | exact .head _ | refine .tail _ ?_))⟩
theorem all71 (w : World) (T : TypeId) (g : FuncId) (val : Int × Int → Int) (mm rate : Int) (hme : ∀ rv w, (method (Try.prog.types.size + Made.depth) T rv "jigworks/race.at").run Try.prog w = .ok (g, rv) w) (hcg : ∀ args w, (callFunc g args).run Try.prog w = .ok (.enter g args) w)
    (a : Option Addr) (c n : Nat) (bs : List (Int × Int)) (hn : bs.length = n) (hn2 : n ≤ 1000) (hb : BdA 0 w T a bs rate)
    (hg : ∀ b, b ∈ bs → ∀ w1, Calls Try.prog g #[.agg #[.int .i64 b.1, .int .i64 b.2, .int .i64 rate], .int .i64 mm] w1 fun e w' => e = .returned (.int .i64 (val b)) ∧ Below w1.heap.size w1 w') :
    Calls Try.prog 71 #[.slice a n c, .int .i64 mm] w fun e w' => ∃ z, e = .returned z ∧ Below w.heap.size w w' ∧ ∃ a' c', z = .slice a' n c' ∧ IntsA w.heap.size w' a' (bs.map val) := by
  refine calls_of_SC (args := [.slice a n c, .int .i64 mm]) Try.func71 rfl Try.ntmps71 rfl ?_
  simp only [argL, Nat.zero_add]
  refine sc_seq ?_
  refine sc_region ?_
  refine sq_y (OpY.s (y_assign (by exact rfl))) rfl ?_
  refine sq_nil ?_
  refine sx_then ?_
  refine sc_seq ?_
  refine sc_seq ?_
  refine sc_region ?_
  refine sq_y (OpY.s (y_move (by exact rfl))) rfl ?_
  refine sq_y (OpY.s (y_len Try.underlying98 (by exact rfl))) rfl ?_
  refine sq_y (OpY.s (y_move (by exact rfl))) rfl ?_
  refine sq_nil ?_
  refine sx_then ?_
  refine sc_block ?_
  refine sc_nil_own 3 1 ?_
  refine sc_loop (σ := Nat × Value)
    (fun s => [(1, .int .i64 mm), (4, s.2), (7, .slice a n c), (8, .int .i64 n), (9, .int .i64 s.1)])
    (fun s => [.own s.2 3 1 s.1 ((bs.take s.1).map fun b => .int .i64 (val b)), .reg 0 w])
    (fun s => s.1 ≤ n)
    (fun s => n - s.1)
    ((0, .slice none 0 0)) ?_ (by repeat (first | exact SubL.nil | refine SubL.cons (by first | exact rfl | exact lk_int rfl (by omega) | exact lk_eq rfl (by simp)) ?_)) (by repeat (first | exact Sel.nil | refine Sel.cons (by repeat (first | exact Rem.here | apply Rem.there)) ?_)) ?_
  · exact Nat.zero_le _
  rintro ⟨k, v⟩ hk
  dsimp only at hk ⊢
  refine sc_seq ?_
  refine sc_region ?_
  refine sq_y (OpY.s (y_lss (by exact rfl) (by exact rfl))) rfl ?_
  refine sq_nil ?_
  refine sx_then ?_
  refine sc_seq ?_
  first | refine sc_if (by exact rfl) (fun hc0 => ?_) (fun hc0 => ?_) | refine sc_ifn (by exact rfl) (fun hc0 => ?_) (fun hc0 => ?_) | refine sc_cond (by exact rfl) (fun hc0 => ?_) (fun hc0 => ?_)
  ·
    have hk' : k < bs.length := by omega
    obtain ⟨b, hbk⟩ : ∃ b, bs[k]? = some b := ⟨_, List.getElem?_eq_getElem hk'⟩
    have hsm := (hb k b hbk).1
    have hca := (hb k b hbk).2
    have htk : (bs.take k).map (fun b => Value.int .i64 (val b)) ++ [Value.int .i64 (val b)] = (bs.take (k + 1)).map (fun b => Value.int .i64 (val b)) := by
      rw [List.take_add_one, hbk]; simp
    refine sc_skip ?_
    refine sx_then ?_
    refine sc_seq ?_
    refine sc_block ?_
    refine sc_seq ?_
    refine sc_region ?_
    refine sq_y (OpY.s (by first | exact y_ia_blk Try.underlying98 Try.sizeOf116 (by exact rfl) (by exact rfl) (by omega) | exact y_ia_el Try.underlying98 Try.sizeOf116 (by exact rfl) (by exact rfl) (by omega) (by first | assumption | simp))) rfl ?_
    refine sq_y (OpY.s (by first | exact y_load_blk Try.underlying116 rfl (by exact rfl) (by repeat (first | exact .head _ | refine .tail _ ?_)) (by exact rfl) | exact y_load_caj Try.underlying116 rfl (by exact rfl) (by repeat (first | exact .head _ | refine .tail _ ?_)) (by assumption) (by exact rfl) | exact y_load_ca0 Try.underlying116 rfl (by exact rfl) (by repeat (first | exact .head _ | refine .tail _ ?_)) (by assumption) (by exact rfl))) rfl ?_
    refine sq_y (OpY.s (y_assign (by exact rfl))) rfl ?_
    refine sq_nil ?_
    refine sx_then ?_
    refine sc_region ?_
    refine sq_y (OpY.s (y_move (by exact rfl))) rfl ?_
    refine sq_y (OpY.s (y_move (by exact rfl))) rfl ?_
    refine sq_y (OpY.s (y_move (by exact rfl))) rfl ?_
    refine sq_y (y_invoke (T := T) (by exact rfl) (hme _) hcg (EvL.cons (by exact rfl) EvL.nil) (fun w1 _ => hg b (List.mem_of_getElem? hbk) w1)) rfl ?_
    refine sq_bs Try.underlying51 ei3 (EvI.cons (by exact rfl) EvI.nil) (by simp [Value.cells]) rfl rfl rfl (fun b17 => ?_)
    refine sq_append (news := [.int .i64 (val b)]) Try.underlying51 ei3 rfl (by decide) (by exact rfl) (by repeat (first | exact Rem.here | apply Rem.there)) (by exact rfl) rfl (fun _ hw => news_blk hw (by repeat (first | exact .head _ | refine .tail _ ?_))) (by simp [Value.oneCell']) (by omega) rfl (fun v18 ho18 => ?_)
    rw [htk]
    refine sq_y (OpY.s (y_assign (by exact rfl))) rfl ?_
    refine sq_nil ?_
    refine sx_blk ?_
    refine sx_then ?_
    refine sc_region ?_
    refine sq_y (OpY.s (y_add (by exact rfl) (by exact rfl) (by omega))) rfl ?_
    refine sq_y (OpY.s (y_move (by exact rfl))) rfl ?_
    refine sq_nil ?_
    refine sx_round ((k + 1, v18)) ?_ ?_ (by repeat (first | exact SubL.nil | refine SubL.cons (by first | exact rfl | exact lk_int rfl (by omega) | exact lk_eq rfl (by simp)) ?_)) (by repeat (first | exact Sel.nil | refine Sel.cons (by repeat (first | exact Rem.here | apply Rem.there)) ?_))
    · omega
    · dsimp only; omega
  ·
    have hkn : k = bs.length := by omega
    have htl : bs.take k = bs := by rw [hkn, List.take_length]
    refine sc_exit ?_
    refine sx_then_exit ?_
    refine sx_round_exit ?_
    refine sx_blk_hit ?_
    refine sx_then ?_
    refine sc_seq ?_
    refine sc_region ?_
    refine sq_y (OpY.s (y_move (by exact rfl))) rfl ?_
    refine sq_y (OpY.s (y_assign (by exact rfl))) rfl ?_
    refine sq_nil ?_
    refine sx_then ?_
    refine sc_ret ?_
    refine sx_ret1 (.inl rfl) rfl Try.results71 (by exact rfl) ?_
    intro w' hw'
    refine ⟨_, rfl, hw'.below (by repeat (first | exact .head _ | refine .tail _ ?_)), ?_⟩
    have ho := own_new hw' (.here) (by repeat (first | exact .head _ | refine .tail _ ?_))
    rw [htl, hkn, hn, show bs.map (fun b => Value.int .i64 (val b)) = (bs.map val).map (Value.int .i64) by simp] at ho
    obtain ⟨a', c', h1, h2⟩ := own_ints ho
    exact ⟨a', c', h1, h2⟩
theorem fold69 (w : World) (g : FuncId) (op : Int → Int → Int) (hcg : ∀ args w, (callFunc g args).run Try.prog w = .ok (.enter g args) w) (hg : ∀ x y w1, Calls Try.prog g #[.int .i64 x, .int .i64 y] w1 fun e w' => e = .returned (.int .i64 (op x y)) ∧ Below w1.heap.size w1 w')
    (a : Option Addr) (c n : Nat) (xs : List Int) (hn : xs.length = n) (hn2 : n ≤ 1000) (hx : IntsA 0 w a xs) (x0 : Int) :
    Calls Try.prog 69 #[.func (.func g) #[] #[], .int .i64 x0, .slice a n c] w fun e w' => e = .returned (.int .i64 (xs.foldl op x0)) ∧ Below w.heap.size w w' := by
  refine calls_of_SC (args := [.func (.func g) #[] #[], .int .i64 x0, .slice a n c]) Try.func69 rfl Try.ntmps69 rfl ?_
  simp only [argL, Nat.reduceAdd, Nat.zero_add]
  refine sc_seq ?_
  refine sc_region ?_
  refine sq_y (OpY.s (y_assign (by exact rfl))) rfl ?_
  refine sq_nil ?_
  refine sx_then ?_
  refine sc_seq ?_
  refine sc_seq ?_
  refine sc_region ?_
  refine sq_y (OpY.s (y_move (by exact rfl))) rfl ?_
  refine sq_y (OpY.s (y_len Try.underlying51 (by exact rfl))) rfl ?_
  refine sq_y (OpY.s (y_move (by exact rfl))) rfl ?_
  refine sq_nil ?_
  refine sx_then ?_
  refine sc_block ?_
  refine sc_loop (σ := Nat)
    (fun s => [(0, .func (.func g) #[] #[]), (1, .int .i64 ((xs.take s).foldl op x0)), (9, .slice a n c), (10, .int .i64 n), (11, .int .i64 s)])
    (fun s => [.reg 0 w])
    (fun s => s ≤ n)
    (fun s => n - s)
    (0) ?_ (by repeat (first | exact SubL.nil | refine SubL.cons (by first | exact rfl | exact lk_int rfl (by omega) | exact lk_eq rfl (by simp)) ?_)) (by repeat (first | exact Sel.nil | refine Sel.cons (by repeat (first | exact Rem.here | apply Rem.there)) ?_)) ?_
  · exact Nat.zero_le _
  rintro k hk
  refine sc_seq ?_
  refine sc_region ?_
  refine sq_y (OpY.s (y_lss (by exact rfl) (by exact rfl))) rfl ?_
  refine sq_nil ?_
  refine sx_then ?_
  refine sc_seq ?_
  first | refine sc_if (by exact rfl) (fun hc0 => ?_) (fun hc0 => ?_) | refine sc_ifn (by exact rfl) (fun hc0 => ?_) (fun hc0 => ?_) | refine sc_cond (by exact rfl) (fun hc0 => ?_) (fun hc0 => ?_)
  ·
    have hk' : k < xs.length := by omega
    obtain ⟨x, hxk⟩ : ∃ x, xs[k]? = some x := ⟨_, List.getElem?_eq_getElem hk'⟩
    have hsm := (hx k x hxk).1
    have hca := (hx k x hxk).2
    have htk : op ((xs.take k).foldl op x0) x = (xs.take (k + 1)).foldl op x0 := by
      rw [List.take_add_one, hxk]; simp
    refine sc_skip ?_
    refine sx_then ?_
    refine sc_seq ?_
    refine sc_block ?_
    refine sc_seq ?_
    refine sc_region ?_
    refine sq_y (OpY.s (by first | exact y_ia_blk Try.underlying51 Try.sizeOf3 (by exact rfl) (by exact rfl) (by omega) | exact y_ia_el Try.underlying51 Try.sizeOf3 (by exact rfl) (by exact rfl) (by omega) (by first | assumption | simp))) rfl ?_
    refine sq_y (OpY.s (by first | exact y_load_blk Try.underlying3 rfl (by exact rfl) (by repeat (first | exact .head _ | refine .tail _ ?_)) (by exact rfl) | exact y_load_caj Try.underlying3 rfl (by exact rfl) (by repeat (first | exact .head _ | refine .tail _ ?_)) (by assumption) (by exact rfl) | exact y_load_ca0 Try.underlying3 rfl (by exact rfl) (by repeat (first | exact .head _ | refine .tail _ ?_)) (by assumption) (by exact rfl))) rfl ?_
    refine sq_y (OpY.s (y_assign (by exact rfl))) rfl ?_
    refine sq_nil ?_
    refine sx_then ?_
    refine sc_region ?_
    refine sq_y (OpY.s (y_move (by exact rfl))) rfl ?_
    refine sq_y (OpY.s (y_move (by exact rfl))) rfl ?_
    refine sq_y (OpY.s (y_move (by exact rfl))) rfl ?_
    refine sq_y (y_call (first := []) (caps := []) (by exact rfl) hcg (EvL.cons (by exact rfl) (EvL.cons (by exact rfl) EvL.nil)) (fun w1 _ => hg _ _ w1)) rfl ?_
    refine sq_y (OpY.s (y_assign (by exact rfl))) rfl ?_
    refine sq_nil ?_
    refine sx_blk ?_
    refine sx_then ?_
    refine sc_region ?_
    refine sq_y (OpY.s (y_add (by exact rfl) (by exact rfl) (by omega))) rfl ?_
    refine sq_y (OpY.s (y_move (by exact rfl))) rfl ?_
    refine sq_nil ?_
    refine sx_round (k + 1) ?_ ?_ (.cons (by exact rfl) (.cons (lk_int rfl htk) (.cons (by exact rfl) (.cons (by exact rfl) (.cons (lk_int rfl (by omega)) .nil))))) (by repeat (first | exact Sel.nil | refine Sel.cons (by repeat (first | exact Rem.here | apply Rem.there)) ?_))
    · omega
    · omega
  ·
    have hkn : k = xs.length := by omega
    have htl : xs.take k = xs := by rw [hkn, List.take_length]
    rw [htl]
    refine sc_exit ?_
    refine sx_then_exit ?_
    refine sx_round_exit ?_
    refine sx_blk_hit ?_
    refine sx_then ?_
    refine sc_seq ?_
    refine sc_region ?_
    refine sq_y (OpY.s (y_move (by exact rfl))) rfl ?_
    refine sq_y (OpY.s (y_assign (by exact rfl))) rfl ?_
    refine sq_nil ?_
    refine sx_then ?_
    refine sc_ret ?_
    refine sx_ret1 (.inl rfl) rfl Try.results69 (by exact rfl) ?_
    intro w' hw'
    exact ⟨rfl, hw'.below (by repeat (first | exact .head _ | refine .tail _ ?_))⟩
theorem me106 (rv : Value) (w : World) : (method (Try.prog.types.size + Made.depth) 106 rv "jigworks/race.at").run Try.prog w = .ok (104, rv) w := by kernel_rfl
theorem me107 (rv : Value) (w : World) : (method (Try.prog.types.size + Made.depth) 107 rv "jigworks/race.at").run Try.prog w = .ok (105, rv) w := by kernel_rfl
theorem low46 (w : World) (p : Addr) (r : Rc) (team : Nat) (ws : List (Int × Sp)) (mm : Int) (hco : CoA 0 w p r team ws) (hok : rcB r = true) (hmm : 0 ≤ mm ∧ mm ≤ 1000) : Calls Try.prog 46 #[.pointer (some p), .int .i64 mm] w fun e w' => e = .returned (.int .i64 (lowC ws r.rate mm)) ∧ Below w.heap.size w w' := by
  obtain ⟨a, c, f, cf, a1, c1, a2, c2, a3, c3, hca, hT, hl1, hl2, hl3⟩ := hco.ex
  have hws := hco.ok
  have hlen := hco.n
  have hnum := rcB_nums hok
  simp only [rcVal, List.cons_append, List.nil_append] at hca
  refine calls_of_SC (args := [.pointer (some p), .int .i64 mm]) Try.func46 rfl Try.ntmps46 rfl ?_
  simp only [argL, Nat.zero_add]
  refine sc_seq ?_
  refine sc_region ?_
  refine sq_y (OpY.s (y_assign (by exact rfl))) rfl ?_
  refine sq_nil ?_
  refine sx_then ?_
  refine sc_seq ?_
  refine sc_region ?_
  refine sq_y (OpY.s (y_move (by exact rfl))) rfl ?_
  refine sq_y (OpY.s (y_nilCheck (by exact rfl))) rfl ?_
  refine sq_y (OpY.s (by first | exact y_fab Try.underlying100 (by exact rfl) (by exact Try.sizeOf98) (by exact rfl) rfl | exact y_fa Try.underlying100 (by exact rfl) (by exact Try.sizeOf98) (by exact rfl) rfl)) rfl ?_
  refine sq_y (OpY.s (by first | exact y_load_blk Try.underlying98 rfl (by exact rfl) (by repeat (first | exact .head _ | refine .tail _ ?_)) (by exact rfl) | exact y_load_caj Try.underlying98 rfl (by exact rfl) (by repeat (first | exact .head _ | refine .tail _ ?_)) (by assumption) (by exact rfl) | exact y_load_ca0 Try.underlying98 rfl (by exact rfl) (by repeat (first | exact .head _ | refine .tail _ ?_)) (by assumption) (by exact rfl))) rfl ?_
  refine sq_y (OpY.s (y_move (by exact rfl))) rfl ?_
  refine sq_call_new (first := []) (caps := []) (Z := Value) (fun z => z) (fun lo w' z => ∃ a' c', z = .slice a' ws.length c' ∧ IntsA lo w' a' ((ws.map fun x => (x.1, x.2.lo)).map (fun b => b.2 - max 0 (b.1 - mm) * r.rate))) (by exact rfl) Try.call71 (EvL.cons (by exact rfl) (EvL.cons (by exact rfl) EvL.nil)) (fun w1 hw1 => all71 w1 106 104 (fun b => b.2 - max 0 (b.1 - mm) * r.rate) mm r.rate me106 Try.call104 _ _ _ _ (by simp) (by omega) (hl1.at hw1 (by repeat (first | exact .head _ | refine .tail _ ?_))) (fun b hb w1 => by
      obtain ⟨x, hx, rfl⟩ := List.mem_map.1 hb
      obtain ⟨h1, h2, h3, h4⟩ := hws x hx
      exact least104 w1 _ _ _ _ h1 (by dsimp only; omega) (by omega) hmm)) rfl (fun lo71 w71 v71 h71 => ?_)
  obtain ⟨a71, c71, rfl, hI71⟩ := h71
  refine sq_y (y_call (first := []) (caps := []) (by exact rfl) Try.call69 (EvL.cons (by exact rfl) (EvL.cons (by exact rfl) (EvL.cons (by exact rfl) EvL.nil))) (fun w1 hw1 => fold69 w1 70 max Try.call70 (fun x y w => max70 x y w) _ _ _ _ (by simp) (by omega) (hI71.at hw1 (by repeat (first | exact .head _ | refine .tail _ ?_))) _)) rfl ?_
  refine sq_y (OpY.s (y_assign (by exact rfl))) rfl ?_
  refine sq_nil ?_
  refine sx_then ?_
  refine sc_ret ?_
  refine sx_ret1 (.inl rfl) rfl Try.results46 (by exact rfl) ?_
  intro w' hw'
  refine ⟨?_, hw'.below (by repeat (first | exact .head _ | refine .tail _ ?_))⟩
  unfold lowC lowL; rw [List.map_map]; rfl
theorem high47 (w : World) (p : Addr) (r : Rc) (team : Nat) (ws : List (Int × Sp)) (mm : Int) (hco : CoA 0 w p r team ws) (hok : rcB r = true) (hmm : 0 ≤ mm ∧ mm ≤ 1000) : Calls Try.prog 47 #[.pointer (some p), .int .i64 mm] w fun e w' => e = .returned (.int .i64 (highC r.p ws r.rate mm)) ∧ Below w.heap.size w w' := by
  obtain ⟨a, c, f, cf, a1, c1, a2, c2, a3, c3, hca, hT, hl1, hl2, hl3⟩ := hco.ex
  have hws := hco.ok
  have hlen := hco.n
  have hnum := rcB_nums hok
  simp only [rcVal, List.cons_append, List.nil_append] at hca
  refine calls_of_SC (args := [.pointer (some p), .int .i64 mm]) Try.func47 rfl Try.ntmps47 rfl ?_
  simp only [argL, Nat.zero_add]
  refine sc_seq ?_
  refine sc_region ?_
  refine sq_y (OpY.s (y_assign (by exact rfl))) rfl ?_
  refine sq_nil ?_
  refine sx_then ?_
  refine sc_seq ?_
  refine sc_drawX ([.reg 0 w]) (by kernel_rfl) ?_
  refine xj_s 0 (by exact rfl) (by kernel_rfl) (by repeat (first | exact Sel.nil | refine Sel.cons (by repeat (first | exact Rem.here | apply Rem.there)) ?_)) (y_move (by exact rfl)) rfl ?_
  refine xj_s 1 (by exact rfl) (by kernel_rfl) (by repeat (first | exact Sel.nil | refine Sel.cons (by repeat (first | exact Rem.here | apply Rem.there)) ?_)) (y_nilCheck (by exact rfl)) rfl ?_
  refine xj_s 2 (by exact rfl) (by kernel_rfl) (by repeat (first | exact Sel.nil | refine Sel.cons (by repeat (first | exact Rem.here | apply Rem.there)) ?_)) (by first | exact y_fab Try.underlying100 (by exact rfl) (by exact Try.sizeOf24) (by exact rfl) rfl | exact y_fa Try.underlying100 (by exact rfl) (by exact Try.sizeOf24) (by exact rfl) rfl) rfl ?_
  refine xj_s 3 (by exact rfl) (by kernel_rfl) (by repeat (first | exact Sel.nil | refine Sel.cons (by repeat (first | exact Rem.here | apply Rem.there)) ?_)) (by first | exact y_fab Try.underlying24 (by exact rfl) (by exact Try.sizeOf3) (by exact rfl) rfl | exact y_fa Try.underlying24 (by exact rfl) (by exact Try.sizeOf3) (by exact rfl) rfl) rfl ?_
  refine xj_s 4 (by exact rfl) (by kernel_rfl) (by repeat (first | exact Sel.nil | refine Sel.cons (by repeat (first | exact Rem.here | apply Rem.there)) ?_)) (by first | exact y_load_blk Try.underlying3 rfl (by exact rfl) (by repeat (first | exact .head _ | refine .tail _ ?_)) (by exact rfl) | exact y_load_caj Try.underlying3 rfl (by exact rfl) (by repeat (first | exact .head _ | refine .tail _ ?_)) (by assumption) (by exact rfl) | exact y_load_ca0 Try.underlying3 rfl (by exact rfl) (by repeat (first | exact .head _ | refine .tail _ ?_)) (by assumption) (by exact rfl)) rfl ?_
  refine xj_s 5 (by exact rfl) (by kernel_rfl) (by repeat (first | exact Sel.nil | refine Sel.cons (by repeat (first | exact Rem.here | apply Rem.there)) ?_)) (y_move (by exact rfl)) rfl ?_
  refine xj_s 6 (by exact rfl) (by kernel_rfl) (by repeat (first | exact Sel.nil | refine Sel.cons (by repeat (first | exact Rem.here | apply Rem.there)) ?_)) (y_nilCheck (by exact rfl)) rfl ?_
  refine xj_s 7 (by exact rfl) (by kernel_rfl) (by repeat (first | exact Sel.nil | refine Sel.cons (by repeat (first | exact Rem.here | apply Rem.there)) ?_)) (by first | exact y_fab Try.underlying100 (by exact rfl) (by exact Try.sizeOf98) (by exact rfl) rfl | exact y_fa Try.underlying100 (by exact rfl) (by exact Try.sizeOf98) (by exact rfl) rfl) rfl ?_
  refine xj_s 8 (by exact rfl) (by kernel_rfl) (by repeat (first | exact Sel.nil | refine Sel.cons (by repeat (first | exact Rem.here | apply Rem.there)) ?_)) (by first | exact y_load_blk Try.underlying98 rfl (by exact rfl) (by repeat (first | exact .head _ | refine .tail _ ?_)) (by exact rfl) | exact y_load_caj Try.underlying98 rfl (by exact rfl) (by repeat (first | exact .head _ | refine .tail _ ?_)) (by assumption) (by exact rfl) | exact y_load_ca0 Try.underlying98 rfl (by exact rfl) (by repeat (first | exact .head _ | refine .tail _ ?_)) (by assumption) (by exact rfl)) rfl ?_
  refine xj_s 9 (by exact rfl) (by kernel_rfl) (by repeat (first | exact Sel.nil | refine Sel.cons (by repeat (first | exact Rem.here | apply Rem.there)) ?_)) (y_move (by exact rfl)) rfl ?_
  refine xj_one 10 (by exact rfl) (by kernel_rfl) ?_
  refine sq_call_new (first := []) (caps := []) (Z := Value) (fun z => z) (fun lo w' z => ∃ a' c', z = .slice a' ws.length c' ∧ IntsA lo w' a' ((ws.map fun x => (x.1, x.2.hi)).map (fun b => b.2 + max 0 (mm - b.1) * r.rate))) (by exact rfl) Try.call71 (EvL.cons (by exact rfl) (EvL.cons (by exact rfl) EvL.nil)) (fun w1 hw1 => all71 w1 107 105 (fun b => b.2 + max 0 (mm - b.1) * r.rate) mm r.rate me107 Try.call105 _ _ _ _ (by simp) (by omega) (hl2.at hw1 (by repeat (first | exact .head _ | refine .tail _ ?_))) (fun b hb w1 => by
      obtain ⟨x, hx, rfl⟩ := List.mem_map.1 hb
      obtain ⟨h1, h2, h3, h4⟩ := hws x hx
      exact most105 w1 _ _ _ _ h1 (by dsimp only; omega) (by omega) hmm)) rfl (fun lo71 w71 v71 h71 => ?_)
  refine sq_nil ?_
  refine sx_xp (by repeat (first | exact Sel.nil | refine Sel.cons (by repeat (first | exact Rem.here | apply Rem.there)) ?_)) ?_
  obtain ⟨a71, c71, rfl, hI71⟩ := h71
  refine xj_one 11 (by exact rfl) (by kernel_rfl) ?_
  refine sq_y (y_call (first := []) (caps := []) (by exact rfl) Try.call69 (EvL.cons (by exact rfl) (EvL.cons (by exact rfl) (EvL.cons (by exact rfl) EvL.nil))) (fun w1 hw1 => fold69 w1 72 min Try.call72 (fun x y w => min72 x y w) _ _ _ _ (by simp) (by omega) (hI71.at hw1 (by repeat (first | exact .head _ | refine .tail _ ?_))) _)) rfl ?_
  refine sq_nil ?_
  refine sx_xp (by repeat (first | exact Sel.nil | refine Sel.cons (by repeat (first | exact Rem.here | apply Rem.there)) ?_)) ?_
  refine xj_s 12 (by exact rfl) (by kernel_rfl) (by repeat (first | exact Sel.nil | refine Sel.cons (by repeat (first | exact Rem.here | apply Rem.there)) ?_)) (y_assign (by exact rfl)) rfl ?_
  refine xj_done (by kernel_rfl) ?_
  refine sx_then ?_
  refine sc_ret ?_
  refine sx_ret1 (.inl rfl) rfl Try.results47 (by exact rfl) ?_
  intro w' hw'
  refine ⟨?_, hw'.below (by repeat (first | exact .head _ | refine .tail _ ?_))⟩
  unfold highC highL; rw [List.map_map]; rfl
end Go.Proofs.Ytegdfpilhlcplaa
