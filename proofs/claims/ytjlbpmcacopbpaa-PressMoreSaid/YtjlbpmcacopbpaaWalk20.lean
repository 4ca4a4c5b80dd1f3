/- The walk of an order by remainders. -/
import Derived.Test.YtjlbpmcacopbpaaWalk17
import Derived.Test.YtjlbpmcacopbpaaOpen
namespace Go.Proofs.Ytjlbpmcacopbpaa
open Go Go.Eng Go.RowKit Go.Proofs
set_option maxRecDepth 100000
theorem bRow_len (n : Int) : (bRow n).length = 1 := rfl
def insL (X : List Int) (A : Nat) (x : Int) : List Int := X.take A ++ x :: X.drop A
theorem ins_flat (X : List Int) (A : Nat) (x : Int) : ([] ++ (X.flatMap iRow).take (A * 1) ++ [Value.int .i64 x] ++ (X.flatMap iRow).drop (A * 1)) = (insL X A x).flatMap iRow := by
  have h : X.flatMap iRow = X.map (Value.int .i64) := flat_map X
  rw [h, Nat.mul_one, ← List.map_take, ← List.map_drop, flat_map]
  unfold insL; simp
theorem ins_len (X : List Int) {A : Nat} (x : Int) : (insL X A x).length = X.length + 1 := by unfold insL; simp; omega
theorem ins_perm (X : List Int) (A : Nat) (x : Int) : (insL X A x).Perm (x :: X) := by
  unfold insL
  refine List.perm_middle.trans ?_
  rw [List.take_append_drop]
def atK (by_ : List Int) (k : Nat) : Nat := (by_.getD (k % by_.length) 0).toNat % (k + 1)
def shufK (by_ : List Int) : Nat → List Int
  | 0 => []
  | k + 1 => insL (shufK by_ k) (atK by_ k) (k : Int)
theorem shufK_perm (by_ : List Int) : ∀ n, (shufK by_ n).Perm (rngI n)
  | 0 => by unfold shufK rngI; simp
  | n + 1 => by
    unfold shufK
    rw [rngI_succ]
    exact ((ins_perm _ _ _).trans ((shufK_perm by_ n).cons _)).trans (List.perm_append_comm (l₁ := [(n : Int)]))
theorem shufK_len (by_ : List Int) (n : Nat) : (shufK by_ n).length = n := by rw [(shufK_perm by_ n).length_eq, rngI_len]

theorem shuffled40 (w : World) (n : Nat) (h12 : n ≤ 1000) (ay : Option Addr) (cy : Nat) (by_ : List Int) (hy : RowsA bRow 1 0 w ay by_) (iny : ∀ x, x ∈ by_ → isB x) (hyne : 0 < by_.length) : Calls Try.prog 40 #[.int .i64 n, .slice ay by_.length cy] w fun e w' => ∃ z : Option Addr × Nat, e = .returned (.slice z.1 (shufK by_ n).length z.2) ∧ Below w.heap.size w w' ∧ RowsA iRow 1 w.heap.size w' z.1 (shufK by_ n) := by
  have hlen := hy.len
  refine calls_of_SC (args := [.int .i64 n, .slice ay by_.length cy]) Try.func40 rfl Try.ntmps40 rfl ?_
  simp only [argL, Nat.zero_add]
  refine sc_seq ?_
  refine sc_region ?_
  refine qs (y_assign RF) ?_
  refine sq_nil ?_
  refine sx_then ?_
  refine sc_seq ?_
  refine sc_region ?_
  refine qs (y_assign RF) ?_
  refine sq_nil ?_
  refine sx_then ?_
  refine sc_seq ?_
  refine sc_seq ?_
  refine sc_nil_own 3 1 ?_
  refine sc_region ?_
  refine qs (y_assign RF) ?_
  refine sq_nil ?_
  refine sx_then ?_
  refine sc_block ?_
  refine sc_loop (σ := Nat × Value)
    (fun s => [(0, .int .i64 n), (1, .slice ay by_.length cy), (5, s.2), (6, .int .i64 s.1)])
    (fun s => [.own s.2 3 1 s.1 ((shufK by_ s.1).flatMap iRow), .reg 0 w])
    (fun s => s.1 ≤ n)
    (fun s => n - s.1)
    ((0, .slice none 0 0)) ?_ SU SR ?_
  · exact Nat.zero_le _
  rintro ⟨k, v5⟩ hk
  dsimp only at hk ⊢
  refine sc_seq ?_
  refine sc_seq ?_
  refine sc_region ?_
  refine qs (y_move RF) ?_
  refine qs (y_move RF) ?_
  refine qs (y_lss RF RF) ?_
  refine sq_nil ?_
  refine sx_then ?_
  refine scp (fun hc0 => ?_) (fun hc0 => ?_)
  ·
    have hk' : k < n := by omega
    have hkm : k % by_.length < by_.length := Nat.mod_lt _ hyne
    have hsm := (hy.get 0 hkm).1
    have hca := (hy.get 0 hkm).2
    have hin := iny _ (List.mem_of_getElem? (get_of_lt 0 hkm))
    unfold isB at hin
    have hatl : atK by_ k < k + 1 := Nat.mod_lt _ (by omega)
    have hat : by_.getD (k % by_.length) 0 % ((k : Int) + 1) = ((atK by_ k : Nat) : Int) := by
      unfold atK
      obtain ⟨q, hq⟩ : ∃ q : Nat, by_.getD (k % by_.length) 0 = (q : Int) := ⟨(by_.getD (k % by_.length) 0).toNat, by omega⟩
      rw [hq, Int.toNat_natCast, Int.natCast_emod]; rfl
    have hlX := shufK_len by_ k
    refine sc_skip ?_
    refine sx_then ?_
    refine sc_seq ?_
    refine sc_block ?_
    refine sc_seq ?_
    refine sc_region ?_
    refine qs (y_move RF) ?_
    refine qs (y_move RF) ?_
    refine qs (y_move RF) ?_
    refine qs (y_len Try.underlying64 RF) ?_
    refine qs (y_rem RF RF (by omega) (by omega)) ?_
    refine qs (by first | exact y_ia_blk Try.underlying64 Try.sizeOf5 RF (by exact lk_int rfl (Int.natCast_emod k by_.length).symm) hkm | exact y_ia_el Try.underlying64 Try.sizeOf5 RF (by exact lk_int rfl (Int.natCast_emod k by_.length).symm) hkm (by first | assumption | simp)) ?_
    refine qs (by first | exact y_load_ca0 Try.underlying5 rfl RF MM hca rfl | exact LD5) ?_
    refine qs (y_conv Try.underlying5 Try.underlying3 RF (wrap64_in (by omega) (by omega))) ?_
    refine qs (y_move RF) ?_
    refine qs (y_add RF RF (by omega)) ?_
    refine qs (y_rem RF RF (by omega) (by omega)) ?_
    refine qs (y_assign RF) ?_
    rw [show by_.getD (k % by_.length) 0 % ((k : Int) + 1) = ((atK by_ k : Nat) : Int) from hat]
    refine sq_nil ?_
    refine sx_then ?_
    refine sc_own_dest (e := 3) (sz := 1) (m := k) (xs := (shufK by_ k).flatMap iRow) MM (fun a5 c5 hv5 hmc5 hn5 => ?_)
    subst hv5
    refine sc_drawX ([.own (.slice a5 k c5) 3 1 k ((shufK by_ k).flatMap iRow), .reg 0 w]) (by kernel_rfl) ?_
    refine xj_s 1 RF (by kernel_rfl) SR (y_move RF) rfl ?_
    refine xj_s 2 RF (by kernel_rfl) SR (y_move RF) rfl ?_
    refine xj_s 3 RF (by kernel_rfl) SR (y_slice_h (h := atK by_ k) Try.underlying35 Try.sizeOf3 RF RF (by omega)) rfl ?_
    refine xj_s 5 RF (by kernel_rfl) SR (y_move RF) rfl ?_
    refine xj_s 8 RF (by kernel_rfl) SR (y_move RF) rfl ?_
    refine xj_s 9 RF (by kernel_rfl) SR (y_move RF) rfl ?_
    refine xj_s 10 RF (by kernel_rfl) SR (y_slice_from (lo := atK by_ k) Try.underlying35 Try.sizeOf3 RF RF (by omega)) rfl ?_
    refine xj_all (l := [0, 6]) (by kernel_rfl) (by simp) (Each.cons ⟨_, rfl, ?_⟩ (Each.cons ⟨_, rfl, ?_⟩ Each.nil))
    ·
      refine sq_bs Try.underlying35 ei3 (EvI.nil) (by simp) rfl rfl rfl (fun b24 => ?_)
      refine sq_blk_own0 (sz := 1) (c := 0) RM rfl (Nat.zero_le _) ?_
      refine sq_nil ?_
      refine sx_xp SR ?_
      refine xj_all (l := [4, 6]) (by kernel_rfl) (by simp) (Each.cons ⟨_, rfl, ?_⟩ (Each.cons ⟨_, rfl, ?_⟩ Each.nil))
      ·
        refine sq_append_rows (news := ((shufK by_ k).flatMap iRow).take (atK by_ k * 1)) Try.underlying35 ei3 Try.sizeOf3 rfl (by decide) RF RM RF (fun h => by have := hn5 h; omega) (by rw [List.length_take, iflat_len, hlX]; omega) (fun ad had w1 hw1 => own_take_news hw1 MM ad had) (fun u hu => iflat_one _ u (List.mem_of_mem_take hu)) (by omega) rfl (fun v28 ho28 => ?_)
        refine sq_nil ?_
        refine sx_xp SR ?_
        refine xj_one 6 RF (by kernel_rfl) ?_
        refine sq_bs Try.underlying35 ei3 (EvI.cons RF EvI.nil) (by first | (simp [Value.cells]; done) | (simp [Value.cells]; rfl) | (simp [Value.cells]; and_intros <;> rfl)) rfl rfl rfl (fun b30 => ?_)
        refine sq_nil ?_
        refine sx_xp SR ?_
        refine xj_one 7 RF (by kernel_rfl) ?_
        refine sq_append (news := [Value.int .i64 ((k : Int))]) Try.underlying35 ei3 rfl (by decide) RF RM RF rfl (fun _ hw => news_blk hw MM) (by simp [Value.oneCell']) (by omega) rfl (fun v31 ho31 => ?_)
        refine sq_nil ?_
        refine sx_xp SR ?_
        refine xj_one 11 RF (by kernel_rfl) ?_
        refine sq_append_rows (news := ((shufK by_ k).flatMap iRow).drop (atK by_ k * 1)) Try.underlying35 ei3 Try.sizeOf3 rfl (by decide) RF RM RF (fun h => loA_none hn5 h) (by rw [List.length_drop, iflat_len, hlX]; omega) (fun ad had w1 hw1 => own_from_news hw1 MM hmc5 ad had) (fun u hu => iflat_one _ u (List.mem_of_mem_drop hu)) (by omega) rfl (fun v35 ho35 => ?_)
        rw [show 0 + atK by_ k + 1 + (k - atK by_ k) = k + 1 by omega, ins_flat]
        refine sq_nil ?_
        refine sx_xp SR ?_
        refine xj_s 12 RF (by kernel_rfl) SR (y_assign RF) rfl ?_
        refine xj_done (by kernel_rfl) ?_
        refine sx_blk ?_
        refine sx_then ?_
        refine sc_region ?_
        refine qs (y_move RF) ?_
        refine qs (y_add RF RF (by omega)) ?_
        refine qs (y_assign RF) ?_
        refine sq_nil ?_
        refine sx_round ((k + 1, v35)) ?_ ?_ SU SR
        · dsimp only; omega
        · dsimp only; omega
      ·
        refine sq_bs Try.underlying35 ei3 (EvI.cons RF EvI.nil) (by first | (simp [Value.cells]; done) | (simp [Value.cells]; rfl) | (simp [Value.cells]; and_intros <;> rfl)) rfl rfl rfl (fun b30 => ?_)
        refine sq_nil ?_
        refine sx_xp SR ?_
        refine xj_one 4 RF (by kernel_rfl) ?_
        refine sq_append_rows (news := ((shufK by_ k).flatMap iRow).take (atK by_ k * 1)) Try.underlying35 ei3 Try.sizeOf3 rfl (by decide) RF RM RF (fun h => by have := hn5 h; omega) (by rw [List.length_take, iflat_len, hlX]; omega) (fun ad had w1 hw1 => own_take_news hw1 MM ad had) (fun u hu => iflat_one _ u (List.mem_of_mem_take hu)) (by omega) rfl (fun v28 ho28 => ?_)
        refine sq_nil ?_
        refine sx_xp SR ?_
        refine xj_one 7 RF (by kernel_rfl) ?_
        refine sq_append (news := [Value.int .i64 ((k : Int))]) Try.underlying35 ei3 rfl (by decide) RF RM RF rfl (fun _ hw => news_blk hw MM) (by simp [Value.oneCell']) (by omega) rfl (fun v31 ho31 => ?_)
        refine sq_nil ?_
        refine sx_xp SR ?_
        refine xj_one 11 RF (by kernel_rfl) ?_
        refine sq_append_rows (news := ((shufK by_ k).flatMap iRow).drop (atK by_ k * 1)) Try.underlying35 ei3 Try.sizeOf3 rfl (by decide) RF RM RF (fun h => loA_none hn5 h) (by rw [List.length_drop, iflat_len, hlX]; omega) (fun ad had w1 hw1 => own_from_news hw1 MM hmc5 ad had) (fun u hu => iflat_one _ u (List.mem_of_mem_drop hu)) (by omega) rfl (fun v35 ho35 => ?_)
        rw [show 0 + atK by_ k + 1 + (k - atK by_ k) = k + 1 by omega, ins_flat]
        refine sq_nil ?_
        refine sx_xp SR ?_
        refine xj_s 12 RF (by kernel_rfl) SR (y_assign RF) rfl ?_
        refine xj_done (by kernel_rfl) ?_
        refine sx_blk ?_
        refine sx_then ?_
        refine sc_region ?_
        refine qs (y_move RF) ?_
        refine qs (y_add RF RF (by omega)) ?_
        refine qs (y_assign RF) ?_
        refine sq_nil ?_
        refine sx_round ((k + 1, v35)) ?_ ?_ SU SR
        · dsimp only; omega
        · dsimp only; omega
    ·
      refine sq_bs Try.underlying35 ei3 (EvI.cons RF EvI.nil) (by first | (simp [Value.cells]; done) | (simp [Value.cells]; rfl) | (simp [Value.cells]; and_intros <;> rfl)) rfl rfl rfl (fun b30 => ?_)
      refine sq_nil ?_
      refine sx_xp SR ?_
      refine xj_one 0 RF (by kernel_rfl) ?_
      refine sq_bs Try.underlying35 ei3 (EvI.nil) (by simp) rfl rfl rfl (fun b24 => ?_)
      refine sq_blk_own0 (sz := 1) (c := 0) RM rfl (Nat.zero_le _) ?_
      refine sq_nil ?_
      refine sx_xp SR ?_
      refine xj_one 4 RF (by kernel_rfl) ?_
      refine sq_append_rows (news := ((shufK by_ k).flatMap iRow).take (atK by_ k * 1)) Try.underlying35 ei3 Try.sizeOf3 rfl (by decide) RF RM RF (fun h => by have := hn5 h; omega) (by rw [List.length_take, iflat_len, hlX]; omega) (fun ad had w1 hw1 => own_take_news hw1 MM ad had) (fun u hu => iflat_one _ u (List.mem_of_mem_take hu)) (by omega) rfl (fun v28 ho28 => ?_)
      refine sq_nil ?_
      refine sx_xp SR ?_
      refine xj_one 7 RF (by kernel_rfl) ?_
      refine sq_append (news := [Value.int .i64 ((k : Int))]) Try.underlying35 ei3 rfl (by decide) RF RM RF rfl (fun _ hw => news_blk hw MM) (by simp [Value.oneCell']) (by omega) rfl (fun v31 ho31 => ?_)
      refine sq_nil ?_
      refine sx_xp SR ?_
      refine xj_one 11 RF (by kernel_rfl) ?_
      refine sq_append_rows (news := ((shufK by_ k).flatMap iRow).drop (atK by_ k * 1)) Try.underlying35 ei3 Try.sizeOf3 rfl (by decide) RF RM RF (fun h => loA_none hn5 h) (by rw [List.length_drop, iflat_len, hlX]; omega) (fun ad had w1 hw1 => own_from_news hw1 MM hmc5 ad had) (fun u hu => iflat_one _ u (List.mem_of_mem_drop hu)) (by omega) rfl (fun v35 ho35 => ?_)
      rw [show 0 + atK by_ k + 1 + (k - atK by_ k) = k + 1 by omega, ins_flat]
      refine sq_nil ?_
      refine sx_xp SR ?_
      refine xj_s 12 RF (by kernel_rfl) SR (y_assign RF) rfl ?_
      refine xj_done (by kernel_rfl) ?_
      refine sx_blk ?_
      refine sx_then ?_
      refine sc_region ?_
      refine qs (y_move RF) ?_
      refine qs (y_add RF RF (by omega)) ?_
      refine qs (y_assign RF) ?_
      refine sq_nil ?_
      refine sx_round ((k + 1, v35)) ?_ ?_ SU SR
      · dsimp only; omega
      · dsimp only; omega
  ·
    have hkn : k = n := by omega
    subst hkn
    refine sc_exit ?_
    refine sx_then_exit ?_
    refine sx_round_exit ?_
    refine sx_blk_hit ?_
    refine sx_then ?_
    refine sc_seq ?_
    refine sc_region ?_
    refine qs (y_move RF) ?_
    refine qs (y_assign RF) ?_
    refine sq_nil ?_
    refine sx_then ?_
    refine sc_ret ?_
    refine sx_ret1 (.inl rfl) rfl Try.results40 RF ?_
    intro w' hw'
    have ho := own_new_mem hw' (.head _) MM
    obtain ⟨a2, c2, rfl, _, hr⟩ := own_rowsA (row := iRow) (fun _ => rfl) ho (shufK_len by_ k) (by omega)
    exact ⟨(a2, c2), by rw [shufK_len], hw'.below MM, hr⟩
end Go.Proofs.Ytjlbpmcacopbpaa
