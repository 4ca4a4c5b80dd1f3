/- The walk of the reference's best order. -/
import Derived.Test.YtjlbpmcacopbpaaWalk14
import Derived.Test.YtjlbpmcacopbpaaWalk11
namespace Go.Proofs.Ytjlbpmcacopbpaa
open Go Go.Eng Go.RowKit Go.Proofs
set_option maxRecDepth 100000
theorem orders66n (w : World) (n : Nat) (h7 : n ≤ 7) : Calls Try.prog 66 #[.int .i64 n, .slice none 0 0, .slice none 0 0] w fun e w' => ∃ z : Option Addr × (Nat → Option Addr) × Nat × (Nat → Nat), e = .returned (.slice z.1 (refO n n []).length z.2.2.1) ∧ Below w.heap.size w w' ∧ LLA w.heap.size w' z.1 z.2.1 z.2.2.2 (refO n n []) := by
  have hle := refO_le n n []
  have h1 : n ^ n ≤ 7 ^ 7 := Nat.le_trans (Nat.pow_le_pow_left h7 n) (Nat.pow_le_pow_right (by omega) h7)
  have h2 : (7 : Nat) ^ 7 = 823543 := by decide
  have hall : ∀ (k : Nat) (done h : List Int), h ∈ refO n k done → h.length = done.length + k := by
    intro k
    induction k with
    | zero => intro done h hh; rw [List.mem_singleton.1 hh]; rfl
    | succ k ih =>
      intro done h hh
      obtain ⟨j, _, hj⟩ := List.mem_flatMap.1 (show h ∈ (List.range n).flatMap _ from hh)
      split at hj
      · cases hj
      · rw [ih _ _ hj]; simp; omega
  refine (orders66 n h7 n [] (by simp) [] [] (.slice none 0 0) (.slice none 0 0) w rfl rfl (by simp only [List.length_nil]; omega) (((Hp.init w).nilOwn 3 1).nilOwn 35 1)).mono ?_
  rintro e w' ⟨⟨v, iv⟩, rfl, hv1, hiv, hw'⟩
  dsimp only at hiv hw' hv1 ⊢
  rw [List.reverse_nil, List.map_nil, List.nil_append] at hiv
  have hL : iv.length = (refO n n []).length := by rw [← hiv, List.length_map, List.length_reverse]
  obtain ⟨a, f, c, cf, hv, hLL⟩ := lists_new hw' (.head _) (fun r hr => .tail _ (.tail _ hr)) (.tail _ (.head _)) (fun p hp => by
    have h9 : p.2 ∈ refO n n [] := by rw [← hiv]; exact List.mem_map.2 ⟨p, List.mem_reverse.2 hp, rfl⟩
    rw [hall n [] _ h9]; simp only [List.length_nil]; omega) (by omega)
  rw [hiv] at hLL
  exact ⟨(a, f, c, cf), by rw [hv, hL], hw'.below (.tail _ (.head _)), hLL⟩
/-- the first of the least -/
def bestK (d : Nat → Int) : Nat → Nat
  | 0 => 0
  | k + 1 => if d k < d (bestK d k) then k else bestK d k
theorem bestK_lt (d : Nat → Int) : ∀ k, 0 < k → bestK d k < k
  | 0, h => absurd h (Nat.lt_irrefl 0)
  | k + 1, _ => by
    unfold bestK
    split
    · omega
    · rcases Nat.eq_zero_or_pos k with h | h
      · subst h; unfold bestK; omega
      · have := bestK_lt d k h; omega
theorem bestK_min (d : Nat → Int) : ∀ k, (∀ j, j < k → d (bestK d k) ≤ d j) ∧ ∀ j, j < bestK d k → d (bestK d k) < d j
  | 0 => ⟨fun j hj => absurd hj (Nat.not_lt_zero j), fun j hj => by unfold bestK at hj; omega⟩
  | k + 1 => by
    obtain ⟨h1, h2⟩ := bestK_min d k
    unfold bestK
    split
    · rename_i h
      exact ⟨fun j hj => by
        rcases Nat.lt_succ_iff_lt_or_eq.1 hj with h3 | rfl
        · have := h1 j h3; omega
        · exact Int.le_refl _, fun j hj => by have := h1 j hj; omega⟩
    · rename_i h
      exact ⟨fun j hj => by
        rcases Nat.lt_succ_iff_lt_or_eq.1 hj with h3 | rfl
        · exact h1 j h3
        · omega, h2⟩
theorem refO_perm (n : Nat) : ∀ (k : Nat) (done : List Int), n = done.length + k → done.Nodup → (∀ x, x ∈ done → 0 ≤ x ∧ x < (n : Int)) → ∀ h, h ∈ refO n k done → h.Perm (rngI n)
  | 0, done, hk, hnd, hb, h, hh => by
    rw [List.mem_singleton.1 hh]
    have hl : done.length = n := by omega
    refine perm_rngI n done (fun j hj => ?_) hl
    rcases Nat.eq_zero_or_pos (done.count (j : Int)) with h0 | h0
    · exfalso
      have hj2 : (j : Int) ∉ done := fun hm => by have := List.count_pos_iff.2 hm; omega
      have hle : done.length ≤ ((rngI n).erase (j : Int)).length := by
        have hs : ∀ (l m : List Int), l.Nodup → (∀ x, x ∈ l → x ∈ m) → l.length ≤ m.length := by
          intro l
          induction l with
          | nil => intro m _ _; simp
          | cons x l ih =>
            intro m hn hm
            have hx := hm x (List.mem_cons_self ..)
            have hn2 := List.nodup_cons.1 hn
            have := ih (m.erase x) hn2.2 (fun y hy => (List.mem_erase_of_ne (fun e => hn2.1 (by rw [← e]; exact hy))).2 (hm y (List.mem_cons_of_mem _ hy)))
            have h9 := List.length_pos_of_mem hx
            rw [List.length_erase_of_mem hx] at this
            rw [List.length_cons]; omega
        refine hs done _ hnd fun x hx => (List.mem_erase_of_ne (fun e => hj2 (by rw [← e]; exact hx))).2 (mem_rngI.2 (hb x hx))
      have hm : (j : Int) ∈ rngI n := mem_rngI.2 (by omega)
      rw [List.length_erase_of_mem hm, rngI_len] at hle
      omega
    · have := List.nodup_iff_count.1 hnd (j : Int)
      omega
  | k + 1, done, hk, hnd, hb, h, hh => by
    obtain ⟨j, hj, hj2⟩ := List.mem_flatMap.1 (show h ∈ (List.range n).flatMap _ from hh)
    have hjn := List.mem_range.1 hj
    split at hj2
    · cases hj2
    · rename_i hno
      have hno2 : (j : Int) ∉ done := fun hm => hno (decide_eq_true hm)
      refine refO_perm n k _ (by simp; omega) ?_ (fun x hx => ?_) h hj2
      · rw [List.nodup_append]
        exact ⟨hnd, by simp, fun a ha b hb2 => by rw [List.mem_singleton] at hb2; subst hb2; intro e; exact hno2 (by rw [← e]; exact ha)⟩
      · rcases List.mem_append.1 hx with h1 | h1
        · exact hb x h1
        · rw [List.mem_singleton] at h1; subst h1; omega

theorem refO_mem (n : Nat) : ∀ (k : Nat) (done rest : List Int), rest.length = k → (done ++ rest).Perm (rngI n) → done ++ rest ∈ refO n k done
  | 0, done, rest, hl, _ => by rw [List.eq_nil_of_length_eq_zero hl, List.append_nil]; exact List.mem_singleton.2 rfl
  | k + 1, done, [], hl, _ => by cases hl
  | k + 1, done, x :: rest, hl, hp => by
    have hx := mem_rngI.1 (hp.mem_iff.1 (List.mem_append_right done (List.mem_cons_self (a := x) (l := rest))))
    have hnd : (done ++ x :: rest).Nodup := hp.nodup_iff.2 (by unfold rngI; exact List.Pairwise.map _ (fun a b h e => h (by omega)) List.nodup_range)
    have hno : hasB done x = false := decide_eq_false fun hm => (List.nodup_append.1 hnd).2.2 x hm x (List.mem_cons_self ..) rfl
    have ih := refO_mem n k (done ++ [x]) rest (by simpa using hl) (by simpa using hp)
    show _ ∈ (List.range n).flatMap _
    refine List.mem_flatMap.2 ⟨x.toNat, List.mem_range.2 (by omega), ?_⟩
    rw [Int.toNat_of_nonneg hx.1, if_neg (by simp [hno])]
    simpa using ih
theorem refO_pos (n : Nat) : 0 < (refO n n []).length := List.length_pos_of_mem (refO_mem n n [] (rngI n) (rngI_len n) (List.Perm.refl _))
def hourK (ts : List Tm) (i : Nat) : Int := gtV 0 (endsV ts ((refO ts.length ts.length []).getD i []))
def bestI (ts : List Tm) : Nat := bestK (hourK ts) (refO ts.length ts.length []).length
def bestR (l : List Jb) : List Int × Int × Int := if jobsB l = false then ([], 0, 1) else ((refO l.length l.length []).getD (bestI (l.map (timeV true))) [], hourK (l.map (timeV true)) (bestI (l.map (timeV true))), 0)
theorem ordOk.ref {l : List Jb} (hj : jobsB l = true) {i : Nat} (hi : i < (refO l.length l.length []).length) : ordOk (l.map (timeV true)) ((refO l.length l.length []).getD i []) :=
  ordOk.of hj ((ordB_iff _ _).2 (refO_perm _ _ [] (by simp) (by simp) (by simp) _ (List.mem_of_getElem? (get_of_lt [] hi)))) true

theorem best28 (w : World) (a : Option Addr) (c : Nat) (l : List Jb) (hl : RowsA jbRow 5 0 w a l) : Calls Try.prog 28 #[.slice a l.length c] w fun e w' => ∃ z : Option Addr × Nat, e = .returned (.tuple #[.slice z.1 (bestR l).1.length z.2, .int .i64 (bestR l).2.1, .int .i64 (bestR l).2.2]) ∧ Below w.heap.size w w' ∧ RowsA iRow 1 w.heap.size w' z.1 (bestR l).1 := by
  have hlen := hl.len
  refine calls_of_SC (args := [.slice a l.length c]) Try.func28 rfl Try.ntmps28 rfl ?_
  simp only [argL]
  refine sc_seq ?_
  refine sc_region ?_
  refine qs (y_assign RF) ?_
  refine qs (y_assign RF) ?_
  refine qs (y_assign RF) ?_
  refine sq_nil ?_
  refine sx_then ?_
  refine sc_seq ?_
  refine sc_seq ?_
  refine sc_region ?_
  refine qs (y_move RF) ?_
  refine qy (yc Try.call30 E1 (fun w1 hw1 => jobs30 w1 a c l (hl.at hw1 MM))) ?_
  refine qs (y_not RF) ?_
  refine sq_nil ?_
  refine sx_then ?_
  refine scp (fun hc0 => ?_) (fun hc0 => ?_)
  ·
    refine sc_seq ?_
    refine sc_region ?_
    refine qs (y_assign RF) ?_
    refine qs (y_assign RF) ?_
    refine qs (y_assign RF) ?_
    refine sq_nil ?_
    refine sx_then ?_
    refine sc_ret ?_
    refine sx_then_ret ?_
    refine sx_ret3 (.inl rfl) rfl Try.results28 RF RF RF ?_
    intro w' hw'
    have hj : jobsB l = false := by simpa using hc0
    have hbr : bestR l = ([], 0, 1) := by unfold bestR; rw [if_pos hj]
    exact ⟨(none, 0), by rw [hbr]; rfl, hw'.below MM, by rw [hbr]; exact RowsA.nil _ _⟩
  ·
    refine sc_skip ?_
    refine sx_then ?_
    refine sc_seq ?_
    have hj : jobsB l = true := by simpa using hc0
    have h7 := (jobsB_parts hj).1
    have hbr : bestR l = ((refO l.length l.length []).getD (bestI (l.map (timeV true))) [], hourK (l.map (timeV true)) (bestI (l.map (timeV true))), 0) := by unfold bestR; rw [if_neg (by simp [hj])]
    obtain ⟨ts, hts⟩ : ∃ ts, ts = l.map (timeV true) := ⟨_, rfl⟩
    rw [← hts] at hbr
    have htl : ts.length = l.length := by rw [hts, List.length_map]
    have hok : ∀ i, i < (refO l.length l.length []).length → ordOk ts ((refO l.length l.length []).getD i []) := fun i hi => by rw [hts]; exact ordOk.ref hj hi
    have hpos := refO_pos l.length
    have hhk : ∀ i, gtV 0 (endsV ts ((refO l.length l.length []).getD i [])) = hourK ts i := fun i => by unfold hourK; rw [htl]
    have hbi : bestI ts = bestK (hourK ts) (refO l.length l.length []).length := by unfold bestI; rw [htl]
    refine sc_region ?_
    refine qs (y_move RF) ?_
    refine qs (y_len Try.underlying34 RF) ?_
    refine sq_call_new (first := []) (caps := []) (Z := Option Addr × (Nat → Option Addr) × Nat × (Nat → Nat)) (fun z => .slice z.1 (refO l.length l.length []).length z.2.2.1) (fun lo w' z => w.heap.size ≤ lo ∧ LLA lo w' z.1 z.2.1 z.2.2.2 (refO l.length l.length [])) RF Try.call66 (EvL.cons RF (EvL.cons RF (EvL.cons RF EvL.nil))) (fun w1 hw1 => (orders66n w1 l.length h7).mono (fun e w' ⟨z, h1, h2, h3⟩ => ⟨z, h1, h2, hw1.size, h3⟩)) rfl (fun lo13 wr13 z13 hz13 => ?_)
    refine qs (y_assign RF) ?_
    refine sq_nil ?_
    refine sx_then ?_
    refine sc_seq ?_
    obtain ⟨hlo13, hLL⟩ := hz13
    have hll := hLL.len
    refine sc_region ?_
    refine qs (y_assign RF) ?_
    refine sq_nil ?_
    refine sx_then ?_
    refine sc_seq ?_
    refine sc_seq ?_
    refine sc_region ?_
    refine qs (y_assign RF) ?_
    refine sq_nil ?_
    refine sx_then ?_
    refine sc_block ?_
    refine sc_loop (σ := Nat)
      (fun s => [(0, .slice a l.length c), (5, .slice z13.1 (refO l.length l.length []).length z13.2.2.1), (6, .int .i64 (bestK (hourK ts) s : Nat)), (7, .int .i64 s)])
      (fun s => [.reg lo13 wr13, .reg 0 w])
      (fun s => s ≤ (refO l.length l.length []).length)
      (fun s => (refO l.length l.length []).length - s)
      (0) ?_ SU SR ?_
    · exact Nat.zero_le _
    rintro k hk
    refine sc_seq ?_
    refine sc_seq ?_
    refine sc_region ?_
    refine qs (y_move RF) ?_
    refine qs (y_move RF) ?_
    refine qs (y_len Try.underlying100 RF) ?_
    refine qs (y_lss RF RF) ?_
    refine sq_nil ?_
    refine sx_then ?_
    refine scp (fun hc1 => ?_) (fun hc1 => ?_)
    ·
      have hk' : k < (refO l.length l.length []).length := by omega
      have hbk : bestK (hourK ts) k < (refO l.length l.length []).length := by
        rcases Nat.eq_zero_or_pos k with h | h
        · subst h; exact hpos
        · have := bestK_lt (hourK ts) k h; omega
      refine sc_skip ?_
      refine sx_then ?_
      refine sc_seq ?_
      refine sc_block ?_
      refine sc_seq ?_
      refine sc_drawX ([.reg lo13 wr13, .reg 0 w]) (by kernel_rfl) ?_
      refine xj_s 0 RF (by kernel_rfl) SR (y_move RF) rfl ?_
      refine xj_s 2 RF (by kernel_rfl) SR (y_move RF) rfl ?_
      refine xj_s 3 RF (by kernel_rfl) SR (y_move RF) rfl ?_
      refine xj_s 4 RF (by kernel_rfl) SR (y_ia_el (i := k) Try.underlying100 Try.sizeOf35 RF RF (by omega) (hLL.el (k) _ (get_of_lt [] (by omega))).1) rfl ?_
      refine xj_s 5 RF (by kernel_rfl) SR (by first | exact y_load_ca0 Try.underlying35 rfl RF MM (hLL.el (k) _ (get_of_lt [] (by omega))).2.1 rfl | exact LD35) rfl ?_
      refine xj_s 7 RF (by kernel_rfl) SR (y_move RF) rfl ?_
      refine xj_s 9 RF (by kernel_rfl) SR (y_move RF) rfl ?_
      refine xj_s 10 RF (by kernel_rfl) SR (y_move RF) rfl ?_
      refine xj_s 11 RF (by kernel_rfl) SR (y_ia_el (i := bestK (hourK ts) k) Try.underlying100 Try.sizeOf35 RF RF (by omega) (hLL.el (bestK (hourK ts) k) _ (get_of_lt [] (by omega))).1) rfl ?_
      refine xj_s 12 RF (by kernel_rfl) SR (by first | exact y_load_ca0 Try.underlying35 rfl RF MM (hLL.el (bestK (hourK ts) k) _ (get_of_lt [] (by omega))).2.1 rfl | exact LD35) rfl ?_
      refine xj_one 1 RF (by kernel_rfl) ?_
      refine sq_call_new (first := []) (caps := []) (Z := (Option Addr × Nat) × Option Addr × Nat) (fun z => .agg #[.slice z.1.1 l.length z.1.2, .slice z.2.1 l.length z.2.2]) (fun lo w' z => RowsA iRow 1 lo w' z.1.1 (ts.map (fun (t : Tm) => t.1)) ∧ RowsA iRow 1 lo w' z.2.1 (ts.map (fun (t : Tm) => t.2))) RF Try.call38 (EvL.cons RF EvL.nil) (fun w1 hw1 => (slow38 w1 a c l (hl.at hw1 MM) h7).mono (fun e w' ⟨z, h1, h2, h3, h4⟩ => ⟨z, h1, h2, by rw [hts]; exact h3, by rw [hts]; exact h4⟩)) rfl (fun lo21 wr21 z21 hz21 => ?_)
      refine sq_nil ?_
      refine sx_xp SR ?_
      refine xj_one 6 RF (by kernel_rfl) ?_
      refine qy (yc Try.call39 E2 (fun w1 hw1 => done39n (co := z13.2.2.2 (k)) l.length htl (hz21.1.at hw1 MM) (hz21.2.at hw1 MM) ((hLL.el (k) _ (get_of_lt [] (by omega))).2.2.at hw1 MM) (hok _ (by omega)))) ?_
      refine sq_nil ?_
      refine sx_xp SR ?_
      rw [hhk]
      refine xj_one 8 RF (by kernel_rfl) ?_
      refine sq_call_new (first := []) (caps := []) (Z := (Option Addr × Nat) × Option Addr × Nat) (fun z => .agg #[.slice z.1.1 l.length z.1.2, .slice z.2.1 l.length z.2.2]) (fun lo w' z => RowsA iRow 1 lo w' z.1.1 (ts.map (fun (t : Tm) => t.1)) ∧ RowsA iRow 1 lo w' z.2.1 (ts.map (fun (t : Tm) => t.2))) RF Try.call38 (EvL.cons RF EvL.nil) (fun w1 hw1 => (slow38 w1 a c l (hl.at hw1 MM) h7).mono (fun e w' ⟨z, h1, h2, h3, h4⟩ => ⟨z, h1, h2, by rw [hts]; exact h3, by rw [hts]; exact h4⟩)) rfl (fun lo28 wr28 z28 hz28 => ?_)
      refine sq_nil ?_
      refine sx_xp SR ?_
      refine xj_one 13 RF (by kernel_rfl) ?_
      refine qy (yc Try.call39 E2 (fun w1 hw1 => done39n (co := z13.2.2.2 (bestK (hourK ts) k)) l.length htl (hz28.1.at hw1 MM) (hz28.2.at hw1 MM) ((hLL.el (bestK (hourK ts) k) _ (get_of_lt [] (by omega))).2.2.at hw1 MM) (hok _ (by omega)))) ?_
      refine sq_nil ?_
      refine sx_xp SR ?_
      rw [hhk]
      refine xj_s 14 RF (by kernel_rfl) SR (y_lss RF RF) rfl ?_
      refine xj_done (by kernel_rfl) ?_
      refine sx_then ?_
      refine scp (fun hc2 => ?_) (fun hc2 => ?_)
      ·
        have hbs : bestK (hourK ts) (k + 1) = k := by conv => { lhs; unfold bestK }; rw [if_pos hc2]
        refine sc_region ?_
        refine qs (y_move RF) ?_
        refine qs (y_assign RF) ?_
        refine sq_nil ?_
        refine sx_blk ?_
        refine sx_then ?_
        refine sc_region ?_
        refine qs (y_move RF) ?_
        refine qs (y_add RF RF (by omega)) ?_
        refine qs (y_assign RF) ?_
        refine sq_nil ?_
        refine sx_round (k + 1) ?_ ?_ (by repeat (first | exact SubL.nil | refine SubL.cons (by first | exact rfl | exact lk_int rfl (by omega)) ?_)) SR
        · omega
        · omega
      ·
        rw [show bestK (hourK ts) k = bestK (hourK ts) (k + 1) from by conv => { rhs; unfold bestK }; rw [if_neg hc2]]
        refine sc_skip ?_
        refine sx_blk ?_
        refine sx_then ?_
        refine sc_region ?_
        refine qs (y_move RF) ?_
        refine qs (y_add RF RF (by omega)) ?_
        refine qs (y_assign RF) ?_
        refine sq_nil ?_
        refine sx_round (k + 1) ?_ ?_ SU SR
        · omega
        · omega
    ·
      have hkn : k = (refO l.length l.length []).length := by omega
      rw [show bestK (hourK ts) k = bestI ts from by rw [hkn, hbi]]
      have hbk : bestI ts < (refO l.length l.length []).length := by rw [hbi]; exact bestK_lt (hourK ts) _ hpos
      refine sc_exit ?_
      refine sx_then_exit ?_
      refine sx_round_exit ?_
      refine sx_blk_hit ?_
      refine sx_then ?_
      refine sc_seq ?_
      refine sc_drawX ([.reg lo13 wr13, .reg 0 w]) (by kernel_rfl) ?_
      refine xj_s 0 RF (by kernel_rfl) SR (y_move RF) rfl ?_
      refine xj_s 1 RF (by kernel_rfl) SR (y_move RF) rfl ?_
      refine xj_s 2 RF (by kernel_rfl) SR (y_ia_el (i := bestI ts) Try.underlying100 Try.sizeOf35 RF RF (by omega) (hLL.el (bestI ts) _ (get_of_lt [] (by omega))).1) rfl ?_
      refine xj_s 3 RF (by kernel_rfl) SR (by first | exact y_load_ca0 Try.underlying35 rfl RF MM (hLL.el (bestI ts) _ (get_of_lt [] (by omega))).2.1 rfl | exact LD35) rfl ?_
      refine xj_s 4 RF (by kernel_rfl) SR (y_move RF) rfl ?_
      refine xj_s 6 RF (by kernel_rfl) SR (y_move RF) rfl ?_
      refine xj_s 7 RF (by kernel_rfl) SR (y_move RF) rfl ?_
      refine xj_s 8 RF (by kernel_rfl) SR (y_ia_el (i := bestI ts) Try.underlying100 Try.sizeOf35 RF RF (by omega) (hLL.el (bestI ts) _ (get_of_lt [] (by omega))).1) rfl ?_
      refine xj_s 9 RF (by kernel_rfl) SR (by first | exact y_load_ca0 Try.underlying35 rfl RF MM (hLL.el (bestI ts) _ (get_of_lt [] (by omega))).2.1 rfl | exact LD35) rfl ?_
      refine xj_one 5 RF (by kernel_rfl) ?_
      refine sq_call_new (first := []) (caps := []) (Z := (Option Addr × Nat) × Option Addr × Nat) (fun z => .agg #[.slice z.1.1 l.length z.1.2, .slice z.2.1 l.length z.2.2]) (fun lo w' z => RowsA iRow 1 lo w' z.1.1 (ts.map (fun (t : Tm) => t.1)) ∧ RowsA iRow 1 lo w' z.2.1 (ts.map (fun (t : Tm) => t.2))) RF Try.call38 (EvL.cons RF EvL.nil) (fun w1 hw1 => (slow38 w1 a c l (hl.at hw1 MM) h7).mono (fun e w' ⟨z, h1, h2, h3, h4⟩ => ⟨z, h1, h2, by rw [hts]; exact h3, by rw [hts]; exact h4⟩)) rfl (fun lo41 wr41 z41 hz41 => ?_)
      refine sq_nil ?_
      refine sx_xp SR ?_
      refine xj_one 10 RF (by kernel_rfl) ?_
      refine qy (yc Try.call39 E2 (fun w1 hw1 => done39n (co := z13.2.2.2 (bestI ts)) l.length htl (hz41.1.at hw1 MM) (hz41.2.at hw1 MM) ((hLL.el (bestI ts) _ (get_of_lt [] (by omega))).2.2.at hw1 MM) (hok _ (by omega)))) ?_
      refine sq_nil ?_
      refine sx_xp SR ?_
      rw [hhk]
      refine xj_s 11 RF (by kernel_rfl) SR (y_assign RF) rfl ?_
      refine xj_s 12 RF (by kernel_rfl) SR (y_assign RF) rfl ?_
      refine xj_s 13 RF (by kernel_rfl) SR (y_assign RF) rfl ?_
      refine xj_done (by kernel_rfl) ?_
      refine sx_then ?_
      refine sc_ret ?_
      refine sx_ret3 (.inl rfl) rfl Try.results28 RF RF RF ?_
      intro w' hw'
      refine ⟨(z13.2.1 (bestI ts), z13.2.2.2 (bestI ts)), by rw [hbr], hw'.below MM, ?_⟩
      rw [hbr]
      have hR := (hLL.el (bestI ts) _ (get_of_lt [] (by omega))).2.2
      exact ⟨fun i x hi => ⟨(hR.el i x hi).1, ((hR.el i x hi).2.keep hw' MM).low hlo13⟩, hR.len⟩
end Go.Proofs.Ytjlbpmcacopbpaa
