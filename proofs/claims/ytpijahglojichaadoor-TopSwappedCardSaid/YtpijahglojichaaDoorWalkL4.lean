/- The walk of what matches rows with slots: each row names all slots, or none. -/
import Derived.Test.YtpijahglojichaaDoorWalkL3
import Derived.Test.YtpijahglojichaaDoorWalk12
namespace Go.Proofs.YtpijahglojichaaDoor
open Go Go.Eng Go.RowKit Go.Proofs
set_option maxRecDepth 100000
/-- which slots have been seen: the first so many -/
def seenD (n d : Nat) : List Value := (List.range n).map fun i => .bool (decide (i < d))
theorem seenD_len (n d : Nat) : (seenD n d).length = n := by simp [seenD]
theorem seenD_get {n d i : Nat} (h : i < n) : (seenD n d)[i * 1]? = some (.bool (decide (i < d))) := by
  unfold seenD; rw [Nat.mul_one, List.getElem?_map, List.getElem?_range h]; rfl
theorem seenD_set {n d : Nat} : (seenD n d).set (d * 1 + 0) (.bool true) = seenD n (d + 1) := by
  rw [Nat.mul_one, Nat.add_zero]
  apply List.ext_getElem?
  intro i
  rw [List.getElem?_set, seenD_len]
  rcases Nat.lt_or_ge i n with h | h
  · have h1 := seenD_get (d := d) h
    have h2 := seenD_get (d := d + 1) h
    rw [Nat.mul_one] at h1 h2
    rw [h1, h2]
    by_cases e : d = i
    · subst e; rw [if_pos rfl, if_pos h, decide_eq_true (by omega)]
    · rw [if_neg e, show decide (i < d + 1) = decide (i < d) from decide_eq_decide.2 (by omega)]
  · rw [List.getElem?_eq_none (l := seenD n d) (by rw [seenD_len]; exact h), List.getElem?_eq_none (l := seenD n (d + 1)) (by rw [seenD_len]; exact h)]
    split
    · rw [if_neg (by omega)]
    · rfl
theorem seenD_zero (n : Nat) : madeCells (Value.bool false).cells (n * 1) = (seenD n 0).toArray := by
  rw [Nat.mul_one]
  show madeCells #[.bool false] n = _
  rw [madeCells_one]
  congr 1
  apply List.ext_getElem?
  intro a
  rcases Nat.lt_or_ge a n with h | h
  · have := seenD_get (d := 0) h
    rw [Nat.mul_one] at this
    rw [this, List.getElem?_replicate, if_pos h]; rfl
  · rw [List.getElem?_eq_none (by simpa using h), List.getElem?_eq_none (by rw [seenD_len]; exact h)]
def FullR (R : List (List Int)) (n : Nat) : Prop := ∀ r, r < R.length → R.getD r [] = [] ∨ R.getD r [] = rngI n
/-- so many slots are taken, by rows that name all -/
structure TakF (R : List (List Int)) (n : Nat) (T : List Int) (j : Nat) : Prop where
  len : T.length = n
  yes : ∀ i, i < j → ∃ r : Nat, T.getD i 0 = (r : Int) ∧ r < R.length ∧ R.getD r [] = rngI n
  no : ∀ i, j ≤ i → i < n → T.getD i 0 = -1
theorem TakF.set {R : List (List Int)} {n : Nat} {T : List Int} {j d r : Nat} (h : TakF R n T j) (hd : d < j) (hj : j ≤ n) (hr : r < R.length) (hf : R.getD r [] = rngI n) : TakF R n (T.set d (r : Int)) j := by
  have hl := h.len
  have hset : ∀ i, (T.set d (r : Int)).getD i 0 = if i = d then (r : Int) else T.getD i 0 := fun i => by
    rw [List.getD_eq_getElem?_getD, List.getD_eq_getElem?_getD, List.getElem?_set]
    by_cases e : d = i
    · subst e; rw [if_pos rfl, if_pos (by omega), if_pos rfl]; rfl
    · rw [if_neg e, if_neg (fun h => e h.symm)]
  refine ⟨by rw [List.length_set]; exact hl, fun i hi => ?_, fun i h1 h2 => ?_⟩
  · rw [hset]
    split
    · exact ⟨r, rfl, hr, hf⟩
    · exact h.yes i hi
  · rw [hset, if_neg (by omega)]; exact h.no i h1 h2
theorem TakF.take {R : List (List Int)} {n : Nat} {T : List Int} {j r : Nat} (h : TakF R n T j) (hj : j < n) (hr : r < R.length) (hf : R.getD r [] = rngI n) : TakF R n (T.set j (r : Int)) (j + 1) := by
  have hl := h.len
  have hset : ∀ i, (T.set j (r : Int)).getD i 0 = if i = j then (r : Int) else T.getD i 0 := fun i => by
    rw [List.getD_eq_getElem?_getD, List.getD_eq_getElem?_getD, List.getElem?_set]
    by_cases e : j = i
    · subst e; rw [if_pos rfl, if_pos (by omega), if_pos rfl]; rfl
    · rw [if_neg e, if_neg (fun h => e h.symm)]
  refine ⟨by rw [List.length_set]; exact hl, fun i hi => ?_, fun i h1 h2 => ?_⟩
  · rw [hset]
    split
    · exact ⟨r, rfl, hr, hf⟩
    · exact h.yes i (by omega)
  · rw [hset, if_neg (by omega)]; exact h.no i (by omega) h2

def GiveAt (w0 : World) (R : List (List Int)) (n : Nat) (ra : Option Addr) (rc : Nat) (b2 b7 b5 b8 bs bt : Nat) (d : Nat) : Prop := ∀ (j : Nat) (T : List Int) (r : Nat) (F : List Res) (w : World), d ≤ j → j ≤ n → TakF R n T j → r < R.length → R.getD r [] = rngI n → Hp w0 (.blk b2 (.cells #[.slice ra R.length rc] 22 (0, 0)) :: .blk b7 (.cells #[.slice (some ⟨bs, 0, none⟩) n n] 153 (0, 0)) :: .blk b5 (.cells #[.slice (some ⟨bt, 0, none⟩) n n] 25 (0, 0)) :: .blk b8 (.cells #[.func (.func 106) #[] #[.pointer (some ⟨b2, 0, none⟩), .pointer (some ⟨b7, 0, none⟩), .pointer (some ⟨b5, 0, none⟩), .pointer (some ⟨b8, 0, none⟩)]] 80 (0, 0)) :: .own (.slice (some ⟨bs, 0, none⟩) n n) 4 1 n (seenD n d) :: .own (.slice (some ⟨bt, 0, none⟩) n n) 3 1 n (T.flatMap iRow) :: .reg 0 w0 :: F) w → Calls Tryd.prog 106 #[.int .i64 (r : Int), .pointer (some ⟨b2, 0, none⟩), .pointer (some ⟨b7, 0, none⟩), .pointer (some ⟨b5, 0, none⟩), .pointer (some ⟨b8, 0, none⟩)] w fun e w' => ∃ T' : List Int, TakF R n T' (min n (j + 1)) ∧ e = .returned (.bool (decide (j < n))) ∧ Hp w0 (.blk b2 (.cells #[.slice ra R.length rc] 22 (0, 0)) :: .blk b7 (.cells #[.slice (some ⟨bs, 0, none⟩) n n] 153 (0, 0)) :: .blk b5 (.cells #[.slice (some ⟨bt, 0, none⟩) n n] 25 (0, 0)) :: .blk b8 (.cells #[.func (.func 106) #[] #[.pointer (some ⟨b2, 0, none⟩), .pointer (some ⟨b7, 0, none⟩), .pointer (some ⟨b5, 0, none⟩), .pointer (some ⟨b8, 0, none⟩)]] 80 (0, 0)) :: .own (.slice (some ⟨bs, 0, none⟩) n n) 4 1 n (seenD n (min n (j + 1))) :: .own (.slice (some ⟨bt, 0, none⟩) n n) 3 1 n (T'.flatMap iRow) :: .reg 0 w0 :: F) w'
theorem give106 (w0 : World) (R : List (List Int)) (n : Nat) (ra : Option Addr) (rc : Nat) (f : Nat → Option Addr) (cf : Nat → Nat) (hR : LsA 0 w0 ra f cf R) (hn : n ≤ 16) (b2 b7 b5 b8 bs bt : Nat) (d : Nat) (ih : d < n → GiveAt w0 R n ra rc b2 b7 b5 b8 bs bt (d + 1)) : GiveAt w0 R n ra rc b2 b7 b5 b8 bs bt d := by
  intro j T0 r F w hdj hjn hT0 hr hf hw
  have hls := hR.get hr
  rw [hf, rngI_len] at hls
  have hrs := hls.1
  refine calls_of_SCr (args := [.int .i64 (r : Int), .pointer (some ⟨b2, 0, none⟩), .pointer (some ⟨b7, 0, none⟩), .pointer (some ⟨b5, 0, none⟩), .pointer (some ⟨b8, 0, none⟩)]) Tryd.func106 rfl Tryd.ntmps106 rfl hw ?_
  simp only [argL, Nat.reduceAdd, Nat.zero_add]
  refine sc_seq ?_
  refine sc_region ?_
  refine qs (y_assign RF) ?_
  refine sq_nil ?_
  refine sx_then ?_
  refine sc_seq ?_
  refine sc_seq ?_
  refine sc_region ?_
  refine qs LD22 ?_
  refine qs (y_move RF) ?_
  refine qs IA22 ?_
  refine qs (by first | exact y_load_ca0 Tryd.underlying25 rfl RF MM hls.2.1 rfl | exact LD25) ?_
  refine qs (y_len Tryd.underlying25 RF) ?_
  refine qs (y_move RF) ?_
  refine sq_nil ?_
  refine sx_then ?_
  refine sc_block ?_
  refine sc_loop (σ := Nat × Bool × List Int)
    (fun s_ => [(0, .int .i64 (r : Int)), (1, .pointer (some ⟨b2, 0, none⟩)), (2, .pointer (some ⟨b7, 0, none⟩)), (3, .pointer (some ⟨b5, 0, none⟩)), (4, .pointer (some ⟨b8, 0, none⟩)), (12, .slice (f r) n (cf r)), (13, .int .i64 n), (14, .int .i64 s_.1)])
    (fun s_ => (.blk b2 (.cells #[.slice ra R.length rc] 22 (0, 0)) :: .blk b7 (.cells #[.slice (some ⟨bs, 0, none⟩) n n] 153 (0, 0)) :: .blk b5 (.cells #[.slice (some ⟨bt, 0, none⟩) n n] 25 (0, 0)) :: .blk b8 (.cells #[.func (.func 106) #[] #[.pointer (some ⟨b2, 0, none⟩), .pointer (some ⟨b7, 0, none⟩), .pointer (some ⟨b5, 0, none⟩), .pointer (some ⟨b8, 0, none⟩)]] 80 (0, 0)) :: .own (.slice (some ⟨bs, 0, none⟩) n n) 4 1 n (seenD n (if s_.2.1 = true then n else d)) :: .own (.slice (some ⟨bt, 0, none⟩) n n) 3 1 n (s_.2.2.flatMap iRow) :: .reg 0 w0 :: F))
    (fun s_ => s_.1 ≤ n ∧ (s_.2.1 = false → s_.1 ≤ d) ∧ (s_.2.1 = true → j = n) ∧ TakF R n s_.2.2 j)
    (fun s_ => n - s_.1)
    ((0, false, T0)) ?_ SU SR ?_
  · exact ⟨Nat.zero_le _, fun _ => Nat.zero_le _, fun h => (by cases h), hT0⟩
  rintro ⟨s, af, T⟩ ⟨hs, h1, h2, hT⟩
  dsimp only at hs h1 h2 hT ⊢
  refine sc_seq ?_
  refine sc_region ?_
  refine qs (y_lss RF RF) ?_
  refine sq_nil ?_
  refine sx_then ?_
  refine sc_seq ?_
  refine scp (fun hc0 => ?_) (fun hc0 => ?_)
  ·
    have hs' : s < n := by omega
    have hss := (hls.2.2.get 0 (show s < (rngI n).length by rw [rngI_len]; exact hs')).1
    have hcs := (hls.2.2.get 0 (show s < (rngI n).length by rw [rngI_len]; exact hs')).2
    rw [show (rngI n).getD s 0 = (s : Int) by rw [List.getD_eq_getElem?_getD, rngI_get hs']; rfl] at hcs
    refine sc_skip ?_
    refine sx_then ?_
    refine sc_seq ?_
    refine sc_block ?_
    refine sc_seq ?_
    refine sc_region ?_
    refine qs IA25 ?_
    refine qs (by first | exact y_load_ca0 Tryd.underlying3 rfl RF MM hcs rfl | exact LD3) ?_
    refine qs (y_assign RF) ?_
    refine sq_nil ?_
    refine sx_then ?_
    refine sc_seq ?_
    refine sc_seq ?_
    refine sc_region ?_
    refine qs LD153 ?_
    refine qs (y_move RF) ?_
    refine qs (y_ia_own (v := .slice (some ⟨bs, 0, none⟩) n n) (i := s) Tryd.underlying153 Tryd.sizeOf4 RF MM RF hs') ?_
    refine qs (by first | exact y_load_own0 (v := .slice (some ⟨bs, 0, none⟩) n n) (u := .bool (decide (s < (if af = true then n else d)))) Tryd.underlying4 rfl RF MM hs' (seenD_get hs') | exact LD4) ?_
    refine sq_nil ?_
    refine sx_then ?_
    refine scp (fun hc1 => ?_) (fun hc1 => ?_)
    ·
      refine sc_exit ?_
      refine sx_then_exit ?_
      refine sx_blk_hit ?_
      refine sx_then ?_
      refine sc_region ?_
      refine qs (y_add RF RF (by omega)) ?_
      refine qs (y_move RF) ?_
      refine sq_nil ?_
      exact sx_round (s + 1, af, T) (by refine ⟨by dsimp only; omega, fun h => ?_, h2, hT⟩; subst h; rw [if_neg (by decide)] at hc1; dsimp only; omega) (by dsimp only; omega) SU SR
    ·
      obtain ⟨rfl, rfl⟩ : false = af ∧ d = s := by
        cases af with
        | true => rw [if_pos rfl] at hc1; omega
        | false => rw [if_neg (by decide)] at hc1; exact ⟨rfl, by have := h1 rfl; omega⟩
      rw [if_neg (show ¬ false = true by decide)]
      refine sc_skip ?_
      refine sx_then ?_
      refine sc_seq ?_
      refine sc_region ?_
      refine qs LD153 ?_
      refine qs (y_move RF) ?_
      refine qs (y_ia_own (v := .slice (some ⟨bs, 0, none⟩) n n) (i := d) Tryd.underlying153 Tryd.sizeOf4 RF MM RF hs') ?_
      refine sq_store_own (v := .slice (some ⟨bs, 0, none⟩) n n) (i := d) (j := 0) (sz := 1) Tryd.sizeOf4 RF RF rfl RM hs' (by decide) ?_
      rw [seenD_set]
      refine sq_nil ?_
      refine sx_then ?_
      refine sc_seq ?_
      refine sc_drawX ((.blk b2 (.cells #[.slice ra R.length rc] 22 (0, 0)) :: .blk b7 (.cells #[.slice (some ⟨bs, 0, none⟩) n n] 153 (0, 0)) :: .blk b5 (.cells #[.slice (some ⟨bt, 0, none⟩) n n] 25 (0, 0)) :: .blk b8 (.cells #[.func (.func 106) #[] #[.pointer (some ⟨b2, 0, none⟩), .pointer (some ⟨b7, 0, none⟩), .pointer (some ⟨b5, 0, none⟩), .pointer (some ⟨b8, 0, none⟩)]] 80 (0, 0)) :: [])) (by kernel_rfl) ?_
      refine xj_s 0 RF (by kernel_rfl) SR LD25 rfl ?_
      refine xj_s 1 RF (by kernel_rfl) SR (y_move RF) rfl ?_
      refine xj_one 2 RF (by kernel_rfl) ?_
      refine qs (y_ia_own (v := .slice (some ⟨bt, 0, none⟩) n n) (i := d) Tryd.underlying25 Tryd.sizeOf3 RF MM RF hs') ?_
      refine sq_nil ?_
      refine sx_xp SR ?_
      refine xj_one 3 RF (by kernel_rfl) ?_
      refine qs (by first | exact y_load_own0 (v := .slice (some ⟨bt, 0, none⟩) n n) (u := .int .i64 (T.getD d 0)) Tryd.underlying3 rfl RF MM hs' (flat_iget (get_of_lt 0 (by have := hT.len; omega))) | exact LD3) ?_
      refine sq_nil ?_
      refine sx_xp SR ?_
      refine xj_s 4 RF (by kernel_rfl) SR (y_lss RF RF) rfl ?_
      refine xj_s 5 RF (by kernel_rfl) SR (y_move RF) rfl ?_
      first | refine xj_splitd (tt := 30) RF (fun hg6_5 => ?_) (fun hg6_5 => ?_) | refine xj_splitn (tt := 30) RF (fun hg6_5 => ?_) (fun hg6_5 => ?_) | refine xj_split (tt := 30) RF (fun hg6_5 => ?_) (fun hg6_5 => ?_)
      ·
        refine xj_gf 6 RF RF RF rfl (by kernel_rfl) SR rfl ?_
        refine xj_gf 7 RF RF RF rfl (by kernel_rfl) SR rfl ?_
        refine xj_gf 8 RF RF RF rfl (by kernel_rfl) SR rfl ?_
        refine xj_gf 9 RF RF RF rfl (by kernel_rfl) SR rfl ?_
        refine xj_gf 10 RF RF RF rfl (by kernel_rfl) SR rfl ?_
        refine xj_gf 11 RF RF RF rfl (by kernel_rfl) SR rfl ?_
        refine xj_s 12 RF (by kernel_rfl) SR (y_pick_t RF RF) rfl ?_
        refine xj_done (by kernel_rfl) ?_
        refine sx_then ?_
        refine sc_t RF ?_
        refine sc_seq ?_
        refine sc_region ?_
        refine qs LD25 ?_
        refine qs (y_move RF) ?_
        refine qs (y_move RF) ?_
        refine qs (y_ia_own (v := .slice (some ⟨bt, 0, none⟩) n n) (i := d) Tryd.underlying25 Tryd.sizeOf3 RF MM RF hs') ?_
        refine sq_store_own (v := .slice (some ⟨bt, 0, none⟩) n n) (i := d) (j := 0) (sz := 1) Tryd.sizeOf3 RF RF rfl RM hs' (by decide) ?_
        rw [iset]
        refine sq_nil ?_
        refine sx_then ?_
        refine sc_seq ?_
        refine sc_region ?_
        refine qs (y_assign RF) ?_
        refine sq_nil ?_
        refine sx_then ?_
        refine sc_ret ?_
        refine sx_blk_ret ?_
        refine sx_then_ret ?_
        refine sx_round_ret ?_
        refine sx_blk_ret ?_
        refine sx_then_ret ?_
        refine sx_ret1 (.inl rfl) rfl Tryd.results106 RF ?_
        intro w' hw'
        have hdj2 : d = j := by
          apply Classical.byContradiction
          intro hne
          obtain ⟨x, hx, _⟩ := hT.yes d (by omega)
          omega
        subst hdj2
        rw [show min n (d + 1) = d + 1 by omega]
        exact ⟨T.set d (r : Int), hT.take hs' hr hf, by rw [decide_eq_true hs'], hw'.sel SR⟩
        
      ·
        refine xj_gt 6 RF RF RF (by kernel_rfl) SR LD80 rfl ?_
        refine xj_gt 7 RF RF RF (by kernel_rfl) SR LD25 rfl ?_
        refine xj_gt 8 RF RF RF (by kernel_rfl) SR (y_move RF) rfl ?_
        refine xj_one 9 RF (by kernel_rfl) ?_
        refine qg (y_ia_own (v := .slice (some ⟨bt, 0, none⟩) n n) (i := d) Tryd.underlying25 Tryd.sizeOf3 RF MM RF hs') ?_
        refine sq_nil ?_
        refine sx_xp SR ?_
        refine xj_one 10 RF (by kernel_rfl) ?_
        refine qg (by first | exact y_load_own0 (v := .slice (some ⟨bt, 0, none⟩) n n) (u := .int .i64 (T.getD d 0)) Tryd.underlying3 rfl RF MM hs' (flat_iget (get_of_lt 0 (by have := hT.len; omega))) | exact LD3) ?_
        refine sq_nil ?_
        refine sx_xp SR ?_
        refine xj_one 11 RF (by kernel_rfl) ?_
        refine sq_guard RF RF ?_
        obtain ⟨r2, hr2, hr2l, hr2f⟩ := hT.yes d (by apply Classical.byContradiction; intro hno; have := hT.no d (by omega) hs'; omega)
        have hdn : d < n := hs'
        have hdj2 : d < j := by
          apply Classical.byContradiction
          intro hne
          have := hT.no d (by omega) hs'
          omega
        refine sq_call_fr (first := []) (caps := [.pointer (some ⟨b2, 0, none⟩), .pointer (some ⟨b7, 0, none⟩), .pointer (some ⟨b5, 0, none⟩), .pointer (some ⟨b8, 0, none⟩)]) (vs := [.int .i64 (r2 : Int)]) (rs1 := .blk b2 (.cells #[.slice ra R.length rc] 22 (0, 0)) :: .blk b7 (.cells #[.slice (some ⟨bs, 0, none⟩) n n] 153 (0, 0)) :: .blk b5 (.cells #[.slice (some ⟨bt, 0, none⟩) n n] 25 (0, 0)) :: .blk b8 (.cells #[.func (.func 106) #[] #[.pointer (some ⟨b2, 0, none⟩), .pointer (some ⟨b7, 0, none⟩), .pointer (some ⟨b5, 0, none⟩), .pointer (some ⟨b8, 0, none⟩)]] 80 (0, 0)) :: .own (.slice (some ⟨bs, 0, none⟩) n n) 4 1 n (seenD n (d + 1)) :: .own (.slice (some ⟨bt, 0, none⟩) n n) 3 1 n (T.flatMap iRow) :: .reg 0 w0 :: []) (Z := List Int) (fun _ => .bool (decide (j < n))) (fun T' => .blk b2 (.cells #[.slice ra R.length rc] 22 (0, 0)) :: .blk b7 (.cells #[.slice (some ⟨bs, 0, none⟩) n n] 153 (0, 0)) :: .blk b5 (.cells #[.slice (some ⟨bt, 0, none⟩) n n] 25 (0, 0)) :: .blk b8 (.cells #[.func (.func 106) #[] #[.pointer (some ⟨b2, 0, none⟩), .pointer (some ⟨b7, 0, none⟩), .pointer (some ⟨b5, 0, none⟩), .pointer (some ⟨b8, 0, none⟩)]] 80 (0, 0)) :: .own (.slice (some ⟨bs, 0, none⟩) n n) 4 1 n (seenD n (min n (j + 1))) :: .own (.slice (some ⟨bt, 0, none⟩) n n) 3 1 n (T'.flatMap iRow) :: .reg 0 w0 :: []) (fun T' => TakF R n T' (min n (j + 1))) RF Tryd.call106 (EvL.cons (lk_eq rfl (by rw [hr2])) EvL.nil) (by repeat (first | exact Rems.nil | apply Rems.cons (by repeat (first | exact Rem.here | apply Rem.there)))) (fun w1 hw1 => (ih hdn j T r2 _ w1 (by omega) hjn hT hr2l hr2f hw1).mono (fun e w' h => h)) rfl (fun T2 hT2 => ?_)
        refine sq_nil ?_
        refine sx_xp SR ?_
        refine xj_s 12 RF (by kernel_rfl) SR (y_pick_f RF RF) rfl ?_
        refine xj_done (by kernel_rfl) ?_
        refine sx_then ?_
        refine scp (fun hc2 => ?_) (fun hc2 => ?_)
        ·
          refine sc_seq ?_
          refine sc_region ?_
          refine qs LD25 ?_
          refine qs (y_move RF) ?_
          refine qs (y_move RF) ?_
          refine qs (y_ia_own (v := .slice (some ⟨bt, 0, none⟩) n n) (i := d) Tryd.underlying25 Tryd.sizeOf3 RF MM RF hs') ?_
          refine sq_store_own (v := .slice (some ⟨bt, 0, none⟩) n n) (i := d) (j := 0) (sz := 1) Tryd.sizeOf3 RF RF rfl RM hs' (by decide) ?_
          rw [iset]
          refine sq_nil ?_
          refine sx_then ?_
          refine sc_seq ?_
          refine sc_region ?_
          refine qs (y_assign RF) ?_
          refine sq_nil ?_
          refine sx_then ?_
          refine sc_ret ?_
          refine sx_blk_ret ?_
          refine sx_then_ret ?_
          refine sx_round_ret ?_
          refine sx_blk_ret ?_
          refine sx_then_ret ?_
          refine sx_ret1 (.inl rfl) rfl Tryd.results106 RF ?_
          intro w' hw'
          exact ⟨T2.set d (r : Int), hT2.set (by omega) (by omega) hr hf, by rw [decide_eq_true hc2], hw'.sel SR⟩
          
        ·
          refine sc_skip ?_
          refine sx_blk ?_
          refine sx_then ?_
          refine sc_region ?_
          refine qs (y_add RF RF (by omega)) ?_
          refine qs (y_move RF) ?_
          refine sq_nil ?_
          have hjn2 : j = n := by omega
          rw [show min n (j + 1) = n by omega] at hT2 ⊢
          exact sx_round (d + 1, true, T2) (by refine ⟨by dsimp only; omega, fun h => (by cases h), fun _ => hjn2, ?_⟩; rw [hjn2]; exact hT2) (by dsimp only; omega) SU SR
  ·
    have hsn : s = n := by omega
    refine sc_exit ?_
    refine sx_then_exit ?_
    refine sx_round_exit ?_
    refine sx_blk_hit ?_
    refine sx_then ?_
    refine sc_seq ?_
    refine sc_region ?_
    refine qs (y_assign RF) ?_
    refine sq_nil ?_
    refine sx_then ?_
    refine sc_ret ?_
    refine sx_ret1 (.inl rfl) rfl Tryd.results106 RF ?_
    intro w' hw'
    have hjn2 : j = n := by
      cases af with
      | true => exact h2 rfl
      | false => have := h1 rfl; omega
    have hS : (if af = true then n else d) = n := by
      cases af with
      | true => rfl
      | false => have := h1 rfl; show d = n; omega
    rw [hS] at hw'
    refine ⟨T, by rw [show min n (j + 1) = j by omega]; exact hT, by rw [decide_eq_false (by omega)], ?_⟩
    rw [show min n (j + 1) = n by omega]
    exact hw'.sel SR
    
end Go.Proofs.YtpijahglojichaaDoor
