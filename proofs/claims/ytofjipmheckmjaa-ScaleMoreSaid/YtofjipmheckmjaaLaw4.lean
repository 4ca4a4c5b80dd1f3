/- What settles a doubt: plain. -/
import Derived.Test.YtofjipmheckmjaaLaw1
import Derived.Test.YtofjipmheckmjaaWalk16
namespace Go.Proofs.Ytofjipmheckmjaa
open Go Go.Eng Go.RowKit Go.Proofs
theorem of_le {b : Bx} (h : bxB b = true) {t : Te} {i : Nat} (hi : i < b.kinds.length) {m : Int} (hm : 0 ≤ m) : (ofV b t i m).lo ≤ (ofV b t i m).hi := by
  have hk := kd_bd h hi
  unfold ofV
  split
  · exact Int.mul_le_mul_of_nonneg_left hk.2.2.1 hm
  · split
    · exact Int.le_refl _
    · exact Int.le_refl _
theorem readK_le {b : Bx} (h : bxB b = true) {t : Te} (ht : teB b t = true) {has : List Int} (hh : HasOk b has) : ∀ k, k ≤ has.length → (readK b t has k).lo ≤ (readK b t has k).hi
  | 0, _ => by
    have h1 := bxB_parts h
    have h2 := teB_parts ht
    unfold readK besV
    split
    · dsimp only; omega
    · omega
  | k + 1, hk => by
    have h1 := readK_le h ht hh k (by omega)
    have h2 := of_le (t := t) h (show k < b.kinds.length by rw [← hh.len]; omega) (hh.bd k (by omega)).1
    unfold readK plusV
    dsimp only; omega
theorem readV_le {b : Bx} (h : bxB b = true) {t : Te} (ht : teB b t = true) {has : List Int} (hh : HasOk b has) : (readV b t has).lo ≤ (readV b t has).hi := readK_le h ht hh _ (Nat.le_refl _)
def gotL (s : Sp) (u : Int) : List Int := [s.lo, s.hi, s.lo + u % (s.hi - s.lo + 1)]
theorem got_in {s : Sp} {u g : Int} (hs : s.lo ≤ s.hi) (hg : g ∈ gotL s u) : s.lo ≤ g ∧ g ≤ s.hi := by
  have h1 := Int.emod_nonneg u (show s.hi - s.lo + 1 ≠ 0 by omega)
  have h2 := Int.emod_lt_of_pos u (show 0 < s.hi - s.lo + 1 by omega)
  simp only [gotL, List.mem_cons, List.not_mem_nil, or_false] at hg
  omega
/-- is a box that is read so not judged, or judged perhaps? -/
def badR (b : Bx) (R : List Rd) : Bool := !decide (openE b R [] = 0) || decide (judgeV (fitL b R) = 1)
def doubtV (b : Bx) (ls : List Rd) (ll : List (List Int)) (t : Te) (u : Int) : Bool := ll.any fun x => (gotL (readV b t x) u).any fun g => badR b (ls ++ [⟨t, g⟩])
theorem fit_add (b : Bx) (ls : List Rd) (r : Rd) : fitL b (ls ++ [r]) = (fitL b ls).filter fun x => meetsV (readV b r.test x) ⟨r.got, r.got⟩ := by
  unfold fitL
  rw [List.filter_filter]
  congr 1
  funext x
  unfold fitV
  rw [List.all_append, Bool.and_comm]; simp
theorem chk_add {b : Bx} {ls : List Rd} {r : Rd} (h : chk b ls [] = 0) (hn : ls.length ≤ 15) (ht : teB b r.test = true) : chk b (ls ++ [r]) [] = 0 := by
  have hz := chk_zero h
  refine chk_ok hz.1 (by simp; omega) fun q hq => ?_
  rcases List.mem_append.1 hq with h1 | h1
  · exact hz.2.2.2.1 q h1
  · simp at h1; subst h1; exact ht
theorem conf_of {b : Bx} {t : Te} {x y : List Int} {g : Int} (hx : wholeV x = true) (hy : wholeV y = false) (h1 : meetsV (readV b t x) ⟨g, g⟩ = true) (h2 : meetsV (readV b t y) ⟨g, g⟩ = true) : conf b t x y = true := by
  unfold meetsV at h1 h2
  rw [decide_eq_true_eq] at h1 h2
  unfold conf meetsV
  rw [hx, hy, decide_eq_true (by dsimp only at h1 h2; omega)]; rfl
theorem judge_one {ll : List (List Int)} : judgeV ll = 1 ↔ (∃ x, x ∈ ll ∧ wholeV x = true) ∧ ∃ y, y ∈ ll ∧ wholeV y = false := by
  unfold judgeV
  constructor
  · intro h
    split at h
    · cases h
    · rename_i h1
      split at h
      · cases h
      · rename_i h2
        have h1 : (ll.any fun h => !wholeV h) = true := by simpa using h1
        have h2 : ll.any wholeV = true := by simpa using h2
        obtain ⟨y, hy, hyw⟩ := List.any_eq_true.1 h1
        obtain ⟨x, hx, hxw⟩ := List.any_eq_true.1 h2
        exact ⟨⟨x, hx, hxw⟩, y, hy, by simpa using hyw⟩
  · rintro ⟨⟨x, hx, hxw⟩, y, hy, hyw⟩
    rw [if_neg, if_neg]
    · intro h; rw [List.any_eq_false] at h; exact h x hx hxw
    · intro h; rw [List.any_eq_false] at h; exact h y hy (by simp [hyw])
/-- a test that settles leaves no doubt -/
theorem doubt_no {b : Bx} {ls : List Rd} {t : Te} {u : Int} (hc : chk b ls [] = 0) (hn : ls.length ≤ 15) (ht : teB b t = true) (hs : setV b (fitL b ls) t = true) : doubtV b ls (fitL b ls) t u = false := by
  have hok := (chk_zero hc).1
  unfold doubtV
  rw [List.any_eq_false]
  intro x hx
  rw [Bool.not_eq_true, List.any_eq_false]
  intro g hg
  have hh := allL_ok hok x (List.mem_filter.1 hx).1
  have hgi := got_in (readV_le hok ht hh) hg
  have hfx : x ∈ fitL b (ls ++ [⟨t, g⟩]) := by
    rw [fit_add]
    exact List.mem_filter.2 ⟨hx, by unfold meetsV; exact decide_eq_true hgi⟩
  have hop : openE b (ls ++ [⟨t, g⟩]) [] = 0 := open_ok (chk_add hc hn ht) hfx
  have hj : ¬ judgeV (fitL b (ls ++ [⟨t, g⟩])) = 1 := by
    intro h
    obtain ⟨⟨p, hp, hpw⟩, q, hq, hqw⟩ := judge_one.1 h
    rw [fit_add] at hp hq
    obtain ⟨hp1, hp2⟩ := List.mem_filter.1 hp
    obtain ⟨hq1, hq2⟩ := List.mem_filter.1 hq
    have hcf := conf_of hpw hqw hp2 hq2
    unfold setV at hs
    have : ((fitL b ls).any fun x => (fitL b ls).any fun y => conf b t x y) = true := List.any_eq_true.2 ⟨p, hp1, List.any_eq_true.2 ⟨q, hq1, hcf⟩⟩
    rw [this] at hs; cases hs
  unfold badR
  rw [decide_eq_true hop, decide_eq_false hj]; decide
/-- one that does not settle can leave one -/
theorem doubt_yes {b : Bx} {ls : List Rd} {t : Te} {u : Int} (hok : bxB b = true) (ht : teB b t = true) (hs : setV b (fitL b ls) t = false) : doubtV b ls (fitL b ls) t u = true := by
  unfold setV at hs
  have h1 : ((fitL b ls).any fun x => (fitL b ls).any fun y => conf b t x y) = true := by simpa using hs
  obtain ⟨x, hx, h2⟩ := List.any_eq_true.1 h1
  obtain ⟨y, hy, hc⟩ := List.any_eq_true.1 h2
  unfold conf at hc
  simp only [Bool.and_eq_true, Bool.not_eq_true'] at hc
  obtain ⟨⟨hxw, hyw⟩, hm⟩ := hc
  unfold meetsV at hm
  rw [decide_eq_true_eq] at hm
  have hlx := readV_le hok ht (allL_ok hok x (List.mem_filter.1 hx).1)
  have hly := readV_le hok ht (allL_ok hok y (List.mem_filter.1 hy).1)
  have key : ∀ g : Int, (readV b t x).lo ≤ g → g ≤ (readV b t x).hi → (readV b t y).lo ≤ g → g ≤ (readV b t y).hi → badR b (ls ++ [⟨t, g⟩]) = true := by
    intro g g1 g2 g3 g4
    have hj : judgeV (fitL b (ls ++ [⟨t, g⟩])) = 1 := by
      refine judge_one.2 ⟨⟨x, ?_, hxw⟩, y, ?_, hyw⟩
      · rw [fit_add]; exact List.mem_filter.2 ⟨hx, by unfold meetsV; exact decide_eq_true ⟨g1, g2⟩⟩
      · rw [fit_add]; exact List.mem_filter.2 ⟨hy, by unfold meetsV; exact decide_eq_true ⟨g3, g4⟩⟩
    unfold badR; rw [decide_eq_true hj, Bool.or_true]
  unfold doubtV
  rcases Int.le_total (readV b t x).lo (readV b t y).lo with h | h
  · exact List.any_eq_true.2 ⟨y, hy, List.any_eq_true.2 ⟨(readV b t y).lo, by simp [gotL], key _ (by omega) (by omega) (by omega) (by omega)⟩⟩
  · exact List.any_eq_true.2 ⟨x, hx, List.any_eq_true.2 ⟨(readV b t x).lo, by simp [gotL], key _ (by omega) (by omega) (by omega) (by omega)⟩⟩
/-- the best of the tests that settle -/
theorem best_minC (b : Bx) (ts : List Te) (ll : List (List Int)) : ∀ K, (chL b ts ll K).length = 0 ∧ (∀ j, j < K → setV b ll (ts.getD j te0) = false) ∨ ∃ k : Nat, k < K ∧ setV b ll (ts.getD k te0) = true ∧ bestC (chL b ts ll K) = ⟨k, (ts.getD k te0).cost⟩ ∧ (chL b ts ll K).length ≠ 0 ∧
    ∀ j, j < K → setV b ll (ts.getD j te0) = true → (ts.getD k te0).cost < (ts.getD j te0).cost ∨ (ts.getD k te0).cost = (ts.getD j te0).cost ∧ k ≤ j
  | 0 => .inl ⟨rfl, fun j h => absurd h (Nat.not_lt_zero j)⟩
  | K + 1 => by
    have ih := best_minC b ts ll K
    by_cases hg : setV b ll (ts.getD K te0) = true
    · right
      have h1 : chL b ts ll (K + 1) = chL b ts ll K ++ [⟨K, (ts.getD K te0).cost⟩] := by rw [chL_succ, if_pos hg]
      have hne : (chL b ts ll (K + 1)).length ≠ 0 := by rw [h1]; simp
      rcases ih with ⟨h0, hno⟩ | ⟨k, hk, hgk, hb, hl, hmin⟩
      · refine ⟨K, by omega, hg, by rw [h1, bestC_snoc, if_pos h0], hne, fun j hj hgj => ?_⟩
        rcases Nat.lt_succ_iff_lt_or_eq.1 hj with h2 | rfl
        · rw [hno j h2] at hgj; cases hgj
        · exact .inr ⟨rfl, Nat.le_refl _⟩
      · by_cases hc : (ts.getD K te0).cost < (ts.getD k te0).cost
        · refine ⟨K, by omega, hg, by rw [h1, bestC_snoc, if_neg hl, hb, if_pos hc], hne, fun j hj hgj => ?_⟩
          rcases Nat.lt_succ_iff_lt_or_eq.1 hj with h2 | rfl
          · have := hmin j h2 hgj; omega
          · exact .inr ⟨rfl, Nat.le_refl _⟩
        · refine ⟨k, by omega, hgk, by rw [h1, bestC_snoc, if_neg hl, hb, if_neg hc], hne, fun j hj hgj => ?_⟩
          rcases Nat.lt_succ_iff_lt_or_eq.1 hj with h2 | rfl
          · exact hmin j h2 hgj
          · omega
    · have h1 : chL b ts ll (K + 1) = chL b ts ll K := by rw [chL_succ, if_neg hg]
      rw [h1]
      have hg' : setV b ll (ts.getD K te0) = false := by simpa using hg
      rcases ih with ⟨h0, hno⟩ | ⟨k, hk, hgk, hb, hl, hmin⟩
      · refine .inl ⟨h0, fun j hj => ?_⟩
        rcases Nat.lt_succ_iff_lt_or_eq.1 hj with h2 | rfl
        · exact hno j h2
        · exact hg'
      · refine .inr ⟨k, by omega, hgk, hb, hl, fun j hj hgj => ?_⟩
        rcases Nat.lt_succ_iff_lt_or_eq.1 hj with h2 | rfl
        · exact hmin j h2 hgj
        · rw [hg'] at hgj; cases hgj
def jn (b : Bx) (ls : List Rd) : Int := if openE b ls [] = 0 then judgeV (fitL b ls) else 0
theorem judgeAns_jn (b : Bx) (ls : List Rd) : judgeAns b ls = .tuple #[.int .i64 (jn b ls), .int .i64 (openE b ls [])] := by
  unfold judgeAns jn
  by_cases h : openE b ls [] = 0
  · rw [if_pos h, if_pos h, h]
  · rw [if_neg h, if_neg h]
theorem badR_jn (b : Bx) (R : List Rd) : badR b R = (!decide (openE b R [] = 0) || decide (jn b R = 1)) := by
  unfold badR jn
  by_cases h : openE b R [] = 0
  · rw [if_pos h]
  · rw [decide_eq_false h]; rfl
/-- what Next returns -/
theorem next_cases (b : Bx) (ls : List Rd) (ts : List Te) (hn : ls.length ≤ 15) (ht : ts.length ≤ 4) {z1 z2 : Int} (h : nextR b ls ts = (z1, z2)) :
    (z2 = 1 ∧ z1 = 0) ∨ (chk b ls ts = 0 ∧ chk b ls [] = 0 ∧ ((z2 = 6 ∧ z1 = 0 ∧ (openE b ls [] ≠ 0 ∨ jn b ls ≠ 1)) ∨ (openE b ls [] = 0 ∧ jn b ls = 1 ∧ ((z2 = 4 ∧ z1 = 0 ∧ ∀ j, j < ts.length → setV b (fitL b ls) (ts.getD j te0) = false) ∨
      (z2 = 0 ∧ ∃ k : Nat, z1 = k ∧ k < ts.length ∧ setV b (fitL b ls) (ts.getD k te0) = true ∧ ∀ j, j < ts.length → setV b (fitL b ls) (ts.getD j te0) = true → (ts.getD k te0).cost < (ts.getD j te0).cost ∨ (ts.getD k te0).cost = (ts.getD j te0).cost ∧ k ≤ j))))) := by
  by_cases hc : chk b ls ts = 0
  · right
    have hc2 := chk_nil hc
    have hx : openE b ls ts = if (fitL b ls).length = 0 then 6 else 0 := by unfold openE; rw [if_neg (by simpa using hc)]
    have hy : openE b ls [] = if (fitL b ls).length = 0 then 6 else 0 := by unfold openE; rw [if_neg (by simpa using hc2)]
    refine ⟨hc, hc2, ?_⟩
    unfold nextR at h
    by_cases h0 : (fitL b ls).length = 0
    · rw [if_pos h0] at hx hy
      rw [if_pos (by rw [hx]; decide), hx] at h
      injection h with e1 e2
      exact .inl ⟨by omega, by omega, .inl (by rw [hy]; decide)⟩
    · rw [if_neg h0] at hx hy
      rw [if_neg (by simpa using hx)] at h
      have hj : jn b ls = judgeV (fitL b ls) := by unfold jn; rw [if_pos hy]
      by_cases h1 : judgeV (fitL b ls) = 1
      · rw [if_neg (by simpa using h1)] at h
        refine .inr ⟨hy, by omega, ?_⟩
        rcases best_minC b ts (fitL b ls) ts.length with ⟨h2, hno⟩ | ⟨k, hk, hg, hb, hl, hmin⟩
        · rw [if_pos h2] at h
          injection h with e1 e2
          exact .inl ⟨by omega, by omega, hno⟩
        · rw [if_neg hl, hb] at h
          injection h with e1 e2
          exact .inr ⟨by omega, k, e1.symm, hk, hg, hmin⟩
      · rw [if_pos h1] at h
        injection h with e1 e2
        exact .inl ⟨by omega, by omega, .inr (by omega)⟩
  · left
    have hx : openE b ls ts = chk b ls ts := by unfold openE; rw [if_pos hc]
    unfold nextR at h
    rw [if_pos (by rw [hx]; exact hc), hx] at h
    injection h with e1 e2
    refine ⟨?_, e1.symm⟩
    unfold chk at hc e2
    split at e2
    · exact e2.symm
    · rename_i hb
      rw [if_neg (by omega)] at e2 hc
      split at e2
      · exact e2.symm
      · rename_i h3; rw [if_neg (by omega), if_neg h3] at hc; exact absurd rfl hc
end Go.Proofs.Ytofjipmheckmjaa
