/- The walk of the reference's Next. -/
import Derived.Test.YtofjipmheckmjaaWalk15
namespace Go.Proofs.Ytofjipmheckmjaa
open Go Go.Eng Go.RowKit Go.Proofs
set_option maxRecDepth 100000
theorem bestK_add (l : List Ch) (x : Ch) : ∀ k, k < l.length → bestK (l ++ [x]) k = bestK l k
  | 0, h => by
    unfold bestK
    rw [List.getD_eq_getElem?_getD, List.getD_eq_getElem?_getD, List.getElem?_append_left h]
  | k + 1, h => by
    unfold bestK
    rw [bestK_add l x k (by omega)]
    rw [List.getD_eq_getElem?_getD, List.getD_eq_getElem?_getD, List.getElem?_append_left h]
theorem bestC_snoc (l : List Ch) (x : Ch) : bestC (l ++ [x]) = if l.length = 0 then x else if x.cost < (bestC l).cost then x else bestC l := by
  have hl : (l ++ [x]).length = l.length + 1 := by simp
  have hg : (l ++ [x]).getD l.length ch0 = x := by rw [List.getD_eq_getElem?_getD, List.getElem?_append_right (Nat.le_refl _)]; simp
  unfold bestC
  rw [hl, Nat.add_sub_cancel]
  split
  · rename_i h0
    rw [h0] at hg ⊢
    exact hg
  · rename_i h0
    obtain ⟨n, hn⟩ : ∃ n, l.length = n + 1 := ⟨l.length - 1, by omega⟩
    rw [hn] at hg ⊢
    rw [Nat.add_sub_cancel]
    show (if ((l ++ [x]).getD (n + 1) ch0).cost < (bestK (l ++ [x]) n).cost then (l ++ [x]).getD (n + 1) ch0 else bestK (l ++ [x]) n) = _
    rw [hg, bestK_add l x n (by omega)]
theorem chL_succ (b : Bx) (ts : List Te) (ll : List (List Int)) (k : Nat) : chL b ts ll (k + 1) = if setV b ll (ts.getD k te0) = true then chL b ts ll k ++ [⟨k, (ts.getD k te0).cost⟩] else chL b ts ll k := rfl
/-- the index of the best of the first tests, or none -/
def bI (b : Bx) (ts : List Te) (ll : List (List Int)) (k : Nat) : Int := if (chL b ts ll k).length = 0 then -1 else (bestC (chL b ts ll k)).at_
theorem bI_ok (b : Bx) (ts : List Te) (ll : List (List Int)) : ∀ k, (chL b ts ll k).length = 0 ∨ ∃ i : Nat, i < k ∧ bestC (chL b ts ll k) = ⟨i, (ts.getD i te0).cost⟩
  | 0 => .inl rfl
  | k + 1 => by
    have ih := bI_ok b ts ll k
    rw [chL_succ]
    by_cases hs : setV b ll (ts.getD k te0) = true
    · rw [if_pos hs]
      right
      rw [bestC_snoc]
      rcases ih with h | ⟨i, hi, h⟩
      · rw [if_pos h]; exact ⟨k, by omega, rfl⟩
      · split
        · exact ⟨k, by omega, rfl⟩
        · split
          · exact ⟨k, by omega, rfl⟩
          · exact ⟨i, by omega, h⟩
    · rw [if_neg hs]
      rcases ih with h | ⟨i, hi, h⟩
      · exact .inl h
      · exact .inr ⟨i, by omega, h⟩
theorem bI_lt (b : Bx) (ts : List Te) (ll : List (List Int)) (k : Nat) : bI b ts ll k < 0 ↔ (chL b ts ll k).length = 0 := by
  unfold bI
  rcases bI_ok b ts ll k with h | ⟨i, _, h⟩
  · simp [h]
  · by_cases h0 : (chL b ts ll k).length = 0
    · simp [h0]
    · rw [if_neg h0, h]; dsimp only; omega
theorem bI_skip {b : Bx} {ts : List Te} {ll : List (List Int)} {k : Nat} (hs : setV b ll (ts.getD k te0) = false) : bI b ts ll (k + 1) = bI b ts ll k := by
  have : chL b ts ll (k + 1) = chL b ts ll k := by
    rw [chL_succ, if_neg (by rw [hs]; decide)]
  unfold bI; rw [this]
theorem bI_add {b : Bx} {ts : List Te} {ll : List (List Int)} {k : Nat} (hs : setV b ll (ts.getD k te0) = true) : bI b ts ll (k + 1) = if bI b ts ll k < 0 then (k : Int) else if (ts.getD k te0).cost < (ts.getD (bI b ts ll k).toNat te0).cost then (k : Int) else bI b ts ll k := by
  have h1 : chL b ts ll (k + 1) = chL b ts ll k ++ [⟨k, (ts.getD k te0).cost⟩] := by
    rw [chL_succ, if_pos hs]
  have h2 : bI b ts ll (k + 1) = (bestC (chL b ts ll k ++ [⟨k, (ts.getD k te0).cost⟩])).at_ := by
    unfold bI; rw [h1, if_neg (by simp)]
  rw [h2, bestC_snoc]
  by_cases h0 : (chL b ts ll k).length = 0
  · rw [if_pos h0, if_pos ((bI_lt b ts ll k).2 h0)]
  · rw [if_neg h0, if_neg (fun h => h0 ((bI_lt b ts ll k).1 h))]
    rcases bI_ok b ts ll k with h | ⟨i, _, h⟩
    · exact absurd h h0
    · have h3 : bI b ts ll k = (i : Int) := by unfold bI; rw [if_neg h0, h]
      rw [h3, h, Int.toNat_natCast]
      dsimp only
      split <;> rfl
theorem nextR_bI (b : Bx) (ls : List Rd) (ts : List Te) (hE : openE b ls ts = 0) (hJ : judgeV (fitL b ls) = 1) : nextR b ls ts = if bI b ts (fitL b ls) ts.length < 0 then (0, 4) else (bI b ts (fitL b ls) ts.length, 0) := by
  unfold nextR
  rw [if_neg (by simpa using hE), if_neg (by simpa using hJ)]
  by_cases h0 : (chL b ts (fitL b ls) ts.length).length = 0
  · rw [if_pos h0, if_pos ((bI_lt b ts _ _).2 h0)]
  · rw [if_neg h0, if_neg (fun h => h0 ((bI_lt b ts _ _).1 h))]
    unfold bI; rw [if_neg h0]
theorem judge17x (w : World) (b : Bx) (a : Option Addr) (c : Nat) (hB : RowsA kdRow 3 0 w a b.kinds) (al : Option Addr) (cl : Nat) (ls : List Rd) (hl : RowsA rdRow 8 0 w al ls) {jv je : Int} (hj : judgeAns b ls = .tuple #[.int .i64 jv, .int .i64 je]) : Calls Try.prog 17 #[.agg (bxRow b a c).toArray, .slice al ls.length cl] w fun e w' => e = .returned (.tuple #[.int .i64 jv, .int .i64 je]) ∧ Below w.heap.size w w' := by
  rw [← hj]; exact judge17 w b a c hB al cl ls hl
theorem chk_nil {b : Bx} {ls : List Rd} {ts : List Te} (h : chk b ls ts = 0) : chk b ls [] = 0 := by
  obtain ⟨h1, h2, h3, h4, h5⟩ := chk_zero h
  unfold chk
  rw [if_neg (by simp [h1]), if_neg (by simp; omega), if_neg]
  simp only [Bool.or_eq_true, List.any_eq_true, not_or, not_exists, not_and]
  exact ⟨fun r hr => by rw [h4 r hr]; decide, fun t ht => by cases ht⟩

end Go.Proofs.Ytofjipmheckmjaa
