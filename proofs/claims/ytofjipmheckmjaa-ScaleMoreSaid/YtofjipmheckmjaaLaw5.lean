/- More readings, other orders, other boxes: plain. -/
import Derived.Test.YtofjipmheckmjaaLaw2
import Derived.Test.YtofjipmheckmjaaLaw4
namespace Go.Proofs.Ytofjipmheckmjaa
open Go Go.Eng Go.RowKit Go.Proofs
/-! ### one reading more -/
theorem more_chk {b : Bx} {ls : List Rd} {r : Rd} (h : chk b (ls ++ [r]) [] = 0) : chk b ls [] = 0 := by
  have hz := chk_zero h
  exact chk_ok hz.1 (by have := hz.2.1; simp at this; omega) fun q hq => hz.2.2.2.1 q (List.mem_append_left _ hq)
theorem more_sub {b : Bx} {ls : List Rd} {r : Rd} {x : List Int} (h : x ∈ fitL b (ls ++ [r])) : x ∈ fitL b ls := by
  rw [fit_add] at h; exact (List.mem_filter.1 h).1
theorem open_pos {b : Bx} {ls : List Rd} (h : openE b ls [] = 0) : ∃ x, x ∈ fitL b ls := by
  have := (openE_zero h).2
  exact List.exists_mem_of_length_pos this
theorem more_open {b : Bx} {ls : List Rd} {r : Rd} (h : openE b (ls ++ [r]) [] = 0) : openE b ls [] = 0 := by
  obtain ⟨x, hx⟩ := open_pos h
  exact open_ok (more_chk (openE_zero h).1) (more_sub hx)
theorem judge_sub {S L : List (List Int)} (hs : ∀ x, x ∈ S → x ∈ L) (hne : ∃ x, x ∈ S) (h : judgeV L ≠ 1) : judgeV S = judgeV L := by
  obtain ⟨x, hx⟩ := hne
  have hb := judge_bd L
  have hb2 := judge_bd S
  have h1 : judgeV S ≠ 1 := fun h1 => by
    obtain ⟨⟨p, hp, hpw⟩, q, hq, hqw⟩ := judge_one.1 h1
    exact h (judge_one.2 ⟨⟨p, hs p hp, hpw⟩, q, hs q hq, hqw⟩)
  rcases (show judgeV L = 0 ∨ judgeV L = 2 by omega) with h2 | h2
  · rcases (show judgeV S = 0 ∨ judgeV S = 2 by omega) with h3 | h3
    · omega
    · have e1 := judge_zero h2 (hs x hx); have e2 := judge_two h3 hx; rw [e1] at e2; cases e2
  · rcases (show judgeV S = 0 ∨ judgeV S = 2 by omega) with h3 | h3
    · have e1 := judge_two h2 (hs x hx); have e2 := judge_zero h3 hx; rw [e1] at e2; cases e2
    · omega
theorem more_judge {b : Bx} {ls : List Rd} {r : Rd} (h : openE b (ls ++ [r]) [] = 0) (h1 : jn b ls ≠ 1) : jn b (ls ++ [r]) = jn b ls := by
  have h0 := more_open h
  unfold jn at h1 ⊢
  rw [if_pos h0] at h1 ⊢
  rw [if_pos h]
  exact judge_sub (fun x hx => more_sub hx) (open_pos h) h1
theorem more_len {b : Bx} {ls : List Rd} {r : Rd} (h : openE b (ls ++ [r]) [] = 0) : (leftR b ls).length = (leftR b (ls ++ [r])).length := by
  unfold leftR
  rw [if_pos h, if_pos (more_open h), leftS_len, leftS_len]
theorem leftK_at (ll : List (List Int)) (k : Nat) : ∀ m, m ≤ ll.length → 0 < ll.length → (∃ x, x ∈ ll ∧ (leftK ll k m).lo = x.getD k 0) ∧ ∃ x, x ∈ ll ∧ (leftK ll k m).hi = x.getD k 0
  | 0, _, h0 => by
    have : ll.getD 0 [] ∈ ll := List.mem_of_getElem? (get_of_lt [] h0)
    exact ⟨⟨_, this, rfl⟩, _, this, rfl⟩
  | m + 1, hm, h0 => by
    obtain ⟨⟨x, hx, hx2⟩, y, hy, hy2⟩ := leftK_at ll k m (by omega) h0
    have hin : ll.getD m [] ∈ ll := List.mem_of_getElem? (get_of_lt [] (by omega))
    constructor
    · rcases Int.le_total (leftK ll k m).lo ((ll.getD m []).getD k 0) with h | h
      · exact ⟨x, hx, by show min _ _ = _; omega⟩
      · exact ⟨_, hin, by show min _ _ = _; omega⟩
    · rcases Int.le_total (leftK ll k m).hi ((ll.getD m []).getD k 0) with h | h
      · exact ⟨_, hin, by show max _ _ = _; omega⟩
      · exact ⟨y, hy, by show max _ _ = _; omega⟩
theorem leftR_lt {b : Bx} {ls : List Rd} {k : Nat} (hk : k < (leftR b ls).length) : openE b ls [] = 0 ∧ (leftR b ls).getD k sp0 = leftK (fitL b ls) k (fitL b ls).length := by
  unfold leftR at hk ⊢
  split at hk
  · rename_i h
    rw [leftS_len] at hk
    rw [if_pos h]
    exact ⟨h, getD_of (leftS_get _ _ hk)⟩
  · exact absurd hk (Nat.not_lt_zero k)
theorem more_left {b : Bx} {ls : List Rd} {r : Rd} {k : Nat} (hk : k < (leftR b (ls ++ [r])).length) : k < (leftR b ls).length ∧ ((leftR b ls).getD k sp0).lo ≤ ((leftR b (ls ++ [r])).getD k sp0).lo ∧ ((leftR b (ls ++ [r])).getD k sp0).hi ≤ ((leftR b ls).getD k sp0).hi := by
  obtain ⟨h2, e2⟩ := leftR_lt hk
  have hk1 : k < (leftR b ls).length := by rw [more_len h2]; exact hk
  obtain ⟨h1, e1⟩ := leftR_lt hk1
  obtain ⟨⟨x, hx, hxe⟩, y, hy, hye⟩ := leftK_at (fitL b (ls ++ [r])) k _ (Nat.le_refl _) (openE_zero h2).2
  have b1 := leftK_bd (more_sub hx) k
  have b2 := leftK_bd (more_sub hy) k
  rw [e1, e2]
  exact ⟨hk1, by omega, by omega⟩
/-! ### the same readings -/
def turnA (l : List Rd) (tz : Nat) (k : Nat) : List Rd := (List.range k).map fun i => l.getD ((i + tz) % l.length) rd0
def turnF (l : List Rd) (tz : Nat) : List Rd := turnA l tz l.length ++ l.take 1
theorem turnA_len (l : List Rd) (tz k : Nat) : (turnA l tz k).length = k := by simp [turnA]
theorem turnA_succ (l : List Rd) (tz k : Nat) : turnA l tz (k + 1) = turnA l tz k ++ [l.getD ((k + tz) % l.length) rd0] := by
  unfold turnA; rw [List.range_succ, List.map_append]; rfl
theorem mem_turnA {l : List Rd} {tz : Nat} {d : Rd} : d ∈ turnA l tz l.length ↔ d ∈ l := by
  unfold turnA
  constructor
  · intro h
    obtain ⟨i, hi, rfl⟩ := List.mem_map.1 h
    have hi := List.mem_range.1 hi
    exact List.mem_of_getElem? (get_of_lt rd0 (Nat.mod_lt _ (by omega)))
  · intro h
    obtain ⟨j, hj, rfl⟩ := List.getElem_of_mem h
    have hn : 0 < l.length := by omega
    have ht := Nat.mod_lt tz hn
    refine List.mem_map.2 ⟨(j + (l.length - tz % l.length)) % l.length, List.mem_range.2 (Nat.mod_lt _ hn), ?_⟩
    have e : ((j + (l.length - tz % l.length)) % l.length + tz) % l.length = j := by
      rw [Nat.mod_add_mod, ← Nat.add_mod_mod]
      rw [show j + (l.length - tz % l.length) + tz % l.length = j + l.length by omega, Nat.add_mod_right, Nat.mod_eq_of_lt hj]
    rw [e, List.getD_eq_getElem?_getD, List.getElem?_eq_getElem hj]; rfl
theorem mem_turnF {l : List Rd} {tz : Nat} {d : Rd} : d ∈ turnF l tz ↔ d ∈ l := by
  unfold turnF
  rw [List.mem_append]
  exact ⟨fun h => h.elim mem_turnA.1 List.mem_of_mem_take, fun h => .inl (mem_turnA.2 h)⟩
theorem turnF_len (l : List Rd) (tz : Nat) : (turnF l tz).length ≤ l.length + 1 := by
  unfold turnF; simp [turnA_len, List.length_take]; omega
theorem turnF_nil (l : List Rd) (tz : Nat) (h : l.length = 0) : turnA l tz l.length = turnF l tz := by
  unfold turnF; rw [List.eq_nil_of_length_eq_zero h]; rfl
theorem turnF_pos (l : List Rd) (tz : Nat) (h : 0 < l.length) : turnA l tz l.length ++ [l.getD 0 rd0] = turnF l tz := by
  unfold turnF
  congr 1
  cases l with
  | nil => simp at h
  | cons a l => rfl
theorem fit_same {b : Bx} {l l' : List Rd} (hm : ∀ r, r ∈ l ↔ r ∈ l') : fitL b l = fitL b l' := by
  unfold fitL
  congr 1
  funext x
  unfold fitV
  rw [Bool.eq_iff_iff, List.all_eq_true, List.all_eq_true]
  exact ⟨fun h r hr => h r ((hm r).2 hr), fun h r hr => h r ((hm r).1 hr)⟩
theorem chk_same {b : Bx} {l l' : List Rd} (hm : ∀ r, r ∈ l ↔ r ∈ l') (h1 : l.length ≤ 16) (h2 : l'.length ≤ 16) : chk b l [] = chk b l' [] := by
  have ha : (l.any fun r => !teB b r.test) = l'.any fun r => !teB b r.test := by
    rw [Bool.eq_iff_iff, List.any_eq_true, List.any_eq_true]
    exact ⟨fun ⟨r, hr, h⟩ => ⟨r, (hm r).1 hr, h⟩, fun ⟨r, hr, h⟩ => ⟨r, (hm r).2 hr, h⟩⟩
  unfold chk
  rw [ha]
  have e1 : (16 < (l.length : Int) ∨ 8 < ((([] : List Te).length : Nat) : Int)) ↔ False := by simp; omega
  have e2 : (16 < (l'.length : Int) ∨ 8 < ((([] : List Te).length : Nat) : Int)) ↔ False := by simp; omega
  simp only [e1, e2]
theorem open_same {b : Bx} {l l' : List Rd} (hm : ∀ r, r ∈ l ↔ r ∈ l') (h1 : l.length ≤ 16) (h2 : l'.length ≤ 16) : openE b l [] = openE b l' [] := by
  unfold openE; rw [chk_same hm h1 h2, fit_same hm]
theorem jn_same {b : Bx} {l l' : List Rd} (hm : ∀ r, r ∈ l ↔ r ∈ l') (h1 : l.length ≤ 16) (h2 : l'.length ≤ 16) : jn b l = jn b l' := by
  unfold jn; rw [open_same hm h1 h2, fit_same hm]
theorem left_same {b : Bx} {l l' : List Rd} (hm : ∀ r, r ∈ l ↔ r ∈ l') (h1 : l.length ≤ 16) (h2 : l'.length ≤ 16) : leftR b l = leftR b l' := by
  unfold leftR; rw [open_same hm h1 h2, fit_same hm]
/-! ### narrower spans, and a richer box -/
def thinK (k : Kd) (h : Int) : Kd := ⟨k.many, ⟨k.wt.lo, h⟩⟩
def thinB (b : Bx) (j : Nat) (h l : Int) : Bx := ⟨b.kinds.set j (thinK (b.kinds.getD j kd0) h), ⟨l, b.bag.hi⟩, b.lost, b.extra⟩
def richB (b : Bx) : Bx := ⟨b.kinds, b.bag, min 4 (b.lost + 1), min 3 (b.extra + 1)⟩
theorem thin_len (b : Bx) (j : Nat) (h l : Int) : (thinB b j h l).kinds.length = b.kinds.length := by simp [thinB]
theorem thin_get (b : Bx) {j : Nat} (h l : Int) (i : Nat) (hj : j < b.kinds.length) : (thinB b j h l).kinds.getD i kd0 = if i = j then thinK (b.kinds.getD j kd0) h else b.kinds.getD i kd0 := by
  unfold thinB
  dsimp only
  rw [List.getD_eq_getElem?_getD, List.getElem?_set]
  by_cases e : j = i
  · subst e; rw [if_pos rfl, if_pos hj, if_pos rfl]; rfl
  · rw [if_neg e, if_neg (fun h => e h.symm), List.getD_eq_getElem?_getD]
theorem thin_many (b : Bx) {j : Nat} (h l : Int) (i : Nat) (hj : j < b.kinds.length) : ((thinB b j h l).kinds.getD i kd0).many = (b.kinds.getD i kd0).many ∧ ((thinB b j h l).kinds.getD i kd0).wt.lo = (b.kinds.getD i kd0).wt.lo := by
  rw [thin_get b h l i hj]
  split
  · rename_i e; subst e; exact ⟨rfl, rfl⟩
  · exact ⟨rfl, rfl⟩
theorem thin_hi {b : Bx} {j : Nat} {h l : Int} (i : Nat) (hj : j < b.kinds.length) (hh : h ≤ (b.kinds.getD j kd0).wt.hi) : ((thinB b j h l).kinds.getD i kd0).wt.hi ≤ (b.kinds.getD i kd0).wt.hi := by
  rw [thin_get b h l i hj]
  split
  · rename_i e; subst e; exact hh
  · exact Int.le_refl _
theorem thin_ok {b : Bx} (hok : bxB b = true) {j : Nat} {h l : Int} (hj : j < b.kinds.length) (hh : (b.kinds.getD j kd0).wt.lo ≤ h ∧ h ≤ (b.kinds.getD j kd0).wt.hi) (hl : b.bag.lo ≤ l ∧ l ≤ b.bag.hi) : bxB (thinB b j h l) = true := by
  have hp := bxB_parts hok
  have hk := kd_bd hok hj
  unfold bxB
  rw [thin_len]
  simp only [Bool.and_eq_true, inB, spB, decide_eq_true_eq, List.all_eq_true]
  refine ⟨⟨⟨⟨by omega, hp.2.1⟩, hp.2.2.1⟩, show _ ≤ l ∧ l ≤ b.bag.hi ∧ b.bag.hi ≤ _ from by omega⟩, fun k hk2 => ?_⟩
  rcases List.mem_or_eq_of_mem_set hk2 with h1 | rfl
  · have := hp.2.2.2.2 k h1
    simp only [kdB, inB, spB, Bool.and_eq_true, decide_eq_true_eq]; exact this
  · unfold kdB inB spB thinK
    dsimp only
    rw [decide_eq_true (by omega), decide_eq_true (by omega)]; rfl
theorem thin_te (b : Bx) (j : Nat) (h l : Int) (t : Te) : teB (thinB b j h l) t = teB b t := by unfold teB; rw [thin_len]
theorem rich_te (b : Bx) (t : Te) : teB (richB b) t = teB b t := rfl
theorem rich_ok {b : Bx} (hok : bxB b = true) : bxB (richB b) = true := by
  have hp := bxB_parts hok
  have : b.kinds.all kdB = true := by unfold bxB at hok; simp only [Bool.and_eq_true] at hok; exact hok.2
  unfold bxB richB
  simp only [Bool.and_eq_true, inB, spB, decide_eq_true_eq]
  exact ⟨⟨⟨⟨by omega, by omega⟩, by omega⟩, by omega⟩, this⟩
theorem thin_can (b : Bx) {j : Nat} (h l : Int) (hj : j < b.kinds.length) (L : List Int) : canV (thinB b j h l) L = canV b L := by
  unfold canV
  rw [thin_len, show okC (thinB b j h l) L = okC b L from funext fun i => by unfold okC; rw [(thin_many b h l i hj).1]]
  rfl
theorem rich_can {b : Bx} {L : List Int} (hok : bxB b = true) (hc : canV b L = true) : canV (richB b) L = true := by
  have hp := bxB_parts hok
  unfold canV at hc ⊢
  simp only [Bool.and_eq_true, decide_eq_true_eq] at hc ⊢
  refine ⟨hc.1, ?_⟩
  show _ ≤ min 4 (b.lost + 1) ∧ _ ≤ min 3 (b.extra + 1)
  omega
theorem thin_read {b : Bx} {j : Nat} {h l : Int} (hj : j < b.kinds.length) (hh : h ≤ (b.kinds.getD j kd0).wt.hi) (hl : b.bag.lo ≤ l) (t : Te) {L : List Int} (hL : HasOk b L) : ∀ k, k ≤ L.length → (readK b t L k).lo ≤ (readK (thinB b j h l) t L k).lo ∧ (readK (thinB b j h l) t L k).hi ≤ (readK b t L k).hi
  | 0, _ => by
    unfold readK besV
    split
    · show _ ≤ t.err.lo + l ∧ t.err.hi + b.bag.hi ≤ _
      dsimp only; omega
    · omega
  | k + 1, hk => by
    have ih := thin_read hj hh hl t hL k (by omega)
    have hm := hL.bd k (by omega)
    have e1 := thin_many b h l k hj
    have e2 := thin_hi (l := l) k hj hh
    unfold readK plusV ofV
    rw [e1.1, e1.2]
    split
    · have := Int.mul_le_mul_of_nonneg_left e2 hm.1
      dsimp only; omega
    · split
      · dsimp only; omega
      · dsimp only; omega
theorem thin_pass {b : Bx} {j : Nat} {h l : Int} (hj : j < b.kinds.length) (hh : h ≤ (b.kinds.getD j kd0).wt.hi) (hl : b.bag.lo ≤ l) {t : Te} {L : List Int} (hL : HasOk b L) (hp : passV (thinB b j h l) t L = true) : passV b t L = true := by
  have := thin_read hj hh hl t hL L.length (Nat.le_refl _)
  unfold passV meetsV readV at hp ⊢
  rw [decide_eq_true_eq] at hp ⊢
  omega
theorem chk_te {b b' : Bx} {ts : List Te} (h : chk b [] ts = 0) (hok : bxB b' = true) (ht : ∀ t, teB b' t = teB b t) : chk b' [] ts = 0 := by
  obtain ⟨_, _, h3, _, h5⟩ := chk_zero h
  unfold chk
  rw [if_neg (by simp [hok]), if_neg (by simp; omega), if_neg]
  simp only [Bool.or_eq_true, List.any_eq_true, not_or, not_exists, not_and]
  exact ⟨fun t h => (by cases h), fun t hm => by rw [ht, h5 t hm]; decide⟩
theorem slip_two {b : Bx} {ts : List Te} (h : chk b [] ts = 0) : (slipR b ts).2 = if (slipP b ts).isNone = true then 4 else 0 := by
  unfold slipR
  rw [if_neg (by rw [h]; simp)]
  cases slipP b ts <;> rfl
theorem thin_slip {b : Bx} {ts : List Te} (hok : bxB b = true) {j : Nat} {h l : Int} (hj : j < b.kinds.length) (hh : (b.kinds.getD j kd0).wt.lo ≤ h ∧ h ≤ (b.kinds.getD j kd0).wt.hi) (hl : b.bag.lo ≤ l ∧ l ≤ b.bag.hi) (hs : (slipR b ts).2 = 4) : (slipR (thinB b j h l) ts).2 = 4 := by
  obtain ⟨hc, hn, _⟩ := slip_none hs
  have hok' := thin_ok hok hj hh hl
  rw [slip_two (chk_te hc hok' fun t => thin_te b j h l t), if_pos]
  rw [Option.isNone_iff_eq_none]
  unfold slipP
  rw [List.find?_eq_none]
  intro L hL hp
  obtain ⟨h1, h2⟩ := inc_can hok' hL
  rw [thin_can b h l hj] at h1
  have hin := inc_of hok h1 h2
  have hno := none_ok hn hin
  have hh2 := allL_ok hok L ((mem_allL hok L).2 h1)
  have : okAll b ts L = true := by
    unfold okAll at hp ⊢
    rw [List.all_eq_true] at hp ⊢
    exact fun t ht => thin_pass hj hh.2 hl.1 hh2 (hp t ht)
  rw [this] at hno; cases hno
theorem rich_read (b : Bx) (t : Te) (L : List Int) : ∀ k, readK (richB b) t L k = readK b t L k
  | 0 => rfl
  | k + 1 => by unfold readK; rw [rich_read b t L k]; rfl
theorem rich_slip {b : Bx} {ts : List Te} (hok : bxB b = true) (hs : (slipR b ts).2 = 0) : (slipR (richB b) ts).2 = 0 := by
  obtain ⟨hc, hn⟩ := slip_some hs
  have hok' := rich_ok hok
  rw [slip_two (chk_te hc hok' fun t => rich_te b t), if_neg]
  intro h
  rw [Option.isNone_iff_eq_none] at h
  obtain ⟨hin, hp⟩ := slip_in hn
  obtain ⟨h1, h2⟩ := inc_can hok hin
  have := none_ok h (inc_of hok' (rich_can hok h1) h2)
  have hp' : okAll (richB b) ts (slipR b ts).1 = true := by
    rw [← hp]
    unfold okAll passV readV
    congr 1
    funext t
    rw [rich_read]
  rw [hp'] at this; cases this
end Go.Proofs.Ytofjipmheckmjaa
