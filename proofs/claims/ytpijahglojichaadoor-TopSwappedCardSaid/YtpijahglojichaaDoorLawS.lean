/- The best exchange of short rings, as it is looked for: plainly. -/
import Derived.Test.YtpijahglojichaaDoorLawC
namespace Go.Proofs.YtpijahglojichaaDoor
open Go.Eng
def keepT (n : Nat) : Td := ⟨rngI n, 0⟩
def lastN (r : List Nat) : Nat := r.getD (r.length - 1) 0
def nextN (r : List Nat) (i : Nat) : Nat := r.getD ((i + 1) % r.length) 0
def ringW (m : Mt) (r : List Nat) : Nat → Int
  | 0 => 0
  | i + 1 => ringW m r i + wv m (r.getD i 0) (nextN r i)
def ringG (r : List Nat) (gs : List Int) : Nat → List Int
  | 0 => gs
  | i + 1 => (ringG r gs i).set (r.getD i 0) ((nextN r i : Nat) : Int)
/-- an exchange, with a ring more -/
def ownT (m : Mt) (r : List Nat) (t : Td) : Td := ⟨ringG r t.gets r.length, t.worth + ringW m r r.length⟩
def headN (left : Nat) : Nat := (memL left).headD 0
def onStep (m : Mt) (long : Nat) (S : Nat → Td) (O : List Nat → Nat → Option Td → Option Td) (r : List Nat) (rest : Nat) (h : Option Td) : Option Td :=
  if r.length = long then (if 1 < r.length ∧ wantsB m (lastN r) (r.headD 0) = true then offer h (ownT m r (S rest)) else h)
  else (memL rest).foldl (fun h k => if wantsB m (lastN r) k = true then O (r ++ [k]) (dropN rest k) h else h) (if 1 < r.length ∧ wantsB m (lastN r) (r.headD 0) = true then offer h (ownT m r (S rest)) else h)
def shStep (m : Mt) (S : Nat → Td) (O : List Nat → Nat → Option Td → Option Td) (left : Nat) : Td :=
  if left = 0 then keepT m.length else (O [headN left] (dropN left (headN left)) (offer (some (keepT m.length)) (S (dropN left (headN left))))).getD td0
def shO (m : Mt) (long : Nat) : Nat → (Nat → Td) × (List Nat → Nat → Option Td → Option Td)
  | 0 => (fun _ => td0, fun _ _ h => h)
  | f + 1 => (shStep m (shO m long f).1 (shO m long f).2, onStep m long (shO m long f).1 (shO m long f).2)
def shT (m : Mt) (long left : Nat) : Td := (shO m long 16).1 left
def onT (m : Mt) (long : Nat) (r : List Nat) (rest : Nat) (h : Option Td) : Option Td := (shO m long 16).2 r rest h
def card (x : Nat) : Nat := (memL x).length
theorem card_drop : ∀ x, x < 128 → ∀ k, k < 7 → x.testBit k = true → dropN x k < 128 ∧ card (dropN x k) + 1 = card x ∧ dropN x k < x := by decide +kernel
theorem card_le : ∀ x, x < 128 → card x ≤ 7 ∧ (x ≠ 0 → headN x ∈ memL x) := by decide +kernel
theorem shO_same (m : Mt) (long : Nat) : ∀ f f', (∀ left, left < 128 → 2 * card left + 1 ≤ f → 2 * card left + 1 ≤ f' → (shO m long f).1 left = (shO m long f').1 left) ∧ (∀ r rest h, rest < 128 → 2 * card rest + 2 ≤ f → 2 * card rest + 2 ≤ f' → (shO m long f).2 r rest h = (shO m long f').2 r rest h)
  | 0, _ => ⟨fun _ _ h => absurd h (by omega), fun _ _ _ _ h => absurd h (by omega)⟩
  | f + 1, 0 => ⟨fun _ _ _ h => absurd h (by omega), fun _ _ _ _ _ h => absurd h (by omega)⟩
  | f + 1, f' + 1 => by
    obtain ⟨ih1, ih2⟩ := shO_same m long f f'
    refine ⟨fun left hl h1 h2 => ?_, fun r rest h hl h1 h2 => ?_⟩
    · show shStep m _ _ left = shStep m _ _ left
      unfold shStep
      by_cases h0 : left = 0
      · rw [if_pos h0, if_pos h0]
      · rw [if_neg h0, if_neg h0]
        have hh := (card_le left hl).2 h0
        have h7 := memL_seven left hl _ hh
        have hd := card_drop left hl _ h7.1 h7.2
        rw [ih1 _ hd.1 (by omega) (by omega), ih2 _ _ _ hd.1 (by omega) (by omega)]
    · show onStep m long _ _ r rest h = onStep m long _ _ r rest h
      unfold onStep
      rw [ih1 rest hl (by omega) (by omega)]
      by_cases hlong : r.length = long
      · rw [if_pos hlong, if_pos hlong]
      · rw [if_neg hlong, if_neg hlong]
        generalize (if 1 < r.length ∧ wantsB m (lastN r) (r.headD 0) = true then offer h (ownT m r ((shO m long f').1 rest)) else h) = h'
        have key : ∀ (l : List Nat) (h : Option Td), (∀ k, k ∈ l → k ∈ memL rest) → l.foldl (fun h k => if wantsB m (lastN r) k = true then (shO m long f).2 (r ++ [k]) (dropN rest k) h else h) h = l.foldl (fun h k => if wantsB m (lastN r) k = true then (shO m long f').2 (r ++ [k]) (dropN rest k) h else h) h := by
          intro l
          induction l with
          | nil => intro h _; rfl
          | cons k l ih =>
            intro h hk
            have h7 := memL_seven rest hl k (hk k (List.mem_cons_self ..))
            have hd := card_drop rest hl k h7.1 h7.2
            rw [List.foldl_cons, List.foldl_cons, ih2 _ _ _ hd.1 (by omega) (by omega)]
            exact ih _ fun j hj => hk j (List.mem_cons_of_mem _ hj)
        exact key _ _ fun k hk => hk
theorem shT_step (m : Mt) (long : Nat) {left : Nat} (hl : left < 128) : shT m long left = shStep m (shT m long) (onT m long) left := by
  have hc := (card_le left hl).1
  rw [show shT m long left = (shO m long 17).1 left from (shO_same m long 16 17).1 left hl (by omega) (by omega)]
  rfl
theorem onT_step (m : Mt) (long : Nat) (r : List Nat) {rest : Nat} (h : Option Td) (hl : rest < 128) : onT m long r rest h = onStep m long (shT m long) (onT m long) r rest h := by
  have hc := (card_le rest hl).1
  rw [show onT m long r rest h = (shO m long 17).2 r rest h from (shO_same m long 16 17).2 r rest h hl (by omega) (by omega)]
  rfl
/-! ### bounds -/
theorem ringG_len (r : List Nat) (gs : List Int) : ∀ i, (ringG r gs i).length = gs.length
  | 0 => rfl
  | i + 1 => by unfold ringG; rw [List.length_set, ringG_len r gs i]
theorem ringW_bd {m : Mt} (hm : MkF m) (r : List Nat) : ∀ i, 0 ≤ ringW m r i ∧ ringW m r i ≤ 1000 * (i : Int)
  | 0 => by unfold ringW; omega
  | i + 1 => by
    have := ringW_bd hm r i
    have := hm.bd (r.getD i 0) (nextN r i)
    unfold ringW; omega
/-- what is held is all right: so long, and worth no more than that -/
structure ShF (n : Nat) (B : Int) (t : Td) : Prop where
  len : t.gets.length = n
  lo : 0 ≤ t.worth
  hi : t.worth ≤ B
def ShO (n : Nat) (B : Int) (h : Option Td) : Prop := ∀ t, h = some t → ShF n B t
theorem ShF.up {n : Nat} {B B' : Int} {t : Td} (h : ShF n B t) (k : B ≤ B') : ShF n B' t := ⟨h.len, h.lo, Int.le_trans h.hi k⟩
theorem offer_F {n : Nat} {B : Int} {h : Option Td} {t : Td} (hh : ShO n B h) (ht : ShF n B t) : ShO n B (offer h t) := fun u hu => by
  rcases offer_cases h t with e | e
  · rw [e] at hu; cases hu; exact ht
  · rw [e] at hu; exact hh u hu
theorem offer_ne (h : Option Td) (t : Td) : ∃ u, offer h t = some u := by
  obtain ⟨r, hr, _⟩ := offer_geq h t; exact ⟨r, hr⟩
theorem own_F {m : Mt} (hm : MkF m) {r : List Nat} {t : Td} {B : Int} (ht : ShF m.length B t) (hr : r.length ≤ 8) : ShF m.length (B + 8000) (ownT m r t) := by
  have h1 := ringW_bd hm r r.length
  have h2 := ht.lo
  have h3 := ht.hi
  exact ⟨by show (ringG r t.gets r.length).length = _; rw [ringG_len]; exact ht.len, by show 0 ≤ t.worth + _; omega, by show t.worth + _ ≤ _; omega⟩
/-- the greatest worth that there can be, for so many persons -/
def topW (c : Nat) : Int := 8000 * (c : Int)
theorem sh_bd {m : Mt} (hm : MkF m) {long : Nat} : ∀ f, (∀ left, left < 128 → 2 * card left + 1 ≤ f → ShF m.length (topW (card left)) ((shO m long f).1 left)) ∧ (∀ r rest h (B : Int), rest < 128 → 2 * card rest + 2 ≤ f → r.length + card rest ≤ 8 → topW (card rest + 1) ≤ B → ShO m.length B h → ShO m.length B ((shO m long f).2 r rest h) ∧ (h ≠ none → (shO m long f).2 r rest h ≠ none))
  | 0 => ⟨fun _ _ h => absurd h (by omega), fun _ _ _ _ _ h => absurd h (by omega)⟩
  | f + 1 => by
    obtain ⟨ih1, ih2⟩ := sh_bd hm (long := long) f
    refine ⟨fun left hl h1 => ?_, fun r rest h B hl h1 h8 hB hh => ?_⟩
    · show ShF _ _ (shStep m _ _ left)
      unfold shStep
      have hk : ShF m.length (topW (card left)) (keepT m.length) := ⟨rngI_len _, Int.le_refl _, by unfold topW keepT; dsimp only; omega⟩
      by_cases h0 : left = 0
      · rw [if_pos h0]; exact hk
      · rw [if_neg h0]
        have hh := (card_le left hl).2 h0
        have h7 := memL_seven left hl _ hh
        have hd := card_drop left hl _ h7.1 h7.2
        have hc := (card_le left hl).1
        have e : card (dropN left (headN left)) + 1 = card left := hd.2.1
        have h2 := ih1 _ hd.1 (by omega)
        have h3 := offer_F (h := some (keepT m.length)) (fun t ht => by cases ht; exact hk) (h2.up (show topW _ ≤ topW (card left) by unfold topW; omega))
        obtain ⟨h4, h5⟩ := ih2 [headN left] (dropN left (headN left)) (offer (some (keepT m.length)) ((shO m long f).1 (dropN left (headN left)))) (topW (card left)) hd.1 (by omega) (by simp; omega) (by rw [e]; exact Int.le_refl _) h3
        obtain ⟨u, hu⟩ := offer_ne (some (keepT m.length)) ((shO m long f).1 (dropN left (headN left)))
        have h6 := h5 (by rw [hu]; exact fun h => by cases h)
        cases ho : (shO m long f).2 [headN left] (dropN left (headN left)) (offer (some (keepT m.length)) ((shO m long f).1 (dropN left (headN left)))) with
        | none => exact absurd ho h6
        | some t => exact h4 t ho
    · show ShO _ B (onStep m long _ _ r rest h) ∧ (h ≠ none → onStep m long _ _ r rest h ≠ none)
      unfold onStep
      have h2 := ih1 rest hl (by omega)
      have h3 := own_F hm h2 (show r.length ≤ 8 by omega)
      have h4 : ShO m.length B (if 1 < r.length ∧ wantsB m (lastN r) (r.headD 0) = true then offer h (ownT m r ((shO m long f).1 rest)) else h) := by
        split
        · exact offer_F hh (h3.up (by unfold topW at hB ⊢; omega))
        · exact hh
      have h5 : h ≠ none → (if 1 < r.length ∧ wantsB m (lastN r) (r.headD 0) = true then offer h (ownT m r ((shO m long f).1 rest)) else h) ≠ none := fun hn => by
        split
        · obtain ⟨u, hu⟩ := offer_ne h (ownT m r ((shO m long f).1 rest))
          rw [hu]; exact fun e => by cases e
        · exact hn
      revert h4 h5
      generalize (if 1 < r.length ∧ wantsB m (lastN r) (r.headD 0) = true then offer h (ownT m r ((shO m long f).1 rest)) else h) = h'
      intro h4 h5
      by_cases hlong : r.length = long
      · rw [if_pos hlong]; exact ⟨h4, h5⟩
      · rw [if_neg hlong]
        have key : ∀ (l : List Nat) (g : Option Td), (∀ k, k ∈ l → k ∈ memL rest) → ShO m.length B g → ShO m.length B (l.foldl (fun h k => if wantsB m (lastN r) k = true then (shO m long f).2 (r ++ [k]) (dropN rest k) h else h) g) ∧ (g ≠ none → l.foldl (fun h k => if wantsB m (lastN r) k = true then (shO m long f).2 (r ++ [k]) (dropN rest k) h else h) g ≠ none) := by
          intro l
          induction l with
          | nil => intro g _ hg; exact ⟨hg, id⟩
          | cons k l ih =>
            intro g hk hg
            have h7 := memL_seven rest hl k (hk k (List.mem_cons_self ..))
            have hd := card_drop rest hl k h7.1 h7.2
            rw [List.foldl_cons]
            have hstep : ShO m.length B (if wantsB m (lastN r) k = true then (shO m long f).2 (r ++ [k]) (dropN rest k) g else g) ∧ (g ≠ none → (if wantsB m (lastN r) k = true then (shO m long f).2 (r ++ [k]) (dropN rest k) g else g) ≠ none) := by
              split
              · exact ih2 (r ++ [k]) (dropN rest k) g B hd.1 (by omega) (by simp; omega) (by unfold topW at hB ⊢; omega) hg
              · exact ⟨hg, id⟩
            have := ih (if wantsB m (lastN r) k = true then (shO m long f).2 (r ++ [k]) (dropN rest k) g else g) (fun j hj => hk j (List.mem_cons_of_mem _ hj)) hstep.1
            exact ⟨this.1, fun hn => this.2 (hstep.2 hn)⟩
        have := key (memL rest) h' (fun k hk => hk) h4
        exact ⟨this.1, fun hn => this.2 (h5 hn)⟩
end Go.Proofs.YtpijahglojichaaDoor
