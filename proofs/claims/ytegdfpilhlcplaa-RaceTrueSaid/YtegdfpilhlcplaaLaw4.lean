/- The specification's bounds: plain data, and that they are what the program finds. -/
import Derived.Test.YtegdfpilhlcplaaLaw3
namespace Go.Proofs.Ytegdfpilhlcplaa
open Go Go.Eng Go.RowKit
/-- a row of integers -/
def intC (n : Nat) (g : Nat → Int) : List Value := (List.range n).map fun i => .int .i64 (g i)
theorem intC_size (n : Nat) (g : Nat → Int) : (intC n g).toArray.size = n := by unfold intC; rw [List.size_toArray, List.length_map, List.length_range]
theorem intC_get {n : Nat} {g : Nat → Int} {k : Nat} (h : k < n) : (intC n g).toArray[0 + k * 1]? = some (.int .i64 (g k)) := by rw [Nat.zero_add, Nat.mul_one]; simp [intC, h]
theorem intC_set {n : Nat} {g g' : Nat → Int} {m : Nat} {v : Int} (hg : ∀ i, i < n → g' i = if i = m then v else g i) : (intC n g).toArray.setIfInBounds (0 + m * 1) (.int .i64 v) = (intC n g').toArray := by
  rw [Nat.zero_add, Nat.mul_one]
  apply Array.ext
  · simp [intC]
  · intro i h1 h2
    have hi : i < n := by simpa [intC] using h2
    simp only [intC, List.getElem_toArray, List.getElem_map, List.getElem_range]
    rw [hg i hi]
    by_cases e : m = i
    · subst e; simp
    · have : ¬ i = m := fun h => e h.symm
      simp [e, this]
theorem intC_congr {n : Nat} {g g' : Nat → Int} (h : ∀ i, i < n → g i = g' i) : intC n g = intC n g' := by
  unfold intC; exact List.map_congr_left fun i hi => by rw [h i (List.mem_range.1 hi)]
def updL (r : Rc) (team : Nat) (g : Nat → Int) (d : Wd) : Nat → Int := fun w => if d.team = (team : Int) ∧ w = wrk r team d.minute.toNat then max (g w) d.got.lo else g w
def updH (r : Rc) (team : Nat) (g : Nat → Int) (d : Wd) : Nat → Int := fun w => if d.team = (team : Int) ∧ w = wrk r team d.minute.toNat then min (g w) d.got.hi else g w
def lo1 (r : Rc) (team : Nat) (l : List Wd) : Nat → Int := l.foldl (updL r team) fun _ => 0
def hi0 (r : Rc) : Nat → Int := fun w => min r.p ((w : Int) * r.rate)
def hi1 (r : Rc) (team : Nat) (l : List Wd) : Nat → Int := l.foldl (updH r team) (hi0 r)
theorem lo1_take {r : Rc} {team : Nat} {l : List Wd} {k : Nat} {d : Wd} (h : l[k]? = some d) : lo1 r team (l.take (k + 1)) = updL r team (lo1 r team (l.take k)) d := by
  unfold lo1; rw [List.take_add_one, h, List.foldl_append]; rfl
theorem hi1_take {r : Rc} {team : Nat} {l : List Wd} {k : Nat} {d : Wd} (h : l[k]? = some d) : hi1 r team (l.take (k + 1)) = updH r team (hi1 r team (l.take k)) d := by
  unfold hi1; rw [List.take_add_one, h, List.foldl_append]; rfl
theorem updL_no {r : Rc} {team : Nat} {g : Nat → Int} {d : Wd} (h : ¬ d.team = (team : Int)) : updL r team g d = g := by funext w; simp [updL, h]
theorem updH_no {r : Rc} {team : Nat} {g : Nat → Int} {d : Wd} (h : ¬ d.team = (team : Int)) : updH r team g d = g := by funext w; simp [updH, h]
/-- forth, and back -/
def fw (op : Int → Int → Int) (g : Nat → Int) : Nat → Int
  | 0 => g 0
  | w + 1 => op (g (w + 1)) (fw op g w)
def bwj (op : Int → Int → Int) (g : Nat → Int) (L : Nat) : Nat → Int
  | 0 => g L
  | j + 1 => op (g (L - (j + 1))) (bwj op g L j)
def bw (op : Int → Int → Int) (g : Nat → Int) (L w : Nat) : Int := bwj op g L (L - w)
theorem bw_top (op : Int → Int → Int) (g : Nat → Int) (L : Nat) : bw op g L L = g L := by simp [bw, bwj]
theorem bw_step (op : Int → Int → Int) (g : Nat → Int) {L w : Nat} (h : w < L) : bw op g L w = op (g w) (bw op g L (w + 1)) := by
  unfold bw
  obtain ⟨j, hj⟩ : ∃ j, L - w = j + 1 := ⟨L - w - 1, by omega⟩
  have h2 : L - (w + 1) = j := by omega
  rw [hj, h2]
  show op (g (L - (j + 1))) _ = _
  rw [show L - (j + 1) = w by omega]
def fwdS (op : Int → Int → Int) (g : Nat → Int) (k w : Nat) : Int := if w < k then fw op g w else g w
/-- all above s are done -/
def bwdS (op : Int → Int → Int) (g : Nat → Int) (L : Nat) (s : Nat) (w : Nat) : Int := if s ≤ w then bw op g L w else g w
def lowF (r : Rc) (team : Nat) (l : List Wd) : Nat → Int := fw (fun a b => max a b) (lo1 r team l)
def highF (r : Rc) (team : Nat) (l : List Wd) : Nat → Int := fw (fun a b => min a (b + r.rate)) (hi1 r team l)
def lowB (r : Rc) (team : Nat) (l : List Wd) (w : Nat) : Int := bw (fun a b => max a (b - r.rate)) (lowF r team l) r.lim.toNat w
def highB (r : Rc) (team : Nat) (l : List Wd) (w : Nat) : Int := bw (fun a b => min a b) (highF r team l) r.lim.toNat w
def isB (r : Rc) (team : Nat) (l : List Wd) : Bool := (List.range (r.lim.toNat + 1)).all fun w => decide (lowB r team l w ≤ highB r team l w)
theorem foldU_bd {r : Rc} {P : Int → Prop} (u : (Nat → Int) → Wd → Nat → Int) (hu : ∀ g d, wdB r d = true → (∀ w, P (g w)) → ∀ w, P (u g d w)) : ∀ (l : List Wd) (g : Nat → Int), (∀ d, d ∈ l → wdB r d = true) → (∀ w, P (g w)) → ∀ w, P (l.foldl u g w)
  | [], _, _, h => h
  | d :: l, g, hl, h => foldU_bd u hu l (u g d) (fun e he => hl e (.tail _ he)) (hu g d (hl d (.head _)) h)
theorem lo1_bd {r : Rc} {team : Nat} {l : List Wd} (hok : rcB r = true) (hl : ∀ d, d ∈ l → wdB r d = true) (w : Nat) : 0 ≤ lo1 r team l w ∧ lo1 r team l w ≤ 10000 := by
  have hn := rcB_nums hok
  refine foldU_bd (P := fun x => 0 ≤ x ∧ x ≤ 10000) (updL r team) (fun g d hd hg w => ?_) l _ hl (fun _ => by omega) w
  have := wdB_parts hd
  have := hg w
  unfold updL; split <;> omega
theorem hi1_bd {r : Rc} {team : Nat} {l : List Wd} (hok : rcB r = true) (hl : ∀ d, d ∈ l → wdB r d = true) (w : Nat) : 0 ≤ hi1 r team l w ∧ hi1 r team l w ≤ r.p := by
  have hn := rcB_nums hok
  refine foldU_bd (P := fun x => 0 ≤ x ∧ x ≤ r.p) (updH r team) (fun g d hd hg w => ?_) l _ hl (fun w => ?_) w
  · have := wdB_parts hd
    have := hg w
    unfold updH; split <;> omega
  · have : 0 ≤ (w : Int) * r.rate := Int.mul_nonneg (by omega) (by omega)
    unfold hi0; omega
theorem fw_bd {op : Int → Int → Int} {g : Nat → Int} {A B : Int} (hg : ∀ w, A ≤ g w ∧ g w ≤ B) (hop : ∀ a b, A ≤ a ∧ a ≤ B → A ≤ b ∧ b ≤ B → A ≤ op a b ∧ op a b ≤ B) : ∀ w, A ≤ fw op g w ∧ fw op g w ≤ B
  | 0 => hg 0
  | w + 1 => hop _ _ (hg _) (fw_bd hg hop w)
theorem bwj_bd {op : Int → Int → Int} {g : Nat → Int} {L : Nat} {A B : Int} (hg : ∀ w, A ≤ g w ∧ g w ≤ B) (hop : ∀ a b, A ≤ a ∧ a ≤ B → A ≤ b ∧ b ≤ B → A ≤ op a b ∧ op a b ≤ B) : ∀ j, A ≤ bwj op g L j ∧ bwj op g L j ≤ B
  | 0 => hg L
  | j + 1 => hop _ _ (hg _) (bwj_bd hg hop j)
theorem lowF_bd {r : Rc} {team : Nat} {l : List Wd} (hok : rcB r = true) (hl : ∀ d, d ∈ l → wdB r d = true) (w : Nat) : 0 ≤ lowF r team l w ∧ lowF r team l w ≤ 10000 :=
  fw_bd (lo1_bd hok hl) (fun a b ha hb => by omega) w
theorem highF_bd {r : Rc} {team : Nat} {l : List Wd} (hok : rcB r = true) (hl : ∀ d, d ∈ l → wdB r d = true) (w : Nat) : 0 ≤ highF r team l w ∧ highF r team l w ≤ r.p :=
  fw_bd (hi1_bd hok hl) (fun a b ha hb => by have := rcB_nums hok; omega) w
theorem lowB_bd {r : Rc} {team : Nat} {l : List Wd} (hok : rcB r = true) (hl : ∀ d, d ∈ l → wdB r d = true) (w : Nat) : 0 ≤ lowB r team l w ∧ lowB r team l w ≤ 10000 :=
  bwj_bd (lowF_bd hok hl) (fun a b ha hb => by have := rcB_nums hok; omega) _
theorem highB_bd {r : Rc} {team : Nat} {l : List Wd} (hok : rcB r = true) (hl : ∀ d, d ∈ l → wdB r d = true) (w : Nat) : 0 ≤ highB r team l w ∧ highB r team l w ≤ r.p :=
  bwj_bd (highF_bd hok hl) (fun a b ha hb => by omega) _
end Go.Proofs.Ytegdfpilhlcplaa
