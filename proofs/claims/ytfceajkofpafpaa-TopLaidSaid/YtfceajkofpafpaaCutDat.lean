/- Plain data of cuts each piece of which is one cell. No program in sight. -/
import Derived.Test.YtfceajkofpafpaaHW7
namespace Go.Proofs.Ytfceajkofpafpaa
open Go Go.Eng
/-- a good cut whose pieces are cells -/
structure Dist (c : Ct) : Prop where
  ok : CutOk c (nP c)
  inj : ∀ p q, inC c p → inC c q → atC c p = atC c q → p = q
theorem atC_ne {c : Ct} (h : CtF c) {p : Int × Int} (hp : atC c p ≠ -1) : inC c p := (atC_in h).1 (by have := atC_bd h p; omega)
def cP (x y : Int) (i : Nat) : Int × Int := if i = 0 then (x - 1, y - 1) else if i = 1 then (x, y - 1) else if i = 2 then (x, y) else (x - 1, y)
theorem cor_ok {c : Ct} (hD : Dist c) {x y : Int} (hn : -1 ∉ [atC c (cP x y 0), atC c (cP x y 1), atC c (cP x y 2), atC c (cP x y 3)]) {i : Nat} (hi : i < 4) : atC c (cP x y i) ≠ -1 ∧ atC c (cP x y ((i + 1) % 4)) ≠ -1 ∧ atC c (cP x y ((i + 1) % 4)) ≠ atC c (cP x y i) := by
  simp only [List.mem_cons, List.not_mem_nil, or_false, not_or] at hn
  obtain ⟨h0, h1, h2, h3⟩ := hn
  have g : ∀ j, j < 4 → atC c (cP x y j) ≠ -1 := fun j hj => by
    rcases (by omega : j = 0 ∨ j = 1 ∨ j = 2 ∨ j = 3) with rfl | rfl | rfl | rfl
    · exact fun e => h0 e.symm
    · exact fun e => h1 e.symm
    · exact fun e => h2 e.symm
    · exact fun e => h3 e.symm
  have hm : (i + 1) % 4 < 4 := Nat.mod_lt _ (by decide)
  refine ⟨g i hi, g _ hm, fun e => ?_⟩
  have he := hD.inj _ _ (atC_ne hD.ok.ok (g _ hm)) (atC_ne hD.ok.ok (g i hi)) e
  rcases (by omega : i = 0 ∨ i = 1 ∨ i = 2 ∨ i = 3) with rfl | rfl | rfl | rfl
  · have : x = x - 1 := congrArg (·.1) he; omega
  · have : y = y - 1 := congrArg (·.2) he; omega
  · have : x - 1 = x := congrArg (·.1) he; omega
  · have : y - 1 = y := congrArg (·.2) he; omega
def valE (l : List ((Int × Int) × Int)) (i : Nat) : Int := if (l.getD i ((0, 0), 0)).1.1 ≠ -1 ∧ (l.getD i ((0, 0), 0)).1.1 < (l.getD i ((0, 0), 0)).1.2 then (l.getD i ((0, 0), 0)).2 else 0
/-- how long lines are, by the map of edges -/
def sumE (l : List ((Int × Int) × Int)) : Int := ((List.range l.length).map (valE l)).sum
theorem sum_perm {ss ts : List Nat} {f : Nat → Int} (h : ss.Perm ts) : (ss.map f).sum = (ts.map f).sum := by
  induction h with
  | nil => rfl
  | cons x _ ih => simp only [List.map_cons, List.sum_cons, ih]
  | swap x y l => simp only [List.map_cons, List.sum_cons]; omega
  | trans _ _ ih1 ih2 => exact ih1.trans ih2
theorem sum_seen {l : List ((Int × Int) × Int)} {ss : List Nat} (hn : ss.Nodup) (hl : ∀ i, i ∈ ss → i < l.length) (hall : ∀ i, i < l.length → i ∈ ss) : (ss.map (valE l)).sum = sumE l :=
  sum_perm ((List.perm_ext_iff_of_nodup hn List.nodup_range).2 fun i => ⟨fun h => List.mem_range.2 (hl i h), fun h => hall i (List.mem_range.1 h)⟩)
theorem sum_snoc {l : List ((Int × Int) × Int)} {ss : List Nat} {i : Nat} : ((ss ++ [i]).map (valE l)).sum = (ss.map (valE l)).sum + valE l i := by
  rw [List.map_append, List.sum_append]; simp
theorem em_val {f : Int → Int → Nat} {l : List ((Int × Int) × Int)} (h : Em f l) {x : Int × Int} {v : Int} (hm : (x, v) ∈ l) : v = (f x.1 x.2 : Nat) := by
  have := h.get x.1 x.2
  rw [show mvGet l (x.1, x.2) = some v from mvGet_of h.nd hm] at this
  exact this
theorem em_len {f : Int → Int → Nat} {l : List ((Int × Int) × Int)} (h : Em f l) : l.length ≤ 4004001 := by
  have := nodup_len (l := l.map (·.1)) (m := (List.range 2001).flatMap fun (i : Nat) => (List.range 2001).map fun (j : Nat) => ((i : Int) - 1000, (j : Int) - 1000)) h.nd (fun q hq => by
    obtain ⟨p, hp, rfl⟩ := List.mem_map.1 hq
    obtain ⟨⟨h1, h2⟩, ⟨h3, h4⟩⟩ := h.ok p hp
    refine List.mem_flatMap.2 ⟨(p.1.1 + 1000).toNat, List.mem_range.2 (by omega), List.mem_map.2 ⟨(p.1.2 + 1000).toNat, List.mem_range.2 (by omega), ?_⟩⟩
    refine Prod.ext ?_ ?_
    · show ((p.1.1 + 1000).toNat : Int) - 1000 = p.1.1; omega
    · show ((p.1.2 + 1000).toNat : Int) - 1000 = p.1.2; omega)
  rw [List.length_map] at this
  refine Nat.le_trans this ?_
  rw [List.length_flatMap]
  simp only [List.length_map]
  rw [List.map_const', List.sum_replicate_nat, List.length_range]
  decide
theorem edgeN_le {c : Ct} (h : CtF c) (a b : Int) : edgeN c a b ≤ 576 := by
  have h1 := eS_le c a b (List.range c.piece.length)
  have h2 := h.n0
  rw [List.length_range] at h1
  unfold edgeN
  omega
end Go.Proofs.Ytfceajkofpafpaa
