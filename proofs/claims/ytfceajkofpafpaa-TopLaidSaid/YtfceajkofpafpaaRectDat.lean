/- Plain data of rectangles of cells. No program in sight. -/
import Derived.Test.YtfceajkofpafpaaCutDat
namespace Go.Proofs.Ytfceajkofpafpaa
open Go Go.Eng
structure Rc where
  x0 : Int
  y0 : Int
  x1 : Int
  y1 : Int
def Rc.w (R : Rc) : Nat := (R.x1 - R.x0).toNat
def Rc.h (R : Rc) : Nat := (R.y1 - R.y0).toNat
def Rc.area (R : Rc) : Nat := R.w * R.h
/-- a rectangle within a picture, not empty -/
structure RcIn (c : Ct) (R : Rc) : Prop where
  x : 0 ≤ R.x0 ∧ R.x0 < R.x1 ∧ R.x1 ≤ c.wide
  y : 0 ≤ R.y0 ∧ R.y0 < R.y1 ∧ R.y1 ≤ c.high
def cellIJ (R : Rc) (i j : Nat) : Int × Int := (R.x0 + (i : Int), R.y0 + (j : Int))
def rowC (R : Rc) (j n : Nat) : List (Int × Int) := (List.range n).map fun i => cellIJ R i j
def cellsJ (R : Rc) (n : Nat) : List (Int × Int) := (List.range n).flatMap fun j => rowC R j R.w
def cellsR (R : Rc) : List (Int × Int) := cellsJ R R.h
theorem rowC_succ (R : Rc) (j n : Nat) : rowC R j (n + 1) = rowC R j n ++ [cellIJ R n j] := by unfold rowC; rw [List.range_succ, List.map_append]; rfl
theorem cellsJ_succ (R : Rc) (n : Nat) : cellsJ R (n + 1) = cellsJ R n ++ rowC R n R.w := by unfold cellsJ; rw [List.range_succ, List.flatMap_append]; simp
theorem mem_rowC {R : Rc} {j n : Nat} {q : Int × Int} : q ∈ rowC R j n ↔ ∃ i, i < n ∧ q = cellIJ R i j := by
  unfold rowC
  rw [List.mem_map]
  constructor
  · rintro ⟨i, h, rfl⟩; exact ⟨i, List.mem_range.1 h, rfl⟩
  · rintro ⟨i, h, rfl⟩; exact ⟨i, List.mem_range.2 h, rfl⟩
theorem mem_cellsJ {R : Rc} {n : Nat} {q : Int × Int} : q ∈ cellsJ R n ↔ ∃ i j, i < R.w ∧ j < n ∧ q = cellIJ R i j := by
  unfold cellsJ
  rw [List.mem_flatMap]
  constructor
  · rintro ⟨j, h, h2⟩
    obtain ⟨i, h3, h4⟩ := mem_rowC.1 h2
    exact ⟨i, j, h3, List.mem_range.1 h, h4⟩
  · rintro ⟨i, j, h, h2, h3⟩
    exact ⟨j, List.mem_range.2 h2, mem_rowC.2 ⟨i, h, h3⟩⟩
theorem mem_cellsR {R : Rc} {q : Int × Int} : q ∈ cellsR R ↔ (R.x0 ≤ q.1 ∧ q.1 < R.x1) ∧ (R.y0 ≤ q.2 ∧ q.2 < R.y1) := by
  unfold cellsR
  rw [mem_cellsJ]
  unfold Rc.w Rc.h cellIJ
  constructor
  · rintro ⟨i, j, h1, h2, rfl⟩; dsimp only; omega
  · rintro ⟨h1, h2⟩
    exact ⟨(q.1 - R.x0).toNat, (q.2 - R.y0).toNat, by omega, by omega, Prod.ext (by dsimp only; omega) (by dsimp only; omega)⟩
theorem cellIJ_new {R : Rc} {i j : Nat} : cellIJ R i j ∉ cellsJ R j ++ rowC R j i := fun h => by
  rcases List.mem_append.1 h with h | h
  · obtain ⟨i', j', _, h2, h3⟩ := mem_cellsJ.1 h
    have : R.y0 + (j : Int) = R.y0 + (j' : Int) := congrArg (·.2) h3
    omega
  · obtain ⟨i', h2, h3⟩ := mem_rowC.1 h
    have : R.x0 + (i : Int) = R.x0 + (i' : Int) := congrArg (·.1) h3
    omega
theorem cells_in {c : Ct} {R : Rc} (h : RcIn c R) {q : Int × Int} (hq : q ∈ cellsR R) : inC c q := by
  have := mem_cellsR.1 hq
  have := h.x
  have := h.y
  unfold inC
  omega
theorem cellIJ_in {c : Ct} {R : Rc} (h : RcIn c R) {i j : Nat} (hi : i < R.w) (hj : j < R.h) : inC c (cellIJ R i j) := cells_in h (mem_cellsJ.2 ⟨i, j, hi, hj, rfl⟩)
theorem cellsJ_len (R : Rc) (n : Nat) : (cellsJ R n).length = R.w * n := by
  induction n with
  | zero => rfl
  | succ n ih => rw [cellsJ_succ, List.length_append, ih]; simp [rowC, Nat.mul_succ]
theorem cellsR_len (R : Rc) : (cellsR R).length = R.area := cellsJ_len R R.h
/-- the pieces of some cells, each once -/
def pcL (c : Ct) (ds : List (Int × Int)) : List (Int × Int) := ds.map fun p => (atC c p, 1)
theorem pcL_snoc (c : Ct) (ds : List (Int × Int)) (p : Int × Int) : pcL c (ds ++ [p]) = pcL c ds ++ [(atC c p, 1)] := by unfold pcL; rw [List.map_append]; rfl
theorem pcL_no {c : Ct} (hD : Dist c) {ds : List (Int × Int)} (hi : ∀ q, q ∈ ds → inC c q) {p : Int × Int} (hp : inC c p) (hno : p ∉ ds) : mvGet (pcL c ds) (atC c p) = none := mvGet_no fun q hq e => by
  obtain ⟨d, hd, rfl⟩ := List.mem_map.1 hq
  exact hno (by rw [hD.inj p d hp (hi d hd) e.symm]; exact hd)
theorem pcL_nd {c : Ct} (hD : Dist c) : ∀ {ds : List (Int × Int)}, (∀ q, q ∈ ds → inC c q) → ds.Nodup → ((pcL c ds).map (·.1)).Nodup
  | [], _, _ => List.nodup_nil
  | p :: ds, hi, hn => by
    obtain ⟨h1, h2⟩ := List.nodup_cons.1 hn
    show (atC c p :: (pcL c ds).map (·.1)).Nodup
    refine List.nodup_cons.2 ⟨fun hm => ?_, pcL_nd hD (fun q hq => hi q (.tail _ hq)) h2⟩
    obtain ⟨q, hq, e⟩ := List.mem_map.1 hm
    obtain ⟨d, hd, rfl⟩ := List.mem_map.1 hq
    exact h1 (by rw [hD.inj p d (hi p (.head _)) (hi d (.tail _ hd)) e.symm]; exact hd)
def splA (R : Rc) (up : Bool) (at_ : Int) : Rc := if up = true then ⟨R.x0, R.y0, at_, R.y1⟩ else ⟨R.x0, R.y0, R.x1, at_⟩
def splB (R : Rc) (up : Bool) (at_ : Int) : Rc := if up = true then ⟨at_, R.y0, R.x1, R.y1⟩ else ⟨R.x0, at_, R.x1, R.y1⟩
theorem area_pos {c : Ct} {R : Rc} (h : RcIn c R) : 1 ≤ R.area := by
  have := h.x
  have := h.y
  exact Nat.mul_pos (show 0 < R.w by unfold Rc.w; omega) (show 0 < R.h by unfold Rc.h; omega)
/-- a rectangle cut behind its first row -/
theorem spl_row {c : Ct} {R : Rc} (h : RcIn c R) (h2 : R.y0 + 1 < R.y1) : RcIn c (splA R false (R.y0 + 1)) ∧ RcIn c (splB R false (R.y0 + 1)) ∧ (splA R false (R.y0 + 1)).area + (splB R false (R.y0 + 1)).area = R.area := by
  have hx := h.x
  have hy := h.y
  refine ⟨⟨hx, ⟨hy.1, by show R.y0 < R.y0 + 1; omega, by show R.y0 + 1 ≤ _; omega⟩⟩, ⟨hx, ⟨by show 0 ≤ R.y0 + 1; omega, h2, hy.2.2⟩⟩, ?_⟩
  show R.w * (R.y0 + 1 - R.y0).toNat + R.w * (R.y1 - (R.y0 + 1)).toNat = R.w * (R.y1 - R.y0).toNat
  rw [← Nat.mul_add]
  congr 1
  omega
theorem spl_col {c : Ct} {R : Rc} (h : RcIn c R) (h2 : R.x0 + 1 < R.x1) : RcIn c (splA R true (R.x0 + 1)) ∧ RcIn c (splB R true (R.x0 + 1)) ∧ (splA R true (R.x0 + 1)).area + (splB R true (R.x0 + 1)).area = R.area := by
  have hx := h.x
  have hy := h.y
  refine ⟨⟨⟨hx.1, by show R.x0 < R.x0 + 1; omega, by show R.x0 + 1 ≤ _; omega⟩, hy⟩, ⟨⟨by show 0 ≤ R.x0 + 1; omega, h2, hx.2.2⟩, hy⟩, ?_⟩
  show (R.x0 + 1 - R.x0).toNat * R.h + (R.x1 - (R.x0 + 1)).toNat * R.h = (R.x1 - R.x0).toNat * R.h
  rw [← Nat.add_mul]
  congr 1
  omega
theorem spl_apart {R : Rc} {up : Bool} {at_ : Int} {p : Int × Int} (h1 : p ∈ cellsR (splA R up at_)) : p ∉ cellsR (splB R up at_) := fun h2 => by
  have h3 := mem_cellsR.1 h1
  have h4 := mem_cellsR.1 h2
  cases up with
  | true =>
    have h5 : p.1 < at_ := h3.1.2
    have h6 : at_ ≤ p.1 := h4.1.1
    omega
  | false =>
    have h5 : p.2 < at_ := h3.2.2
    have h6 : at_ ≤ p.2 := h4.2.1
    omega
theorem area_one {c : Ct} {R : Rc} (h : RcIn c R) (h1 : ¬ R.y0 + 1 < R.y1) (h2 : ¬ R.x0 + 1 < R.x1) : R.area = 1 := by
  have hx := h.x
  have hy := h.y
  have a1 : R.w = 1 := by unfold Rc.w; omega
  have a2 : R.h = 1 := by unfold Rc.h; omega
  unfold Rc.area
  rw [a1, a2]
end Go.Proofs.Ytfceajkofpafpaa
