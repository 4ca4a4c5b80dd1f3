/- What is told of teams: plain data. -/
import Derived.Test.YtegdfpilhlcplaaLaw2
namespace Go.Proofs.Ytegdfpilhlcplaa
open Go Go.Eng Go.RowKit
def minB (mz : Int) : Bool := decide (0 ≤ mz ∧ mz ≤ 2000)
def tmzB (r : Rc) (tz mz : Int) : Bool := decide (0 ≤ tz ∧ tz ≤ (r.teams.length : Int) - 1) && minB mz
theorem tmzB_parts {r : Rc} {tz mz : Int} (h : tmzB r tz mz = true) : ∃ t m : Nat, tz = t ∧ mz = m ∧ t < r.teams.length ∧ m ≤ 2000 := by
  simp only [tmzB, minB, Bool.and_eq_true, decide_eq_true_eq] at h
  obtain ⟨t, ht⟩ := Int.eq_ofNat_of_zero_le h.1.1
  obtain ⟨m, hm⟩ := Int.eq_ofNat_of_zero_le h.2.1
  exact ⟨t, m, ht, hm, by omega, by omega⟩
def ptsLo (r : Rc) (team : Nat) (ws : List (Int × Sp)) (mm : Nat) : Int := ptsC (fun m => lowC ws r.rate m) r.p (penOf r team) mm
def ptsHi (r : Rc) (team : Nat) (ws : List (Int × Sp)) (mm : Nat) : Int := ptsC (fun m => highC r.p ws r.rate m) r.p (penOf r team) mm
/-- the count, and the points, after some minutes of work -/
def cntP (r : Rc) (ls : List Wd) (t m : Nat) : Sp := ⟨lowC (allW r t ls) r.rate m, highC r.p (allW r t ls) r.rate m⟩
def ptsP (r : Rc) (ls : List Wd) (t m : Nat) : Sp := ⟨ptsLo r t (allW r t ls) m, ptsHi r t (allW r t ls) m⟩
def spanAns (E : Int) (x : Sp) : Value := if E = 0 then .tuple #[.agg (spRow x).toArray, .int .i64 0] else .tuple #[.agg (spRow ⟨0, 0⟩).toArray, .int .i64 E]
def findE (r : Rc) (ls : List Wd) (tz mz : Int) : Int := openE r ls (tmzB r tz mz)
def countAns (r : Rc) (ls : List Wd) (tz mz : Int) : Value := spanAns (findE r ls tz mz) (cntP r ls tz.toNat (wrk r tz.toNat mz.toNat))
def pointsAns (r : Rc) (ls : List Wd) (tz mz : Int) : Value := spanAns (findE r ls tz mz) (ptsP r ls tz.toNat (wrk r tz.toNat mz.toNat))
/-- ranks -/
def rkA (sc : List Sp) (i k : Nat) : Int := 1 + ((List.range k).countP fun j => decide (j ≠ i ∧ (sc.getD j sp0).lo > (sc.getD i sp0).hi) : Nat)
def rkB (sc : List Sp) (i k : Nat) : Int := 1 + ((List.range k).countP fun j => decide (j ≠ i ∧ (sc.getD j sp0).hi > (sc.getD i sp0).lo) : Nat)
theorem rkA_succ (sc : List Sp) (i k : Nat) : rkA sc i (k + 1) = rkA sc i k + if k ≠ i ∧ (sc.getD k sp0).lo > (sc.getD i sp0).hi then 1 else 0 := by
  unfold rkA; rw [List.range_succ, List.countP_append]
  by_cases h : k ≠ i ∧ (sc.getD k sp0).lo > (sc.getD i sp0).hi
  · rw [if_pos h, List.countP_singleton, decide_eq_true h]; simp; omega
  · rw [if_neg h, List.countP_singleton, decide_eq_false h]; simp
theorem rkB_succ (sc : List Sp) (i k : Nat) : rkB sc i (k + 1) = rkB sc i k + if k ≠ i ∧ (sc.getD k sp0).hi > (sc.getD i sp0).lo then 1 else 0 := by
  unfold rkB; rw [List.range_succ, List.countP_append]
  by_cases h : k ≠ i ∧ (sc.getD k sp0).hi > (sc.getD i sp0).lo
  · rw [if_pos h, List.countP_singleton, decide_eq_true h]; simp; omega
  · rw [if_neg h, List.countP_singleton, decide_eq_false h]; simp
theorem rkA_bd (sc : List Sp) (i k : Nat) : 1 ≤ rkA sc i k ∧ rkA sc i k ≤ 1 + k := by
  unfold rkA
  have := List.countP_le_length (p := fun j => decide (j ≠ i ∧ (sc.getD j sp0).lo > (sc.getD i sp0).hi)) (l := List.range k)
  rw [List.length_range] at this; omega
theorem rkB_bd (sc : List Sp) (i k : Nat) : 1 ≤ rkB sc i k ∧ rkB sc i k ≤ 1 + k := by
  unfold rkB
  have := List.countP_le_length (p := fun j => decide (j ≠ i ∧ (sc.getD j sp0).hi > (sc.getD i sp0).lo)) (l := List.range k)
  rw [List.length_range] at this; omega
def rkS (sc : List Sp) (i : Nat) : Sp := ⟨rkA sc i sc.length, rkB sc i sc.length⟩
def rankL (sc : List Sp) : List Sp := (List.range sc.length).map (rkS sc)
def flatS (l : List Sp) : List Value := l.flatMap spRow
theorem flatS_len (l : List Sp) : (flatS l).length = l.length * 2 := by
  unfold flatS
  induction l with
  | nil => rfl
  | cons a l ih => rw [List.flatMap_cons, List.length_append, ih]; simp [spRow]; omega
theorem flatS_snoc (l : List Sp) (x : Sp) : flatS (l ++ [x]) = flatS l ++ spRow x := by simp [flatS]
theorem flatS_get (l : List Sp) : ∀ (i : Nat) (x : Sp), l[i]? = some x → ∀ j v, (spRow x)[j]? = some v → (flatS l)[i * 2 + j]? = some v := by
  induction l with
  | nil => intro i x h; simp at h
  | cons a l ih =>
    intro i x h j v hj
    have hj2 : j < 2 := by have := (List.getElem?_eq_some_iff.1 hj).1; simpa [spRow] using this
    rcases i with _ | i
    · simp at h; subst h
      unfold flatS; rw [List.flatMap_cons, List.getElem?_append_left (by simp [spRow]; omega)]; simpa using hj
    · simp at h
      unfold flatS; rw [List.flatMap_cons, List.getElem?_append_right (by simp [spRow]; omega)]
      have : (i + 1) * 2 + j - (spRow a).length = i * 2 + j := by simp [spRow]; omega
      rw [this]; exact ih i x h j v hj
/-- an own slice of spans, to be read -/
theorem own_sps {w : World} {base : Nat} {v : Value} {l : List Sp} {e : TypeId} (h : w.ownsRow base e 2 v l.length (flatS l)) (hn : l.length ≤ 9223372036854775807) : ∃ a c, v = .slice a l.length c ∧ SpsA base w a l := by
  rcases h.2 with ⟨hv, h0⟩ | ⟨g, cap, cur, hv, hb, hg, h3, h4, h5, h6⟩
  · have hl : l = [] := List.eq_nil_of_length_eq_zero h0
    subst hl
    exact ⟨none, 0, hv, ⟨fun i x hi => by simp at hi, hn⟩⟩
  · refine ⟨some ⟨g, 0, none⟩, cap, hv, ⟨fun i x hi => ⟨rfl, ?_⟩, hn⟩⟩
    have e1 : elt (some ⟨g, 0, none⟩) i 2 = (⟨g, i * 2, none⟩ : Addr) := by simp [elt, Addr.add_lit]
    rw [e1]
    refine ⟨hb, fun j v hj => ?_⟩
    have hc := World.ownsRow.cells (w := w) h (g := g) (by rw [hv]; rfl) (i * 2 + j) v (flatS_get l i x hi j v hj)
    rw [Addr.add_lit, Nat.zero_add] at hc
    rw [Addr.add_lit]; exact hc
theorem heap_reg {w0 w : World} {rs : List Res} {lo : Nat} {wr : World} {b : Nat} {o : Obj} (hw : Hp w0 rs w) (hm : Res.reg lo wr ∈ rs) (hlo : lo ≤ b) (h : wr.heap[b]? = some o) : w.heap[b]? = some o :=
  ((hw.ok _ hm).2 b hlo (Array.getElem?_eq_some_iff.1 h).1).trans h
end Go.Proofs.Ytegdfpilhlcplaa
