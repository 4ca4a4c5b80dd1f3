/- The calls again, with lengths as they stand. -/
import Derived.Test.YtjlbpmcacopbpaaLawZ
namespace Go.Proofs.Ytjlbpmcacopbpaa
open Go Go.Eng Go.RowKit Go.Proofs
set_option maxRecDepth 100000
theorem own_atR {α : Type} {row : α → List Value} {sz : Nat} (hr : ∀ x, (row x).length = sz) {w0 w : World} {rs : List Res} {a : Option Addr} {m c : Nat} {e : TypeId} {l : List α} (h : Hp w0 rs w) (hm : Res.own (.slice a m c) e sz m (l.flatMap row) ∈ rs) (hl : l.length = m) (h64 : m ≤ 9223372036854775807 := by omega) : RowsA row sz 0 w a l := by
  obtain ⟨a2, c2, he, _, hr⟩ := own_rowsA (row := row) hr (h.ok _ hm : w.ownsRow 0 e sz (.slice a m c) m (l.flatMap row)) hl h64
  injection he with h1 h2 h3
  subst h1; exact hr
theorem fringe14n {n : Nat} {l : List Sf} (hn : l.length = n) (w : World) (a : Option Addr) (c : Nat) (hl : RowsA sfRow 4 0 w a l) : Calls Try.prog 14 #[.slice a n c] w fun e w' => e = .returned (.tuple #[.agg (spRow (fringeV l).1).toArray, .agg (spRow (fringeV l).2.1).toArray, .int .i64 (fringeV l).2.2]) ∧ Below w.heap.size w w' := by
  subst hn; exact fringe14 w a c l hl
theorem best27n {n : Nat} {l : List Jb} (hn : l.length = n) (w : World) (a : Option Addr) (c : Nat) (hl : RowsA jbRow 5 0 w a l) : Calls Try.prog 27 #[.slice a n c] w fun e w' => ∃ z : Option Addr × Nat, e = .returned (.tuple #[.slice z.1 (bestR l).1.length z.2, .int .i64 (bestR l).2.1, .int .i64 (bestR l).2.2]) ∧ Below w.heap.size w w' ∧ RowsA iRow 1 w.heap.size w' z.1 (bestR l).1 := by
  subst hn; exact best27s w a c l hl
theorem run20m {n m : Nat} {l : List Jb} {o : List Int} (hn : l.length = n) (hm : o.length = m) (w : World) (a : Option Addr) (c : Nat) (hl : RowsA jbRow 5 0 w a l) (ao : Option Addr) (co : Nat) (ho : RowsA iRow 1 0 w ao o) (h1000 : o.length ≤ 1000) : Calls Try.prog 20 #[.slice a n c, .slice ao m co] w fun e w' => ∃ z : Option Addr × Nat, e = .returned (.tuple #[.slice z.1 (runR l o).1.length z.2, .int .i64 (runR l o).2]) ∧ Below w.heap.size w w' ∧ RowsA spRow 2 w.heap.size w' z.1 (runR l o).1 := by
  subst hn hm; exact run20s w a c l hl ao co o ho h1000
theorem late22m {n m : Nat} {l : List Jb} {o : List Int} (hn : l.length = n) (hm : o.length = m) (hc : chkV l o = 0) (w : World) (a : Option Addr) (c : Nat) (hl : RowsA jbRow 5 0 w a l) (ao : Option Addr) (co : Nat) (ho : RowsA iRow 1 0 w ao o) (h1000 : o.length ≤ 1000) : Calls Try.prog 22 #[.slice a n c, .slice ao m co] w fun e w' => e = .returned (.tuple #[.int .i64 ((lateN (sureF l o) n : Nat) : Int), .int .i64 ((lateN (canF l o) n : Nat) : Int), .int .i64 0]) ∧ Below w.heap.size w w' := by
  subst hn hm
  have h := late22 w a c l hl ao co o ho h1000
  rw [late_ok hc] at h; exact h
theorem run_no {l : List Jb} {o : List Int} (h : (runR l o).2 ≠ 0) : (runR l o).1 = [] := by
  rw [runR_snd] at h
  unfold runR; rw [if_pos h]
theorem run_yes {l : List Jb} {o : List Int} (h : (runR l o).2 = 0) : chkV l o = 0 := by rw [runR_snd] at h; exact h
theorem late_le {l : List Jb} (hj : jobsB l = true) (f : Nat → Bool) : lateN f l.length ≤ 128 := by
  have h7 := (jobsB_parts hj).1
  have h1 := lateN_lt f l.length
  have h2 : 2 ^ l.length ≤ 2 ^ 7 := Nat.pow_le_pow_right (by omega) h7
  omega
end Go.Proofs.Ytjlbpmcacopbpaa
