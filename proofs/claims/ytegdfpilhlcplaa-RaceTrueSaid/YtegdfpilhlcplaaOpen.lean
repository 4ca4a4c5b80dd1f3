/- The arguments of the laws, opened. -/
import Derived.Test.YtegdfpilhlcplaaWalk19
import Derived.Deep.Slices
import Derived.Lib.SmallJoins
namespace Go.Proofs.Ytegdfpilhlcplaa
open Go Go.Eng Go.RowKit Go.Proofs Go.ChangeShapes Go.WideShapes
set_option maxRecDepth 100000
theorem list_of {α : Type} {Q : Nat → α → Prop} : ∀ (n : Nat), (∀ i, i < n → ∃ x, Q i x) → ∃ l : List α, l.length = n ∧ ∀ i x, l[i]? = some x → Q i x
  | 0, _ => ⟨[], rfl, fun i x h => by simp at h⟩
  | n + 1, h => by
    obtain ⟨l, hl, hq⟩ := list_of n fun i hi => h i (by omega)
    obtain ⟨x, hx⟩ := h n (by omega)
    refine ⟨l ++ [x], by simp [hl], fun i y hy => ?_⟩
    rcases Nat.lt_or_ge i l.length with hi | hi
    · rw [List.getElem?_append_left hi] at hy; exact hq i y hy
    · have : i = n := by have := (List.getElem?_eq_some_iff.1 hy).1; simp at this; omega
      subst this
      rw [← hl] at hy; simp at hy; subst hy; exact hx
section
variable {H : Type} {enc : TypeId × Value → H} {w : World} {spare : Nat → Bool} {held : Bool}
theorem open_rows {α : Type} {row : α → List Value} {G : α → Prop} {t e sz fuel : Nat} {cs : List Value} {x : DataW H × List MemPlace} (ht : Try.prog.underlying t = some (.slice e)) (hce : Try.prog.cellsOf e = sz)
    (hel : ∀ n cs x, DataW.trod enc Try.prog w 0 spare held n e cs = some x → ∃ y : α, cs = row y ∧ G y) (h : DataW.trod enc Try.prog w 0 spare held fuel t cs = some x) :
    ∃ (a : Option Addr) (l : List α) (c : Nat), cs = [.slice a l.length c] ∧ l.length ≤ c ∧ l.length ≤ maxLen ∧ ∀ i y, l[i]? = some y → a.isSome = true ∧ CA 0 w (elt a i sz) (row y) ∧ G y := by
  rcases Deep.open_slice ht h with ⟨rfl, _⟩ | ⟨a, len, cap, m, n, D, Pl, rfl, hb, hl, hm, hmm, _, hx⟩
  · exact ⟨none, [], 0, rfl, Nat.le_refl _, Nat.zero_le _, fun i y hi => by simp at hi⟩
  · have hlm : len ≤ m := by rw [hmm]; split <;> omega
    obtain ⟨l, hll, hq⟩ := list_of (α := α) (Q := fun i y => CA 0 w (elt (some a) i sz) (row y) ∧ G y) len fun i hi => by
      obtain ⟨cs', h1, h2⟩ := hx i (by omega)
      obtain ⟨y, rfl, hg⟩ := hel _ _ _ h2
      obtain ⟨_, hlen, hc⟩ := World.cells?_some h1
      rw [hce] at hc
      refine ⟨y, ⟨Nat.zero_le _, fun j v hj => ?_⟩, hg⟩
      have hjs : j < sz := by have := (List.getElem?_eq_some_iff.1 hj).1; rw [hlen, hce] at this; exact this
      have := hc j hjs
      rw [hj] at this; exact this
    subst hll
    exact ⟨some a, l, cap, rfl, hl, by omega, fun i y hi => ⟨rfl, (hq i y hi).1, (hq i y hi).2⟩⟩
theorem in_of_wf {n : Int} (h : (Lit.int .i64 n).wf = true) : InI n := by
  unfold InI
  simp [Lit.wf, IntKind.min, IntKind.max, IntKind.bits, IntKind.signed] at h
  omega
theorem open_i {fuel : Nat} {cs : List Value} {x : DataW H × List MemPlace} (h : DataW.trod enc Try.prog w 0 spare held fuel 3 cs = some x) : ∃ n : Int, cs = [.int .i64 n] ∧ InI n := by
  obtain ⟨n, h1, _, h3⟩ := DataW.trod_int Try.underlying3 h
  exact ⟨n, h1, in_of_wf h3⟩
theorem c3 : Try.prog.cellsOf 3 = 1 := by kernel_rfl
theorem c32 : Try.prog.cellsOf 32 = 2 := by kernel_rfl
theorem c36 : Try.prog.cellsOf 36 = 1 := by kernel_rfl
theorem c66 : Try.prog.cellsOf 66 = 2 := by kernel_rfl
theorem c57 : Try.prog.cellsOf 57 = 4 := by kernel_rfl
theorem c22 : Try.prog.cellsOf 22 = 1 := by kernel_rfl
theorem c24 : Try.prog.cellsOf 24 = 4 := by kernel_rfl
theorem open_sp {fuel : Nat} {cs : List Value} {x : DataW H × List MemPlace} (h : DataW.trod enc Try.prog w 0 spare held fuel 32 cs = some x) : ∃ s : Sp, cs = spRow s ∧ True := by
  obtain ⟨y0, y1, n, _, hl, h0, h1⟩ := trod_struct2 Try.underlying32 h
  rw [c32] at hl
  match cs, hl with
  | [a, b], _ =>
    obtain ⟨z0, e0, _⟩ := open_i (by simpa [c3] using h0)
    obtain ⟨z1, e1, _⟩ := open_i (by simpa [c3] using h1)
    simp at e0 e1
    exact ⟨⟨z0, z1⟩, by rw [e0, e1]; rfl, trivial⟩
theorem open_sps {fuel : Nat} {cs : List Value} {x : DataW H × List MemPlace} (h : DataW.trod enc Try.prog w 0 spare held fuel 36 cs = some x) : ∃ a l c, cs = [.slice a (List.length l) c] ∧ SpsA 0 w a l := by
  obtain ⟨a, l, c, h1, _, h3, h4⟩ := open_rows (row := spRow) (G := fun _ => True) Try.underlying36 c32 (fun _ _ _ => open_sp) h
  exact ⟨a, l, c, h1, ⟨fun i s hi => ⟨(h4 i s hi).1, (h4 i s hi).2.1⟩, h3⟩⟩
def tmRow3 (p : Tm × Option Addr × Nat) : List Value := [.int .i64 p.1.pen, .slice p.2.1 p.1.brk.length p.2.2]
theorem open_tm {fuel : Nat} {cs : List Value} {x : DataW H × List MemPlace} (h : DataW.trod enc Try.prog w 0 spare held fuel 66 cs = some x) : ∃ p : Tm × Option Addr × Nat, cs = tmRow3 p ∧ SpsA 0 w p.2.1 p.1.brk := by
  obtain ⟨y0, y1, n, _, hl, h0, h1⟩ := trod_struct2 Try.underlying66 h
  rw [c66] at hl
  match cs, hl with
  | [a, b], _ =>
    obtain ⟨z0, e0, _⟩ := open_i (by simpa [c3] using h0)
    obtain ⟨a', l, c, e1, hS⟩ := open_sps (by simpa [c36] using h1)
    simp at e0 e1
    exact ⟨(⟨z0, l⟩, a', c), by rw [e0, e1]; rfl, hS⟩
theorem open_tms {fuel : Nat} {cs : List Value} {x : DataW H × List MemPlace} (h : DataW.trod enc Try.prog w 0 spare held fuel 22 cs = some x) : ∃ a ts c f cf, cs = [.slice a (List.length ts) c] ∧ TmsA 0 w a ts f cf := by
  obtain ⟨a, l, c, h1, _, h3, h4⟩ := open_rows (row := tmRow3) (G := fun p => SpsA 0 w p.2.1 p.1.brk) Try.underlying22 c66 (fun _ _ _ => open_tm) h
  refine ⟨a, l.map (·.1), c, fun i => (l.getD i (tm0, none, 0)).2.1, fun i => (l.getD i (tm0, none, 0)).2.2, by rw [h1, List.length_map], ⟨fun i t hi => ?_, fun i t hi => ?_, by rw [List.length_map]; exact h3⟩⟩
  · rw [List.getElem?_map] at hi
    obtain ⟨p, hp, rfl⟩ := Option.map_eq_some_iff.1 hi
    rw [getD_of hp]
    exact ⟨(h4 i p hp).1, (h4 i p hp).2.1⟩
  · rw [List.getElem?_map] at hi
    obtain ⟨p, hp, rfl⟩ := Option.map_eq_some_iff.1 hi
    rw [getD_of hp]
    exact (h4 i p hp).2.2
theorem open_wd {fuel : Nat} {cs : List Value} {x : DataW H × List MemPlace} (h : DataW.trod enc Try.prog w 0 spare held fuel 57 cs = some x) : ∃ d : Wd, cs = wdRow d ∧ True := by
  obtain ⟨y0, y1, y2, n, _, hl, h0, h1, h2⟩ := Deep.trod_struct3 Try.underlying57 h
  rw [c57] at hl
  match cs, hl with
  | [a, b, c, d], _ =>
    obtain ⟨z0, e0, _⟩ := open_i (by simpa [c3] using h0)
    obtain ⟨z1, e1, _⟩ := open_i (by simpa [c3] using h1)
    obtain ⟨s, e2, _⟩ := open_sp (by simpa [c32] using h2)
    simp [spRow] at e0 e1 e2
    exact ⟨⟨z0, z1, s⟩, by rw [e0, e1, e2.1, e2.2]; rfl, trivial⟩
theorem open_wds {fuel : Nat} {cs : List Value} {x : DataW H × List MemPlace} (h : DataW.trod enc Try.prog w 0 spare held fuel 25 cs = some x) : ∃ a ls c, cs = [.slice a (List.length ls) c] ∧ ls.length ≤ c ∧ WdsA 0 w a ls := by
  obtain ⟨a, l, c, h1, h2, h3, h4⟩ := open_rows (row := wdRow) (G := fun _ => True) Try.underlying25 c57 (fun _ _ _ => open_wd) h
  exact ⟨a, l, c, h1, h2, ⟨fun i s hi => ⟨(h4 i s hi).1, (h4 i s hi).2.1⟩, h3⟩⟩
theorem open_rc {fuel : Nat} {cs : List Value} {x : DataW H × List MemPlace} (h : DataW.trod enc Try.prog w 0 spare held fuel 24 cs = some x) : ∃ r a c f cf, cs = rcVal r a c ∧ TmsA 0 w a r.teams f cf ∧ InI r.p ∧ InI r.lim ∧ InI r.rate := by
  obtain ⟨y0, y1, y2, y3, n, _, hl, h0, h1, h2, h3⟩ := Go.Joins.trod_struct4 Try.underlying24 h
  rw [c24] at hl
  match cs, hl with
  | [a, b, c, d], _ =>
    obtain ⟨z0, e0, i0⟩ := open_i (by simpa [c3] using h0)
    obtain ⟨z1, e1, i1⟩ := open_i (by simpa [c3] using h1)
    obtain ⟨z2, e2, i2⟩ := open_i (by simpa [c3] using h2)
    obtain ⟨a', ts, c', f, cf, e3, hT⟩ := open_tms (by simpa [c22] using h3)
    simp at e0 e1 e2 e3
    exact ⟨⟨z0, z1, z2, ts⟩, a', c', f, cf, by rw [e0, e1, e2, e3]; rfl, hT, i0, i1, i2⟩
end
end Go.Proofs.Ytegdfpilhlcplaa
