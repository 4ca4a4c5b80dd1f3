/- The engine, part 8: a block as an own slice; what is appended is nothing; rows of an own slice, to be read. -/
import Derived.Test.YtpijahglojichaaDoorEng7
namespace Go.Eng
open Go Go.RowKit
section
variable {X : Ctx} {Q : Post} {L : List (Nat × Value)} {rs : List Res} {ops : Array Oper} {rest : List Oper} {op : Op} {ty t t' e : TypeId} {v u : Value} {d n : Nat} {pos : String} {af : Array Edge} {x y : Operand} {d0 : TypeDesc} {k : IntKind}
theorem Hp.blkOwn {w0 w : World} {rest' : List Res} {b sz : Nat} {xs : List Value} (h : Hp w0 rs w) (hr : Rem (.blk b (.cells xs.toArray e (0, 0))) rs rest') (hl : xs.length = n * sz) (hn : n ≤ maxLen) : Hp w0 (.own (.slice (some ⟨b, 0, none⟩) n n) e sz n xs :: rest') w :=
  h.swap hr _ rfl rfl rfl (Nat.le_refl _) (fun _ _ _ => rfl) ⟨hl, .inr ⟨b, n, xs.toArray, rfl, Nat.zero_le _, h.ok _ hr.mem.1, Nat.le_refl _, hn, by simp [hl], by simp [← hl]⟩⟩ (fun k hk => .inl (by simp [Res.dom, Value.ownBlock] at hk ⊢; exact hk.symm))
theorem sq_blk_own {l : List Oper} {rest' : List Res} {b sz : Nat} {xs : List Value} (hr : Rem (.blk b (.cells xs.toArray e (0, 0))) rs rest') (hl : xs.length = n * sz) (hn : n ≤ maxLen) (h : SQ X ops Q l L (.own (.slice (some ⟨b, 0, none⟩) n n) e sz n xs :: rest')) : SQ X ops Q l L rs :=
  fun a w ha hw => h a w ha (hw.blkOwn hr hl hn)
theorem sc_blk_own {c : Code} {rest' : List Res} {b sz : Nat} {xs : List Value} (hr : Rem (.blk b (.cells xs.toArray e (0, 0))) rs rest') (hl : xs.length = n * sz) (hn : n ≤ maxLen) (h : SC X c Q L (.own (.slice (some ⟨b, 0, none⟩) n n) e sz n xs :: rest')) : SC X c Q L rs :=
  fun a w ha hw => h a w ha (hw.blkOwn hr hl hn)
theorem y_append_nil {sz cp c1 c2 : Nat} {ad : Addr} (hu : X.P.underlying t = some (.slice e)) (hz : ∀ w, (Go.sizeOf e).run X.P w = .ok sz w) (hx : ev L x = some (.slice (some ad) n cp)) (hy : ev L y = some (.slice none c1 c2)) (h1 : c1 = 0) (hn : n ≤ cp) :
    OpS X L rs (.call { callee := .builtin .append, args := #[x, y], argTypes := #[t, t] }) ty (.slice (some ad) n cp) := .val fun o ho _ a w ha _ => by
  subst h1
  simp [execOp, ho, resolve, invoke, builtin, Builtin.append_, ha.eval hx, ha.eval hy, Sem.run_bind, run_underlying hu, hz, Builtin.lenOf, Builtin.firstCells, hn, storeCells]
/-- a guard that holds -/
theorem sq_guard {j t : Nat} {b : Bool} {dst : Option Nat} (hj : (ops[j]?).bind (·.dst) = some t) (ht : lk L t = some (.bool b)) (h : SQ X ops Q (⟨dst, op, ty, pos, af, none⟩ :: rest) L rs) : SQ X ops Q (⟨dst, op, ty, pos, af, some (j, b)⟩ :: rest) L rs := by
  intro a w ha hw
  have h1 := h a w ha hw
  unfold wpListIn at h1 ⊢
  rw [if_pos (by rfl)] at h1
  rw [if_pos (by simp [Region.wanted, yielded_of ha hj ht])]
  exact h1
end
/-- rows, one after another -/
theorem flat_get {α : Type} {row : α → List Value} {sz : Nat} (hr : ∀ x, (row x).length = sz) : ∀ (l : List α) (i : Nat) (x : α), l[i]? = some x → ∀ j v, (row x)[j]? = some v → (l.flatMap row)[i * sz + j]? = some v
  | [], i, x, h => by simp at h
  | a :: l, i, x, h => by
    intro j v hj
    have hj2 : j < sz := by have := (List.getElem?_eq_some_iff.1 hj).1; rw [hr] at this; exact this
    rcases i with _ | i
    · simp at h; subst h
      rw [List.flatMap_cons, List.getElem?_append_left (by rw [hr]; omega)]; simpa using hj
    · simp at h
      rw [List.flatMap_cons, List.getElem?_append_right (by rw [hr, Nat.add_mul]; omega)]
      have : (i + 1) * sz + j - (row a).length = i * sz + j := by rw [hr, Nat.add_mul]; omega
      rw [this]; exact flat_get hr l i x h j v hj
theorem flat_len {α : Type} {row : α → List Value} {sz : Nat} (hr : ∀ x, (row x).length = sz) (l : List α) : (l.flatMap row).length = l.length * sz := by
  induction l with
  | nil => simp
  | cons a l ih => rw [List.flatMap_cons, List.length_append, ih, hr, List.length_cons, Nat.add_mul]; omega
theorem own_rows {α : Type} {row : α → List Value} {sz : Nat} (hr : ∀ x, (row x).length = sz) {w : World} {base : Nat} {v : Value} {l : List α} {e : TypeId} (h : w.ownsRow base e sz v l.length (l.flatMap row)) : ∃ a c, v = .slice a l.length c ∧ l.length ≤ c ∧ ∀ i x, l[i]? = some x → a.isSome = true ∧ CA base w (elt a i sz) (row x) := by
  rcases h.2 with ⟨hv, h0⟩ | ⟨g, cap, cur, hv, hb, hg, h3, h4, h5, h6⟩
  · have hl : l = [] := List.eq_nil_of_length_eq_zero h0
    subst hl
    exact ⟨none, 0, hv, Nat.le_refl _, fun i x hi => by simp at hi⟩
  · refine ⟨some ⟨g, 0, none⟩, cap, hv, h3, fun i x hi => ⟨rfl, ?_⟩⟩
    have e1 : elt (some ⟨g, 0, none⟩) i sz = (⟨g, i * sz, none⟩ : Addr) := by simp [elt, Addr.add_lit]
    rw [e1]
    refine ⟨hb, fun j v hj => ?_⟩
    have hc := World.ownsRow.cells (w := w) h (g := g) (by rw [hv]; rfl) (i * sz + j) v (flat_get hr l i x hi j v hj)
    rw [Addr.add_lit, Nat.zero_add] at hc
    rw [Addr.add_lit]; exact hc
end Go.Eng
