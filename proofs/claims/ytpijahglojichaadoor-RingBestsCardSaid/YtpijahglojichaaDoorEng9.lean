/- The engine, part 9: an own slice looked at as a block; what is appended comes from anywhere. -/
import Derived.Test.YtpijahglojichaaDoorEng8
namespace Go.Eng
open Go Go.RowKit
section
variable {X : Ctx} {Q : Post} {L : List (Nat × Value)} {rs : List Res} {ops : Array Oper} {rest : List Oper} {op : Op} {ty t t' e : TypeId} {v u : Value} {d n : Nat} {pos : String} {af : Array Edge} {x y : Operand} {d0 : TypeDesc} {k : IntKind}
theorem Hp.ownBlk {w0 w : World} {rest' : List Res} {sz : Nat} {xs : List Value} (h : Hp w0 rs w) (hr : Rem (.own v e sz n xs) rs rest') (hn : 0 < n) : ∃ g cap cur, v = .slice (some ⟨g, 0, none⟩) n cap ∧ n ≤ cap ∧ cap ≤ maxLen ∧ cur.size = cap * sz ∧ cur.toList.take (n * sz) = xs ∧ Hp w0 (.blk g (.cells cur e (0, 0)) :: rest') w := by
  have ho : w.ownsRow 0 e sz v n xs := h.ok _ hr.mem.1
  rcases ho.2 with ⟨_, h0⟩ | ⟨g, cap, cur, hv, _, hg, h1, h2, h3, h4⟩
  · omega
  · refine ⟨g, cap, cur, hv, h1, h2, h3, h4, h.swap hr (.blk g (.cells cur e (0, 0))) rfl rfl rfl (Nat.le_refl _) (fun _ _ _ => rfl) hg (fun k hk => .inl ?_)⟩
    cases hk; subst hv; rfl
theorem sq_own_blk {l : List Oper} {rest' : List Res} {sz : Nat} {xs : List Value} (hr : Rem (.own v e sz n xs) rs rest') (hn : 0 < n)
    (h : ∀ g cap cur, v = .slice (some ⟨g, 0, none⟩) n cap → n ≤ cap → cap ≤ maxLen → cur.size = cap * sz → cur.toList.take (n * sz) = xs → SQ X ops Q l L (.blk g (.cells cur e (0, 0)) :: rest')) : SQ X ops Q l L rs := fun a w ha hw => by
  obtain ⟨g, cap, cur, h1, h2, h3, h4, h5, h6⟩ := hw.ownBlk hr hn
  exact h g cap cur h1 h2 h3 h4 h5 a w ha h6
theorem sc_own_blk {c : Code} {rest' : List Res} {sz : Nat} {xs : List Value} (hr : Rem (.own v e sz n xs) rs rest') (hn : 0 < n)
    (h : ∀ g cap cur, v = .slice (some ⟨g, 0, none⟩) n cap → n ≤ cap → cap ≤ maxLen → cur.size = cap * sz → cur.toList.take (n * sz) = xs → SC X c Q L (.blk g (.cells cur e (0, 0)) :: rest')) : SC X c Q L rs := fun a w ha hw => by
  obtain ⟨g, cap, cur, h1, h2, h3, h4, h5, h6⟩ := hw.ownBlk hr hn
  exact h g cap cur h1 h2 h3 h4 h5 a w ha h6
theorem run_append_none {P : Program} {sz cp c2 : Nat} {base : Option Addr} (hu : P.underlying t = some (.slice e)) (hz : ∀ w, (Go.sizeOf e).run P w = .ok sz w) (hn : n ≤ cp) (w : World) : (Builtin.append_ #[t, t] ty #[.slice base n cp, .slice none 0 c2]).run P w = .ok (.slice base n cp) w := by
  cases base <;> simp [Builtin.append_, Sem.run_bind, run_underlying hu, hz, Builtin.lenOf, Builtin.firstCells, hn, storeCells]
/-- what is appended comes from anywhere, and may be nothing -/
theorem sq_append_rows {z : Value} {sz by' : Nat} {v : Value} {m mm c : Nat} {xs news : List Value} {ya : Option Addr} {rest' : List Res} (hu : X.P.underlying t = some (.slice e)) (he : EI X.P e z sz by') (hze : ∀ w, (Go.sizeOf e).run X.P w = .ok sz w) (hzs : z.cells.size = sz) (hsz : 0 < sz)
    (hx : ev L x = some v) (hr : Rem (.own v e sz m xs) rs rest') (hy : ev L y = some (.slice ya mm c)) (h0 : ya = none → mm = 0) (hl : news.length = mm * sz) (hnews : ∀ ad, ya = some ad → ∀ w, Hp X.w0 rs w → ∀ j u, news[j]? = some u → w.cell? (ad.add j) = some u) (h1 : ∀ u ∈ news, u.oneCell' = true)
    (hb : (m + mm) * (by' + 1) ≤ 140737488355328) (hd : Nat.ble (d + 1) X.N = true) (k : ∀ v', v'.oneCell' = true → SQ X ops Q rest ((d, v') :: L) (.own v' e sz (m + mm) (xs ++ news) :: rest')) :
    SQ X ops Q (⟨some d, .call { callee := .builtin .append, args := #[x, y], argTypes := #[t, t] }, ty, pos, af, none⟩ :: rest) L rs := by
  cases ya with
  | some ad => exact sq_append hu he hzs hsz hx hr hy hl (hnews ad rfl) h1 hb hd k
  | none =>
    have hmm := h0 rfl
    subst hmm
    have hnil : news = [] := List.eq_nil_of_length_eq_zero (by simpa using hl)
    subst hnil
    rw [Nat.add_zero] at k
    rw [List.append_nil] at k
    refine sq_run (P' := fun v' w' => v' = v ∧ v.oneCell' = true ∧ Hp X.w0 (.own v e sz m xs :: rest') w') (by simp) hd ?_ (fun v' w' ⟨h2, h3, h4⟩ => ⟨_, h4, by subst h2; exact k _ h3⟩)
    intro a w ha hw
    have hown : w.ownsRow 0 e sz v m xs := hw.ok _ hr.mem.1
    have hsw : Hp X.w0 (.own v e sz m xs :: rest') w := hw.swap hr _ rfl rfl rfl (Nat.le_refl _) (fun _ _ _ => rfl) hown (fun _ hk => .inl hk)
    rcases hown.2 with ⟨hv, hm0⟩ | ⟨g, cap, cur, hv, _, _, hmc, _⟩
    · subst hv; subst hm0
      have hrun := run_append_none (P := X.P) (ty := ty) (base := none) (n := 0) (cp := 0) (c2 := c) hu hze (Nat.le_refl _) w
      exact ⟨_, w, by simp [execOp, resolve, invoke, builtin, ha.eval hx, ha.eval hy, hrun], rfl, rfl, hsw⟩
    · subst hv
      have hrun := run_append_none (P := X.P) (ty := ty) (base := some ⟨g, 0, none⟩) (n := m) (cp := cap) (c2 := c) hu hze hmc w
      exact ⟨_, w, by simp [execOp, resolve, invoke, builtin, ha.eval hx, ha.eval hy, hrun], rfl, rfl, hsw⟩
end
/-! ### a guard whose source was skipped itself -/
theorem yielded_undef {X : Ctx} {L : List (Nat × Value)} {ops : Array Oper} {a : Act} (ha : St X.N X.D L a) {j t : Nat} (hj : (ops[j]?).bind (·.dst) = some t) (ht : lk L t = some undef) : yielded ops a.tmps j = none := by
  unfold yielded
  rw [hj]
  simp [ha.get t _ ht, undef]
section
variable {X : Ctx} {Q : Post} {L : List (Nat × Value)} {rs rq : List Res} {ops : Array Oper} {rest : List Oper} {op : Op} {ty : TypeId} {d : Nat} {pos : String} {af : Array Edge} {fuel : Nat} {listed : Array Bool}
theorem sq_gu {j t : Nat} {b : Bool} (hj : (ops[j]?).bind (·.dst) = some t) (ht : lk L t = some undef) (hd : Nat.ble (d + 1) X.N = true) (k : SQ X ops Q rest ((d, undef) :: L) rs) :
    SQ X ops Q (⟨some d, op, ty, pos, af, some (j, b)⟩ :: rest) L rs := by
  intro a w ha hw
  refine wpListIn_step fun K hK => ?_
  have : ¬ Region.wanted ⟨some d, op, ty, pos, af, some (j, b)⟩ (yielded ops a.tmps) = true := by simp [Region.wanted, yielded_undef ha hj ht]
  rw [if_neg this]
  exact ⟨fun _ _ => trivial, hK _ _ (k _ _ (ha.put (Nat.le_of_ble_eq_true hd) undef) hw)⟩
theorem qq_gu {j t : Nat} {b : Bool} (hj : (ops[j]?).bind (·.dst) = some t) (ht : lk L t = some undef) (hd : Nat.ble (d + 1) X.N = true) (k : QQ X ops Q rest ((d, undef) :: L) rs) :
    QQ X ops Q (⟨some d, op, ty, pos, af, some (j, b)⟩ :: rest) L rs := by
  intro a ha
  unfold wpQuiet
  rw [if_neg (by simp [Region.wanted, yielded_undef ha hj ht])]
  exact k _ (ha.put (Nat.le_of_ble_eq_true hd) undef)
theorem xj_gu (i : Nat) {j t : Nat} {b : Bool} (hi : ops[i]? = some ⟨some d, op, ty, pos, af, some (j, b)⟩) (hj : (ops[j]?).bind (·.dst) = some t) (ht : lk L t = some undef) (hok : okFirst ops listed i = true) (hq : Sel rq rs) (hd : Nat.ble (d + 1) X.N = true)
    (k : XJ X ops rq Q fuel (listed.setIfInBounds i true) ((d, undef) :: L) rs) : XJ X ops rq Q (fuel + 1) listed L rs := fun a w ha hw => by
  simp only [okFirst, Bool.and_eq_true] at hok
  exact wpX_first hi (noSD_sel hok.1.1.1) (noSD_def hok.1.1.1) fuel listed a w (Region.free_spec hi hok.1.2) (closedB_spec hok.2) (by simpa using hok.1.1.2) (.inr ⟨by simp [Region.wanted, yielded_undef ha hj ht], rfl⟩) (hw.sel hq) (k _ _ (ha.put (Nat.le_of_ble_eq_true hd) undef) hw)
end
/-- rows that lie in memory, cell after cell -/
theorem rows_cells {α : Type} {row : α → List Value} {sz : Nat} (hr : ∀ x, (row x).length = sz) (hsz : 0 < sz) {w : World} {ad : Addr} {l : List α} (h : ∀ i x, l[i]? = some x → CA 0 w (elt (some ad) i sz) (row x)) : ∀ j u, (l.flatMap row)[j]? = some u → w.cell? (ad.add j) = some u := fun j u hj => by
  have hjl : j < l.length * sz := by have := (List.getElem?_eq_some_iff.1 hj).1; rwa [flat_len hr] at this
  have hi : j / sz < l.length := Nat.div_lt_of_lt_mul (by rw [Nat.mul_comm]; exact hjl)
  have hm : j % sz < sz := Nat.mod_lt _ hsz
  have hx := List.getElem?_eq_getElem hi
  obtain ⟨v, hv⟩ : ∃ v, (row l[j / sz])[j % sz]? = some v := ⟨_, List.getElem?_eq_getElem (show j % sz < (row l[j / sz]).length by rw [hr]; exact hm)⟩
  have hf := flat_get hr l _ _ hx _ _ hv
  have e : j / sz * sz + j % sz = j := by rw [Nat.mul_comm]; exact Nat.div_add_mod j sz
  rw [e, hj] at hf
  have := (h _ _ hx).2 _ _ hv
  rw [← Option.some.inj hf] at this
  have e2 : (elt (some ad) (j / sz) sz).add (j % sz) = ad.add j := by
    unfold elt
    rw [Option.getD_some, Addr.add_add, e]
  rw [e2] at this; exact this
end Go.Eng
