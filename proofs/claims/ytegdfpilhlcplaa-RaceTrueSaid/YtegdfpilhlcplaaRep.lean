/- How races lie in memory. -/
import Derived.Test.YtegdfpilhlcplaaEng6
import Derived.Test.YtegdfpilhlcplaaDat
namespace Go.Proofs.Ytegdfpilhlcplaa
open Go Go.Eng Go.RowKit
def spRow (s : Sp) : List Value := [.int .i64 s.lo, .int .i64 s.hi]
def wdRow (d : Wd) : List Value := [.int .i64 d.team, .int .i64 d.minute, .int .i64 d.got.lo, .int .i64 d.got.hi]
def InI (z : Int) : Prop := -9223372036854775808 ≤ z ∧ z ≤ 9223372036854775807
structure SpsA (lo : Nat) (wr : World) (a : Option Addr) (l : List Sp) : Prop where
  el : ∀ i s, l[i]? = some s → a.isSome = true ∧ CA lo wr (elt a i 2) (spRow s)
  len : l.length ≤ 9223372036854775807
structure WdsA (lo : Nat) (wr : World) (a : Option Addr) (l : List Wd) : Prop where
  el : ∀ i d, l[i]? = some d → a.isSome = true ∧ CA lo wr (elt a i 4) (wdRow d)
  len : l.length ≤ 9223372036854775807
structure TmsA (lo : Nat) (wr : World) (a : Option Addr) (ts : List Tm) (f : Nat → Option Addr) (c : Nat → Nat) : Prop where
  el : ∀ i t, ts[i]? = some t → a.isSome = true ∧ CA lo wr (elt a i 2) [.int .i64 t.pen, .slice (f i) t.brk.length (c i)]
  br : ∀ i t, ts[i]? = some t → SpsA lo wr (f i) t.brk
  len : ts.length ≤ 9223372036854775807
/-- a race, as a value -/
def rcVal (r : Rc) (a : Option Addr) (c : Nat) : List Value := [.int .i64 r.p, .int .i64 r.lim, .int .i64 r.rate, .slice a r.teams.length c]
structure RcA (lo : Nat) (wr : World) (v : Value) (r : Rc) : Prop where
  ex : ∃ a c f cf, v = .agg (rcVal r a c).toArray ∧ TmsA lo wr a r.teams f cf
  i1 : InI r.p
  i2 : InI r.lim
  i3 : InI r.rate
theorem CA.at {w0 rs w lo wr p vs} (h : CA lo wr p vs) (hw : Hp w0 rs w) (hm : Res.reg lo wr ∈ rs) : CA 0 w p vs :=
  ⟨Nat.zero_le _, fun j v hj => cell_reg hw hm (by rw [Addr.add_block]; exact h.1) (h.2 j v hj)⟩
theorem SpsA.at {w0 rs w lo wr a l} (h : SpsA lo wr a l) (hw : Hp w0 rs w) (hm : Res.reg lo wr ∈ rs) : SpsA 0 w a l := ⟨fun i s hi => ⟨(h.el i s hi).1, CA.at (h.el i s hi).2 hw hm⟩, h.len⟩
theorem WdsA.at {w0 rs w lo wr a l} (h : WdsA lo wr a l) (hw : Hp w0 rs w) (hm : Res.reg lo wr ∈ rs) : WdsA 0 w a l := ⟨fun i s hi => ⟨(h.el i s hi).1, CA.at (h.el i s hi).2 hw hm⟩, h.len⟩
theorem TmsA.at {w0 rs w lo wr a l f c} (h : TmsA lo wr a l f c) (hw : Hp w0 rs w) (hm : Res.reg lo wr ∈ rs) : TmsA 0 w a l f c := ⟨fun i s hi => ⟨(h.el i s hi).1, CA.at (h.el i s hi).2 hw hm⟩, fun i t hi => (h.br i t hi).at hw hm, h.len⟩
theorem RcA.at {w0 rs w lo wr v r} (h : RcA lo wr v r) (hw : Hp w0 rs w) (hm : Res.reg lo wr ∈ rs) : RcA 0 w v r := by
  obtain ⟨a, c, f, cf, h1, h2⟩ := h.ex
  exact ⟨⟨a, c, f, cf, h1, h2.at hw hm⟩, h.i1, h.i2, h.i3⟩
theorem hp_below {w w1 : World} (hb : Below w.heap.size w w1) : Hp w [.reg 0 w] w1 := (Hp.init w).ext hb
theorem CA.below {w w1 p vs} (h : CA 0 w p vs) (hb : Below w.heap.size w w1) : CA 0 w1 p vs := CA.at h (hp_below hb) (.head _)
theorem RcA.below {w w1 v r} (h : RcA 0 w v r) (hb : Below w.heap.size w w1) : RcA 0 w1 v r := h.at (hp_below hb) (.head _)
theorem CA.blk {w0 w : World} {rs : List Res} (hw : Hp w0 rs w) {b : Nat} {vs : List Value} {e : TypeId} {fz : Nat × Nat} (hm : Res.blk b (.cells vs.toArray e fz) ∈ rs) : CA 0 w ⟨b, 0, none⟩ vs :=
  ⟨Nat.zero_le _, fun j v hj => by rw [Addr.add_lit, Nat.zero_add]; exact (cell_blk hw hm).trans (by simpa using hj)⟩
def sp0 : Sp := ⟨0, 0⟩
def tm0 : Tm := ⟨0, []⟩
def wd0 : Wd := ⟨0, 0, sp0⟩
theorem SpsA.row {lo wr a l} (h : SpsA lo wr a l) : ∀ i, i < l.length → a.isSome = true ∧ (spRow (l.getD i sp0)).length = 2 ∧ CA lo wr (elt a i 2) (spRow (l.getD i sp0)) := fun i hi =>
  ⟨(h.el i _ (get_of_lt sp0 hi)).1, rfl, (h.el i _ (get_of_lt sp0 hi)).2⟩
theorem WdsA.row {lo wr a l} (h : WdsA lo wr a l) : ∀ i, i < l.length → a.isSome = true ∧ (wdRow (l.getD i wd0)).length = 4 ∧ CA lo wr (elt a i 4) (wdRow (l.getD i wd0)) := fun i hi =>
  ⟨(h.el i _ (get_of_lt wd0 hi)).1, rfl, (h.el i _ (get_of_lt wd0 hi)).2⟩
def tmRow (ts : List Tm) (f : Nat → Option Addr) (c : Nat → Nat) (i : Nat) : List Value := [.int .i64 (ts.getD i tm0).pen, .slice (f i) (ts.getD i tm0).brk.length (c i)]
theorem TmsA.row {lo wr a l f c} (h : TmsA lo wr a l f c) : ∀ i, i < l.length → a.isSome = true ∧ (tmRow l f c i).length = 2 ∧ CA lo wr (elt a i 2) (tmRow l f c i) := fun i hi =>
  ⟨(h.el i _ (get_of_lt tm0 hi)).1, rfl, (h.el i _ (get_of_lt tm0 hi)).2⟩
theorem TmsA.rc {lo wr r a c f cf} (h : TmsA lo wr a r.teams f cf) (i1 : InI r.p) (i2 : InI r.lim) (i3 : InI r.rate) : RcA lo wr (.agg (rcVal r a c).toArray) r := ⟨⟨a, c, f, cf, rfl, h⟩, i1, i2, i3⟩
def IntsA (lo : Nat) (wr : World) (a : Option Addr) (xs : List Int) : Prop := ∀ i x, xs[i]? = some x → a.isSome = true ∧ CA lo wr (elt a i 1) [.int .i64 x]
theorem IntsA.at {w0 rs w lo wr a l} (h : IntsA lo wr a l) (hw : Hp w0 rs w) (hm : Res.reg lo wr ∈ rs) : IntsA 0 w a l := fun i s hi => ⟨(h i s hi).1, CA.at (h i s hi).2 hw hm⟩
/-- bounds: minutes, pieces, rate, in interface values of the type T -/
def bdRow (T : TypeId) (rate : Int) (b : Int × Int) : List Value := [.iface T (.agg #[.int .i64 b.1, .int .i64 b.2, .int .i64 rate])]
def BdA (lo : Nat) (wr : World) (T : TypeId) (a : Option Addr) (bs : List (Int × Int)) (rate : Int) : Prop := ∀ i b, bs[i]? = some b → a.isSome = true ∧ CA lo wr (elt a i 1) (bdRow T rate b)
theorem BdA.at {w0 rs w lo wr T a l rate} (h : BdA lo wr T a l rate) (hw : Hp w0 rs w) (hm : Res.reg lo wr ∈ rs) : BdA 0 w T a l rate := fun i s hi => ⟨(h i s hi).1, CA.at (h i s hi).2 hw hm⟩
/-- all that is said of a team -/
structure CoA (lo : Nat) (wr : World) (p : Addr) (r : Rc) (team : Nat) (ws : List (Int × Sp)) : Prop where
  ex : ∃ a c f cf a1 c1 a2 c2 a3 c3, CA lo wr p (rcVal r a c ++ [.int .i64 team, .slice a1 ws.length c1, .slice a2 ws.length c2, .slice a3 ws.length c3]) ∧ TmsA lo wr a r.teams f cf ∧
    BdA lo wr 106 a1 (ws.map fun x => (x.1, x.2.lo)) r.rate ∧ BdA lo wr 107 a2 (ws.map fun x => (x.1, x.2.hi)) r.rate ∧ IntsA lo wr a3 (ws.map (·.1))
  ok : WsOk ws
  n : ws.length ≤ 42
theorem CoA.at {w0 rs w lo wr p r team ws} (h : CoA lo wr p r team ws) (hw : Hp w0 rs w) (hm : Res.reg lo wr ∈ rs) : CoA 0 w p r team ws := by
  obtain ⟨a, c, f, cf, a1, c1, a2, c2, a3, c3, h1, h2, h3, h4, h5⟩ := h.ex
  exact ⟨⟨a, c, f, cf, a1, c1, a2, c2, a3, c3, CA.at h1 hw hm, h2.at hw hm, BdA.at h3 hw hm, BdA.at h4 hw hm, IntsA.at h5 hw hm⟩, h.ok, h.n⟩
theorem CoA.below {w w1 p r team ws} (h : CoA 0 w p r team ws) (hb : Below w.heap.size w w1) : CoA 0 w1 p r team ws := h.at (hp_below hb) (.head _)
/-- an own slice of integers, to be read -/
theorem own_ints {w : World} {base : Nat} {v : Value} {n : Nat} {xs : List Int} {e : TypeId} (h : w.ownsRow base e 1 v n (xs.map (Value.int .i64))) : ∃ a c, v = .slice a n c ∧ IntsA base w a xs := by
  have hl : xs.length = n := by simpa using h.1
  rcases h.2 with ⟨hv, hn⟩ | ⟨g, cap, cur, hv, hb, hg, h3, h4, h5, h6⟩
  · subst hn
    have hx : xs = [] := List.eq_nil_of_length_eq_zero hl
    subst hx
    exact ⟨none, 0, hv, fun i x hi => by simp at hi⟩
  · refine ⟨some ⟨g, 0, none⟩, cap, hv, fun i x hi => ⟨rfl, ?_⟩⟩
    have hc := World.ownsRow.cells (w := w) h (g := g) (by rw [hv]; rfl) i (.int .i64 x) (by simp [hi])
    have e1 : elt (some ⟨g, 0, none⟩) i 1 = (⟨g, i, none⟩ : Addr) := by simp [elt, Addr.add_lit]
    rw [Addr.add_lit, Nat.zero_add] at hc
    rw [e1]
    refine ⟨hb, fun j v hj => ?_⟩
    rcases j with _ | j
    · simp at hj; subst hj; rw [Addr.add_zero']; exact hc
    · simp at hj
/-- what is an own slice's lies in new memory -/
theorem own_new {w0 w : World} {rs : List Res} {v : Value} {e : TypeId} {sz n : Nat} {xs : List Value} (h : Hp w0 rs w) {rest : List Res} (hr : Rem (.own v e sz n xs) rs rest) (hm : Res.reg 0 w0 ∈ rest) : w.ownsRow w0.heap.size e sz v n xs := by
  have hok : w.ownsRow 0 e sz v n xs := h.ok _ hr.mem.1
  refine ⟨hok.1, ?_⟩
  rcases hok.2 with h2 | ⟨g, cap, cur, hv, h3, h4, h5⟩
  · exact .inl h2
  · refine .inr ⟨g, cap, cur, hv, ?_, h4, h5⟩
    obtain ⟨h1, _⟩ := List.pairwise_cons.1 (hr.pairwise apart_sym h.apart)
    rcases Nat.lt_or_ge g w0.heap.size with hlt | hge
    · exact absurd ⟨Nat.zero_le _, hlt⟩ (h1 _ hm g (by subst hv; rfl))
    · exact hge
/-- the breaks' table -/
def rngCells (n : Nat) (g : Nat → Bool) : List Value := (List.range n).map fun i => .bool (g i)
theorem rngCells_set {n : Nat} {g g' : Nat → Bool} {m : Nat} (hg : ∀ i, i < n → g' i = if i = m then true else g i) : (rngCells n g).toArray.setIfInBounds m (.bool true) = (rngCells n g').toArray := by
  apply Array.ext
  · simp [rngCells]
  · intro i h1 h2
    have hi : i < n := by simpa [rngCells] using h2
    simp only [rngCells, List.getElem_toArray, List.getElem_map, List.getElem_range]
    rw [hg i hi]
    by_cases e : m = i
    · subst e; simp
    · have : ¬ i = m := fun h => e h.symm
      simp [e, this]
theorem rngCells_get {n : Nat} {g : Nat → Bool} {k : Nat} (h : k < n) : (rngCells n g).toArray[k]? = some (.bool (g k)) := by simp [rngCells, h]
def offCells (g : Nat → Bool) : List Value := rngCells 2001 g
theorem offCells_size (g : Nat → Bool) : (offCells g).toArray.size = 2001 := by unfold offCells rngCells; rw [List.size_toArray, List.length_map, List.length_range]
theorem offCells_get {g : Nat → Bool} {k : Nat} (h : k < 2001) : (offCells g).toArray[0 + k * 1]? = some (.bool (g k)) := by rw [Nat.zero_add, Nat.mul_one]; exact rngCells_get h
theorem offCells_set {g g' : Nat → Bool} {m : Nat} (hg : ∀ i, i < 2001 → g' i = if i = m then true else g i) : (offCells g).toArray.setIfInBounds (0 + m * 1) (.bool true) = (offCells g').toArray := by rw [Nat.zero_add, Nat.mul_one]; exact rngCells_set hg
theorem rngCells_congr {n : Nat} {g g' : Nat → Bool} (h : ∀ i, i < n → g i = g' i) : rngCells n g = rngCells n g' := by
  unfold rngCells; exact List.map_congr_left fun i hi => by rw [h i (List.mem_range.1 hi)]
theorem offCells_congr {g g' : Nat → Bool} (h : ∀ i, i < 2001 → g i = g' i) : offCells g = offCells g' := rngCells_congr h
theorem rcB_team {r : Rc} (h : rcB r = true) {t : Tm} (ht : t ∈ r.teams) : tmB t = true := by
  simp only [rcB, Bool.and_eq_true, List.all_eq_true] at h; exact h.2 t ht
theorem tmB_brk {t : Tm} (h : tmB t = true) {s : Sp} (hs : s ∈ t.brk) : 0 ≤ s.lo ∧ s.lo ≤ s.hi ∧ s.hi ≤ 2000 := by
  simp only [tmB, Bool.and_eq_true, List.all_eq_true] at h; simpa [spB] using h.2 s hs
theorem rcB_nums {r : Rc} (h : rcB r = true) : (1 ≤ r.p ∧ r.p ≤ 10000) ∧ (1 ≤ r.lim ∧ r.lim ≤ 1000) ∧ (1 ≤ r.rate ∧ r.rate ≤ 100) ∧ 1 ≤ r.teams.length ∧ r.teams.length ≤ 8 := by
  simp only [rcB, Bool.and_eq_true, decide_eq_true_eq] at h; exact ⟨h.1.1.1.1, h.1.1.1.2, h.1.1.2, by omega, by omega⟩
theorem offB_take_succ {bs : List Sp} {k : Nat} {s : Sp} (h : bs[k]? = some s) (i : Nat) : offB (bs.take (k + 1)) i = (offB (bs.take k) i || decide (s.lo ≤ (i : Int) ∧ (i : Int) ≤ s.hi)) := by
  unfold offB
  rw [List.take_add_one, h]; simp
end Go.Proofs.Ytegdfpilhlcplaa
