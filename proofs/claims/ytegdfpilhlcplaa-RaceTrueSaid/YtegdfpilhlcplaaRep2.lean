/- A team's course, new in memory. -/
import Derived.Test.YtegdfpilhlcplaaRep
import Derived.Test.YtegdfpilhlcplaaEng7
namespace Go.Proofs.Ytegdfpilhlcplaa
open Go Go.Eng Go.RowKit
theorem CA.keep {w0 rs w lo wr p vs} (h : CA lo wr p vs) (hw : Hp w0 rs w) (hm : Res.reg lo wr ∈ rs) : CA lo w p vs :=
  ⟨h.1, fun j v hj => cell_reg hw hm (by rw [Addr.add_block]; exact h.1) (h.2 j v hj)⟩
theorem CA.low {w lo lo' p vs} (h : CA lo w p vs) (hl : lo' ≤ lo) : CA lo' w p vs := ⟨Nat.le_trans hl h.1, h.2⟩
theorem blk_new {w0 w : World} {rs rest : List Res} {b : Nat} {o : Obj} (h : Hp w0 rs w) (hr : Rem (.blk b o) rs rest) (hm : Res.reg 0 w0 ∈ rest) : w0.heap.size ≤ b := by
  obtain ⟨h1, _⟩ := List.pairwise_cons.1 (hr.pairwise apart_sym h.apart)
  rcases Nat.lt_or_ge b w0.heap.size with hlt | hge
  · exact absurd ⟨Nat.zero_le _, hlt⟩ (h1 _ hm b rfl)
  · exact hge
/-- an own slice of one-cell things, to be read -/
theorem own_row1 {w : World} {base : Nat} {v : Value} {n : Nat} {xs : List Value} {e : TypeId} (h : w.ownsRow base e 1 v n xs) : ∃ a c, v = .slice a n c ∧ ∀ i x, xs[i]? = some x → a.isSome = true ∧ CA base w (elt a i 1) [x] := by
  have hl : xs.length = n := by simpa using h.1
  rcases h.2 with ⟨hv, hn⟩ | ⟨g, cap, cur, hv, hb, hg, h3, h4, h5, h6⟩
  · subst hn
    have hx : xs = [] := List.eq_nil_of_length_eq_zero hl
    subst hx
    exact ⟨none, 0, hv, fun i x hi => by simp at hi⟩
  · refine ⟨some ⟨g, 0, none⟩, cap, hv, fun i x hi => ⟨rfl, ?_⟩⟩
    have hc := World.ownsRow.cells (w := w) h (g := g) (by rw [hv]; rfl) i x (by simp [hi])
    have e1 : elt (some ⟨g, 0, none⟩) i 1 = (⟨g, i, none⟩ : Addr) := by simp [elt, Addr.add_lit]
    rw [Addr.add_lit, Nat.zero_add] at hc
    rw [e1]
    refine ⟨hb, fun j v hj => ?_⟩
    rcases j with _ | j
    · simp at hj; subst hj; rw [Addr.add_zero']; exact hc
    · simp at hj
structure CoN (lo : Nat) (wr : World) (p : Addr) (r : Rc) (a : Option Addr) (c : Nat) (team : Nat) (ws : List (Int × Sp)) : Prop where
  ex : ∃ a1 c1 a2 c2 a3 c3, CA lo wr p (rcVal r a c ++ [.int .i64 team, .slice a1 ws.length c1, .slice a2 ws.length c2, .slice a3 ws.length c3]) ∧
    BdA lo wr 106 a1 (ws.map fun x => (x.1, x.2.lo)) r.rate ∧ BdA lo wr 107 a2 (ws.map fun x => (x.1, x.2.hi)) r.rate ∧ IntsA lo wr a3 (ws.map (·.1))
theorem CoN.keep {w0 rs w lo wr p r a c team ws} (h : CoN lo wr p r a c team ws) (hw : Hp w0 rs w) (hm : Res.reg lo wr ∈ rs) : CoN lo w p r a c team ws := by
  obtain ⟨a1, c1, a2, c2, a3, c3, h1, h2, h3, h4⟩ := h.ex
  exact ⟨a1, c1, a2, c2, a3, c3, CA.keep h1 hw hm, fun i b hi => ⟨(h2 i b hi).1, CA.keep (h2 i b hi).2 hw hm⟩, fun i b hi => ⟨(h3 i b hi).1, CA.keep (h3 i b hi).2 hw hm⟩, fun i b hi => ⟨(h4 i b hi).1, CA.keep (h4 i b hi).2 hw hm⟩⟩
theorem CoN.low {w lo lo' p r a c team ws} (h : CoN lo w p r a c team ws) (hl : lo' ≤ lo) : CoN lo' w p r a c team ws := by
  obtain ⟨a1, c1, a2, c2, a3, c3, h1, h2, h3, h4⟩ := h.ex
  exact ⟨a1, c1, a2, c2, a3, c3, CA.low h1 hl, fun i b hi => ⟨(h2 i b hi).1, CA.low (h2 i b hi).2 hl⟩, fun i b hi => ⟨(h3 i b hi).1, CA.low (h3 i b hi).2 hl⟩, fun i b hi => ⟨(h4 i b hi).1, CA.low (h4 i b hi).2 hl⟩⟩
theorem CoN.co {w p r a c f cf team ws} (h : CoN 0 w p r a c team ws) (hT : TmsA 0 w a r.teams f cf) (ok : WsOk ws) (n : ws.length ≤ 42) : CoA 0 w p r team ws := by
  obtain ⟨a1, c1, a2, c2, a3, c3, h1, h2, h3, h4⟩ := h.ex
  exact ⟨⟨a, c, f, cf, a1, c1, a2, c2, a3, c3, h1, hT, h2, h3, h4⟩, ok, n⟩
/-- what words say of a team -/
def sayW (r : Rc) (team : Nat) (l : List Wd) : List (Int × Sp) := (l.filter fun (d : Wd) => decide (d.team = (team : Int))).map fun d => ((wrk r team d.minute.toNat : Int), d.got)
def allW (r : Rc) (team : Nat) (l : List Wd) : List (Int × Sp) := (0, ⟨0, 0⟩) :: (r.lim, ⟨0, r.p⟩) :: sayW r team l
def loRow (rate : Int) (ws : List (Int × Sp)) : List Value := ws.map fun x => .iface 106 (.agg #[.int .i64 x.1, .int .i64 x.2.lo, .int .i64 rate])
def hiRow (rate : Int) (ws : List (Int × Sp)) : List Value := ws.map fun x => .iface 107 (.agg #[.int .i64 x.1, .int .i64 x.2.hi, .int .i64 rate])
def atRow (ws : List (Int × Sp)) : List Value := ws.map fun x => .int .i64 x.1
theorem loRow_snoc (rate : Int) (ws : List (Int × Sp)) (x : Int × Sp) : loRow rate (ws ++ [x]) = loRow rate ws ++ [.iface 106 (.agg #[.int .i64 x.1, .int .i64 x.2.lo, .int .i64 rate])] := by simp [loRow]
theorem hiRow_snoc (rate : Int) (ws : List (Int × Sp)) (x : Int × Sp) : hiRow rate (ws ++ [x]) = hiRow rate ws ++ [.iface 107 (.agg #[.int .i64 x.1, .int .i64 x.2.hi, .int .i64 rate])] := by simp [hiRow]
theorem atRow_snoc (ws : List (Int × Sp)) (x : Int × Sp) : atRow (ws ++ [x]) = atRow ws ++ [.int .i64 x.1] := by simp [atRow]
theorem len_snoc (ws : List (Int × Sp)) (x : Int × Sp) : (ws ++ [x]).length = ws.length + 1 := by simp
theorem sayW_len (r : Rc) (team : Nat) (l : List Wd) : (sayW r team l).length ≤ l.length := by
  unfold sayW; rw [List.length_map]; exact List.length_filter_le _ _
theorem CoN.of_own {w : World} {lo : Nat} {p : Addr} {r : Rc} {a : Option Addr} {c team : Nat} {ws : List (Int × Sp)} {v1 v2 v3 : Value} (hc : CA lo w p (rcVal r a c ++ [.int .i64 team, v1, v2, v3])) (h1 : w.ownsRow lo 116 1 v1 ws.length (loRow r.rate ws)) (h2 : w.ownsRow lo 116 1 v2 ws.length (hiRow r.rate ws)) (h3 : w.ownsRow lo 3 1 v3 ws.length (atRow ws)) : CoN lo w p r a c team ws := by
  obtain ⟨a1, c1, rfl, g1⟩ := own_row1 h1
  obtain ⟨a2, c2, rfl, g2⟩ := own_row1 h2
  obtain ⟨a3, c3, rfl, g3⟩ := own_row1 h3
  refine ⟨a1, c1, a2, c2, a3, c3, hc, fun i b hi => ?_, fun i b hi => ?_, fun i b hi => ?_⟩
  · rw [List.getElem?_map] at hi
    obtain ⟨x, hx, rfl⟩ := Option.map_eq_some_iff.1 hi
    exact g1 i _ (by unfold loRow; rw [List.getElem?_map, hx]; rfl)
  · rw [List.getElem?_map] at hi
    obtain ⟨x, hx, rfl⟩ := Option.map_eq_some_iff.1 hi
    exact g2 i _ (by unfold hiRow; rw [List.getElem?_map, hx]; rfl)
  · rw [List.getElem?_map] at hi
    obtain ⟨x, hx, rfl⟩ := Option.map_eq_some_iff.1 hi
    exact g3 i _ (by unfold atRow; rw [List.getElem?_map, hx]; rfl)
end Go.Proofs.Ytegdfpilhlcplaa
