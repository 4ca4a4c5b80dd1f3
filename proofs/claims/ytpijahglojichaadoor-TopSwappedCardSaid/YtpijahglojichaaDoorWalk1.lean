/- The walks of the smallest functions, and of what looks whether a market is valid. -/
import Derived.Test.YtpijahglojichaaDoorProg
import Derived.Test.YtpijahglojichaaDoorEngB
import Derived.Test.YtpijahglojichaaDoorDat
namespace Go.Proofs.YtpijahglojichaaDoor
open Go Go.Eng Go.RowKit Go.Proofs
set_option maxRecDepth 100000
def iRow (n : Int) : List Value := [.int .i64 n]
theorem iRow_len (n : Int) : (iRow n).length = 1 := rfl
theorem flat_iget {l : List Int} {i : Nat} {x : Int} (h : l[i]? = some x) : (l.flatMap iRow)[i * 1]? = some (.int .i64 x) := flat_get iRow_len l i x h 0 _ rfl
theorem iflat_one (l : List Int) : ∀ v, v ∈ l.flatMap iRow → v.oneCell' = true := flat_one (fun _ u hu => by simp [iRow] at hu; subst hu; rfl) l
theorem iflat_len (l : List Int) : (l.flatMap iRow).length = l.length := by rw [flat_len iRow_len, Nat.mul_one]
/-- lists of numbers, in memory -/
structure LsA (lo : Nat) (wr : World) (a : Option Addr) (f : Nat → Option Addr) (cf : Nat → Nat) (l : List (List Int)) : Prop where
  el : ∀ i r, l[i]? = some r → a.isSome = true ∧ CA lo wr (elt a i 1) [.slice (f i) r.length (cf i)] ∧ RowsA iRow 1 lo wr (f i) r
  len : l.length ≤ 9223372036854775807
theorem LsA.at {w0 rs w lo wr a f cf l} (h : LsA lo wr a f cf l) (hw : Hp w0 rs w) (hm : Res.reg lo wr ∈ rs) : LsA 0 w a f cf l := ⟨fun i m hi => ⟨(h.el i m hi).1, CA.at (h.el i m hi).2.1 hw hm, (h.el i m hi).2.2.at hw hm⟩, h.len⟩
theorem LsA.get {lo wr a f cf l} (h : LsA lo wr a f cf l) {i : Nat} (hi : i < l.length) : a.isSome = true ∧ CA lo wr (elt a i 1) [.slice (f i) (l.getD i []).length (cf i)] ∧ RowsA iRow 1 lo wr (f i) (l.getD i []) := h.el i _ (get_of_lt [] hi)
/-- where a market lies -/
structure MA where
  a : Option Addr
  c : Nat
  f : Nat → Option Addr
  cf : Nat → Nat
def mV (z : MA) (m : Mt) : List Value := [.slice z.a m.length z.c]
def MtA (lo : Nat) (wr : World) (z : MA) (m : Mt) : Prop := LsA lo wr z.a z.f z.cf m
theorem MtA.at {w0 rs w lo wr z m} (h : MtA lo wr z m) (hw : Hp w0 rs w) (hm : Res.reg lo wr ∈ rs) : MtA 0 w z m := LsA.at h hw hm
theorem MtA.row {lo wr z m} (h : MtA lo wr z m) {i : Nat} (hi : i < m.length) : z.a.isSome = true ∧ CA lo wr (elt z.a i 1) [.slice (z.f i) (m.getD i []).length (z.cf i)] ∧ RowsA iRow 1 lo wr (z.f i) (m.getD i []) := LsA.get h hi
theorem MtA.cell {lo wr z m} (h : MtA lo wr z m) {i k : Nat} (hi : i < m.length) (hk : k < (m.getD i []).length) : z.a.isSome = true ∧ CA lo wr (elt z.a i 1) [.slice (z.f i) (m.getD i []).length (z.cf i)] ∧ (z.f i).isSome = true ∧ CA lo wr (elt (z.f i) k 1) (iRow (wv m i k)) := by
  have h1 := h.row hi
  have h2 := h1.2.2.get 0 hk
  exact ⟨h1.1, h1.2.1, h2.1, h2.2⟩
theorem all_range_get {α : Type} (l : List α) (d : α) (p : α → Bool) : (List.range l.length).any (fun i => p (l.getD i d)) = l.any p := by
  rw [Bool.eq_iff_iff]
  simp only [List.any_eq_true, List.mem_range]
  constructor
  · rintro ⟨i, hi, h⟩
    exact ⟨_, getD_mem hi, h⟩
  · rintro ⟨x, hx, h⟩
    obtain ⟨i, hi, rfl⟩ := List.getElem_of_mem hx
    exact ⟨i, hi, by rw [List.getD_eq_getElem?_getD, List.getElem?_eq_getElem hi]; exact h⟩
theorem any_not {α : Type} (l : List α) (p : α → Bool) : l.any (fun x => !p x) = !l.all p := by
  induction l with
  | nil => rfl
  | cons a l ih => rw [List.any_cons, List.all_cons, ih]; cases p a <;> cases l.all p <;> rfl

theorem FA100_4 {p : Prop} (h : p := by first | exact y_fab Tryd.underlying100 RF (by exact Tryd.sizeOf4) RF rfl | exact y_fa Tryd.underlying100 RF (by exact Tryd.sizeOf4) RF rfl) : p := h
theorem FA100_85 {p : Prop} (h : p := by first | exact y_fab Tryd.underlying100 RF (by exact Tryd.sizeOf85) RF rfl | exact y_fa Tryd.underlying100 RF (by exact Tryd.sizeOf85) RF rfl) : p := h
theorem FA100_97 {p : Prop} (h : p := by first | exact y_fab Tryd.underlying100 RF (by exact Tryd.sizeOf97) RF rfl | exact y_fa Tryd.underlying100 RF (by exact Tryd.sizeOf97) RF rfl) : p := h
theorem FA113_3 {p : Prop} (h : p := by first | exact y_fab Tryd.underlying113 RF (by exact Tryd.sizeOf3) RF rfl | exact y_fa Tryd.underlying113 RF (by exact Tryd.sizeOf3) RF rfl) : p := h
theorem FA118_116 {p : Prop} (h : p := by first | exact y_fab Tryd.underlying118 RF (by exact Tryd.sizeOf116) RF rfl | exact y_fa Tryd.underlying118 RF (by exact Tryd.sizeOf116) RF rfl) : p := h
theorem FA118_61 {p : Prop} (h : p := by first | exact y_fab Tryd.underlying118 RF (by exact Tryd.sizeOf61) RF rfl | exact y_fa Tryd.underlying118 RF (by exact Tryd.sizeOf61) RF rfl) : p := h
theorem FA130_3 {p : Prop} (h : p := by first | exact y_fab Tryd.underlying130 RF (by exact Tryd.sizeOf3) RF rfl | exact y_fa Tryd.underlying130 RF (by exact Tryd.sizeOf3) RF rfl) : p := h
theorem FA24_22 {p : Prop} (h : p := by first | exact y_fab Tryd.underlying24 RF (by exact Tryd.sizeOf22) RF rfl | exact y_fa Tryd.underlying24 RF (by exact Tryd.sizeOf22) RF rfl) : p := h
theorem FA57_3 {p : Prop} (h : p := by first | exact y_fab Tryd.underlying57 RF (by exact Tryd.sizeOf3) RF rfl | exact y_fa Tryd.underlying57 RF (by exact Tryd.sizeOf3) RF rfl) : p := h
theorem FA61_25 {p : Prop} (h : p := by first | exact y_fab Tryd.underlying61 RF (by exact Tryd.sizeOf25) RF rfl | exact y_fa Tryd.underlying61 RF (by exact Tryd.sizeOf25) RF rfl) : p := h
theorem FA61_3 {p : Prop} (h : p := by first | exact y_fab Tryd.underlying61 RF (by exact Tryd.sizeOf3) RF rfl | exact y_fa Tryd.underlying61 RF (by exact Tryd.sizeOf3) RF rfl) : p := h
theorem FA61_58 {p : Prop} (h : p := by first | exact y_fab Tryd.underlying61 RF (by exact Tryd.sizeOf58) RF rfl | exact y_fa Tryd.underlying61 RF (by exact Tryd.sizeOf58) RF rfl) : p := h
theorem FA61_59 {p : Prop} (h : p := by first | exact y_fab Tryd.underlying61 RF (by exact Tryd.sizeOf59) RF rfl | exact y_fa Tryd.underlying61 RF (by exact Tryd.sizeOf59) RF rfl) : p := h
theorem FA63_3 {p : Prop} (h : p := by first | exact y_fab Tryd.underlying63 RF (by exact Tryd.sizeOf3) RF rfl | exact y_fa Tryd.underlying63 RF (by exact Tryd.sizeOf3) RF rfl) : p := h
theorem FA68_3 {p : Prop} (h : p := by first | exact y_fab Tryd.underlying68 RF (by exact Tryd.sizeOf3) RF rfl | exact y_fa Tryd.underlying68 RF (by exact Tryd.sizeOf3) RF rfl) : p := h
theorem FA75_24 {p : Prop} (h : p := by first | exact y_fab Tryd.underlying75 RF (by exact Tryd.sizeOf24) RF rfl | exact y_fa Tryd.underlying75 RF (by exact Tryd.sizeOf24) RF rfl) : p := h
theorem FA85_25 {p : Prop} (h : p := by first | exact y_fab Tryd.underlying85 RF (by exact Tryd.sizeOf25) RF rfl | exact y_fa Tryd.underlying85 RF (by exact Tryd.sizeOf25) RF rfl) : p := h
theorem FA85_3 {p : Prop} (h : p := by first | exact y_fab Tryd.underlying85 RF (by exact Tryd.sizeOf3) RF rfl | exact y_fa Tryd.underlying85 RF (by exact Tryd.sizeOf3) RF rfl) : p := h
theorem FA93_3 {p : Prop} (h : p := by first | exact y_fab Tryd.underlying93 RF (by exact Tryd.sizeOf3) RF rfl | exact y_fa Tryd.underlying93 RF (by exact Tryd.sizeOf3) RF rfl) : p := h
theorem FA93_78 {p : Prop} (h : p := by first | exact y_fab Tryd.underlying93 RF (by exact Tryd.sizeOf78) RF rfl | exact y_fa Tryd.underlying93 RF (by exact Tryd.sizeOf78) RF rfl) : p := h
theorem IA153 {p : Prop} (h : p := by first | exact y_ia_blk Tryd.underlying153 Tryd.sizeOf4 RF RF (by omega) | exact y_ia_el Tryd.underlying153 Tryd.sizeOf4 RF RF (by omega) (by first | assumption | simp)) : p := h
theorem IA22 {p : Prop} (h : p := by first | exact y_ia_blk Tryd.underlying22 Tryd.sizeOf25 RF RF (by omega) | exact y_ia_el Tryd.underlying22 Tryd.sizeOf25 RF RF (by omega) (by first | assumption | simp)) : p := h
theorem IA25 {p : Prop} (h : p := by first | exact y_ia_blk Tryd.underlying25 Tryd.sizeOf3 RF RF (by omega) | exact y_ia_el Tryd.underlying25 Tryd.sizeOf3 RF RF (by omega) (by first | assumption | simp)) : p := h
theorem IA43 {p : Prop} (h : p := by first | exact y_ia_blk Tryd.underlying43 Tryd.sizeOf5 RF RF (by omega) | exact y_ia_el Tryd.underlying43 Tryd.sizeOf5 RF RF (by omega) (by first | assumption | simp)) : p := h
theorem IA55 {p : Prop} (h : p := by first | exact y_ia_blk Tryd.underlying55 Tryd.sizeOf48 RF RF (by omega) | exact y_ia_el Tryd.underlying55 Tryd.sizeOf48 RF RF (by omega) (by first | assumption | simp)) : p := h
theorem IA58 {p : Prop} (h : p := by first | exact y_ia_blk Tryd.underlying58 Tryd.sizeOf57 RF RF (by omega) | exact y_ia_el Tryd.underlying58 Tryd.sizeOf57 RF RF (by omega) (by first | assumption | simp)) : p := h
theorem IA59 {p : Prop} (h : p := by first | exact y_ia_blk Tryd.underlying59 Tryd.sizeOf63 RF RF (by omega) | exact y_ia_el Tryd.underlying59 Tryd.sizeOf63 RF RF (by omega) (by first | assumption | simp)) : p := h
theorem IA90 {p : Prop} (h : p := by first | exact y_ia_blk Tryd.underlying90 Tryd.sizeOf93 RF RF (by omega) | exact y_ia_el Tryd.underlying90 Tryd.sizeOf93 RF RF (by omega) (by first | assumption | simp)) : p := h
theorem LD104 {p : Prop} (h : p := by first | exact y_load_cajj Tryd.underlying104 rfl RF MM (by assumption) RF | exact y_load_blk Tryd.underlying104 rfl RF MM RF | exact y_load_caj Tryd.underlying104 rfl RF MM (by assumption) RF | exact y_load_ca0 Tryd.underlying104 rfl RF MM (by assumption) RF) : p := h
theorem LD113 {p : Prop} (h : p := by first | exact y_load_all Tryd.underlying113 rfl Tryd.sizeOf113 RF MM RF | exact y_load_2 Tryd.underlying113 rfl Tryd.sizeOf113 RF MM RF RF | exact y_load_ca Tryd.underlying113 rfl Tryd.sizeOf113 RF MM (by assumption) RF | exact y_load_part Tryd.underlying113 rfl Tryd.sizeOf113 RF MM rfl | exact y_load_capart Tryd.underlying113 rfl Tryd.sizeOf113 RF MM (by assumption) rfl) : p := h
theorem LD118 {p : Prop} (h : p := by first | exact y_load_all Tryd.underlying118 rfl Tryd.sizeOf118 RF MM RF | exact y_load_ca Tryd.underlying118 rfl Tryd.sizeOf118 RF MM (by assumption) RF | exact y_load_part Tryd.underlying118 rfl Tryd.sizeOf118 RF MM rfl | exact y_load_capart Tryd.underlying118 rfl Tryd.sizeOf118 RF MM (by assumption) rfl) : p := h
theorem LD127 {p : Prop} (h : p := by first | exact y_load_cajj Tryd.underlying127 rfl RF MM (by assumption) RF | exact y_load_blk Tryd.underlying127 rfl RF MM RF | exact y_load_caj Tryd.underlying127 rfl RF MM (by assumption) RF | exact y_load_ca0 Tryd.underlying127 rfl RF MM (by assumption) RF) : p := h
theorem LD128 {p : Prop} (h : p := by first | exact y_load_cajj Tryd.underlying128 rfl RF MM (by assumption) RF | exact y_load_blk Tryd.underlying128 rfl RF MM RF | exact y_load_caj Tryd.underlying128 rfl RF MM (by assumption) RF | exact y_load_ca0 Tryd.underlying128 rfl RF MM (by assumption) RF) : p := h
theorem LD130 {p : Prop} (h : p := by first | exact y_load_all Tryd.underlying130 rfl Tryd.sizeOf130 RF MM RF | exact y_load_2 Tryd.underlying130 rfl Tryd.sizeOf130 RF MM RF RF | exact y_load_ca Tryd.underlying130 rfl Tryd.sizeOf130 RF MM (by assumption) RF | exact y_load_part Tryd.underlying130 rfl Tryd.sizeOf130 RF MM rfl | exact y_load_capart Tryd.underlying130 rfl Tryd.sizeOf130 RF MM (by assumption) rfl) : p := h
theorem LD153 {p : Prop} (h : p := by first | exact y_load_cajj Tryd.underlying153 rfl RF MM (by assumption) RF | exact y_load_blk Tryd.underlying153 rfl RF MM RF | exact y_load_caj Tryd.underlying153 rfl RF MM (by assumption) RF | exact y_load_ca0 Tryd.underlying153 rfl RF MM (by assumption) RF) : p := h
theorem LD164 {p : Prop} (h : p := by first | exact y_load_cajj Tryd.underlying164 rfl RF MM (by assumption) RF | exact y_load_blk Tryd.underlying164 rfl RF MM RF | exact y_load_caj Tryd.underlying164 rfl RF MM (by assumption) RF | exact y_load_ca0 Tryd.underlying164 rfl RF MM (by assumption) RF) : p := h
theorem LD22 {p : Prop} (h : p := by first | exact y_load_cajj Tryd.underlying22 rfl RF MM (by assumption) RF | exact y_load_blk Tryd.underlying22 rfl RF MM RF | exact y_load_caj Tryd.underlying22 rfl RF MM (by assumption) RF | exact y_load_ca0 Tryd.underlying22 rfl RF MM (by assumption) RF) : p := h
theorem LD24 {p : Prop} (h : p := by first | exact y_load_all Tryd.underlying24 rfl Tryd.sizeOf24 RF MM RF | exact y_load_ca Tryd.underlying24 rfl Tryd.sizeOf24 RF MM (by assumption) RF | exact y_load_part Tryd.underlying24 rfl Tryd.sizeOf24 RF MM rfl | exact y_load_capart Tryd.underlying24 rfl Tryd.sizeOf24 RF MM (by assumption) rfl) : p := h
theorem LD25 {p : Prop} (h : p := by first | exact y_load_cajj Tryd.underlying25 rfl RF MM (by assumption) RF | exact y_load_blk Tryd.underlying25 rfl RF MM RF | exact y_load_caj Tryd.underlying25 rfl RF MM (by assumption) RF | exact y_load_ca0 Tryd.underlying25 rfl RF MM (by assumption) RF) : p := h
theorem LD3 {p : Prop} (h : p := by first | exact y_load_cajj Tryd.underlying3 rfl RF MM (by assumption) RF | exact y_load_blk Tryd.underlying3 rfl RF MM RF | exact y_load_caj Tryd.underlying3 rfl RF MM (by assumption) RF | exact y_load_ca0 Tryd.underlying3 rfl RF MM (by assumption) RF) : p := h
theorem LD4 {p : Prop} (h : p := by first | exact y_load_cajj Tryd.underlying4 rfl RF MM (by assumption) RF | exact y_load_blk Tryd.underlying4 rfl RF MM RF | exact y_load_caj Tryd.underlying4 rfl RF MM (by assumption) RF | exact y_load_ca0 Tryd.underlying4 rfl RF MM (by assumption) RF) : p := h
theorem LD48 {p : Prop} (h : p := by first | exact y_load_cajj Tryd.underlying48 rfl RF MM (by assumption) RF | exact y_load_blk Tryd.underlying48 rfl RF MM RF | exact y_load_caj Tryd.underlying48 rfl RF MM (by assumption) RF | exact y_load_ca0 Tryd.underlying48 rfl RF MM (by assumption) RF) : p := h
theorem LD5 {p : Prop} (h : p := by first | exact y_load_cajj Tryd.underlying5 rfl RF MM (by assumption) RF | exact y_load_blk Tryd.underlying5 rfl RF MM RF | exact y_load_caj Tryd.underlying5 rfl RF MM (by assumption) RF | exact y_load_ca0 Tryd.underlying5 rfl RF MM (by assumption) RF) : p := h
theorem LD57 {p : Prop} (h : p := by first | exact y_load_all Tryd.underlying57 rfl Tryd.sizeOf57 RF MM RF | exact y_load_ca Tryd.underlying57 rfl Tryd.sizeOf57 RF MM (by assumption) RF | exact y_load_part Tryd.underlying57 rfl Tryd.sizeOf57 RF MM rfl | exact y_load_capart Tryd.underlying57 rfl Tryd.sizeOf57 RF MM (by assumption) rfl) : p := h
theorem LD58 {p : Prop} (h : p := by first | exact y_load_cajj Tryd.underlying58 rfl RF MM (by assumption) RF | exact y_load_blk Tryd.underlying58 rfl RF MM RF | exact y_load_caj Tryd.underlying58 rfl RF MM (by assumption) RF | exact y_load_ca0 Tryd.underlying58 rfl RF MM (by assumption) RF) : p := h
theorem LD59 {p : Prop} (h : p := by first | exact y_load_cajj Tryd.underlying59 rfl RF MM (by assumption) RF | exact y_load_blk Tryd.underlying59 rfl RF MM RF | exact y_load_caj Tryd.underlying59 rfl RF MM (by assumption) RF | exact y_load_ca0 Tryd.underlying59 rfl RF MM (by assumption) RF) : p := h
theorem LD61 {p : Prop} (h : p := by first | exact y_load_all Tryd.underlying61 rfl Tryd.sizeOf61 RF MM RF | exact y_load_ca Tryd.underlying61 rfl Tryd.sizeOf61 RF MM (by assumption) RF | exact y_load_part Tryd.underlying61 rfl Tryd.sizeOf61 RF MM rfl | exact y_load_capart Tryd.underlying61 rfl Tryd.sizeOf61 RF MM (by assumption) rfl) : p := h
theorem LD63 {p : Prop} (h : p := by first | exact y_load_all Tryd.underlying63 rfl Tryd.sizeOf63 RF MM RF | exact y_load_ca Tryd.underlying63 rfl Tryd.sizeOf63 RF MM (by assumption) RF | exact y_load_part Tryd.underlying63 rfl Tryd.sizeOf63 RF MM rfl | exact y_load_capart Tryd.underlying63 rfl Tryd.sizeOf63 RF MM (by assumption) rfl) : p := h
theorem LD68 {p : Prop} (h : p := by first | exact y_load_all Tryd.underlying68 rfl Tryd.sizeOf68 RF MM RF | exact y_load_2 Tryd.underlying68 rfl Tryd.sizeOf68 RF MM RF RF | exact y_load_ca Tryd.underlying68 rfl Tryd.sizeOf68 RF MM (by assumption) RF | exact y_load_part Tryd.underlying68 rfl Tryd.sizeOf68 RF MM rfl | exact y_load_capart Tryd.underlying68 rfl Tryd.sizeOf68 RF MM (by assumption) rfl) : p := h
theorem LD75 {p : Prop} (h : p := by first | exact y_load_all Tryd.underlying75 rfl Tryd.sizeOf75 RF MM RF | exact y_load_ca Tryd.underlying75 rfl Tryd.sizeOf75 RF MM (by assumption) RF | exact y_load_part Tryd.underlying75 rfl Tryd.sizeOf75 RF MM rfl | exact y_load_capart Tryd.underlying75 rfl Tryd.sizeOf75 RF MM (by assumption) rfl) : p := h
theorem LD78 {p : Prop} (h : p := by first | exact y_load_cajj Tryd.underlying78 rfl RF MM (by assumption) RF | exact y_load_blk Tryd.underlying78 rfl RF MM RF | exact y_load_caj Tryd.underlying78 rfl RF MM (by assumption) RF | exact y_load_ca0 Tryd.underlying78 rfl RF MM (by assumption) RF) : p := h
theorem LD80 {p : Prop} (h : p := by first | exact y_load_cajj Tryd.underlying80 rfl RF MM (by assumption) RF | exact y_load_blk Tryd.underlying80 rfl RF MM RF | exact y_load_caj Tryd.underlying80 rfl RF MM (by assumption) RF | exact y_load_ca0 Tryd.underlying80 rfl RF MM (by assumption) RF) : p := h
theorem LD85 {p : Prop} (h : p := by first | exact y_load_all Tryd.underlying85 rfl Tryd.sizeOf85 RF MM RF | exact y_load_2 Tryd.underlying85 rfl Tryd.sizeOf85 RF MM RF RF | exact y_load_ca Tryd.underlying85 rfl Tryd.sizeOf85 RF MM (by assumption) RF | exact y_load_part Tryd.underlying85 rfl Tryd.sizeOf85 RF MM rfl | exact y_load_capart Tryd.underlying85 rfl Tryd.sizeOf85 RF MM (by assumption) rfl) : p := h
theorem LD93 {p : Prop} (h : p := by first | exact y_load_all Tryd.underlying93 rfl Tryd.sizeOf93 RF MM RF | exact y_load_2 Tryd.underlying93 rfl Tryd.sizeOf93 RF MM RF RF | exact y_load_ca Tryd.underlying93 rfl Tryd.sizeOf93 RF MM (by assumption) RF | exact y_load_part Tryd.underlying93 rfl Tryd.sizeOf93 RF MM rfl | exact y_load_capart Tryd.underlying93 rfl Tryd.sizeOf93 RF MM (by assumption) rfl) : p := h
theorem LD94 {p : Prop} (h : p := by first | exact y_load_cajj Tryd.underlying94 rfl RF MM (by assumption) RF | exact y_load_blk Tryd.underlying94 rfl RF MM RF | exact y_load_caj Tryd.underlying94 rfl RF MM (by assumption) RF | exact y_load_ca0 Tryd.underlying94 rfl RF MM (by assumption) RF) : p := h
theorem LD95 {p : Prop} (h : p := by first | exact y_load_cajj Tryd.underlying95 rfl RF MM (by assumption) RF | exact y_load_blk Tryd.underlying95 rfl RF MM RF | exact y_load_caj Tryd.underlying95 rfl RF MM (by assumption) RF | exact y_load_ca0 Tryd.underlying95 rfl RF MM (by assumption) RF) : p := h
theorem LD97 {p : Prop} (h : p := by first | exact y_load_cajj Tryd.underlying97 rfl RF MM (by assumption) RF | exact y_load_blk Tryd.underlying97 rfl RF MM RF | exact y_load_caj Tryd.underlying97 rfl RF MM (by assumption) RF | exact y_load_ca0 Tryd.underlying97 rfl RF MM (by assumption) RF) : p := h
theorem ei3 : EI Tryd.prog 3 (.int .i64 0) 1 8 := by unfold EI; kernel_rfl
theorem ei4 : EI Tryd.prog 4 (.bool false) 1 1 := by unfold EI; kernel_rfl
theorem ei5 : EI Tryd.prog 5 (.int .u8 0) 1 1 := by unfold EI; kernel_rfl
theorem ei22 : EI Tryd.prog 22 (.slice none 0 0) 1 24 := by unfold EI; kernel_rfl
theorem ei24 : EI Tryd.prog 24 (.agg #[.slice none 0 0]) 1 24 := by unfold EI; kernel_rfl
theorem ei25 : EI Tryd.prog 25 (.slice none 0 0) 1 24 := by unfold EI; kernel_rfl
theorem ei85 : EI Tryd.prog 85 (.agg #[.slice none 0 0, .int .i64 0]) 2 32 := by unfold EI; kernel_rfl
theorem bt24 : BT Tryd.prog 24 [(0, 1)] (.agg #[.slice none 0 0]) := BT.of Tryd.underlying24 (by kernel_rfl) (by kernel_rfl)
theorem bt75 : BT Tryd.prog 75 [(0, 1)] (.agg #[.slice none 0 0]) := BT.of Tryd.underlying75 (by kernel_rfl) (by kernel_rfl)
theorem bt85 : BT Tryd.prog 85 [(0, 1), (1, 1)] (.agg #[.slice none 0 0, .int .i64 0]) := BT.of Tryd.underlying85 (by kernel_rfl) (by kernel_rfl)
theorem bt100 : BT Tryd.prog 100 [(0, 2), (2, 1), (3, 1)] (.agg #[.slice none 0 0, .int .i64 0, .bool false, .nilFunc]) := BT.of Tryd.underlying100 (by kernel_rfl) (by kernel_rfl)
theorem bt130 : BT Tryd.prog 130 [(0, 1), (1, 1)] (.agg #[.int .i64 0, .int .i64 0]) := BT.of Tryd.underlying130 (by kernel_rfl) (by kernel_rfl)
theorem within47 (n l h : Int) (w : World) : Calls Tryd.prog 47 #[.int .i64 n, .int .i64 l, .int .i64 h] w fun e w' => e = .returned (.bool (decide (l ≤ n ∧ n ≤ h))) ∧ Below w.heap.size w w' := by
  refine calls_of_SC (args := [.int .i64 n, .int .i64 l, .int .i64 h]) Tryd.func47 rfl Tryd.ntmps47 rfl ?_
  simp only [argL, Nat.reduceAdd, Nat.zero_add]
  refine sc_seq ?_
  refine sc_region ?_
  refine qs (y_assign RF) ?_
  refine sq_nil ?_
  refine sx_then ?_
  refine sc_seq ?_
  refine sc_region ?_
  refine qs (y_move RF) ?_
  refine qs (y_move RF) ?_
  refine qs (y_leq RF RF) ?_
  refine qs (y_move RF) ?_
  refine sp 10 (fun hg1_3 => ?_) (fun hg1_3 => ?_)
  ·
    refine qg (y_move RF) ?_
    refine qg (y_move RF) ?_
    refine qg (y_leq RF RF) ?_
    refine qs (y_pick_t RF RF) ?_
    refine qs (y_assign RF) ?_
    refine sq_nil ?_
    refine sx_then ?_
    refine sc_ret ?_
    refine sx_ret1 (.inl rfl) rfl Tryd.results47 RF ?_
    intro w' hw'
    exact ⟨by simp [*], hw'.below MM⟩
  ·
    refine qf ?_
    refine qf ?_
    refine qf ?_
    refine qs (y_pick_f RF RF) ?_
    refine qs (y_assign RF) ?_
    refine sq_nil ?_
    refine sx_then ?_
    refine sc_ret ?_
    refine sx_ret1 (.inl rfl) rfl Tryd.results47 RF ?_
    intro w' hw'
    exact ⟨by simp [*], hw'.below MM⟩
theorem in50 (n l h : Int) (w : World) : Calls Tryd.prog 50 #[.int .i64 n, .int .i64 l, .int .i64 h] w fun e w' => e = .returned (.bool (decide (l ≤ n ∧ n ≤ h))) ∧ Below w.heap.size w w' := by
  refine calls_of_SC (args := [.int .i64 n, .int .i64 l, .int .i64 h]) Tryd.func50 rfl Tryd.ntmps50 rfl ?_
  simp only [argL, Nat.reduceAdd, Nat.zero_add]
  refine sc_seq ?_
  refine sc_region ?_
  refine qs (y_assign RF) ?_
  refine sq_nil ?_
  refine sx_then ?_
  refine sc_seq ?_
  refine sc_region ?_
  refine qs (y_move RF) ?_
  refine qs (y_move RF) ?_
  refine qs (y_leq RF RF) ?_
  refine qs (y_move RF) ?_
  refine sp 10 (fun hg1_3 => ?_) (fun hg1_3 => ?_)
  ·
    refine qg (y_move RF) ?_
    refine qg (y_move RF) ?_
    refine qg (y_leq RF RF) ?_
    refine qs (y_pick_t RF RF) ?_
    refine qs (y_assign RF) ?_
    refine sq_nil ?_
    refine sx_then ?_
    refine sc_ret ?_
    refine sx_ret1 (.inl rfl) rfl Tryd.results50 RF ?_
    intro w' hw'
    exact ⟨by simp [*], hw'.below MM⟩
  ·
    refine qf ?_
    refine qf ?_
    refine qf ?_
    refine qs (y_pick_f RF RF) ?_
    refine qs (y_assign RF) ?_
    refine sq_nil ?_
    refine sx_then ?_
    refine sc_ret ?_
    refine sx_ret1 (.inl rfl) rfl Tryd.results50 RF ?_
    intro w' hw'
    exact ⟨by simp [*], hw'.below MM⟩
theorem bad46 (x : Int) (w : World) : Calls Tryd.prog 46 #[.int .i64 x] w fun e w' => e = .returned (.bool (!inB x 0 100000)) ∧ Below w.heap.size w w' := by
  refine calls_of_SC (args := [.int .i64 x]) Tryd.func46 rfl Tryd.ntmps46 rfl ?_
  simp only [argL]
  refine sc_seq ?_
  refine sc_region ?_
  refine qs (y_assign RF) ?_
  refine sq_nil ?_
  refine sx_then ?_
  refine sc_seq ?_
  refine sc_region ?_
  refine qs (y_move RF) ?_
  refine qy (yc Tryd.call47 E3 (fun w1 _ => within47 _ _ _ w1)) ?_
  refine qs (y_not RF) ?_
  refine qs (y_assign RF) ?_
  refine sq_nil ?_
  refine sx_then ?_
  refine sc_ret ?_
  refine sx_ret1 (.inl rfl) rfl Tryd.results46 RF ?_
  intro w' hw'
  exact ⟨rfl, hw'.below MM⟩
theorem bad75 (x : Int) (w : World) : Calls Tryd.prog 75 #[.int .i64 x] w fun e w' => e = .returned (.bool (!inB x 0 1000)) ∧ Below w.heap.size w w' := by
  refine calls_of_SC (args := [.int .i64 x]) Tryd.func75 rfl Tryd.ntmps75 rfl ?_
  simp only [argL]
  refine sc_seq ?_
  refine sc_region ?_
  refine qs (y_assign RF) ?_
  refine sq_nil ?_
  refine sx_then ?_
  refine sc_seq ?_
  refine sc_region ?_
  refine qs (y_move RF) ?_
  refine qy (yc Tryd.call47 E3 (fun w1 _ => within47 _ _ _ w1)) ?_
  refine qs (y_not RF) ?_
  refine qs (y_assign RF) ?_
  refine sq_nil ?_
  refine sx_then ?_
  refine sc_ret ?_
  refine sx_ret1 (.inl rfl) rfl Tryd.results75 RF ?_
  intro w' hw'
  exact ⟨rfl, hw'.below MM⟩
theorem indexInt (g : FuncId) (caps : List Value) (p : Nat → Bool) (w : World) (a : Option Addr) (n c : Nat) (row : Nat → Value) (hn : n ≤ 9223372036854775807) (hel : ∀ i, i < n → a.isSome = true ∧ CA 0 w (elt a i 1) ([row i]))
    (hcg : ∀ args w, (callFunc g args).run Tryd.prog w = .ok (.enter g args) w) (hp : ∀ i, i < n → ∀ w1, Below w.heap.size w w1 → Calls Tryd.prog g (row i :: caps).toArray w1 fun e w' => e = .returned (.bool (p i)) ∧ Below w1.heap.size w1 w') :
    Calls Tryd.prog 79 #[.slice a n c, .func (.func g) #[] caps.toArray] w fun e w' => (∃ z : Int, e = .returned (.int .i64 z) ∧ (0 ≤ z ↔ (List.range n).any p = true)) ∧ Below w.heap.size w w' := by
  refine calls_of_SC (args := [.slice a n c, .func (.func g) #[] caps.toArray]) Tryd.func79 rfl Tryd.ntmps79 rfl ?_
  simp only [argL, Nat.zero_add]
  refine sc_seq ?_
  refine sc_region ?_
  refine qs (y_assign RF) ?_
  refine sq_nil ?_
  refine sx_then ?_
  refine sc_seq ?_
  refine sc_seq ?_
  refine sc_region ?_
  refine qs (y_move RF) ?_
  refine qs (y_len Tryd.underlying25 RF) ?_
  refine qs (y_move RF) ?_
  refine sq_nil ?_
  refine sx_then ?_
  refine sc_block ?_
  refine sc_loop (σ := Nat)
    (fun s => [(0, .slice a n c), (1, .func (.func g) #[] caps.toArray), (7, .int .i64 n), (8, .int .i64 s)])
    (fun s => [.reg 0 w])
    (fun s => s ≤ n ∧ ∀ j, j < s → p j = false)
    (fun s => n - s)
    (0) ?_ SU SE ?_
  · exact ⟨Nat.zero_le _, fun j hj => absurd hj (Nat.not_lt_zero j)⟩
  rintro k ⟨hk, hno⟩
  refine sc_seq ?_
  refine sc_region ?_
  refine qs (y_lss RF RF) ?_
  refine sq_nil ?_
  refine sx_then ?_
  refine sc_seq ?_
  refine scp (fun hc0 => ?_) (fun hc0 => ?_)
  ·
    have hk' : k < n := by omega
    have hsome := (hel k hk').1
    have hrow := (hel k hk').2
    refine sc_skip ?_
    refine sx_then ?_
    refine sc_seq ?_
    refine sc_block ?_
    refine sc_seq ?_
    refine sc_region ?_
    refine qs (y_move RF) ?_
    refine qs (y_assign RF) ?_
    refine sq_nil ?_
    refine sx_then ?_
    refine sc_seq ?_
    refine sc_region ?_
    refine qs (y_move RF) ?_
    refine qs (y_move RF) ?_
    refine qs (y_move RF) ?_
    refine qs IA25 ?_
    refine qs (by first | exact y_load_ca0 Tryd.underlying3 rfl RF MM hrow rfl | exact LD3) ?_
    refine qy (y_call (first := []) (caps := caps) (by exact rfl) hcg (EvL.cons RF EvL.nil) (fun w1 hw1 => hp k hk' w1 (hw1.below MM))) ?_
    refine sq_nil ?_
    refine sx_then ?_
    refine scp (fun hc1 => ?_) (fun hc1 => ?_)
    ·
      have hpk : p k = true := hc1
      refine sc_seq ?_
      refine sc_region ?_
      refine qs (y_move RF) ?_
      refine qs (y_assign RF) ?_
      refine sq_nil ?_
      refine sx_then ?_
      refine sc_ret ?_
      refine sx_blk_ret ?_
      refine sx_then_ret ?_
      refine sx_round_ret ?_
      refine sx_blk_ret ?_
      refine sx_then_ret ?_
      refine sx_ret1 (.inl rfl) rfl Tryd.results79 RF ?_
      intro w' hw'
      exact ⟨⟨_, rfl, fun _ => List.any_eq_true.2 ⟨k, List.mem_range.2 hk', hpk⟩, fun _ => by omega⟩, hw'.below MM⟩
    ·
      refine sc_skip ?_
      refine sx_blk ?_
      refine sx_then ?_
      refine sc_region ?_
      refine qs (y_add RF RF (by omega)) ?_
      refine qs (y_move RF) ?_
      refine sq_nil ?_
      refine sx_round (k + 1) ?_ ?_ SU SE
      · refine ⟨by omega, fun j hj => ?_⟩
        rcases Nat.lt_succ_iff_lt_or_eq.1 hj with h | rfl
        · exact hno j h
        · simpa using hc1
      · omega
  ·
    refine sc_exit ?_
    refine sx_then_exit ?_
    refine sx_round_exit ?_
    refine sx_blk_hit ?_
    refine sx_then ?_
    refine sc_seq ?_
    refine sc_region ?_
    refine qs (y_assign RF) ?_
    refine sq_nil ?_
    refine sx_then ?_
    refine sc_ret ?_
    refine sx_ret1 (.inl rfl) rfl Tryd.results79 RF ?_
    intro w' hw'
    refine ⟨⟨_, rfl, ?_⟩, hw'.below MM⟩
    have hkn : k = n := by omega
    subst hkn
    constructor
    · intro h; omega
    · intro h
      obtain ⟨j, hj, hpj⟩ := List.any_eq_true.1 h
      rw [hno j (List.mem_range.1 hj)] at hpj; cases hpj
theorem containsInt (g : FuncId) (caps : List Value) (p : Nat → Bool) (w : World) (a : Option Addr) (n c : Nat) (row : Nat → Value) (hn : n ≤ 9223372036854775807) (hel : ∀ i, i < n → a.isSome = true ∧ CA 0 w (elt a i 1) ([row i]))
    (hcg : ∀ args w, (callFunc g args).run Tryd.prog w = .ok (.enter g args) w) (hp : ∀ i, i < n → ∀ w1, Below w.heap.size w w1 → Calls Tryd.prog g (row i :: caps).toArray w1 fun e w' => e = .returned (.bool (p i)) ∧ Below w1.heap.size w1 w') :
    Calls Tryd.prog 48 #[.slice a n c, .func (.func g) #[] caps.toArray] w fun e w' => e = .returned (.bool ((List.range n).any p)) ∧ Below w.heap.size w w' := by
  refine calls_of_SC (args := [.slice a n c, .func (.func g) #[] caps.toArray]) Tryd.func48 rfl Tryd.ntmps48 rfl ?_
  simp only [argL, Nat.zero_add]
  refine sc_seq ?_
  refine sc_region ?_
  refine qs (y_assign RF) ?_
  refine sq_nil ?_
  refine sx_then ?_
  refine sc_seq ?_
  refine sc_region ?_
  refine qs (y_move RF) ?_
  refine qs (y_move RF) ?_
  refine sq_call (first := []) (caps := []) (vs := [.slice a n c, .func (.func g) #[] caps.toArray]) (Z := Int) (fun z => .int .i64 z) (fun _ => [.reg 0 w]) (fun z => 0 ≤ z ↔ (List.range n).any p = true) RF Tryd.call79 (EvL.cons RF (EvL.cons RF EvL.nil)) (fun w1 hw1 => (indexInt g caps p w1 a n c row hn (fun i hi => ⟨(hel i hi).1, CA.at (hel i hi).2 hw1 MM⟩) hcg (fun i hi w2 hb => hp i hi w2 ((hw1.below MM).trans (hb.mono (hw1.below MM).size)))).mono (fun e w2 ⟨⟨z, he, hz⟩, hb⟩ => ⟨z, hz, he, hw1.ext hb⟩)) rfl (fun z hz => ?_)
  refine qs (y_geq RF RF) ?_
  refine qs (y_assign RF) ?_
  refine sq_nil ?_
  refine sx_then ?_
  refine sc_ret ?_
  refine sx_ret1 (.inl rfl) rfl Tryd.results48 RF ?_
  intro w' hw'
  refine ⟨?_, hw'.below MM⟩
  congr 2
  rw [Bool.eq_iff_iff]; simpa using hz
/-- whether a number of a list is out of bounds -/
theorem has48 (g : FuncId) (hi : Int) (hcg : ∀ args w, (callFunc g args).run Tryd.prog w = .ok (.enter g args) w) (hbad : ∀ (x : Int) (w : World), Calls Tryd.prog g #[.int .i64 x] w fun e w' => e = .returned (.bool (!inB x 0 hi)) ∧ Below w.heap.size w w') (w : World) (a : Option Addr) (c : Nat) (l : List Int) (hl : RowsA iRow 1 0 w a l) : Calls Tryd.prog 48 #[.slice a l.length c, .func (.func g) #[] #[]] w fun e w' => e = .returned (.bool (!(l.all fun x => inB x 0 hi))) ∧ Below w.heap.size w w' := by
  refine (containsInt g [] (fun i => !inB (l.getD i 0) 0 hi) w a l.length c (fun i => .int .i64 (l.getD i 0)) hl.len (fun i hi => ⟨(hl.get 0 hi).1, (hl.get 0 hi).2⟩) hcg (fun i _ w1 _ => hbad _ w1)).mono ?_
  rintro e w' ⟨he, hb⟩
  rw [all_range_get l 0 (fun x => !inB x 0 hi), any_not] at he
  exact ⟨he, hb⟩
theorem far14 (w : World) (z : MA) (m : Mt) (hz : MtA 0 w z m) : Calls Tryd.prog 14 #[.agg (mV z m).toArray] w fun e w' => e = .returned (.bool (farB m)) ∧ Below w.heap.size w w' := by
  have hlen := hz.len
  refine calls_of_SC (args := [.agg (mV z m).toArray]) Tryd.func14 rfl Tryd.ntmps14 rfl ?_
  simp only [argL]
  refine sc_seq ?_
  refine sc_region ?_
  refine sq_box RF rfl (fun b1 => ?_)
  refine qs (y_assign RF) ?_
  refine sq_nil ?_
  refine sx_then ?_
  refine sc_seq ?_
  refine sc_seq ?_
  refine sc_region ?_
  refine qs (y_assign RF) ?_
  refine sq_nil ?_
  refine sx_then ?_
  refine sc_block ?_
  refine sc_loop (σ := Nat)
    (fun s => [(1, .pointer (some ⟨b1, 0, none⟩)), (3, .int .i64 s)])
    (fun s => [.blk b1 (.cells (mV z m).toArray 24 (0, 0)), .reg 0 w])
    (fun s => s ≤ m.length ∧ ∀ i, i < s → (m.getD i []).length ≤ 12)
    (fun s => m.length - s)
    (0) ?_ SU SE ?_
  · exact ⟨Nat.zero_le _, fun i hi => absurd hi (Nat.not_lt_zero i)⟩
  rintro k ⟨hk, hno⟩
  refine sc_seq ?_
  refine sc_seq ?_
  refine sc_region ?_
  refine qs (y_move RF) ?_
  refine qs FA24_22 ?_
  refine qs LD22 ?_
  refine qs (y_len Tryd.underlying22 RF) ?_
  refine qs (y_lss RF RF) ?_
  refine sq_nil ?_
  refine sx_then ?_
  refine scp (fun hc0 => ?_) (fun hc0 => ?_)
  ·
    have hk' : k < m.length := by omega
    obtain ⟨hs1, hc1, _⟩ := hz.row hk'
    refine sc_skip ?_
    refine sx_then ?_
    refine sc_seq ?_
    refine sc_block ?_
    refine sc_seq ?_
    refine sc_region ?_
    refine qs FA24_22 ?_
    refine qs LD22 ?_
    refine qs (y_move RF) ?_
    refine qs IA22 ?_
    refine qs LD25 ?_
    refine qs (y_len Tryd.underlying25 RF) ?_
    refine qs (y_gtr RF RF) ?_
    refine sq_nil ?_
    refine sx_then ?_
    refine scp (fun hc1 => ?_) (fun hc1 => ?_)
    ·
      refine sc_seq ?_
      refine sc_region ?_
      refine qs (y_assign RF) ?_
      refine sq_nil ?_
      refine sx_then ?_
      refine sc_ret ?_
      refine sx_blk_ret ?_
      refine sx_then_ret ?_
      refine sx_round_ret ?_
      refine sx_blk_ret ?_
      refine sx_then_ret ?_
      refine sx_ret1 (.inl rfl) rfl Tryd.results14 RF ?_
      intro w' hw'
      refine ⟨?_, hw'.below MM⟩
      congr 2; symm; unfold farB; rw [Bool.or_eq_true]; left
      exact List.any_eq_true.2 ⟨_, getD_mem (d := []) hk', decide_eq_true (by omega)⟩
    ·
      refine sc_skip ?_
      refine sx_blk ?_
      refine sx_then ?_
      refine sc_region ?_
      refine qs (y_move RF) ?_
      refine qs (y_add RF RF (by omega)) ?_
      refine qs (y_assign RF) ?_
      refine sq_nil ?_
      refine sx_round (k + 1) ?_ ?_ SU SE
      · refine ⟨by omega, fun i hi => ?_⟩
        rcases Nat.lt_succ_iff_lt_or_eq.1 hi with h | rfl
        · exact hno i h
        · omega
      · omega
  ·
    refine sc_exit ?_
    refine sx_then_exit ?_
    refine sx_round_exit ?_
    refine sx_blk_hit ?_
    refine sx_then ?_
    refine sc_seq ?_
    refine sc_region ?_
    refine qs FA24_22 ?_
    refine qs LD22 ?_
    refine qs (y_len Tryd.underlying22 RF) ?_
    refine qs (y_gtr RF RF) ?_
    refine qs (y_assign RF) ?_
    refine sq_nil ?_
    refine sx_then ?_
    refine sc_ret ?_
    refine sx_ret1 (.inl rfl) rfl Tryd.results14 RF ?_
    intro w' hw'
    refine ⟨?_, hw'.below MM⟩
    congr 2; unfold farB
    have hkn : k = m.length := by omega
    subst hkn
    rw [show (m.any fun l => decide (12 < l.length)) = false from by
      rw [List.any_eq_false]; intro x hx
      obtain ⟨i, hi, rfl⟩ := List.getElem_of_mem hx
      have := hno i hi
      rw [List.getD_eq_getElem?_getD, List.getElem?_eq_getElem hi] at this
      simpa using this, Bool.false_or]
    rw [decide_eq_decide]; omega
theorem market41 (w : World) (z : MA) (m : Mt) (hz : MtA 0 w z m) : Calls Tryd.prog 41 #[.agg (mV z m).toArray] w fun e w' => e = .returned (.bool (mkB m)) ∧ Below w.heap.size w w' := by
  have hlen := hz.len
  refine calls_of_SC (args := [.agg (mV z m).toArray]) Tryd.func41 rfl Tryd.ntmps41 rfl ?_
  simp only [argL]
  refine sc_seq ?_
  refine sc_region ?_
  refine sq_box RF rfl (fun b1 => ?_)
  refine qs (y_assign RF) ?_
  refine sq_nil ?_
  refine sx_then ?_
  refine sc_seq ?_
  refine sc_region ?_
  refine qs (y_assign RF) ?_
  refine sq_nil ?_
  refine sx_then ?_
  refine sc_seq ?_
  refine sc_seq ?_
  refine sc_region ?_
  refine qs FA24_22 ?_
  refine qs LD22 ?_
  refine qs (y_len Tryd.underlying22 RF) ?_
  refine qs (y_move RF) ?_
  refine sq_nil ?_
  refine sx_then ?_
  refine sc_block ?_
  refine sc_loop (σ := Nat)
    (fun s => [(1, .pointer (some ⟨b1, 0, none⟩)), (3, .func (.func 75) #[] #[]), (7, .slice z.a m.length z.c), (8, .int .i64 m.length), (9, .int .i64 s)])
    (fun s => [.blk b1 (.cells (mV z m).toArray 24 (0, 0)), .reg 0 w])
    (fun s => s ≤ m.length ∧ ∀ i, i < s → rowB m i (m.getD i []) = true)
    (fun s => m.length - s)
    (0) ?_ SU SE ?_
  · exact ⟨Nat.zero_le _, fun i hi => absurd hi (Nat.not_lt_zero i)⟩
  rintro k ⟨hk, hno⟩
  refine sc_seq ?_
  refine sc_region ?_
  refine qs (y_lss RF RF) ?_
  refine sq_nil ?_
  refine sx_then ?_
  refine sc_seq ?_
  refine scp (fun hc0 => ?_) (fun hc0 => ?_)
  ·
    have hk' : k < m.length := by omega
    obtain ⟨hs1, hc1', hr1⟩ := hz.row hk'
    refine sc_skip ?_
    refine sx_then ?_
    refine sc_seq ?_
    refine sc_block ?_
    refine sc_seq ?_
    refine sc_region ?_
    refine qs (y_move RF) ?_
    refine qs IA22 ?_
    refine qs LD25 ?_
    refine qs (y_assign RF) ?_
    refine qs (y_assign RF) ?_
    refine sq_nil ?_
    refine sx_then ?_
    refine sc_seq ?_
    refine sc_midE (Z := {v : Bool // v = !rowB m k (m.getD k [])}) (fun v => [(1, .pointer (some ⟨b1, 0, none⟩)), (3, .func (.func 75) #[] #[]), (7, .slice z.a m.length z.c), (8, .int .i64 m.length), (9, .int .i64 k), (31, .bool v.1)]) (fun _ => [.blk b1 (.cells (mV z m).toArray 24 (0, 0)), .reg 0 w]) ?_ ?_
    ·
      refine sc_region ?_
      refine qs (y_move RF) ?_
      refine qs (y_len Tryd.underlying25 RF) ?_
      refine qs FA24_22 ?_
      refine qs LD22 ?_
      refine qs (y_len Tryd.underlying22 RF) ?_
      refine qs (y_neq RF RF) ?_
      refine qs (y_move RF) ?_
      refine sp 20 (fun hg5_6 => ?_) (fun hg5_6 => ?_)
      ·
        refine qf ?_
        refine qf ?_
        refine qf ?_
        refine qs (y_pick_t RF RF) ?_
        refine qs (y_move RF) ?_
        refine qf ?_
        refine qf ?_
        refine qf ?_
        refine qf ?_
        refine qf ?_
        refine qs (y_pick_t RF RF) ?_
        refine sq_nil ?_
        exact sx_midE (⟨true, by unfold rowB; rw [decide_eq_false (by omega)]; rfl⟩) SU SE
      ·
        refine qg (y_move RF) ?_
        refine qg (y_move RF) ?_
        refine sq_gt RF RF (y_call (first := []) (caps := []) RF Tryd.call48 (EvL.cons RF (EvL.cons RF EvL.nil)) (fun w1 hw1 => has48 75 1000 Tryd.call75 bad75 w1 _ _ _ (hr1.at hw1 MM))) rfl ?_
        have hs2 := (hr1.get 0 (show k < (m.getD k []).length by omega)).1
        refine qs (y_pick_f RF RF) ?_
        refine qs (y_move RF) ?_
        refine sp 25 (fun hg5_11 => ?_) (fun hg5_11 => ?_)
        ·
          refine qf ?_
          refine qf ?_
          refine qf ?_
          refine qf ?_
          refine qf ?_
          refine qs (y_pick_t RF RF) ?_
          refine sq_nil ?_
          exact sx_midE (⟨true, by unfold rowB; rw [show ((m.getD k []).all fun x => inB x 0 1000) = false from by simpa using hg5_11]; simp⟩) SU SE
        ·
          refine qg (y_move RF) ?_
          refine qg (y_move RF) ?_
          refine qg IA25 ?_
          refine qg (by first | exact y_load_ca0 Tryd.underlying3 rfl RF MM (hr1.get 0 (show k < (m.getD k []).length by omega)).2 rfl | exact LD3) ?_
          refine qg (y_neq RF RF) ?_
          refine qs (y_pick_f RF RF) ?_
          refine sq_nil ?_
          exact sx_midE (⟨_, by unfold rowB; rw [decide_eq_true (show (m.getD k []).length = m.length by omega), show ((m.getD k []).all fun x => inB x 0 1000) = true from by simpa using hg5_11]⟩) SU SE
    rintro ⟨vb, hvb⟩
    try dsimp only
    refine sx_then ?_
    refine scp (fun hc1 => ?_) (fun hc1 => ?_)
    ·
      refine sc_seq ?_
      refine sc_region ?_
      refine qs (y_assign RF) ?_
      refine sq_nil ?_
      refine sx_then ?_
      refine sc_ret ?_
      refine sx_blk_ret ?_
      refine sx_then_ret ?_
      refine sx_round_ret ?_
      refine sx_blk_ret ?_
      refine sx_then_ret ?_
      refine sx_ret1 (.inl rfl) rfl Tryd.results41 RF ?_
      intro w' hw'
      refine ⟨?_, hw'.below MM⟩
      have hv2 : vb = true := hc1
      rw [hvb] at hv2
      unfold mkB; rw [rowsB_no hk' (by simpa using hv2)]; rfl
    ·
      refine sc_skip ?_
      refine sx_blk ?_
      refine sx_then ?_
      refine sc_region ?_
      refine qs (y_add RF RF (by omega)) ?_
      refine qs (y_move RF) ?_
      refine sq_nil ?_
      refine sx_round (k + 1) ?_ ?_ SU SE
      · refine ⟨by omega, fun i hi => ?_⟩
        rcases Nat.lt_succ_iff_lt_or_eq.1 hi with h | rfl
        · exact hno i h
        · have hv2 : vb = false := hc1
          rw [hvb] at hv2; simpa using hv2
      · omega
  ·
    refine sc_exit ?_
    refine sx_then_exit ?_
    refine sx_round_exit ?_
    refine sx_blk_hit ?_
    refine sx_then ?_
    refine sc_seq ?_
    refine sc_region ?_
    refine qs FA24_22 ?_
    refine qs LD22 ?_
    refine qs (y_len Tryd.underlying22 RF) ?_
    refine qs (y_leq RF RF) ?_
    refine qs (y_assign RF) ?_
    refine sq_nil ?_
    refine sx_then ?_
    refine sc_ret ?_
    refine sx_ret1 (.inl rfl) rfl Tryd.results41 RF ?_
    intro w' hw'
    refine ⟨?_, hw'.below MM⟩
    have hkn : k = m.length := by omega
    subst hkn
    unfold mkB; rw [rowsB_yes hno, Bool.true_and]; congr 2; rw [decide_eq_decide]; omega
theorem wants49 (w : World) (z : MA) (m : Mt) (hz : MtA 0 w z m) (i k : Nat) (hi : i < m.length) (hk : k < (m.getD i []).length) : Calls Tryd.prog 49 #[.agg (mV z m).toArray, .int .i64 i, .int .i64 k] w fun e w' => e = .returned (.bool (wantsB m i k)) ∧ Below w.heap.size w w' := by
  obtain ⟨hs1, hc1, hs2, hc2⟩ := hz.cell hi hk
  refine calls_of_SC (args := [.agg (mV z m).toArray, .int .i64 i, .int .i64 k]) Tryd.func49 rfl Tryd.ntmps49 rfl ?_
  simp only [argL, Nat.reduceAdd, Nat.zero_add]
  refine sc_seq ?_
  refine sc_region ?_
  refine sq_box RF rfl (fun b3 => ?_)
  refine qs (y_assign RF) ?_
  refine sq_nil ?_
  refine sx_then ?_
  refine sc_seq ?_
  refine sc_region ?_
  refine qs (y_move RF) ?_
  refine qs (y_move RF) ?_
  refine qs (y_eql RF RF) ?_
  refine qs (y_move RF) ?_
  refine sp 10 (fun hg1_3 => ?_) (fun hg1_3 => ?_)
  ·
    refine qf ?_
    refine qf ?_
    refine qf ?_
    refine qf ?_
    refine qf ?_
    refine qf ?_
    refine qf ?_
    refine qf ?_
    refine qf ?_
    refine qf ?_
    refine qs (y_pick_t RF RF) ?_
    refine qs (y_assign RF) ?_
    refine sq_nil ?_
    refine sx_then ?_
    refine sc_ret ?_
    refine sx_ret1 (.inl rfl) rfl Tryd.results49 RF ?_
    intro w' hw'
    refine ⟨?_, hw'.below MM⟩
    unfold wantsB; rw [decide_eq_true (show i = k by omega)]; rfl
  ·
    refine qg FA75_24 ?_
    refine qg FA24_22 ?_
    refine qg LD22 ?_
    refine qg (y_move RF) ?_
    refine qg IA22 ?_
    refine qg LD25 ?_
    refine qg (y_move RF) ?_
    refine qg IA25 ?_
    refine qg LD3 ?_
    refine qg (y_gtr RF RF) ?_
    refine qs (y_pick_f RF RF) ?_
    refine qs (y_assign RF) ?_
    refine sq_nil ?_
    refine sx_then ?_
    refine sc_ret ?_
    refine sx_ret1 (.inl rfl) rfl Tryd.results49 RF ?_
    intro w' hw'
    refine ⟨?_, hw'.below MM⟩
    unfold wantsB; rw [decide_eq_false (show ¬ i = k by omega), Bool.false_or]
theorem wants51 (w : World) (z : MA) (m : Mt) (hz : MtA 0 w z m) (i k : Nat) (hi : i < m.length) (hk : k < (m.getD i []).length) : Calls Tryd.prog 51 #[.agg (mV z m).toArray, .int .i64 i, .int .i64 k] w fun e w' => e = .returned (.bool (wantsB m i k)) ∧ Below w.heap.size w w' := by
  obtain ⟨hs1, hc1, hs2, hc2⟩ := hz.cell hi hk
  refine calls_of_SC (args := [.agg (mV z m).toArray, .int .i64 i, .int .i64 k]) Tryd.func51 rfl Tryd.ntmps51 rfl ?_
  simp only [argL, Nat.reduceAdd, Nat.zero_add]
  refine sc_seq ?_
  refine sc_region ?_
  refine sq_box RF rfl (fun b3 => ?_)
  refine qs (y_assign RF) ?_
  refine sq_nil ?_
  refine sx_then ?_
  refine sc_seq ?_
  refine sc_region ?_
  refine qs (y_move RF) ?_
  refine qs (y_move RF) ?_
  refine qs (y_eql RF RF) ?_
  refine qs (y_move RF) ?_
  refine sp 10 (fun hg1_3 => ?_) (fun hg1_3 => ?_)
  ·
    refine qf ?_
    refine qf ?_
    refine qf ?_
    refine qf ?_
    refine qf ?_
    refine qf ?_
    refine qf ?_
    refine qf ?_
    refine qf ?_
    refine qs (y_pick_t RF RF) ?_
    refine qs (y_assign RF) ?_
    refine sq_nil ?_
    refine sx_then ?_
    refine sc_ret ?_
    refine sx_ret1 (.inl rfl) rfl Tryd.results51 RF ?_
    intro w' hw'
    refine ⟨?_, hw'.below MM⟩
    unfold wantsB; rw [decide_eq_true (show i = k by omega)]; rfl
  ·
    refine qg FA24_22 ?_
    refine qg LD22 ?_
    refine qg (y_move RF) ?_
    refine qg IA22 ?_
    refine qg LD25 ?_
    refine qg (y_move RF) ?_
    refine qg IA25 ?_
    refine qg LD3 ?_
    refine qg (y_gtr RF RF) ?_
    refine qs (y_pick_f RF RF) ?_
    refine qs (y_assign RF) ?_
    refine sq_nil ?_
    refine sx_then ?_
    refine sc_ret ?_
    refine sx_ret1 (.inl rfl) rfl Tryd.results51 RF ?_
    intro w' hw'
    refine ⟨?_, hw'.below MM⟩
    unfold wantsB; rw [decide_eq_false (show ¬ i = k by omega), Bool.false_or]
end Go.Proofs.YtpijahglojichaaDoor
