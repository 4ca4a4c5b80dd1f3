/- The walks of the smallest functions, and of what looks whether it is a cut. -/
import Derived.Test.YtfceajkofpafpaaSW10
import Derived.Test.YtfceajkofpafpaaEng25
import Derived.Test.YtfceajkofpafpaaHDat
namespace Go.Proofs.Ytfceajkofpafpaa
open Go Go.Eng Go.RowKit Go.Proofs
open Go.Proofs.Ytfceajkofpafpaa.Sc (iRow spRow sp0 Sp getD_of get_of_lt any_range_get all_not_any all_getD)
set_option maxRecDepth 100000
theorem iRow_len (n : Int) : (iRow n).length = 1 := rfl
theorem flat_iget {l : List Int} {i : Nat} {x : Int} (h : l[i]? = some x) : (l.flatMap iRow)[i * 1]? = some (.int .i64 x) := flat_get iRow_len l i x h 0 _ rfl
theorem iflat_one (l : List Int) : ∀ v, v ∈ l.flatMap iRow → v.oneCell' = true := flat_one (fun _ u hu => by simp [iRow] at hu; subst hu; rfl) l
theorem iflat_len (l : List Int) : (l.flatMap iRow).length = l.length := by rw [flat_len iRow_len, Nat.mul_one]
def ctV (c : Ct) (a : Option Addr) (cp : Nat) : List Value := [.int .i64 c.wide, .int .i64 c.high, .slice a c.piece.length cp]
def picV (c : Ct) (a : Option Addr) (cp b : Nat) : List Value := [.int .i64 c.wide, .int .i64 c.high, .slice a c.piece.length cp, .map (some b)]
def cK (p : Int × Int) : Value := .agg #[.int .i64 p.1, .int .i64 p.2]
def iV (n : Int) : Value := .int .i64 n
def okC (p : Int × Int) : Prop := (-1000 ≤ p.1 ∧ p.1 ≤ 1000) ∧ (-1000 ≤ p.2 ∧ p.2 ≤ 1000)
theorem cK_inj (a b : Int × Int) (h : cK a = cK b) : a = b := by simp [cK] at h; exact Prod.ext h.1 h.2
theorem keyInt (d : Nat) (n : Int) (h : -1000 ≤ n ∧ n ≤ 1000) : Try.prog.keyLits (d + 1) 3 [.int .i64 n] = some [.int .i64 n] := by
  have hw : (Lit.int .i64 n).wf = true := by
    unfold Lit.wf; simp only [Bool.and_eq_true, decide_eq_true_eq]
    constructor
    · exact Int.le_trans (show IntKind.i64.min ≤ -1000 by decide) h.1
    · exact Int.le_trans h.2 (show (1000 : Int) ≤ IntKind.i64.max by decide)
  unfold Program.keyLits
  simp [Try.underlying3, hw]
theorem key137 : WideMaps.KeyLaw Try.prog 137 := deep_law (m := 3) (by omega) (by kernel_rfl) (by kernel_rfl) (by kernel_rfl)
theorem key137_of (x : Int × Int) (h : okC x) : ∃ l, keyOf Try.prog 137 (cK x) = some l := by
  obtain ⟨i, j⟩ := x
  have hu := Try.underlying137
  have hc : Try.prog.cellsOf 137 = 2 := by kernel_rfl
  have hc3 : Try.prog.cellsOf 3 = 1 := by kernel_rfl
  have hkt : Try.prog.keyType 137 = true := by kernel_rfl
  have hf : (cK (i, j)).formed Try.prog 137 = true := by simp [cK, Value.formed, hu, hc]
  have h1 : Nat.ble 1 Try.prog.types.size = true := by kernel_rfl
  obtain ⟨d, hd⟩ : ∃ d, Try.prog.types.size + 1 = d + 2 := ⟨Try.prog.types.size - 1, by have := Nat.le_of_ble_eq_true h1; omega⟩
  have hl : Try.prog.keyLits (d + 2) 137 [.int .i64 i, .int .i64 j] = some [.int .i64 i, .int .i64 j] := by
    unfold Program.keyLits
    simp [hu, hc, hc3, keyInt d i h.1, keyInt d j h.2]
  unfold keyOf
  simp only [hu, hkt, hf, hd]
  rw [show (cK (i, j)).cells.toList = [.int .i64 i, .int .i64 j] from rfl, hl]
  exact ⟨_, rfl⟩
theorem kv137 : KV Try.prog 137 cK okC := KV.of_law key137 key137_of cK_inj
theorem key97 : WideMaps.KeyLaw Try.prog 97 := deep_law (m := 3) (by omega) (by kernel_rfl) (by kernel_rfl) (by kernel_rfl)
theorem key97_of (x : Int × Int) (h : okC x) : ∃ l, keyOf Try.prog 97 (cK x) = some l := by
  obtain ⟨i, j⟩ := x
  have hu := Try.underlying97
  have hc : Try.prog.cellsOf 97 = 2 := by kernel_rfl
  have hc3 : Try.prog.cellsOf 3 = 1 := by kernel_rfl
  have hkt : Try.prog.keyType 97 = true := by kernel_rfl
  have hf : (cK (i, j)).formed Try.prog 97 = true := by simp [cK, Value.formed, hu, hc]
  have h1 : Nat.ble 1 Try.prog.types.size = true := by kernel_rfl
  obtain ⟨d, hd⟩ : ∃ d, Try.prog.types.size + 1 = d + 2 := ⟨Try.prog.types.size - 1, by have := Nat.le_of_ble_eq_true h1; omega⟩
  have hl : Try.prog.keyLits (d + 2) 97 [.int .i64 i, .int .i64 j] = some [.int .i64 i, .int .i64 j] := by
    unfold Program.keyLits
    simp [hu, hc, hc3, keyInt d i h.1, keyInt d j h.2]
  unfold keyOf
  simp only [hu, hkt, hf, hd]
  rw [show (cK (i, j)).cells.toList = [.int .i64 i, .int .i64 j] from rfl, hl]
  exact ⟨_, rfl⟩
theorem kv97 : KV Try.prog 97 cK okC := KV.of_law key97 key97_of cK_inj
theorem FA113_3 {p : Prop} (h : p := by first | exact y_fab Try.underlying113 RF (by exact Try.sizeOf3) RF rfl | exact y_fa Try.underlying113 RF (by exact Try.sizeOf3) RF rfl) : p := h
theorem FA137_3 {p : Prop} (h : p := by first | exact y_fab Try.underlying137 RF (by exact Try.sizeOf3) RF rfl | exact y_fa Try.underlying137 RF (by exact Try.sizeOf3) RF rfl) : p := h
theorem FA143_137 {p : Prop} (h : p := by first | exact y_fab Try.underlying143 RF (by exact Try.sizeOf137) RF rfl | exact y_fa Try.underlying143 RF (by exact Try.sizeOf137) RF rfl) : p := h
theorem FA179_177 {p : Prop} (h : p := by first | exact y_fab Try.underlying179 RF (by exact Try.sizeOf177) RF rfl | exact y_fa Try.underlying179 RF (by exact Try.sizeOf177) RF rfl) : p := h
theorem FA179_62 {p : Prop} (h : p := by first | exact y_fab Try.underlying179 RF (by exact Try.sizeOf62) RF rfl | exact y_fa Try.underlying179 RF (by exact Try.sizeOf62) RF rfl) : p := h
theorem FA179_64 {p : Prop} (h : p := by first | exact y_fab Try.underlying179 RF (by exact Try.sizeOf64) RF rfl | exact y_fa Try.underlying179 RF (by exact Try.sizeOf64) RF rfl) : p := h
theorem FA196_3 {p : Prop} (h : p := by first | exact y_fab Try.underlying196 RF (by exact Try.sizeOf3) RF rfl | exact y_fa Try.underlying196 RF (by exact Try.sizeOf3) RF rfl) : p := h
theorem FA201_45 {p : Prop} (h : p := by first | exact y_fab Try.underlying201 RF (by exact Try.sizeOf45) RF rfl | exact y_fa Try.underlying201 RF (by exact Try.sizeOf45) RF rfl) : p := h
theorem FA201_47 {p : Prop} (h : p := by first | exact y_fab Try.underlying201 RF (by exact Try.sizeOf47) RF rfl | exact y_fa Try.underlying201 RF (by exact Try.sizeOf47) RF rfl) : p := h
theorem FA203_47 {p : Prop} (h : p := by first | exact y_fab Try.underlying203 RF (by exact Try.sizeOf47) RF rfl | exact y_fa Try.underlying203 RF (by exact Try.sizeOf47) RF rfl) : p := h
theorem FA217_3 {p : Prop} (h : p := by first | exact y_fab Try.underlying217 RF (by exact Try.sizeOf3) RF rfl | exact y_fa Try.underlying217 RF (by exact Try.sizeOf3) RF rfl) : p := h
theorem FA220_3 {p : Prop} (h : p := by first | exact y_fab Try.underlying220 RF (by exact Try.sizeOf3) RF rfl | exact y_fa Try.underlying220 RF (by exact Try.sizeOf3) RF rfl) : p := h
theorem FA220_70 {p : Prop} (h : p := by first | exact y_fab Try.underlying220 RF (by exact Try.sizeOf70) RF rfl | exact y_fa Try.underlying220 RF (by exact Try.sizeOf70) RF rfl) : p := h
theorem FA229_3 {p : Prop} (h : p := by first | exact y_fab Try.underlying229 RF (by exact Try.sizeOf3) RF rfl | exact y_fa Try.underlying229 RF (by exact Try.sizeOf3) RF rfl) : p := h
theorem FA232_59 {p : Prop} (h : p := by first | exact y_fab Try.underlying232 RF (by exact Try.sizeOf59) RF rfl | exact y_fa Try.underlying232 RF (by exact Try.sizeOf59) RF rfl) : p := h
theorem FA238_38 {p : Prop} (h : p := by first | exact y_fab Try.underlying238 RF (by exact Try.sizeOf38) RF rfl | exact y_fa Try.underlying238 RF (by exact Try.sizeOf38) RF rfl) : p := h
theorem FA24_22 {p : Prop} (h : p := by first | exact y_fab Try.underlying24 RF (by exact Try.sizeOf22) RF rfl | exact y_fa Try.underlying24 RF (by exact Try.sizeOf22) RF rfl) : p := h
theorem FA24_3 {p : Prop} (h : p := by first | exact y_fab Try.underlying24 RF (by exact Try.sizeOf3) RF rfl | exact y_fa Try.underlying24 RF (by exact Try.sizeOf3) RF rfl) : p := h
theorem FA255_59 {p : Prop} (h : p := by first | exact y_fab Try.underlying255 RF (by exact Try.sizeOf59) RF rfl | exact y_fa Try.underlying255 RF (by exact Try.sizeOf59) RF rfl) : p := h
theorem FA255_81 {p : Prop} (h : p := by first | exact y_fab Try.underlying255 RF (by exact Try.sizeOf81) RF rfl | exact y_fa Try.underlying255 RF (by exact Try.sizeOf81) RF rfl) : p := h
theorem FA256_59 {p : Prop} (h : p := by first | exact y_fab Try.underlying256 RF (by exact Try.sizeOf59) RF rfl | exact y_fa Try.underlying256 RF (by exact Try.sizeOf59) RF rfl) : p := h
theorem FA256_81 {p : Prop} (h : p := by first | exact y_fab Try.underlying256 RF (by exact Try.sizeOf81) RF rfl | exact y_fa Try.underlying256 RF (by exact Try.sizeOf81) RF rfl) : p := h
theorem FA257_59 {p : Prop} (h : p := by first | exact y_fab Try.underlying257 RF (by exact Try.sizeOf59) RF rfl | exact y_fa Try.underlying257 RF (by exact Try.sizeOf59) RF rfl) : p := h
theorem FA257_81 {p : Prop} (h : p := by first | exact y_fab Try.underlying257 RF (by exact Try.sizeOf81) RF rfl | exact y_fa Try.underlying257 RF (by exact Try.sizeOf81) RF rfl) : p := h
theorem FA38_3 {p : Prop} (h : p := by first | exact y_fab Try.underlying38 RF (by exact Try.sizeOf3) RF rfl | exact y_fa Try.underlying38 RF (by exact Try.sizeOf3) RF rfl) : p := h
theorem FA40_3 {p : Prop} (h : p := by first | exact y_fab Try.underlying40 RF (by exact Try.sizeOf3) RF rfl | exact y_fa Try.underlying40 RF (by exact Try.sizeOf3) RF rfl) : p := h
theorem FA40_38 {p : Prop} (h : p := by first | exact y_fab Try.underlying40 RF (by exact Try.sizeOf38) RF rfl | exact y_fa Try.underlying40 RF (by exact Try.sizeOf38) RF rfl) : p := h
theorem FA42_3 {p : Prop} (h : p := by first | exact y_fab Try.underlying42 RF (by exact Try.sizeOf3) RF rfl | exact y_fa Try.underlying42 RF (by exact Try.sizeOf3) RF rfl) : p := h
theorem FA45_3 {p : Prop} (h : p := by first | exact y_fab Try.underlying45 RF (by exact Try.sizeOf3) RF rfl | exact y_fa Try.underlying45 RF (by exact Try.sizeOf3) RF rfl) : p := h
theorem FA45_32 {p : Prop} (h : p := by first | exact y_fab Try.underlying45 RF (by exact Try.sizeOf32) RF rfl | exact y_fa Try.underlying45 RF (by exact Try.sizeOf32) RF rfl) : p := h
theorem FA45_38 {p : Prop} (h : p := by first | exact y_fab Try.underlying45 RF (by exact Try.sizeOf38) RF rfl | exact y_fa Try.underlying45 RF (by exact Try.sizeOf38) RF rfl) : p := h
theorem FA47_3 {p : Prop} (h : p := by first | exact y_fab Try.underlying47 RF (by exact Try.sizeOf3) RF rfl | exact y_fa Try.underlying47 RF (by exact Try.sizeOf3) RF rfl) : p := h
theorem FA47_38 {p : Prop} (h : p := by first | exact y_fab Try.underlying47 RF (by exact Try.sizeOf38) RF rfl | exact y_fa Try.underlying47 RF (by exact Try.sizeOf38) RF rfl) : p := h
theorem FA52_3 {p : Prop} (h : p := by first | exact y_fab Try.underlying52 RF (by exact Try.sizeOf3) RF rfl | exact y_fa Try.underlying52 RF (by exact Try.sizeOf3) RF rfl) : p := h
theorem FA52_47 {p : Prop} (h : p := by first | exact y_fab Try.underlying52 RF (by exact Try.sizeOf47) RF rfl | exact y_fa Try.underlying52 RF (by exact Try.sizeOf47) RF rfl) : p := h
theorem FA59_3 {p : Prop} (h : p := by first | exact y_fab Try.underlying59 RF (by exact Try.sizeOf3) RF rfl | exact y_fa Try.underlying59 RF (by exact Try.sizeOf3) RF rfl) : p := h
theorem FA59_38 {p : Prop} (h : p := by first | exact y_fab Try.underlying59 RF (by exact Try.sizeOf38) RF rfl | exact y_fa Try.underlying59 RF (by exact Try.sizeOf38) RF rfl) : p := h
theorem FA62_3 {p : Prop} (h : p := by first | exact y_fab Try.underlying62 RF (by exact Try.sizeOf3) RF rfl | exact y_fa Try.underlying62 RF (by exact Try.sizeOf3) RF rfl) : p := h
theorem FA62_4 {p : Prop} (h : p := by first | exact y_fab Try.underlying62 RF (by exact Try.sizeOf4) RF rfl | exact y_fa Try.underlying62 RF (by exact Try.sizeOf4) RF rfl) : p := h
theorem FA62_59 {p : Prop} (h : p := by first | exact y_fab Try.underlying62 RF (by exact Try.sizeOf59) RF rfl | exact y_fa Try.underlying62 RF (by exact Try.sizeOf59) RF rfl) : p := h
theorem FA62_60 {p : Prop} (h : p := by first | exact y_fab Try.underlying62 RF (by exact Try.sizeOf60) RF rfl | exact y_fa Try.underlying62 RF (by exact Try.sizeOf60) RF rfl) : p := h
theorem FA70_3 {p : Prop} (h : p := by first | exact y_fab Try.underlying70 RF (by exact Try.sizeOf3) RF rfl | exact y_fa Try.underlying70 RF (by exact Try.sizeOf3) RF rfl) : p := h
theorem FA74_3 {p : Prop} (h : p := by first | exact y_fab Try.underlying74 RF (by exact Try.sizeOf3) RF rfl | exact y_fa Try.underlying74 RF (by exact Try.sizeOf3) RF rfl) : p := h
theorem FA81_3 {p : Prop} (h : p := by first | exact y_fab Try.underlying81 RF (by exact Try.sizeOf3) RF rfl | exact y_fa Try.underlying81 RF (by exact Try.sizeOf3) RF rfl) : p := h
theorem FA81_38 {p : Prop} (h : p := by first | exact y_fab Try.underlying81 RF (by exact Try.sizeOf38) RF rfl | exact y_fa Try.underlying81 RF (by exact Try.sizeOf38) RF rfl) : p := h
theorem FA84_82 {p : Prop} (h : p := by first | exact y_fab Try.underlying84 RF (by exact Try.sizeOf82) RF rfl | exact y_fa Try.underlying84 RF (by exact Try.sizeOf82) RF rfl) : p := h
theorem FA87_3 {p : Prop} (h : p := by first | exact y_fab Try.underlying87 RF (by exact Try.sizeOf3) RF rfl | exact y_fa Try.underlying87 RF (by exact Try.sizeOf3) RF rfl) : p := h
theorem FA90_88 {p : Prop} (h : p := by first | exact y_fab Try.underlying90 RF (by exact Try.sizeOf88) RF rfl | exact y_fa Try.underlying90 RF (by exact Try.sizeOf88) RF rfl) : p := h
theorem FA97_3 {p : Prop} (h : p := by first | exact y_fab Try.underlying97 RF (by exact Try.sizeOf3) RF rfl | exact y_fa Try.underlying97 RF (by exact Try.sizeOf3) RF rfl) : p := h
theorem IA111 {p : Prop} (h : p := by first | exact y_ia_blk Try.underlying111 Try.sizeOf3 RF RF (by omega) | exact y_ia_el Try.underlying111 Try.sizeOf3 RF RF (by omega) (by first | assumption | simp)) : p := h
theorem IA115 {p : Prop} (h : p := by first | exact y_ia_blk Try.underlying115 Try.sizeOf111 RF RF (by omega) | exact y_ia_el Try.underlying115 Try.sizeOf111 RF RF (by omega) (by first | assumption | simp)) : p := h
theorem IA164 {p : Prop} (h : p := by first | exact y_ia_blk Try.underlying164 Try.sizeOf47 RF RF (by omega) | exact y_ia_el Try.underlying164 Try.sizeOf47 RF RF (by omega) (by first | assumption | simp)) : p := h
theorem IA174 {p : Prop} (h : p := by first | exact y_ia_blk Try.underlying174 Try.sizeOf220 RF RF (by omega) | exact y_ia_el Try.underlying174 Try.sizeOf220 RF RF (by omega) (by first | assumption | simp)) : p := h
theorem IA176 {p : Prop} (h : p := by first | exact y_ia_blk Try.underlying176 Try.sizeOf4 RF RF (by omega) | exact y_ia_el Try.underlying176 Try.sizeOf4 RF RF (by omega) (by first | assumption | simp)) : p := h
theorem IA189 {p : Prop} (h : p := by first | exact y_ia_blk Try.underlying189 Try.sizeOf135 RF RF (by omega) | exact y_ia_el Try.underlying189 Try.sizeOf135 RF RF (by omega) (by first | assumption | simp)) : p := h
theorem IA214 {p : Prop} (h : p := by first | exact y_ia_blk Try.underlying214 Try.sizeOf81 RF RF (by omega) | exact y_ia_el Try.underlying214 Try.sizeOf81 RF RF (by omega) (by first | assumption | simp)) : p := h
theorem IA22 {p : Prop} (h : p := by first | exact y_ia_blk Try.underlying22 Try.sizeOf3 RF RF (by omega) | exact y_ia_el Try.underlying22 Try.sizeOf3 RF RF (by omega) (by first | assumption | simp)) : p := h
theorem IA245 {p : Prop} (h : p := by first | exact y_ia_blk Try.underlying245 Try.sizeOf243 RF RF (by omega) | exact y_ia_el Try.underlying245 Try.sizeOf243 RF RF (by omega) (by first | assumption | simp)) : p := h
theorem IA251 {p : Prop} (h : p := by first | exact y_ia_blk Try.underlying251 Try.sizeOf247 RF RF (by omega) | exact y_ia_el Try.underlying251 Try.sizeOf247 RF RF (by omega) (by first | assumption | simp)) : p := h
theorem IA32 {p : Prop} (h : p := by first | exact y_ia_blk Try.underlying32 Try.sizeOf40 RF RF (by omega) | exact y_ia_el Try.underlying32 Try.sizeOf40 RF RF (by omega) (by first | assumption | simp)) : p := h
theorem IA33 {p : Prop} (h : p := by first | exact y_ia_blk Try.underlying33 Try.sizeOf42 RF RF (by omega) | exact y_ia_el Try.underlying33 Try.sizeOf42 RF RF (by omega) (by first | assumption | simp)) : p := h
theorem IA53 {p : Prop} (h : p := by first | exact y_ia_blk Try.underlying53 Try.sizeOf52 RF RF (by omega) | exact y_ia_el Try.underlying53 Try.sizeOf52 RF RF (by omega) (by first | assumption | simp)) : p := h
theorem IA54 {p : Prop} (h : p := by first | exact y_ia_blk Try.underlying54 Try.sizeOf38 RF RF (by omega) | exact y_ia_el Try.underlying54 Try.sizeOf38 RF RF (by omega) (by first | assumption | simp)) : p := h
theorem IA60 {p : Prop} (h : p := by first | exact y_ia_blk Try.underlying60 Try.sizeOf84 RF RF (by omega) | exact y_ia_el Try.underlying60 Try.sizeOf84 RF RF (by omega) (by first | assumption | simp)) : p := h
theorem IA64 {p : Prop} (h : p := by first | exact y_ia_blk Try.underlying64 Try.sizeOf70 RF RF (by omega) | exact y_ia_el Try.underlying64 Try.sizeOf70 RF RF (by omega) (by first | assumption | simp)) : p := h
theorem IA67 {p : Prop} (h : p := by first | exact y_ia_blk Try.underlying67 Try.sizeOf64 RF RF (by omega) | exact y_ia_el Try.underlying67 Try.sizeOf64 RF RF (by omega) (by first | assumption | simp)) : p := h
theorem IA71 {p : Prop} (h : p := by first | exact y_ia_blk Try.underlying71 Try.sizeOf87 RF RF (by omega) | exact y_ia_el Try.underlying71 Try.sizeOf87 RF RF (by omega) (by first | assumption | simp)) : p := h
theorem LD111 {p : Prop} (h : p := by first | exact y_load_cajj Try.underlying111 rfl RF MM (by assumption) RF | exact y_load_blk Try.underlying111 rfl RF MM RF | exact y_load_caj Try.underlying111 rfl RF MM (by assumption) RF | exact y_load_ca0 Try.underlying111 rfl RF MM (by assumption) RF) : p := h
theorem LD113 {p : Prop} (h : p := by first | exact y_load_all Try.underlying113 rfl Try.sizeOf113 RF MM RF | exact y_load_2 Try.underlying113 rfl Try.sizeOf113 RF MM RF RF | exact y_load_ca Try.underlying113 rfl Try.sizeOf113 RF MM (by assumption) RF | exact y_load_part Try.underlying113 rfl Try.sizeOf113 RF MM rfl | exact y_load_capart Try.underlying113 rfl Try.sizeOf113 RF MM (by assumption) rfl) : p := h
theorem LD115 {p : Prop} (h : p := by first | exact y_load_cajj Try.underlying115 rfl RF MM (by assumption) RF | exact y_load_blk Try.underlying115 rfl RF MM RF | exact y_load_caj Try.underlying115 rfl RF MM (by assumption) RF | exact y_load_ca0 Try.underlying115 rfl RF MM (by assumption) RF) : p := h
theorem LD125 {p : Prop} (h : p := by first | exact y_load_cajj Try.underlying125 rfl RF MM (by assumption) RF | exact y_load_blk Try.underlying125 rfl RF MM RF | exact y_load_caj Try.underlying125 rfl RF MM (by assumption) RF | exact y_load_ca0 Try.underlying125 rfl RF MM (by assumption) RF) : p := h
theorem LD135 {p : Prop} (h : p := by first | exact y_load_cajj Try.underlying135 rfl RF MM (by assumption) RF | exact y_load_blk Try.underlying135 rfl RF MM RF | exact y_load_caj Try.underlying135 rfl RF MM (by assumption) RF | exact y_load_ca0 Try.underlying135 rfl RF MM (by assumption) RF) : p := h
theorem LD137 {p : Prop} (h : p := by first | exact y_load_all Try.underlying137 rfl Try.sizeOf137 RF MM RF | exact y_load_2 Try.underlying137 rfl Try.sizeOf137 RF MM RF RF | exact y_load_ca Try.underlying137 rfl Try.sizeOf137 RF MM (by assumption) RF | exact y_load_part Try.underlying137 rfl Try.sizeOf137 RF MM rfl | exact y_load_capart Try.underlying137 rfl Try.sizeOf137 RF MM (by assumption) rfl) : p := h
theorem LD138 {p : Prop} (h : p := by first | exact y_load_all Try.underlying138 rfl Try.sizeOf138 RF MM RF | exact y_load_ca Try.underlying138 rfl Try.sizeOf138 RF MM (by assumption) RF | exact y_load_part Try.underlying138 rfl Try.sizeOf138 RF MM rfl | exact y_load_capart Try.underlying138 rfl Try.sizeOf138 RF MM (by assumption) rfl) : p := h
theorem LD143 {p : Prop} (h : p := by first | exact y_load_all Try.underlying143 rfl Try.sizeOf143 RF MM RF | exact y_load_ca Try.underlying143 rfl Try.sizeOf143 RF MM (by assumption) RF | exact y_load_part Try.underlying143 rfl Try.sizeOf143 RF MM rfl | exact y_load_capart Try.underlying143 rfl Try.sizeOf143 RF MM (by assumption) rfl) : p := h
theorem LD150 {p : Prop} (h : p := by first | exact y_load_cajj Try.underlying150 rfl RF MM (by assumption) RF | exact y_load_blk Try.underlying150 rfl RF MM RF | exact y_load_caj Try.underlying150 rfl RF MM (by assumption) RF | exact y_load_ca0 Try.underlying150 rfl RF MM (by assumption) RF) : p := h
theorem LD151 {p : Prop} (h : p := by first | exact y_load_cajj Try.underlying151 rfl RF MM (by assumption) RF | exact y_load_blk Try.underlying151 rfl RF MM RF | exact y_load_caj Try.underlying151 rfl RF MM (by assumption) RF | exact y_load_ca0 Try.underlying151 rfl RF MM (by assumption) RF) : p := h
theorem LD152 {p : Prop} (h : p := by first | exact y_load_cajj Try.underlying152 rfl RF MM (by assumption) RF | exact y_load_blk Try.underlying152 rfl RF MM RF | exact y_load_caj Try.underlying152 rfl RF MM (by assumption) RF | exact y_load_ca0 Try.underlying152 rfl RF MM (by assumption) RF) : p := h
theorem LD155 {p : Prop} (h : p := by first | exact y_load_cajj Try.underlying155 rfl RF MM (by assumption) RF | exact y_load_blk Try.underlying155 rfl RF MM RF | exact y_load_caj Try.underlying155 rfl RF MM (by assumption) RF | exact y_load_ca0 Try.underlying155 rfl RF MM (by assumption) RF) : p := h
theorem LD157 {p : Prop} (h : p := by first | exact y_load_cajj Try.underlying157 rfl RF MM (by assumption) RF | exact y_load_blk Try.underlying157 rfl RF MM RF | exact y_load_caj Try.underlying157 rfl RF MM (by assumption) RF | exact y_load_ca0 Try.underlying157 rfl RF MM (by assumption) RF) : p := h
theorem LD169 {p : Prop} (h : p := by first | exact y_load_cajj Try.underlying169 rfl RF MM (by assumption) RF | exact y_load_blk Try.underlying169 rfl RF MM RF | exact y_load_caj Try.underlying169 rfl RF MM (by assumption) RF | exact y_load_ca0 Try.underlying169 rfl RF MM (by assumption) RF) : p := h
theorem LD174 {p : Prop} (h : p := by first | exact y_load_cajj Try.underlying174 rfl RF MM (by assumption) RF | exact y_load_blk Try.underlying174 rfl RF MM RF | exact y_load_caj Try.underlying174 rfl RF MM (by assumption) RF | exact y_load_ca0 Try.underlying174 rfl RF MM (by assumption) RF) : p := h
theorem LD175 {p : Prop} (h : p := by first | exact y_load_cajj Try.underlying175 rfl RF MM (by assumption) RF | exact y_load_blk Try.underlying175 rfl RF MM RF | exact y_load_caj Try.underlying175 rfl RF MM (by assumption) RF | exact y_load_ca0 Try.underlying175 rfl RF MM (by assumption) RF) : p := h
theorem LD176 {p : Prop} (h : p := by first | exact y_load_cajj Try.underlying176 rfl RF MM (by assumption) RF | exact y_load_blk Try.underlying176 rfl RF MM RF | exact y_load_caj Try.underlying176 rfl RF MM (by assumption) RF | exact y_load_ca0 Try.underlying176 rfl RF MM (by assumption) RF) : p := h
theorem LD177 {p : Prop} (h : p := by first | exact y_load_cajj Try.underlying177 rfl RF MM (by assumption) RF | exact y_load_blk Try.underlying177 rfl RF MM RF | exact y_load_caj Try.underlying177 rfl RF MM (by assumption) RF | exact y_load_ca0 Try.underlying177 rfl RF MM (by assumption) RF) : p := h
theorem LD186 {p : Prop} (h : p := by first | exact y_load_cajj Try.underlying186 rfl RF MM (by assumption) RF | exact y_load_blk Try.underlying186 rfl RF MM RF | exact y_load_caj Try.underlying186 rfl RF MM (by assumption) RF | exact y_load_ca0 Try.underlying186 rfl RF MM (by assumption) RF) : p := h
theorem LD196 {p : Prop} (h : p := by first | exact y_load_all Try.underlying196 rfl Try.sizeOf196 RF MM RF | exact y_load_ca Try.underlying196 rfl Try.sizeOf196 RF MM (by assumption) RF | exact y_load_part Try.underlying196 rfl Try.sizeOf196 RF MM rfl | exact y_load_capart Try.underlying196 rfl Try.sizeOf196 RF MM (by assumption) rfl) : p := h
theorem LD22 {p : Prop} (h : p := by first | exact y_load_cajj Try.underlying22 rfl RF MM (by assumption) RF | exact y_load_blk Try.underlying22 rfl RF MM RF | exact y_load_caj Try.underlying22 rfl RF MM (by assumption) RF | exact y_load_ca0 Try.underlying22 rfl RF MM (by assumption) RF) : p := h
theorem LD220 {p : Prop} (h : p := by first | exact y_load_all Try.underlying220 rfl Try.sizeOf220 RF MM RF | exact y_load_ca Try.underlying220 rfl Try.sizeOf220 RF MM (by assumption) RF | exact y_load_part Try.underlying220 rfl Try.sizeOf220 RF MM rfl | exact y_load_capart Try.underlying220 rfl Try.sizeOf220 RF MM (by assumption) rfl) : p := h
theorem LD232 {p : Prop} (h : p := by first | exact y_load_all Try.underlying232 rfl Try.sizeOf232 RF MM RF | exact y_load_ca Try.underlying232 rfl Try.sizeOf232 RF MM (by assumption) RF | exact y_load_part Try.underlying232 rfl Try.sizeOf232 RF MM rfl | exact y_load_capart Try.underlying232 rfl Try.sizeOf232 RF MM (by assumption) rfl) : p := h
theorem LD24 {p : Prop} (h : p := by first | exact y_load_all Try.underlying24 rfl Try.sizeOf24 RF MM RF | exact y_load_ca Try.underlying24 rfl Try.sizeOf24 RF MM (by assumption) RF | exact y_load_part Try.underlying24 rfl Try.sizeOf24 RF MM rfl | exact y_load_capart Try.underlying24 rfl Try.sizeOf24 RF MM (by assumption) rfl) : p := h
theorem LD243 {p : Prop} (h : p := by first | exact y_load_cajj Try.underlying243 rfl RF MM (by assumption) RF | exact y_load_blk Try.underlying243 rfl RF MM RF | exact y_load_caj Try.underlying243 rfl RF MM (by assumption) RF | exact y_load_ca0 Try.underlying243 rfl RF MM (by assumption) RF) : p := h
theorem LD247 {p : Prop} (h : p := by first | exact y_load_cajj Try.underlying247 rfl RF MM (by assumption) RF | exact y_load_blk Try.underlying247 rfl RF MM RF | exact y_load_caj Try.underlying247 rfl RF MM (by assumption) RF | exact y_load_ca0 Try.underlying247 rfl RF MM (by assumption) RF) : p := h
theorem LD25 {p : Prop} (h : p := by first | exact y_load_cajj Try.underlying25 rfl RF MM (by assumption) RF | exact y_load_blk Try.underlying25 rfl RF MM RF | exact y_load_caj Try.underlying25 rfl RF MM (by assumption) RF | exact y_load_ca0 Try.underlying25 rfl RF MM (by assumption) RF) : p := h
theorem LD3 {p : Prop} (h : p := by first | exact y_load_cajj Try.underlying3 rfl RF MM (by assumption) RF | exact y_load_blk Try.underlying3 rfl RF MM RF | exact y_load_caj Try.underlying3 rfl RF MM (by assumption) RF | exact y_load_ca0 Try.underlying3 rfl RF MM (by assumption) RF) : p := h
theorem LD32 {p : Prop} (h : p := by first | exact y_load_cajj Try.underlying32 rfl RF MM (by assumption) RF | exact y_load_blk Try.underlying32 rfl RF MM RF | exact y_load_caj Try.underlying32 rfl RF MM (by assumption) RF | exact y_load_ca0 Try.underlying32 rfl RF MM (by assumption) RF) : p := h
theorem LD38 {p : Prop} (h : p := by first | exact y_load_all Try.underlying38 rfl Try.sizeOf38 RF MM RF | exact y_load_2 Try.underlying38 rfl Try.sizeOf38 RF MM RF RF | exact y_load_ca Try.underlying38 rfl Try.sizeOf38 RF MM (by assumption) RF | exact y_load_part Try.underlying38 rfl Try.sizeOf38 RF MM rfl | exact y_load_capart Try.underlying38 rfl Try.sizeOf38 RF MM (by assumption) rfl) : p := h
theorem LD4 {p : Prop} (h : p := by first | exact y_load_cajj Try.underlying4 rfl RF MM (by assumption) RF | exact y_load_blk Try.underlying4 rfl RF MM RF | exact y_load_caj Try.underlying4 rfl RF MM (by assumption) RF | exact y_load_ca0 Try.underlying4 rfl RF MM (by assumption) RF) : p := h
theorem LD40 {p : Prop} (h : p := by first | exact y_load_all Try.underlying40 rfl Try.sizeOf40 RF MM RF | exact y_load_ca Try.underlying40 rfl Try.sizeOf40 RF MM (by assumption) RF | exact y_load_part Try.underlying40 rfl Try.sizeOf40 RF MM rfl | exact y_load_capart Try.underlying40 rfl Try.sizeOf40 RF MM (by assumption) rfl) : p := h
theorem LD42 {p : Prop} (h : p := by first | exact y_load_all Try.underlying42 rfl Try.sizeOf42 RF MM RF | exact y_load_2 Try.underlying42 rfl Try.sizeOf42 RF MM RF RF | exact y_load_ca Try.underlying42 rfl Try.sizeOf42 RF MM (by assumption) RF | exact y_load_part Try.underlying42 rfl Try.sizeOf42 RF MM rfl | exact y_load_capart Try.underlying42 rfl Try.sizeOf42 RF MM (by assumption) rfl) : p := h
theorem LD45 {p : Prop} (h : p := by first | exact y_load_all Try.underlying45 rfl Try.sizeOf45 RF MM RF | exact y_load_ca Try.underlying45 rfl Try.sizeOf45 RF MM (by assumption) RF | exact y_load_part Try.underlying45 rfl Try.sizeOf45 RF MM rfl | exact y_load_capart Try.underlying45 rfl Try.sizeOf45 RF MM (by assumption) rfl) : p := h
theorem LD47 {p : Prop} (h : p := by first | exact y_load_all Try.underlying47 rfl Try.sizeOf47 RF MM RF | exact y_load_ca Try.underlying47 rfl Try.sizeOf47 RF MM (by assumption) RF | exact y_load_part Try.underlying47 rfl Try.sizeOf47 RF MM rfl | exact y_load_capart Try.underlying47 rfl Try.sizeOf47 RF MM (by assumption) rfl) : p := h
theorem LD52 {p : Prop} (h : p := by first | exact y_load_all Try.underlying52 rfl Try.sizeOf52 RF MM RF | exact y_load_ca Try.underlying52 rfl Try.sizeOf52 RF MM (by assumption) RF | exact y_load_part Try.underlying52 rfl Try.sizeOf52 RF MM rfl | exact y_load_capart Try.underlying52 rfl Try.sizeOf52 RF MM (by assumption) rfl) : p := h
theorem LD53 {p : Prop} (h : p := by first | exact y_load_cajj Try.underlying53 rfl RF MM (by assumption) RF | exact y_load_blk Try.underlying53 rfl RF MM RF | exact y_load_caj Try.underlying53 rfl RF MM (by assumption) RF | exact y_load_ca0 Try.underlying53 rfl RF MM (by assumption) RF) : p := h
theorem LD59 {p : Prop} (h : p := by first | exact y_load_all Try.underlying59 rfl Try.sizeOf59 RF MM RF | exact y_load_ca Try.underlying59 rfl Try.sizeOf59 RF MM (by assumption) RF | exact y_load_part Try.underlying59 rfl Try.sizeOf59 RF MM rfl | exact y_load_capart Try.underlying59 rfl Try.sizeOf59 RF MM (by assumption) rfl) : p := h
theorem LD60 {p : Prop} (h : p := by first | exact y_load_cajj Try.underlying60 rfl RF MM (by assumption) RF | exact y_load_blk Try.underlying60 rfl RF MM RF | exact y_load_caj Try.underlying60 rfl RF MM (by assumption) RF | exact y_load_ca0 Try.underlying60 rfl RF MM (by assumption) RF) : p := h
theorem LD62 {p : Prop} (h : p := by first | exact y_load_all Try.underlying62 rfl Try.sizeOf62 RF MM RF | exact y_load_ca Try.underlying62 rfl Try.sizeOf62 RF MM (by assumption) RF | exact y_load_part Try.underlying62 rfl Try.sizeOf62 RF MM rfl | exact y_load_capart Try.underlying62 rfl Try.sizeOf62 RF MM (by assumption) rfl) : p := h
theorem LD64 {p : Prop} (h : p := by first | exact y_load_cajj Try.underlying64 rfl RF MM (by assumption) RF | exact y_load_blk Try.underlying64 rfl RF MM RF | exact y_load_caj Try.underlying64 rfl RF MM (by assumption) RF | exact y_load_ca0 Try.underlying64 rfl RF MM (by assumption) RF) : p := h
theorem LD70 {p : Prop} (h : p := by first | exact y_load_all Try.underlying70 rfl Try.sizeOf70 RF MM RF | exact y_load_2 Try.underlying70 rfl Try.sizeOf70 RF MM RF RF | exact y_load_ca Try.underlying70 rfl Try.sizeOf70 RF MM (by assumption) RF | exact y_load_part Try.underlying70 rfl Try.sizeOf70 RF MM rfl | exact y_load_capart Try.underlying70 rfl Try.sizeOf70 RF MM (by assumption) rfl) : p := h
theorem LD74 {p : Prop} (h : p := by first | exact y_load_all Try.underlying74 rfl Try.sizeOf74 RF MM RF | exact y_load_ca Try.underlying74 rfl Try.sizeOf74 RF MM (by assumption) RF | exact y_load_part Try.underlying74 rfl Try.sizeOf74 RF MM rfl | exact y_load_capart Try.underlying74 rfl Try.sizeOf74 RF MM (by assumption) rfl) : p := h
theorem LD77 {p : Prop} (h : p := by first | exact y_load_cajj Try.underlying77 rfl RF MM (by assumption) RF | exact y_load_blk Try.underlying77 rfl RF MM RF | exact y_load_caj Try.underlying77 rfl RF MM (by assumption) RF | exact y_load_ca0 Try.underlying77 rfl RF MM (by assumption) RF) : p := h
theorem LD81 {p : Prop} (h : p := by first | exact y_load_all Try.underlying81 rfl Try.sizeOf81 RF MM RF | exact y_load_ca Try.underlying81 rfl Try.sizeOf81 RF MM (by assumption) RF | exact y_load_part Try.underlying81 rfl Try.sizeOf81 RF MM rfl | exact y_load_capart Try.underlying81 rfl Try.sizeOf81 RF MM (by assumption) rfl) : p := h
theorem LD82 {p : Prop} (h : p := by first | exact y_load_all Try.underlying82 rfl Try.sizeOf82 RF MM RF | exact y_load_ca Try.underlying82 rfl Try.sizeOf82 RF MM (by assumption) RF | exact y_load_part Try.underlying82 rfl Try.sizeOf82 RF MM rfl | exact y_load_capart Try.underlying82 rfl Try.sizeOf82 RF MM (by assumption) rfl) : p := h
theorem LD84 {p : Prop} (h : p := by first | exact y_load_all Try.underlying84 rfl Try.sizeOf84 RF MM RF | exact y_load_ca Try.underlying84 rfl Try.sizeOf84 RF MM (by assumption) RF | exact y_load_part Try.underlying84 rfl Try.sizeOf84 RF MM rfl | exact y_load_capart Try.underlying84 rfl Try.sizeOf84 RF MM (by assumption) rfl) : p := h
theorem LD85 {p : Prop} (h : p := by first | exact y_load_all Try.underlying85 rfl Try.sizeOf85 RF MM RF | exact y_load_ca Try.underlying85 rfl Try.sizeOf85 RF MM (by assumption) RF | exact y_load_part Try.underlying85 rfl Try.sizeOf85 RF MM rfl | exact y_load_capart Try.underlying85 rfl Try.sizeOf85 RF MM (by assumption) rfl) : p := h
theorem LD87 {p : Prop} (h : p := by first | exact y_load_all Try.underlying87 rfl Try.sizeOf87 RF MM RF | exact y_load_ca Try.underlying87 rfl Try.sizeOf87 RF MM (by assumption) RF | exact y_load_part Try.underlying87 rfl Try.sizeOf87 RF MM rfl | exact y_load_capart Try.underlying87 rfl Try.sizeOf87 RF MM (by assumption) rfl) : p := h
theorem LD88 {p : Prop} (h : p := by first | exact y_load_cajj Try.underlying88 rfl RF MM (by assumption) RF | exact y_load_blk Try.underlying88 rfl RF MM RF | exact y_load_caj Try.underlying88 rfl RF MM (by assumption) RF | exact y_load_ca0 Try.underlying88 rfl RF MM (by assumption) RF) : p := h
theorem LD90 {p : Prop} (h : p := by first | exact y_load_all Try.underlying90 rfl Try.sizeOf90 RF MM RF | exact y_load_ca Try.underlying90 rfl Try.sizeOf90 RF MM (by assumption) RF | exact y_load_part Try.underlying90 rfl Try.sizeOf90 RF MM rfl | exact y_load_capart Try.underlying90 rfl Try.sizeOf90 RF MM (by assumption) rfl) : p := h
theorem LD94 {p : Prop} (h : p := by first | exact y_load_cajj Try.underlying94 rfl RF MM (by assumption) RF | exact y_load_blk Try.underlying94 rfl RF MM RF | exact y_load_caj Try.underlying94 rfl RF MM (by assumption) RF | exact y_load_ca0 Try.underlying94 rfl RF MM (by assumption) RF) : p := h
theorem LD97 {p : Prop} (h : p := by first | exact y_load_all Try.underlying97 rfl Try.sizeOf97 RF MM RF | exact y_load_2 Try.underlying97 rfl Try.sizeOf97 RF MM RF RF | exact y_load_ca Try.underlying97 rfl Try.sizeOf97 RF MM (by assumption) RF | exact y_load_part Try.underlying97 rfl Try.sizeOf97 RF MM rfl | exact y_load_capart Try.underlying97 rfl Try.sizeOf97 RF MM (by assumption) rfl) : p := h
theorem LD99 {p : Prop} (h : p := by first | exact y_load_all Try.underlying99 rfl Try.sizeOf99 RF MM RF | exact y_load_ca Try.underlying99 rfl Try.sizeOf99 RF MM (by assumption) RF | exact y_load_part Try.underlying99 rfl Try.sizeOf99 RF MM rfl | exact y_load_capart Try.underlying99 rfl Try.sizeOf99 RF MM (by assumption) rfl) : p := h
theorem ei3 : EI Try.prog 3 (.int .i64 0) 1 8 := by unfold EI; kernel_rfl
theorem ei22 : EI Try.prog 22 (.slice none 0 0) 1 24 := by unfold EI; kernel_rfl
theorem ei42 : EI Try.prog 42 (.agg #[.int .i64 0, .int .i64 0]) 2 16 := by unfold EI; kernel_rfl
theorem ei38 : EI Try.prog 38 (.agg #[.int .i64 0, .int .i64 0]) 2 16 := by unfold EI; kernel_rfl
theorem bt24 : BT Try.prog 24 [(0, 1), (1, 1), (2, 1)] (.agg #[.int .i64 0, .int .i64 0, .slice none 0 0]) := BT.of Try.underlying24 (by kernel_rfl) (by kernel_rfl)
theorem bt90 : BT Try.prog 90 [(0, 3), (3, 1)] (.agg #[.int .i64 0, .int .i64 0, .slice none 0 0, .map none]) := BT.of Try.underlying90 (by kernel_rfl) (by kernel_rfl)
theorem bt137 : BT Try.prog 137 [(0, 1), (1, 1)] (.agg #[.int .i64 0, .int .i64 0]) := BT.of Try.underlying137 (by kernel_rfl) (by kernel_rfl)
theorem bt97 : BT Try.prog 97 [(0, 1), (1, 1)] (.agg #[.int .i64 0, .int .i64 0]) := BT.of Try.underlying97 (by kernel_rfl) (by kernel_rfl)
theorem bt42 : BT Try.prog 42 [(0, 1), (1, 1)] (.agg #[.int .i64 0, .int .i64 0]) := BT.of Try.underlying42 (by kernel_rfl) (by kernel_rfl)
theorem within22 (n l h : Int) (w : World) : Calls Try.prog 22 #[.int .i64 n, .int .i64 l, .int .i64 h] w fun e w' => e = .returned (.bool (decide (l ≤ n ∧ n ≤ h))) ∧ Below w.heap.size w w' := by
  refine calls_of_SC (args := [.int .i64 n, .int .i64 l, .int .i64 h]) Try.func22 rfl Try.ntmps22 rfl ?_
  simp only [argL, Nat.reduceAdd, Nat.zero_add]
  refine sc_seq ?_
  refine sc_region ?_
  refine qs (y_assign RF) ?_
  refine sq_nil ?_
  refine sx_then ?_
  refine sc_seq ?_
  refine sc_region ?_
  refine qs (y_move RF) ?_
  refine qs (y_move RF) ?_
  refine qs (y_leq RF RF) ?_
  refine qs (y_move RF) ?_
  refine sp 10 (fun hg1_3 => ?_) (fun hg1_3 => ?_)
  ·
    refine qg (y_move RF) ?_
    refine qg (y_move RF) ?_
    refine qg (y_leq RF RF) ?_
    refine qs (y_pick_t RF RF) ?_
    refine qs (y_assign RF) ?_
    refine sq_nil ?_
    refine sx_then ?_
    refine sc_ret ?_
    refine sx_ret1 (.inl rfl) rfl Try.results22 RF ?_
    intro w' hw'
    exact ⟨by simp [*], hw'.below MM⟩
  ·
    refine qf ?_
    refine qf ?_
    refine qf ?_
    refine qs (y_pick_f RF RF) ?_
    refine qs (y_assign RF) ?_
    refine sq_nil ?_
    refine sx_then ?_
    refine sc_ret ?_
    refine sx_ret1 (.inl rfl) rfl Try.results22 RF ?_
    intro w' hw'
    exact ⟨by simp [*], hw'.below MM⟩
theorem in32 (n l h : Int) (w : World) : Calls Try.prog 32 #[.int .i64 n, .int .i64 l, .int .i64 h] w fun e w' => e = .returned (.bool (decide (l ≤ n ∧ n ≤ h))) ∧ Below w.heap.size w w' := by
  refine calls_of_SC (args := [.int .i64 n, .int .i64 l, .int .i64 h]) Try.func32 rfl Try.ntmps32 rfl ?_
  simp only [argL, Nat.reduceAdd, Nat.zero_add]
  refine sc_seq ?_
  refine sc_region ?_
  refine qs (y_assign RF) ?_
  refine sq_nil ?_
  refine sx_then ?_
  refine sc_seq ?_
  refine sc_region ?_
  refine qs (y_move RF) ?_
  refine qs (y_move RF) ?_
  refine qs (y_leq RF RF) ?_
  refine qs (y_move RF) ?_
  refine sp 10 (fun hg1_3 => ?_) (fun hg1_3 => ?_)
  ·
    refine qg (y_move RF) ?_
    refine qg (y_move RF) ?_
    refine qg (y_leq RF RF) ?_
    refine qs (y_pick_t RF RF) ?_
    refine qs (y_assign RF) ?_
    refine sq_nil ?_
    refine sx_then ?_
    refine sc_ret ?_
    refine sx_ret1 (.inl rfl) rfl Try.results32 RF ?_
    intro w' hw'
    exact ⟨by simp [*], hw'.below MM⟩
  ·
    refine qf ?_
    refine qf ?_
    refine qf ?_
    refine qs (y_pick_f RF RF) ?_
    refine qs (y_assign RF) ?_
    refine sq_nil ?_
    refine sx_then ?_
    refine sc_ret ?_
    refine sx_ret1 (.inl rfl) rfl Try.results32 RF ?_
    intro w' hw'
    exact ⟨by simp [*], hw'.below MM⟩
theorem bad58 (n : Int) (w : World) : Calls Try.prog 58 #[.int .i64 n] w fun e w' => e = .returned (.bool (!hIn n 0 39)) ∧ Below w.heap.size w w' := by
  refine calls_of_SC (args := [.int .i64 n]) Try.func58 rfl Try.ntmps58 rfl ?_
  simp only [argL]
  refine sc_seq ?_
  refine sc_region ?_
  refine qs (y_assign RF) ?_
  refine sq_nil ?_
  refine sx_then ?_
  refine sc_seq ?_
  refine sc_region ?_
  refine qs (y_move RF) ?_
  refine qy (yc Try.call22 E3 (fun w1 _ => within22 _ _ _ w1)) ?_
  refine qs (y_not RF) ?_
  refine qs (y_assign RF) ?_
  refine sq_nil ?_
  refine sx_then ?_
  refine sc_ret ?_
  refine sx_ret1 (.inl rfl) rfl Try.results58 RF ?_
  intro w' hw'
  exact ⟨rfl, hw'.below MM⟩
theorem indexInt (g : FuncId) (caps : List Value) (p : Nat → Bool) (w : World) (a : Option Addr) (n c : Nat) (row : Nat → Value) (hn : n ≤ 9223372036854775807) (hel : ∀ i, i < n → a.isSome = true ∧ CA 0 w (elt a i 1) ([row i]))
    (hcg : ∀ args w, (callFunc g args).run Try.prog w = .ok (.enter g args) w) (hp : ∀ i, i < n → ∀ w1, Below w.heap.size w w1 → Calls Try.prog g (row i :: caps).toArray w1 fun e w' => e = .returned (.bool (p i)) ∧ Below w1.heap.size w1 w') :
    Calls Try.prog 30 #[.slice a n c, .func (.func g) #[] caps.toArray] w fun e w' => (∃ z : Int, e = .returned (.int .i64 z) ∧ (0 ≤ z ↔ (List.range n).any p = true)) ∧ Below w.heap.size w w' := by
  refine calls_of_SC (args := [.slice a n c, .func (.func g) #[] caps.toArray]) Try.func30 rfl Try.ntmps30 rfl ?_
  simp only [argL, Nat.zero_add]
  refine sc_seq ?_
  refine sc_region ?_
  refine qs (y_assign RF) ?_
  refine sq_nil ?_
  refine sx_then ?_
  refine sc_seq ?_
  refine sc_seq ?_
  refine sc_region ?_
  refine qs (y_move RF) ?_
  refine qs (y_len Try.underlying22 RF) ?_
  refine qs (y_move RF) ?_
  refine sq_nil ?_
  refine sx_then ?_
  refine sc_block ?_
  refine sc_loop (σ := Nat)
    (fun s => [(0, .slice a n c), (1, .func (.func g) #[] caps.toArray), (7, .int .i64 n), (8, .int .i64 s)])
    (fun s => [.reg 0 w])
    (fun s => s ≤ n ∧ ∀ j, j < s → p j = false)
    (fun s => n - s)
    (0) ?_ SU SE ?_
  · exact ⟨Nat.zero_le _, fun j hj => absurd hj (Nat.not_lt_zero j)⟩
  rintro k ⟨hk, hno⟩
  refine sc_seq ?_
  refine sc_region ?_
  refine qs (y_lss RF RF) ?_
  refine sq_nil ?_
  refine sx_then ?_
  refine sc_seq ?_
  refine scp (fun hc0 => ?_) (fun hc0 => ?_)
  ·
    have hk' : k < n := by omega
    have hsome := (hel k hk').1
    have hrow := (hel k hk').2
    refine sc_skip ?_
    refine sx_then ?_
    refine sc_seq ?_
    refine sc_block ?_
    refine sc_seq ?_
    refine sc_region ?_
    refine qs (y_move RF) ?_
    refine qs (y_assign RF) ?_
    refine sq_nil ?_
    refine sx_then ?_
    refine sc_seq ?_
    refine sc_region ?_
    refine qs (y_move RF) ?_
    refine qs (y_move RF) ?_
    refine qs (y_move RF) ?_
    refine qs IA22 ?_
    refine qs (by first | exact y_load_ca0 Try.underlying3 rfl RF MM hrow rfl | exact LD3) ?_
    refine qy (y_call (first := []) (caps := caps) (by exact rfl) hcg (EvL.cons RF EvL.nil) (fun w1 hw1 => hp k hk' w1 (hw1.below MM))) ?_
    refine sq_nil ?_
    refine sx_then ?_
    refine scp (fun hc1 => ?_) (fun hc1 => ?_)
    ·
      have hpk : p k = true := hc1
      refine sc_seq ?_
      refine sc_region ?_
      refine qs (y_move RF) ?_
      refine qs (y_assign RF) ?_
      refine sq_nil ?_
      refine sx_then ?_
      refine sc_ret ?_
      refine sx_blk_ret ?_
      refine sx_then_ret ?_
      refine sx_round_ret ?_
      refine sx_blk_ret ?_
      refine sx_then_ret ?_
      refine sx_ret1 (.inl rfl) rfl Try.results30 RF ?_
      intro w' hw'
      exact ⟨⟨_, rfl, fun _ => List.any_eq_true.2 ⟨k, List.mem_range.2 hk', hpk⟩, fun _ => by omega⟩, hw'.below MM⟩
    ·
      refine sc_skip ?_
      refine sx_blk ?_
      refine sx_then ?_
      refine sc_region ?_
      refine qs (y_add RF RF (by omega)) ?_
      refine qs (y_move RF) ?_
      refine sq_nil ?_
      refine sx_round (k + 1) ?_ ?_ SU SE
      · refine ⟨by omega, fun j hj => ?_⟩
        rcases Nat.lt_succ_iff_lt_or_eq.1 hj with h | rfl
        · exact hno j h
        · simpa using hc1
      · omega
  ·
    refine sc_exit ?_
    refine sx_then_exit ?_
    refine sx_round_exit ?_
    refine sx_blk_hit ?_
    refine sx_then ?_
    refine sc_seq ?_
    refine sc_region ?_
    refine qs (y_assign RF) ?_
    refine sq_nil ?_
    refine sx_then ?_
    refine sc_ret ?_
    refine sx_ret1 (.inl rfl) rfl Try.results30 RF ?_
    intro w' hw'
    refine ⟨⟨_, rfl, ?_⟩, hw'.below MM⟩
    have hkn : k = n := by omega
    subst hkn
    constructor
    · intro h; omega
    · intro h
      obtain ⟨j, hj, hpj⟩ := List.any_eq_true.1 h
      rw [hno j (List.mem_range.1 hj)] at hpj; cases hpj
theorem containsInt (g : FuncId) (caps : List Value) (p : Nat → Bool) (w : World) (a : Option Addr) (n c : Nat) (row : Nat → Value) (hn : n ≤ 9223372036854775807) (hel : ∀ i, i < n → a.isSome = true ∧ CA 0 w (elt a i 1) ([row i]))
    (hcg : ∀ args w, (callFunc g args).run Try.prog w = .ok (.enter g args) w) (hp : ∀ i, i < n → ∀ w1, Below w.heap.size w w1 → Calls Try.prog g (row i :: caps).toArray w1 fun e w' => e = .returned (.bool (p i)) ∧ Below w1.heap.size w1 w') :
    Calls Try.prog 59 #[.slice a n c, .func (.func g) #[] caps.toArray] w fun e w' => e = .returned (.bool ((List.range n).any p)) ∧ Below w.heap.size w w' := by
  refine calls_of_SC (args := [.slice a n c, .func (.func g) #[] caps.toArray]) Try.func59 rfl Try.ntmps59 rfl ?_
  simp only [argL, Nat.zero_add]
  refine sc_seq ?_
  refine sc_region ?_
  refine qs (y_assign RF) ?_
  refine sq_nil ?_
  refine sx_then ?_
  refine sc_seq ?_
  refine sc_region ?_
  refine qs (y_move RF) ?_
  refine qs (y_move RF) ?_
  refine sq_call (first := []) (caps := []) (vs := [.slice a n c, .func (.func g) #[] caps.toArray]) (Z := Int) (fun z => .int .i64 z) (fun _ => [.reg 0 w]) (fun z => 0 ≤ z ↔ (List.range n).any p = true) RF Try.call30 (EvL.cons RF (EvL.cons RF EvL.nil)) (fun w1 hw1 => (indexInt g caps p w1 a n c row hn (fun i hi => ⟨(hel i hi).1, CA.at (hel i hi).2 hw1 MM⟩) hcg (fun i hi w2 hb => hp i hi w2 ((hw1.below MM).trans (hb.mono (hw1.below MM).size)))).mono (fun e w2 ⟨⟨z, he, hz⟩, hb⟩ => ⟨z, hz, he, hw1.ext hb⟩)) rfl (fun z hz => ?_)
  refine qs (y_geq RF RF) ?_
  refine qs (y_assign RF) ?_
  refine sq_nil ?_
  refine sx_then ?_
  refine sc_ret ?_
  refine sx_ret1 (.inl rfl) rfl Try.results59 RF ?_
  intro w' hw'
  refine ⟨?_, hw'.below MM⟩
  congr 2
  rw [Bool.eq_iff_iff]; simpa using hz
theorem bad59 (w : World) (a : Option Addr) (c : Nat) (l : List Int) (hl : RowsA iRow 1 0 w a l) : Calls Try.prog 59 #[.slice a l.length c, .func (.func 58) #[] #[]] w fun e w' => e = .returned (.bool (!l.all fun k => hIn k 0 39)) ∧ Below w.heap.size w w' := by
  refine (containsInt 58 [] (fun i => !hIn (l.getD i 0) 0 39) w a l.length c (fun i => .int .i64 (l.getD i 0)) hl.len (fun i hi => ⟨(hl.get 0 hi).1, (hl.get 0 hi).2⟩) Try.call58 (fun i _ w1 _ => bad58 _ w1)).mono ?_
  rintro e w' ⟨h1, h2⟩
  refine ⟨?_, h2⟩
  rw [h1, any_range_get l 0 (fun k => !hIn k 0 39), all_not_any]
theorem isCut25 (w : World) (c : Ct) (a : Option Addr) (cp : Nat) (hp : RowsA iRow 1 0 w a c.piece) : Calls Try.prog 25 #[.agg (ctV c a cp).toArray] w fun e w' => e = .returned (.bool (ctB c)) ∧ Below w.heap.size w w' := by
  have hlen := hp.len
  unfold ctV
  refine calls_of_SC (args := [.agg #[.int .i64 c.wide, .int .i64 c.high, .slice a c.piece.length cp]]) Try.func25 rfl Try.ntmps25 rfl ?_
  simp only [argL]
  refine sc_seq ?_
  refine sc_region ?_
  refine sq_box RF rfl (fun b1 => ?_)
  refine qs (y_assign RF) ?_
  refine sq_nil ?_
  refine sx_then ?_
  refine sc_seq ?_
  refine sc_region ?_
  refine qs (y_assign RF) ?_
  refine sq_nil ?_
  refine sx_then ?_
  refine sc_seq ?_
  refine sc_region ?_
  refine qs FA24_3 ?_
  refine qs LD3 ?_
  refine qy (yc Try.call22 E3 (fun w1 _ => within22 _ _ _ w1)) ?_
  refine qs (y_move RF) ?_
  refine sp 8 (fun hg2_3 => ?_) (fun hg2_3 => ?_)
  ·
    refine qg FA24_3 ?_
    refine qg LD3 ?_
    refine sq_gt RF RF (y_call (first := []) (caps := []) RF Try.call22 (EvL.cons RF (EvL.cons RF (EvL.cons RF EvL.nil))) (fun w1 _ => within22 _ _ _ w1)) rfl ?_
    refine qs (y_pick_t RF RF) ?_
    refine qs (y_assign RF) ?_
    refine sq_nil ?_
    refine sx_then ?_
    refine sc_seq ?_
    refine sc_region ?_
    refine qs (y_move RF) ?_
    refine qs (y_move RF) ?_
    refine sp 14 (fun hg3_1 => ?_) (fun hg3_1 => ?_)
    ·
      refine qg FA24_22 ?_
      refine qg LD22 ?_
      refine qg (y_len Try.underlying22 RF) ?_
      refine qg FA24_3 ?_
      refine qg LD3 ?_
      refine qg FA24_3 ?_
      refine qg LD3 ?_
      refine qg (y_mul RF RF (by have h1 : (1 : Int) * 1 ≤ c.wide * c.high := Int.mul_le_mul hg2_3.1 hg3_1.1 (by decide) (by omega); have h2 : c.wide * c.high ≤ 12 * 12 := Int.mul_le_mul hg2_3.2 hg3_1.2 (by omega) (by decide); exact ⟨by omega, by omega⟩)) ?_
      refine qg (y_eql RF RF) ?_
      refine qs (y_pick_t RF RF) ?_
      refine qs (y_move RF) ?_
      refine sp 25 (fun hg3_12 => ?_) (fun hg3_12 => ?_)
      ·
        refine qg FA24_22 ?_
        refine qg LD22 ?_
        refine qg (y_move RF) ?_
        refine sq_gt RF RF (y_call (first := []) (caps := []) RF Try.call59 (EvL.cons RF (EvL.cons RF EvL.nil)) (fun w1 hw1 => bad59 w1 a cp c.piece (hp.at hw1 MM))) rfl ?_
        refine qg (y_not RF) ?_
        refine qs (y_pick_t RF RF) ?_
        refine qs (y_assign RF) ?_
        refine sq_nil ?_
        refine sx_then ?_
        refine sc_ret ?_
        refine sx_ret1 (.inl rfl) rfl Try.results25 RF ?_
        intro w' hw'
        refine ⟨?_, hw'.below MM⟩
        unfold ctB hIn
        simp [*]
      ·
        refine qf ?_
        refine qf ?_
        refine qf ?_
        refine qf ?_
        refine qf ?_
        refine qs (y_pick_f RF RF) ?_
        refine qs (y_assign RF) ?_
        refine sq_nil ?_
        refine sx_then ?_
        refine sc_ret ?_
        refine sx_ret1 (.inl rfl) rfl Try.results25 RF ?_
        intro w' hw'
        refine ⟨?_, hw'.below MM⟩
        unfold ctB hIn
        simp [*]
    ·
      refine qf ?_
      refine qf ?_
      refine qf ?_
      refine qf ?_
      refine qf ?_
      refine qf ?_
      refine qf ?_
      refine qf ?_
      refine qf ?_
      refine qs (y_pick_f RF RF) ?_
      refine qs (y_move RF) ?_
      refine qf ?_
      refine qf ?_
      refine qf ?_
      refine qf ?_
      refine qf ?_
      refine qs (y_pick_f RF RF) ?_
      refine qs (y_assign RF) ?_
      refine sq_nil ?_
      refine sx_then ?_
      refine sc_ret ?_
      refine sx_ret1 (.inl rfl) rfl Try.results25 RF ?_
      intro w' hw'
      refine ⟨?_, hw'.below MM⟩
      unfold ctB hIn
      simp [*]
  ·
    refine qf ?_
    refine qf ?_
    refine qf ?_
    refine qs (y_pick_f RF RF) ?_
    refine qs (y_assign RF) ?_
    refine sq_nil ?_
    refine sx_then ?_
    refine sc_seq ?_
    refine sc_region ?_
    refine qs (y_move RF) ?_
    refine qs (y_move RF) ?_
    refine qf ?_
    refine qf ?_
    refine qf ?_
    refine qf ?_
    refine qf ?_
    refine qf ?_
    refine qf ?_
    refine qf ?_
    refine qf ?_
    refine qs (y_pick_f RF RF) ?_
    refine qs (y_move RF) ?_
    refine qf ?_
    refine qf ?_
    refine qf ?_
    refine qf ?_
    refine qf ?_
    refine qs (y_pick_f RF RF) ?_
    refine qs (y_assign RF) ?_
    refine sq_nil ?_
    refine sx_then ?_
    refine sc_ret ?_
    refine sx_ret1 (.inl rfl) rfl Try.results25 RF ?_
    intro w' hw'
    refine ⟨?_, hw'.below MM⟩
    unfold ctB hIn
    simp [*]
/-- the greatest of the first ones -/
def mxK (l : List Int) : Nat → Int
  | 0 => l.getD 0 0
  | k + 1 => max (mxK l k) (l.getD (k + 1) 0)
theorem mxK_le (l : List Int) (x : Int) : ∀ k, mxK l k ≤ x ↔ ∀ i, i ≤ k → l.getD i 0 ≤ x
  | 0 => ⟨fun h i hi => by rw [show i = 0 by omega]; exact h, fun h => h 0 (Nat.le_refl _)⟩
  | k + 1 => by
    have ih := mxK_le l x k
    show max (mxK l k) (l.getD (k + 1) 0) ≤ x ↔ _
    constructor
    · intro h i hi
      rcases Nat.lt_succ_iff_lt_or_eq.1 (Nat.lt_succ_of_le hi) with h1 | rfl
      · exact ih.1 (by omega) i (by omega)
      · omega
    · intro h
      have h1 := ih.2 fun i hi => h i (by omega)
      have h2 := h (k + 1) (Nat.le_refl _)
      omega
theorem mxK_in (l : List Int) : ∀ k, ∃ i, i ≤ k ∧ mxK l k = l.getD i 0
  | 0 => ⟨0, Nat.le_refl _, rfl⟩
  | k + 1 => by
    obtain ⟨i, hi, h⟩ := mxK_in l k
    show ∃ i, i ≤ k + 1 ∧ max (mxK l k) (l.getD (k + 1) 0) = _
    rcases Int.le_total (mxK l k) (l.getD (k + 1) 0) with h1 | h1
    · exact ⟨k + 1, Nat.le_refl _, Int.max_eq_right h1⟩
    · exact ⟨i, by omega, by rw [Int.max_eq_left h1, h]⟩
theorem max28 (w : World) (a : Option Addr) (c : Nat) (l : List Int) (hl : RowsA iRow 1 0 w a l) (h1 : 1 ≤ l.length) : Calls Try.prog 28 #[.slice a l.length c] w fun e w' => e = .returned (.int .i64 (mxK l (l.length - 1))) ∧ Below w.heap.size w w' := by
  have hlen := hl.len
  have hs0 := (hl.get 0 (show 0 < l.length by omega)).1
  have hc0' := (hl.get 0 (show 0 < l.length by omega)).2
  refine calls_of_SC (args := [.slice a l.length c]) Try.func28 rfl Try.ntmps28 rfl ?_
  simp only [argL]
  refine sc_seq ?_
  refine sc_region ?_
  refine qs (y_assign RF) ?_
  refine sq_nil ?_
  refine sx_then ?_
  refine sc_seq ?_
  refine sc_seq ?_
  refine sc_region ?_
  refine qs (y_move RF) ?_
  refine qs (y_len Try.underlying22 RF) ?_
  refine qs (y_lss RF RF) ?_
  refine sq_nil ?_
  refine sx_then ?_
  refine sc_f (lk_bool rfl (decide_eq_false (by omega))) ?_
  refine sc_skip ?_
  refine sx_then ?_
  refine sc_seq ?_
  refine sc_region ?_
  refine qs (y_move RF) ?_
  refine qs (y_ia_el (i := 0) Try.underlying22 Try.sizeOf3 RF RF (by omega) hs0) ?_
  refine qs (by first | exact y_load_ca0 Try.underlying3 rfl RF MM hc0' rfl | exact LD3) ?_
  refine qs (y_assign RF) ?_
  refine sq_nil ?_
  refine sx_then ?_
  refine sc_seq ?_
  refine sc_seq ?_
  refine sc_region ?_
  refine qs (y_assign RF) ?_
  refine sq_nil ?_
  refine sx_then ?_
  refine sc_block ?_
  refine sc_loop (σ := Nat)
    (fun s => [(0, .slice a l.length c), (3, .int .i64 (mxK l s)), (4, .int .i64 ((s + 1 : Nat) : Int))])
    (fun s => [.reg 0 w])
    (fun s => s + 1 ≤ l.length)
    (fun s => l.length - s)
    (0) ?_ SU SE ?_
  · omega
  rintro k hk
  refine sc_seq ?_
  refine sc_seq ?_
  refine sc_region ?_
  refine qs (y_move RF) ?_
  refine qs (y_move RF) ?_
  refine qs (y_len Try.underlying22 RF) ?_
  refine qs (y_lss RF RF) ?_
  refine sq_nil ?_
  refine sx_then ?_
  refine scp (fun hc1 => ?_) (fun hc1 => ?_)
  ·
    have hk' : k + 1 < l.length := by omega
    have hsk := (hl.get 0 hk').1
    have hck := (hl.get 0 hk').2
    refine sc_skip ?_
    refine sx_then ?_
    refine sc_seq ?_
    refine sc_block ?_
    refine sc_region ?_
    refine qs (y_move RF) ?_
    refine qs (y_move RF) ?_
    refine qs (y_move RF) ?_
    refine qs IA22 ?_
    refine qs (by first | exact y_load_ca0 Try.underlying3 rfl RF MM hck rfl | exact LD3) ?_
    refine qs (y_max RF RF) ?_
    refine qs (y_assign RF) ?_
    refine sq_nil ?_
    refine sx_blk ?_
    refine sx_then ?_
    refine sc_region ?_
    refine qs (y_move RF) ?_
    refine qs (y_add RF RF (by omega)) ?_
    refine qs (y_assign RF) ?_
    refine sq_nil ?_
    refine sx_round (k + 1) ?_ ?_ SU SE
    · omega
    · omega
  ·
    refine sc_exit ?_
    refine sx_then_exit ?_
    refine sx_round_exit ?_
    refine sx_blk_hit ?_
    refine sx_then ?_
    refine sc_seq ?_
    refine sc_region ?_
    refine qs (y_move RF) ?_
    refine qs (y_assign RF) ?_
    refine sq_nil ?_
    refine sx_then ?_
    refine sc_ret ?_
    refine sx_ret1 (.inl rfl) rfl Try.results28 RF ?_
    intro w' hw'
    refine ⟨?_, hw'.below MM⟩
    rw [show l.length - 1 = k by omega]
theorem index29 (w : World) (a : Option Addr) (c : Nat) (l : List Int) (hl : RowsA iRow 1 0 w a l) (v : Int) : Calls Try.prog 29 #[.slice a l.length c, .int .i64 v] w fun e w' => (∃ z : Int, e = .returned (.int .i64 z) ∧ (0 ≤ z ↔ v ∈ l)) ∧ Below w.heap.size w w' := by
  have hlen := hl.len
  refine calls_of_SC (args := [.slice a l.length c, .int .i64 v]) Try.func29 rfl Try.ntmps29 rfl ?_
  simp only [argL, Nat.zero_add]
  refine sc_seq ?_
  refine sc_region ?_
  refine qs (y_assign RF) ?_
  refine sq_nil ?_
  refine sx_then ?_
  refine sc_seq ?_
  refine sc_seq ?_
  refine sc_region ?_
  refine qs (y_move RF) ?_
  refine qs (y_len Try.underlying22 RF) ?_
  refine qs (y_move RF) ?_
  refine sq_nil ?_
  refine sx_then ?_
  refine sc_block ?_
  refine sc_loop (σ := Nat)
    (fun s => [(0, .slice a l.length c), (1, .int .i64 v), (7, .int .i64 l.length), (8, .int .i64 s)])
    (fun s => [.reg 0 w])
    (fun s => s ≤ l.length ∧ ∀ j, j < s → l.getD j 0 ≠ v)
    (fun s => l.length - s)
    (0) ?_ SU SE ?_
  · exact ⟨Nat.zero_le _, fun j hj => absurd hj (Nat.not_lt_zero j)⟩
  rintro k ⟨hk, hno⟩
  refine sc_seq ?_
  refine sc_region ?_
  refine qs (y_lss RF RF) ?_
  refine sq_nil ?_
  refine sx_then ?_
  refine sc_seq ?_
  refine scp (fun hc0 => ?_) (fun hc0 => ?_)
  ·
    have hk' : k < l.length := by omega
    have hsk := (hl.get 0 hk').1
    have hck := (hl.get 0 hk').2
    refine sc_skip ?_
    refine sx_then ?_
    refine sc_seq ?_
    refine sc_block ?_
    refine sc_seq ?_
    refine sc_region ?_
    refine qs (y_move RF) ?_
    refine qs (y_assign RF) ?_
    refine sq_nil ?_
    refine sx_then ?_
    refine sc_seq ?_
    refine sc_region ?_
    refine qs (y_move RF) ?_
    refine qs (y_move RF) ?_
    refine qs (y_move RF) ?_
    refine qs IA22 ?_
    refine qs (by first | exact y_load_ca0 Try.underlying3 rfl RF MM hck rfl | exact LD3) ?_
    refine qs (y_eql RF RF) ?_
    refine sq_nil ?_
    refine sx_then ?_
    refine scp (fun hc1 => ?_) (fun hc1 => ?_)
    ·
      refine sc_seq ?_
      refine sc_region ?_
      refine qs (y_move RF) ?_
      refine qs (y_assign RF) ?_
      refine sq_nil ?_
      refine sx_then ?_
      refine sc_ret ?_
      refine sx_blk_ret ?_
      refine sx_then_ret ?_
      refine sx_round_ret ?_
      refine sx_blk_ret ?_
      refine sx_then_ret ?_
      refine sx_ret1 (.inl rfl) rfl Try.results29 RF ?_
      intro w' hw'
      exact ⟨⟨_, rfl, fun _ => by rw [hc1]; exact getD_in hk', fun _ => by omega⟩, hw'.below MM⟩
    ·
      refine sc_skip ?_
      refine sx_blk ?_
      refine sx_then ?_
      refine sc_region ?_
      refine qs (y_add RF RF (by omega)) ?_
      refine qs (y_move RF) ?_
      refine sq_nil ?_
      refine sx_round (k + 1) ?_ ?_ SU SE
      · refine ⟨by omega, fun j hj => ?_⟩
        rcases Nat.lt_succ_iff_lt_or_eq.1 hj with h | rfl
        · exact hno j h
        · exact fun h => hc1 h.symm
      · omega
  ·
    refine sc_exit ?_
    refine sx_then_exit ?_
    refine sx_round_exit ?_
    refine sx_blk_hit ?_
    refine sx_then ?_
    refine sc_seq ?_
    refine sc_region ?_
    refine qs (y_assign RF) ?_
    refine sq_nil ?_
    refine sx_then ?_
    refine sc_ret ?_
    refine sx_ret1 (.inl rfl) rfl Try.results29 RF ?_
    intro w' hw'
    refine ⟨⟨_, rfl, fun h => by omega, fun h => ?_⟩, hw'.below MM⟩
    obtain ⟨j, hj, rfl⟩ := List.getElem_of_mem h
    have h2 := hno j (by omega)
    rw [List.getD_eq_getElem?_getD, List.getElem?_eq_getElem hj] at h2
    exact absurd rfl h2
theorem big31 (n : Int) (w : World) : Calls Try.prog 31 #[.int .i64 n] w fun e w' => e = .returned (.bool (decide (1 < n))) ∧ Below w.heap.size w w' := by
  refine calls_of_SC (args := [.int .i64 n]) Try.func31 rfl Try.ntmps31 rfl ?_
  simp only [argL]
  refine sc_seq ?_
  refine sc_region ?_
  refine qs (y_assign RF) ?_
  refine sq_nil ?_
  refine sx_then ?_
  refine sc_seq ?_
  refine sc_region ?_
  refine qs (y_move RF) ?_
  refine qs (y_gtr RF RF) ?_
  refine qs (y_assign RF) ?_
  refine sq_nil ?_
  refine sx_then ?_
  refine sc_ret ?_
  refine sx_ret1 (.inl rfl) rfl Try.results31 RF ?_
  intro w' hw'
  exact ⟨rfl, hw'.below MM⟩
end Go.Proofs.Ytfceajkofpafpaa
