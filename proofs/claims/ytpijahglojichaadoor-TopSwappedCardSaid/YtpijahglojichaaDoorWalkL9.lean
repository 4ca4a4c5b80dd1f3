/- The walks of who can have lost a piece, where all are silent. -/
import Derived.Test.YtpijahglojichaaDoorWalkL8
namespace Go.Proofs.YtpijahglojichaaDoor
open Go Go.Eng Go.RowKit Go.Proofs
set_option maxRecDepth 100000
/-- a tale in which all are silent, and some truth fits -/
structure TaF (t : Tl) (np : Nat) : Prop where
  ok : OkT t
  win : ∀ k, k < t.pieces → (winW t.looks k).1 < (winW t.looks k).2
  ad : t.admits = admL np np 0
  np6 : np ≤ 6
  free : ∀ k, k < t.pieces → canN t k &&& freeN t.admits t.admits.length ≠ 0
section
variable {t : Tl} {np : Nat}
theorem TaF.can (_ : TaF t np) {k : Nat} (hk : k < t.pieces) (hp : t.pieces ≤ 16) : (canL t t.pieces).getD k 0 = canN t k := by rw [canL_get _ _ (by omega), if_pos hk]
theorem TaF.lt (h : TaF t np) (k : Nat) : (canL t t.pieces).getD k 0 < 256 := by
  rcases Nat.lt_or_ge k 16 with hk | hk
  · rw [canL_get _ _ hk]
    split
    · exact canN_lt h.ok k
    · decide
  · rw [List.getD_eq_getElem?_getD, List.getElem?_eq_none (by rw [canL_len]; exact hk)]; decide
theorem TaF.fr (h : TaF t np) : ∀ k, k < t.pieces → (canL t t.pieces).getD k 0 &&& freeN t.admits t.admits.length ≠ 0 := fun k hk => by
  rw [h.can hk h.ok.p16]; exact h.free k hk
theorem TaF.fits (h : TaF t np) : fitsB (canL t t.pieces) (freeN t.admits t.admits.length) np (cntS np np 0) t.pieces = true := by
  rw [show cntS np np 0 = 0 from if_neg (Nat.lt_irrefl _)]; exact fits_silent h.fr
end
/-- the members of a set, put together again -/
def orB (ds : List Nat) : Nat := ds.foldl (fun s p => s ||| pw2 p) 0
theorem orB_snoc (ds : List Nat) (p : Nat) : orB (ds ++ [p]) = orB ds ||| pw2 p := by unfold orB; rw [List.foldl_append]; rfl
theorem orB_all : ∀ x, x < 256 → orB (memL x) = x ∧ ∀ p, p ∈ memL x → p ≤ 7 := by decide +kernel
theorem orB_lt : ∀ (ds : List Nat), (∀ p, p ∈ ds → p ≤ 7) → orB ds < 256 := by
  have key : ∀ (ds : List Nat) (s : Nat), s < 256 → (∀ p, p ∈ ds → p ≤ 7) → ds.foldl (fun s p => s ||| pw2 p) s < 256 := by
    intro ds
    induction ds with
    | nil => intro s hs _; exact hs
    | cons d ds ih => intro s hs hp; exact ih _ (or_lt8 hs (pow_lt8 (hp d (List.mem_cons_self ..)))) fun p h => hp p (List.mem_cons_of_mem _ h)
  exact fun ds hp => key ds 0 (by decide) hp

theorem check70 (w : World) (z : TlA) (t : Tl) (hz : TlAt 0 w z t) (np : Nat) (h : TaF t np) (f : FuncId) (caps : List Value) (hcf : ∀ args w, (callFunc f args).run Tryd.prog w = .ok (.enter f args) w) (hv : ∀ w1, Below w.heap.size w w1 → Calls Tryd.prog f caps.toArray w1 fun e w' => e = .returned (.bool true) ∧ Below w1.heap.size w1 w') : Calls Tryd.prog 70 #[.agg (tlV z t).toArray, .func (.func f) #[] caps.toArray] w fun e w' => e = .returned (.tuple #[.agg (bkV z t (canL t t.pieces)).toArray, .int .i64 0]) ∧ Below w.heap.size w w' := by
  have hal : t.admits.length = np := by rw [h.ad, admL_len]
  have hp16 := h.ok.p16
  refine calls_of_SC (args := [.agg (tlV z t).toArray, .func (.func f) #[] caps.toArray]) Tryd.func70 rfl Tryd.ntmps70 rfl ?_
  simp only [argL, Nat.zero_add]
  refine sc_seq ?_
  refine sc_region ?_
  refine sq_box RF rfl (fun b2 => ?_)
  refine sq_alloc Tryd.zeroValue118 rfl (fun b4 => ?_)
  refine qs (y_assign RF) ?_
  refine sq_nil ?_
  refine sx_then ?_
  refine sc_seq ?_
  refine sc_block ?_
  refine sc_seq ?_
  refine sc_region ?_
  refine qs LD61 ?_
  refine qy (yc Tryd.call62 E1 (fun w1 hw1 => isTale62 w1 z t (hz.at hw1 MM) h.ok)) ?_
  refine qs (y_not RF) ?_
  refine qs (y_assign RF) ?_
  refine sq_nil ?_
  refine sx_then ?_
  refine sc_f (lk_bool rfl (rfl)) ?_
  refine sc_seq ?_
  refine sc_region ?_
  refine qs (y_move RF) ?_
  refine qy (y_call (first := []) (caps := caps) (by exact rfl) hcf EvL.nil (fun w1 hw1 => hv w1 (hw1.below MM))) ?_
  refine qs (y_not RF) ?_
  refine qs (y_assign RF) ?_
  refine sq_nil ?_
  refine sx_then ?_
  refine sc_f (lk_bool rfl (rfl)) ?_
  refine sc_skip ?_
  refine sx_blk ?_
  refine sx_then ?_
  refine sc_seq ?_
  refine sc_region ?_
  refine qs LD61 ?_
  refine qy (yc Tryd.call68 E1 (fun w1 hw1 => open68 w1 z t (hz.at hw1 MM) h.ok h.win)) ?_
  refine qs (y_move RF) ?_
  refine qs (y_extract RF RF) ?_
  refine qs (y_extract RF RF) ?_
  refine sq_store_all (vs := (bkV z t (canL t t.pieces))) Tryd.sizeOf118 RF RF (by rfl) RM (bkV_len z t (canL_len _ _)) rfl ?_
  refine qs (y_assign RF) ?_
  refine sq_nil ?_
  refine sx_then ?_
  refine sc_seq ?_
  refine sc_seq ?_
  refine sc_region ?_
  refine qs (y_move RF) ?_
  refine qs (y_not RF) ?_
  refine qs (y_move RF) ?_
  refine sq_known (tt := 24) (b' := false) RF (rfl) ?_
  refine qg (by first | exact y_load_all Tryd.underlying118 rfl Tryd.sizeOf118 RF MM (bkV_len z t (canL_len _ _)) | exact LD118) ?_
  refine sq_gt RF RF (y_call (first := []) (caps := []) RF Tryd.call69 (EvL.cons RF EvL.nil) (fun w1 hw1 => fits69 w1 z t (hz.at hw1 MM) np np 0 h.ad h.np6 h.np6 (by omega) hp16 (canL t t.pieces) (canL_len _ _) h.lt)) rfl ?_
  refine qg (y_not RF) ?_
  refine qs (y_pick_f RF RF) ?_
  refine sq_nil ?_
  refine sx_then ?_
  refine sc_f (lk_bool rfl (by rw [h.fits]; rfl)) ?_
  refine sc_skip ?_
  refine sx_then ?_
  refine sc_seq ?_
  refine sc_region ?_
  refine qs (by first | exact y_load_all Tryd.underlying118 rfl Tryd.sizeOf118 RF MM (bkV_len z t (canL_len _ _)) | exact LD118) ?_
  refine sq_store_all (vs := (bkV z t (canL t t.pieces))) Tryd.sizeOf118 RF RF (by rfl) RM (bkV_len z t (canL_len _ _)) (by rw [List.size_toArray]; exact bkV_len z t (canL_len _ _)) ?_
  refine qs (y_assign RF) ?_
  refine sq_nil ?_
  refine sx_then ?_
  refine sc_ret ?_
  refine sx_retct (.inl rfl) rfl Tryd.results70 Tryd.underlying118 rfl Tryd.sizeOf118 RF MM (bkV_len z t (canL_len _ _)) RF ?_
  intro w' hw'
  exact ⟨rfl, hw'.below MM⟩
theorem who71 (w : World) (z : TlA) (t : Tl) (pa pb : Addr) (g : Nat) (h1 : CA 0 w pa [.int .i64 (g : Int)]) (h2 : CA 0 w pb (tlV z t)) (hg : g < t.pieces) (hp : t.pieces ≤ 16) : Calls Tryd.prog 71 #[.pointer (some pa), .pointer (some pb)] w fun e w' => e = .returned (.bool true) ∧ Below w.heap.size w w' := by
  refine calls_of_SC (args := [.pointer (some pa), .pointer (some pb)]) Tryd.func71 rfl Tryd.ntmps71 rfl ?_
  simp only [argL, Nat.zero_add]
  refine sc_seq ?_
  refine sc_region ?_
  refine qs (y_assign RF) ?_
  refine sq_nil ?_
  refine sx_then ?_
  refine sc_seq ?_
  refine sc_region ?_
  refine qs (by first | exact y_load_ca0 Tryd.underlying3 rfl RF MM h1 rfl | exact LD3) ?_
  refine qs FA61_3 ?_
  refine qs (by first | exact y_load_caj (j := 0) Tryd.underlying3 rfl RF MM h2 rfl | exact LD3) ?_
  refine qs (y_sub RF RF (by omega)) ?_
  refine qy (yc Tryd.call63 E3 (fun w1 hw1 => within63 g 0 ((t.pieces : Int) - 1) w1)) ?_
  refine qs (y_assign RF) ?_
  refine sq_nil ?_
  refine sx_then ?_
  refine sc_ret ?_
  refine sx_ret1 (.inl rfl) rfl Tryd.results71 RF ?_
  intro w' hw'
  exact ⟨by rw [decide_eq_true (by omega)], hw'.below MM⟩
theorem lost74 (w : World) (z : TlA) (t : Tl) (pa pb : Addr) (g : Nat) (h1 : CA 0 w pa [.int .i64 (g : Int)]) (h2 : CA 0 w pb (tlV z t)) (hg : g < t.admits.length) (hp : t.admits.length ≤ 16) : Calls Tryd.prog 74 #[.pointer (some pa), .pointer (some pb)] w fun e w' => e = .returned (.bool true) ∧ Below w.heap.size w w' := by
  refine calls_of_SC (args := [.pointer (some pa), .pointer (some pb)]) Tryd.func74 rfl Tryd.ntmps74 rfl ?_
  simp only [argL, Nat.zero_add]
  refine sc_seq ?_
  refine sc_region ?_
  refine qs (y_assign RF) ?_
  refine sq_nil ?_
  refine sx_then ?_
  refine sc_seq ?_
  refine sc_region ?_
  refine qs (by first | exact y_load_ca0 Tryd.underlying3 rfl RF MM h1 rfl | exact LD3) ?_
  refine qs FA61_25 ?_
  refine qs (by first | exact y_load_caj (j := 3) Tryd.underlying25 rfl RF MM h2 rfl | exact LD25) ?_
  refine qs (y_len Tryd.underlying25 RF) ?_
  refine qs (y_sub RF RF (by omega)) ?_
  refine qy (yc Tryd.call63 E3 (fun w1 hw1 => within63 g 0 ((t.admits.length : Int) - 1) w1)) ?_
  refine qs (y_assign RF) ?_
  refine sq_nil ?_
  refine sx_then ?_
  refine sc_ret ?_
  refine sx_ret1 (.inl rfl) rfl Tryd.results74 RF ?_
  intro w' hw'
  exact ⟨by rw [decide_eq_true (by omega)], hw'.below MM⟩
theorem Who38 (w : World) (z : TlA) (t : Tl) (hz : TlAt 0 w z t) (np : Nat) (h : TaF t np) (hT : TabAt w) (g : Nat) (hg : g < t.pieces) : Calls Tryd.prog 38 #[.agg (tlV z t).toArray, .int .i64 (g : Int)] w fun e w' => e = .returned (.tuple #[.int .i64 (canN t g : Int), .int .i64 0]) ∧ Below w.heap.size w w' := by
  have hal : t.admits.length = np := by rw [h.ad, admL_len]
  have hp1 := h.ok.p1
  have hp16 := h.ok.p16
  have hc8 := canN_lt h.ok g
  have hor := orB_all _ hc8
  refine calls_of_SCm (args := [.agg (tlV z t).toArray, .int .i64 (g : Int)]) Tryd.func38 rfl Tryd.ntmps38 rfl ?_
  simp only [argL, Nat.zero_add]
  refine sc_seq ?_
  refine sc_region ?_
  refine sq_box RF rfl (fun b2 => ?_)
  refine sq_box RF rfl (fun b3 => ?_)
  refine sq_alloc Tryd.zeroValue3 rfl (fun b4 => ?_)
  refine qs (y_assign RF) ?_
  refine sq_nil ?_
  refine sx_then ?_
  refine sc_seq ?_
  refine sc_region ?_
  refine qs LD61 ?_
  refine qs (y_makeFunc EvL.nil (EvL.cons RF (EvL.cons RF EvL.nil))) ?_
  refine qy (yc Tryd.call70 E2 (fun w1 hw1 => check70 w1 z t (hz.at hw1 MM) np h 71 [.pointer (some ⟨b3, 0, none⟩), .pointer (some ⟨b2, 0, none⟩)] Tryd.call71 (fun w2 hw2 => who71 w2 z t ⟨b3, 0, none⟩ ⟨b2, 0, none⟩ g (CA.blk (vs := [.int .i64 (g : Int)]) (hw1.ext hw2) MM) (CA.blk (hw1.ext hw2) MM) hg hp16))) ?_
  refine qs (y_move RF) ?_
  refine qs (y_extract RF RF) ?_
  refine qs (y_extract RF RF) ?_
  refine sq_alloc Tryd.zeroValue118 rfl (fun b6 => ?_)
  refine sq_store_all (vs := (bkV z t (canL t t.pieces))) Tryd.sizeOf118 RF RF (by rfl) RM (bkV_len z t (canL_len _ _)) rfl ?_
  refine qs (y_assign RF) ?_
  refine sq_nil ?_
  refine sx_then ?_
  refine sc_seq ?_
  refine sc_seq ?_
  refine sc_region ?_
  refine qs (y_move RF) ?_
  refine qs (y_neq RF RF) ?_
  refine sq_nil ?_
  refine sx_then ?_
  refine sc_f (lk_bool rfl (rfl)) ?_
  refine sc_skip ?_
  refine sx_then ?_
  refine sc_seq ?_
  refine sc_seq ?_
  refine sc_region ?_
  refine qs LD3 ?_
  refine qs FA118_116 ?_
  refine qs (y_ia_arr Tryd.underlying116 Tryd.sizeOf3 RF RF (by omega)) ?_
  refine qs (by first | exact y_load_blk Tryd.underlying3 rfl RF MM (bkA z t (cs := (canL t t.pieces)) (i := g) (by rw [canL_len]; omega)) | exact LD3) ?_
  rw [h.can hg hp16]
  refine sq_call_new (first := []) (caps := []) (Z := Addr) (fun a => .func (.func 98) #[] #[.pointer (some a)]) (fun lo w' a => CA lo w' a [.int .i64 (canN t g : Int)]) RF Tryd.call72 (EvL.cons RF EvL.nil) (fun w1 _ => members72 w1 (canN t g : Int)) rfl (fun lo wr pa hpa => ?_)
  refine sq_nil ?_
  refine sx_then ?_
  refine sc_block ?_
  refine sc_rangeFunc (Z := Nat) (ps := [22]) (lb := [.pointer (some pa)]) (fun y => .reg lo wr :: .reg 0 w :: (.blk b4 (.cells #[.int .i64 (y : Int)] 3 (0, 0)) :: .blk b6 (.cells (bkV z t (canL t t.pieces)).toArray 118 (0, 0)) :: .blk b3 (.cells #[.int .i64 (g : Int)] 3 (0, 0)) ::  [.blk b2 (.cells (tlV z t).toArray 61 (0, 0))])) (fun y => y = orB (memL (canN t g))) rfl RF Tryd.call98 ?_ ?_
  ·
    intro fn tm l_ D_ hts htL w1 hw1
    refine (eachC (w0 := w) hw1 hT (by omega) hpa (fun (y : Nat) => (.blk b4 (.cells #[.int .i64 (y : Int)] 3 (0, 0)) :: .blk b6 (.cells (bkV z t (canL t t.pieces)).toArray 118 (0, 0)) :: .blk b3 (.cells #[.int .i64 (g : Int)] 3 (0, 0)) ::  []) ++ [.blk b2 (.cells (tlV z t).toArray 61 (0, 0))]) (fun (ds : List Nat) (y : Nat) => y = orB ds) 0 rfl SR ?_).mono ?_
    rotate_left
    · rintro e w' ⟨hv, y, h1, h2⟩
      exact ⟨y, h1, hv, h2⟩
    rintro c' cd' y ds i r hmem hy F2 w2 hw2
    have hi7 := hor.2 i (by rw [hmem]; simp)
    have hpl := pow_lt8 hi7
    have hyl : y < 256 := by rw [hy]; exact orB_lt _ fun p hp => hor.2 p (by rw [hmem]; exact List.mem_append_left _ hp)
    obtain ⟨hs2', hL2⟩ := one_param (p := 22) (u := .int .i64 (i : Int)) hts htL (Nat.le_of_ble_eq_true rfl)
    refine round_of_SC (N := 32) hs2' hL2 (hw2.sel (Sel.cons .here (Sel.cons .here (selMove (.blk b4 (.cells #[.int .i64 (y : Int)] 3 (0, 0)) :: .blk b6 (.cells (bkV z t (canL t t.pieces)).toArray 118 (0, 0)) :: .blk b3 (.cells #[.int .i64 (g : Int)] 3 (0, 0)) ::  []) [.blk b2 (.cells (tlV z t).toArray 61 (0, 0))] F2 (.reg 0 w))))) ?_
    dsimp only [List.cons_append, List.nil_append]
    refine sc_region ?_
    refine qs (y_assign RF) ?_
    refine sq_nil ?_
    refine sx_begin rfl RM rfl ?_
    refine sc_block ?_
    refine sc_seq ?_
    refine sc_region ?_
    refine qs (by first | exact y_load_all Tryd.underlying118 rfl Tryd.sizeOf118 RF MM (bkV_len z t (canL_len _ _)) | exact LD118) ?_
    refine qs LD3 ?_
    refine qs (y_move RF) ?_
    refine qy (yc Tryd.call73 E3 (fun w1 hw1 => gives73 w1 z t (hz.at hw1 MM) np h.ad h.np6 hp1 hp16 (canL t t.pieces) (canL_len _ _) h.lt h.fr g hg i)) ?_
    refine sq_nil ?_
    refine sx_then ?_
    refine sc_t (lk_bool rfl (rfl)) ?_
    refine sc_drawX ([.blk b4 (.cells #[.int .i64 (y : Int)] 3 (0, 0))]) (by kernel_rfl) ?_
    refine xj_s 0 RF (by kernel_rfl) SR LD3 rfl ?_
    refine xj_s 1 RF (by kernel_rfl) SR (y_move RF) rfl ?_
    refine xj_s 2 RF (by kernel_rfl) SR (y_shl RF RF (by omega) (by rw [pw2_shl]; omega)) rfl ?_
    rw [pw2_shl]
    refine xj_s 3 RF (by kernel_rfl) SR (y_or RF RF (by omega) (by omega)) rfl ?_
    rw [Int.toNat_natCast, Int.toNat_natCast]
    refine xj_one 4 RF (by kernel_rfl) ?_
    refine sq_store Tryd.sizeOf3 RF RF (by first | rfl | assumption) RM (by first | exact Nat.le_of_ble_eq_true rfl | simp | omega) ?_
    refine sq_nil ?_
    refine sx_xpl (by kernel_rfl) ?_
    refine xj_done (by kernel_rfl) ?_
    refine sx_blk ?_
    refine sx_endround RM ?_
    intro w' hw'
    refine ⟨y ||| pw2 i, by rw [orB_snoc, ← hy], rfl, ?_⟩
    have hsel : Hp w (.blk l_ (.loop { (LP fn tm [22] c' cd' D_) with state := .ready, pending := none }) :: .blk D_ (.deferred (some [])) :: ((.blk b4 (.cells #[.int .i64 ((y ||| pw2 i : Nat) : Int)] 3 (0, 0)) :: .blk b6 (.cells (bkV z t (canL t t.pieces)).toArray 118 (0, 0)) :: .blk b3 (.cells #[.int .i64 (g : Int)] 3 (0, 0)) ::  []) ++ .reg 0 w :: ([.blk b2 (.cells (tlV z t).toArray 61 (0, 0))] ++ F2))) w' := hw'.sel SR
    exact hsel.sel (Sel.cons .here (Sel.cons .here (selBack (.blk b4 (.cells #[.int .i64 ((y ||| pw2 i : Nat) : Int)] 3 (0, 0)) :: .blk b6 (.cells (bkV z t (canL t t.pieces)).toArray 118 (0, 0)) :: .blk b3 (.cells #[.int .i64 (g : Int)] 3 (0, 0)) ::  []) [.blk b2 (.cells (tlV z t).toArray 61 (0, 0))] F2 (.reg 0 w))))
  ·
    rintro D_ y hy
    dsimp only at hy ⊢
    rw [hor.1] at hy
    subst hy
    refine sx_blk ?_
    refine sx_then ?_
    refine sc_seq ?_
    refine sc_region ?_
    refine qs LD3 ?_
    refine sq_store Tryd.sizeOf3 RF RF (by first | rfl | assumption) RM (by first | exact Nat.le_of_ble_eq_true rfl | simp | omega) ?_
    refine qs (y_assign RF) ?_
    refine sq_nil ?_
    refine sx_then ?_
    refine sc_ret ?_
    refine sx_retM (.inl rfl) rfl RM _ (res_st Tryd.results38 Tryd.underlying3 rfl RF MM RF) ?_
    intro w' hw'
    exact ⟨rfl, hw'.below MM⟩
end Go.Proofs.YtpijahglojichaaDoor
