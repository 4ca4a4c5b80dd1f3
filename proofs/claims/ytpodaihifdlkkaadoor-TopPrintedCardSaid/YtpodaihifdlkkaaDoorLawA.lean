/- What it changes if of a kind there are other sheets, and what it does not. No program in sight. -/
import Derived.Test.YtpodaihifdlkkaaDoorWalk12
namespace Go.Proofs.YtpodaihifdlkkaaDoor
def putS (s : So) (k : Nat) (x : Sh) : So := { s with sh := s.sh.set k x }
theorem put_len (s : So) (k : Nat) (x : Sh) : (putS s k x).sh.length = s.sh.length := by simp [putS]
theorem put_refN (s : So) (k : Nat) (x : Sh) : ∀ l ds, refN (putS s k x) l ds = refN s l ds
  | [], _ => rfl
  | i :: r, ds => by
    unfold refN
    rw [put_refN s k x r]; rfl
theorem put_open (s : So) (k : Nat) (x : Sh) (y : Int) (a : Bool) : openE (putS s k x) y a = openE s y a := by
  have h : refI (putS s k x) y.toNat = refI s y.toNat := by unfold refI; rw [put_refN]
  unfold openE refusedB
  rw [h]; rfl
theorem put_takes (s : So) (k : Nat) (x : Sh) (y : Int) : takesV (putS s k x) y = takesV s y := by
  unfold takesV tksL
  rw [put_len]; rfl
theorem put_ok {s : So} (h : stB s = true) (k : Nat) {x : Sh} (hx : shB x = true) : stB (putS s k x) = true := by
  unfold stB at h ⊢
  simp only [Bool.and_eq_true, List.all_eq_true] at h ⊢
  obtain ⟨⟨⟨⟨⟨⟨⟨h1, h2⟩, h3⟩, h4⟩, h5⟩, h6⟩, h7⟩, h8⟩ := h
  refine ⟨⟨⟨⟨⟨⟨⟨by rw [put_len]; exact h1, h2⟩, h3⟩, h4⟩, fun y hy => ?_⟩, h6⟩, fun y hy => ?_⟩, h8⟩
  · rcases List.mem_or_eq_of_mem_set hy with h | rfl
    · exact h5 y h
    · exact hx
  · have := h7 y hy
    unfold mkB at this ⊢
    rw [put_len]; exact this
theorem put_get {s : So} {k : Nat} (hk : k < s.sh.length) (x : Sh) : (putS s k x).sh.getD k sh0 = x := by
  unfold putS
  simp [List.getD_eq_getElem?_getD, hk]
theorem put_other (s : So) {k i : Nat} (h : i ≠ k) (x : Sh) : (putS s k x).sh.getD i sh0 = s.sh.getD i sh0 := by
  unfold putS
  simp [List.getD_eq_getElem?_getD, Ne.symm h]
theorem put_many {s : So} {k : Nat} (hk : k < s.sh.length) (m : Sp) (c c' : Int) (i : Nat) : ((putS s k ⟨m, c⟩).sh.getD i sh0).many = ((putS s k ⟨m, c'⟩).sh.getD i sh0).many := by
  by_cases e : i = k
  · subst e; rw [put_get hk, put_get hk]
  · rw [put_other s e, put_other s e]
theorem pays_put {s : So} {k : Nat} {m : Sp} (hk : k < s.sh.length) (tk : List Int) (pick : Sp → Int) (h : tk.getD k 0 ≤ pick m) (c c' : Int) : paysV (putS s k ⟨m, c⟩) pick tk = paysV (putS s k ⟨m, c'⟩) pick tk := by
  have hl : lackL (putS s k ⟨m, c⟩) pick tk = lackL (putS s k ⟨m, c'⟩) pick tk := by
    unfold lackL
    apply List.map_congr_left
    intro i _
    unfold lackF
    rw [put_many hk m c c' i]
  unfold paysV paysT
  rw [hl]
  congr 1
  apply List.map_congr_left
  intro i hi
  have hi := List.mem_range.1 hi
  by_cases e : i = k
  · subst e
    rw [lackL_get _ _ hi]
    unfold lackF
    rw [put_get hk]
    dsimp only
    rw [show max 0 (tk.getD i 0 - pick m) = 0 by omega, Int.zero_mul, Int.zero_mul]
  · rw [put_other s e, put_other s e]
theorem prof_put {s : So} {k : Nat} {m : Sp} (hk : k < s.sh.length) (x : Int) (h1 : (takesV s x).getD k 0 ≤ m.lo) (h2 : m.lo ≤ m.hi) (c c' : Int) : profV (putS s k ⟨m, c⟩) x = profV (putS s k ⟨m, c'⟩) x := by
  unfold profV
  rw [put_open, put_open, put_takes, put_takes, pays_put hk _ (·.lo) h1 c c', pays_put hk _ (·.hi) (Int.le_trans h1 h2) c c']
  rfl
theorem lacks_put {s : So} {k : Nat} {m : Sp} (hk : k < s.sh.length) (x : Int) (he : openE s x true = 0) (c : Int) : (lacksV (putS s k ⟨m, c⟩) x).length = (takesV s x).length ∧ (lacksV (putS s k ⟨m, c⟩) x).getD k sp0 = ⟨max 0 ((takesV s x).getD k 0 - m.hi), max 0 ((takesV s x).getD k 0 - m.lo)⟩ := by
  have htl := takesV_len (openE_in he)
  have hv : lacksV (putS s k ⟨m, c⟩) x = lacksG (putS s k ⟨m, c⟩) x s.sh.length := by unfold lacksV; rw [put_open, if_pos he, put_len]
  rw [hv]
  refine ⟨by rw [lacksG_len, htl], ?_⟩
  unfold lacksG
  rw [List.getD_eq_getElem?_getD, List.getElem?_map, List.getElem?_range hk]
  show lackSp _ _ k = _
  unfold lackSp lackF
  rw [put_takes, put_get hk]
/-- what is known of the kind that is looked at -/
structure PrF (s : So) (x : Int) (sp : Sp) (k : Nat) (n : Nat) : Prop where
  val : sheetsR sp ((takesV s x).getD k 0) = ((n : Int), 0)
  good : goodR sp n = (goodV sp n, 0)
  lo : (takesV s x).getD k 0 ≤ (goodV sp n).lo
  le : 0 ≤ (goodV sp n).lo ∧ (goodV sp n).lo ≤ (goodV sp n).hi
  few : 0 < n → goodR sp ((n : Int) - 1) = (goodV sp ((n : Int) - 1), 0) ∧ (goodV sp ((n : Int) - 1)).lo < (takesV s x).getD k 0 ∧ 0 ≤ (goodV sp ((n : Int) - 1)).lo ∧ (goodV sp ((n : Int) - 1)).lo ≤ (goodV sp ((n : Int) - 1)).hi ∧ (goodV sp ((n : Int) - 1)).hi ≤ (goodV sp n).hi
  bd : n ≤ 600000
theorem prF {s : So} {x : Int} {sp : Sp} {k : Nat} (h : (sheetsR sp ((takesV s x).getD k 0)).2 = 0) : ∃ n, PrF s x sp k n := by
  have hf := sheets_ok h
  have hp := spB_parts hf.sp
  obtain ⟨n, hn⟩ : ∃ n, n = sheetsV sp ((takesV s x).getD k 0) := ⟨_, rfl⟩
  have h2 := hf.le
  have h3 := hf.enough
  have h4 := hf.less
  have h5 := hf.val
  rw [← hn] at h2 h3 h4 h5
  refine ⟨n, Prod.ext h5 h, good_in hf.sp (by omega) (by omega), h3, good_span hf.sp (by omega), fun hpos => ?_, h2⟩
  have hl := h4 (n - 1) (by omega)
  have e : ((n - 1 : Nat) : Int) = (n : Int) - 1 := by omega
  rw [e] at hl
  have hg := good_span hf.sp (n := (n : Int) - 1) (by omega)
  exact ⟨good_in hf.sp (by omega) (by omega), hl, hg.1, hg.2, good_mono2 hp.1 (by omega) (by omega)⟩
theorem open_eq (s : So) (x : Int) (h : openE s x true ≠ 0) : decide (openE s x true = 11) = decide (openE s x false = 0) := by
  revert h
  unfold openE
  cases inS s x <;> cases refusedB s x <;> simp
theorem open_false (s : So) (x : Int) (h : openE s x true = 0) : openE s x false = 0 := by
  have := openE_in h
  unfold openE
  rw [this]; rfl
theorem sheet_ok {m : Sp} {c : Int} (h : 0 ≤ m.lo ∧ m.lo ≤ m.hi) (h1 : m.hi ≤ 100000) (hc : 0 ≤ c ∧ c ≤ 10000) : shB ⟨m, c⟩ = true := by
  unfold shB spB inB
  simp only [Bool.and_eq_true, decide_eq_true_eq]
  omega
end Go.Proofs.YtpodaihifdlkkaaDoor
