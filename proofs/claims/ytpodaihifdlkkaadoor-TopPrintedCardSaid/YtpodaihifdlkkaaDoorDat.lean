/- Plain data of a store; how many sheets are good, and have to be printed. No program in sight. -/
namespace Go.Proofs.YtpodaihifdlkkaaDoor
structure Sp where
  lo : Int
  hi : Int
deriving DecidableEq
structure Sh where
  many : Sp
  cost : Int
structure Li where
  copies : Int
  from_ : Int
  to_ : Int
  fee : Int
structure Mk where
  pic : Int
  tk : List Int
structure Wi where
  puz : Int
  many : Int
  hour : Int
  price : Int
  ship : Int
structure So where
  sh : List Sh
  li : List Li
  mks : List Mk
  wi : List Wi
def sp0 : Sp := ⟨0, 0⟩
def sh0 : Sh := ⟨sp0, 0⟩
def li0 : Li := ⟨0, 0, 0, 0⟩
def mk0 : Mk := ⟨0, []⟩
def wi0 : Wi := ⟨0, 0, 0, 0, 0⟩
def inB (n l h : Int) : Bool := decide (l ≤ n ∧ n ≤ h)
def spB (s : Sp) (l h : Int) : Bool := decide (l ≤ s.lo ∧ s.lo ≤ s.hi ∧ s.hi ≤ h)
def shB (x : Sh) : Bool := spB x.many 0 100000 && inB x.cost 0 10000
def liB (x : Li) : Bool := inB x.copies 0 1000 && spB ⟨x.from_, x.to_⟩ 0 1048576 && inB x.fee 0 10000
def tkB (n : Int) : Bool := inB n 0 20
def mkB (s : So) (x : Mk) : Bool := inB x.pic 0 ((s.li.length : Int) - 1) && decide (x.tk.length = s.sh.length) && x.tk.all tkB
def wiB (s : So) (x : Wi) : Bool := inB x.puz 0 ((s.mks.length : Int) - 1) && inB x.many 1 1000 && inB x.hour 0 1048576 && inB x.price 0 10000 && inB x.ship 0 100000
def stB (s : So) : Bool := inB (s.sh.length : Int) 1 4 && inB (s.li.length : Int) 1 5 && inB (s.mks.length : Int) 1 6 && decide (s.wi.length ≤ 9) && s.sh.all shB && s.li.all liB && s.mks.all (mkB s) && s.wi.all (wiB s)
/-! ### sheets -/
def goodV (s : Sp) (n : Int) : Sp := ⟨n - (n * s.hi + 999) / 1000, n - n * s.lo / 1000⟩
def goodR (s : Sp) (n : Int) : Sp × Int := if spB s 0 900 = false then (sp0, 1) else if inB n 0 1048576 = false then (sp0, 2) else (goodV s n, 0)
theorem spB_parts {s : Sp} {l h : Int} (hs : spB s l h = true) : l ≤ s.lo ∧ s.lo ≤ s.hi ∧ s.hi ≤ h := of_decide_eq_true hs
theorem good_mono {s : Sp} (h0 : 0 ≤ s.hi) (h9 : s.hi ≤ 900) {n m : Int} (h : n ≤ m) : (goodV s n).lo ≤ (goodV s m).lo := by
  obtain ⟨k, rfl⟩ : ∃ k : Nat, m = n + k := ⟨(m - n).toNat, by omega⟩
  clear h
  induction k with
  | zero => simp
  | succ k ih =>
    refine Int.le_trans ih ?_
    unfold goodV
    dsimp only
    rw [show n + ((k + 1 : Nat) : Int) = (n + (k : Int)) + 1 by omega, Int.add_mul (n + (k : Int)) 1 s.hi, Int.one_mul]
    generalize (n + (k : Int)) * s.hi = q
    omega
theorem good_mono2 {s : Sp} (h0 : 0 ≤ s.lo) (h9 : s.lo ≤ 900) {n m : Int} (h : n ≤ m) : (goodV s n).hi ≤ (goodV s m).hi := by
  obtain ⟨k, rfl⟩ : ∃ k : Nat, m = n + k := ⟨(m - n).toNat, by omega⟩
  clear h
  induction k with
  | zero => simp
  | succ k ih =>
    refine Int.le_trans ih ?_
    unfold goodV
    dsimp only
    rw [show n + ((k + 1 : Nat) : Int) = (n + (k : Int)) + 1 by omega, Int.add_mul (n + (k : Int)) 1 s.lo, Int.one_mul]
    generalize (n + (k : Int)) * s.lo = q
    omega
theorem good_enough {s : Sp} (h9 : s.hi ≤ 900) {n : Int} (hn : 0 ≤ n) : n - 10 ≤ 10 * (goodV s n).lo := by
  unfold goodV
  dsimp only
  have : n * s.hi ≤ n * 900 := Int.mul_le_mul_of_nonneg_left h9 hn
  omega
/-- a span of good sheets is one -/
theorem good_span {s : Sp} (hs : spB s 0 900 = true) {n : Int} (hn : 0 ≤ n) : 0 ≤ (goodV s n).lo ∧ (goodV s n).lo ≤ (goodV s n).hi := by
  have hp := spB_parts hs
  have h1 : n * s.lo ≤ n * s.hi := Int.mul_le_mul_of_nonneg_left hp.2.1 hn
  have h2 : n * s.hi ≤ n * 900 := Int.mul_le_mul_of_nonneg_left hp.2.2 hn
  have h3 : 0 ≤ n * s.lo := Int.mul_nonneg hn hp.1
  unfold goodV
  dsimp only
  omega
def seekN (q : Nat → Bool) : Nat → Nat → Nat
  | 0, k => k
  | f + 1, k => if q k = true then k else seekN q f (k + 1)
theorem seekN_eq (q : Nat → Bool) (n : Nat) (hn : q n = true) : ∀ (f k : Nat), k ≤ n → n - k ≤ f → (∀ j, k ≤ j → j < n → q j = false) → seekN q f k = n
  | 0, k, h1, h2, _ => by unfold seekN; omega
  | f + 1, k, h1, h2, h3 => by
    unfold seekN
    split
    · rename_i h
      rcases Nat.lt_or_eq_of_le h1 with h4 | h4
      · rw [h3 k (Nat.le_refl _) h4] at h; cases h
      · exact h4
    · rename_i h
      have : k ≠ n := fun e => h (e ▸ hn)
      exact seekN_eq q n hn f (k + 1) (by omega) (by omega) fun j hj hjn => h3 j (by omega) hjn
theorem seekN_le2 (q : Nat → Bool) (n : Nat) (hn : q n = true) : ∀ (f k : Nat), k ≤ n → seekN q f k ≤ n
  | 0, k, h => by unfold seekN; exact h
  | f + 1, k, h => by
    unfold seekN
    cases hq : q k
    · rw [if_neg (by simp)]
      have : k ≠ n := fun e => by rw [e, hn] at hq; cases hq
      exact seekN_le2 q n hn f (k + 1) (by omega)
    · rw [if_pos rfl]; exact h
theorem seekN_first (q : Nat → Bool) : ∀ (f k : Nat), seekN q f k < k + f → q (seekN q f k) = true ∧ ∀ j, k ≤ j → j < seekN q f k → q j = false
  | 0, k, h => by unfold seekN at h; omega
  | f + 1, k, h => by
    unfold seekN at h ⊢
    cases hq : q k
    · rw [hq] at h
      rw [if_neg (by simp)] at h ⊢
      obtain ⟨h1, h2⟩ := seekN_first q f (k + 1) (by omega)
      refine ⟨h1, fun j hj1 hj2 => ?_⟩
      rcases Nat.lt_or_ge k j with h3 | h3
      · exact h2 j (by omega) hj2
      · have : j = k := by omega
        rw [this]; exact hq
    · rw [if_pos rfl]
      exact ⟨hq, fun j h1 h2 => by omega⟩
def enoughQ (s : Sp) (need : Int) (n : Nat) : Bool := decide (need ≤ (goodV s n).lo)
def sheetsV (s : Sp) (need : Int) : Nat := seekN (enoughQ s need) 1048576 0
def sheetsR (s : Sp) (need : Int) : Int × Int := if spB s 0 900 = false then (0, 1) else if inB need 0 50000 = false then (0, 2) else (sheetsV s need, 0)
theorem sheetsV_eq {s : Sp} {need : Int} {n : Nat} (hn : enoughQ s need n = true) (h6 : n ≤ 600000) (hno : ∀ j, j < n → enoughQ s need j = false) : sheetsV s need = n := seekN_eq _ n hn 1048576 0 (Nat.zero_le _) (by omega) fun j _ hj => hno j hj
theorem enough_big {s : Sp} {need : Int} (hs : spB s 0 900 = true) (hd : need ≤ 50000) {n : Nat} (h : 500010 ≤ n) : enoughQ s need n = true := by
  have h1 := spB_parts hs
  have h2 := good_enough (s := s) h1.2.2 (n := (n : Int)) (by omega)
  exact decide_eq_true (by omega)
structure SheetF (s : Sp) (need : Int) : Prop where
  sp : spB s 0 900 = true
  inn : 0 ≤ need ∧ need ≤ 50000
  le : sheetsV s need ≤ 600000
  val : (sheetsR s need).1 = (sheetsV s need : Int)
  enough : need ≤ (goodV s (sheetsV s need)).lo
  less : ∀ j : Nat, j < sheetsV s need → (goodV s j).lo < need
theorem sheets_ok {s : Sp} {need : Int} (h : (sheetsR s need).2 = 0) : SheetF s need := by
  unfold sheetsR at h
  split at h
  · cases h
  · rename_i h1
    split at h
    · cases h
    · rename_i h2
      have hs : spB s 0 900 = true := by simpa using h1
      have hi : inB need 0 50000 = true := by simpa using h2
      have hin : 0 ≤ need ∧ need ≤ 50000 := by unfold inB at hi; exact of_decide_eq_true hi
      have hbig := enough_big hs hin.2 (n := 500010) (Nat.le_refl _)
      have hle : sheetsV s need ≤ 500010 := seekN_le2 _ _ hbig 1048576 0 (Nat.zero_le _)
      have hf := seekN_first (enoughQ s need) 1048576 0 (by unfold sheetsV at hle; omega)
      refine ⟨hs, hin, by omega, by unfold sheetsR; rw [if_neg h1, if_neg h2], of_decide_eq_true hf.1, fun j hj => ?_⟩
      have := of_decide_eq_false (hf.2 j (Nat.zero_le _) hj)
      omega
theorem sheets_no {s : Sp} {need : Int} (h : (sheetsR s need).2 ≠ 0) : (sheetsR s need).1 = 0 := by
  unfold sheetsR at h ⊢
  split
  · rfl
  · split
    · rfl
    · rename_i h1 h2; rw [if_neg h1, if_neg h2] at h; exact absurd rfl h
theorem good_in {s : Sp} (hs : spB s 0 900 = true) {n : Int} (h0 : 0 ≤ n) (h1 : n ≤ 1048576) : goodR s n = (goodV s n, 0) := by
  unfold goodR inB
  rw [if_neg (by simp [hs]), if_neg (by simp; omega)]
end Go.Proofs.YtpodaihifdlkkaaDoor
