/- Plain data of races, and what is reckoned of them. No program in sight. -/
namespace Go.Proofs.Ytegdfpilhlcplaa
structure Sp where
  lo : Int
  hi : Int
deriving DecidableEq
structure Tm where
  pen : Int
  brk : List Sp
structure Rc where
  p : Int
  lim : Int
  rate : Int
  teams : List Tm
structure Wd where
  team : Int
  minute : Int
  got : Sp

def spB (s : Sp) (l h : Int) : Bool := decide (l ≤ s.lo ∧ s.lo ≤ s.hi ∧ s.hi ≤ h)
def tmB (t : Tm) : Bool := decide (0 ≤ t.pen ∧ t.pen ≤ 1000) && !decide (4 < (t.brk.length : Int)) && t.brk.all (fun s => spB s 0 2000)
def rcB (r : Rc) : Bool := decide (1 ≤ r.p ∧ r.p ≤ 10000) && decide (1 ≤ r.lim ∧ r.lim ≤ 1000) && decide (1 ≤ r.rate ∧ r.rate ≤ 100) && decide (1 ≤ (r.teams.length : Int) ∧ (r.teams.length : Int) ≤ 8) && r.teams.all tmB
def wdB (r : Rc) (d : Wd) : Bool := decide (0 ≤ d.team ∧ d.team ≤ (r.teams.length : Int) - 1) && decide (0 ≤ d.minute ∧ d.minute ≤ 2000) && spB d.got 0 r.p

/-- is the minute one of a break? -/
def offB (bs : List Sp) (m : Nat) : Bool := bs.any fun b => decide (b.lo ≤ (m : Int) ∧ (m : Int) ≤ b.hi)
/-- how many minutes of the first ones are worked -/
def cntW (bs : List Sp) (m : Nat) : Nat := (List.range m).countP fun i => !offB bs i
def brkOf (r : Rc) (t : Nat) : List Sp := (r.teams.getD t ⟨0, []⟩).brk
def penOf (r : Rc) (t : Nat) : Int := (r.teams.getD t ⟨0, []⟩).pen
def wrk (r : Rc) (t m : Nat) : Nat := min (cntW (brkOf r t) m) r.lim.toNat
theorem cntW_le (bs : List Sp) (m : Nat) : cntW bs m ≤ m := by
  unfold cntW; exact Nat.le_trans List.countP_le_length (by simp)
theorem cntW_succ (bs : List Sp) (m : Nat) : cntW bs (m + 1) = cntW bs m + if offB bs m then 0 else 1 := by
  unfold cntW; rw [List.range_succ, List.countP_append]
  cases h : offB bs m <;> simp [h]
theorem wrk_le (r : Rc) (t m : Nat) (h : 1 ≤ r.lim) : (wrk r t m : Int) ≤ r.lim := by unfold wrk; omega

/-- the error of a race, and of words -/
def chk (r : Rc) (l : List Wd) : Int := if rcB r = false then 1 else if 40 < (l.length : Int) then 3 else if l.any (fun d => !wdB r d) then 1 else 0
/-- what words say of a team: after how many minutes of work it has how many pieces -/
def lowL (ws : List (Int × Sp)) (rate m : Int) : List Int := ws.map fun x => x.2.lo - max 0 (x.1 - m) * rate
def highL (ws : List (Int × Sp)) (rate m : Int) : List Int := ws.map fun x => x.2.hi + max 0 (m - x.1) * rate
def lowC (ws : List (Int × Sp)) (rate m : Int) : Int := (lowL ws rate m).foldl max 0
def highC (p : Int) (ws : List (Int × Sp)) (rate m : Int) : Int := (highL ws rate m).foldl min p
def trueC (p : Int) (ws : List (Int × Sp)) (rate : Int) : Bool := ws.all fun x => decide (lowC ws rate x.1 ≤ highC p ws rate x.1)
/-- points, of how many pieces are had after each number of minutes -/
def ptsC (h : Nat → Int) (p pen : Int) (m : Nat) : Int := h m - pen + (List.range m).countP fun w => decide (p ≤ h w)
def WsOk (ws : List (Int × Sp)) : Prop := ∀ x, x ∈ ws → (0 ≤ x.1 ∧ x.1 ≤ 1000) ∧ 0 ≤ x.2.lo ∧ x.2.lo ≤ x.2.hi ∧ x.2.hi ≤ 10000
theorem any_range_get {α : Type} (l : List α) (d : α) (p : α → Bool) : (List.range l.length).any (fun i => p (l.getD i d)) = l.any p := by
  rw [Bool.eq_iff_iff]
  simp only [List.any_eq_true, List.mem_range]
  constructor
  · rintro ⟨i, hi, h⟩
    refine ⟨l.getD i d, ?_, h⟩
    rw [List.getD_eq_getElem?_getD, List.getElem?_eq_getElem hi]; simp
  · rintro ⟨x, hx, h⟩
    obtain ⟨i, hi, rfl⟩ := List.getElem_of_mem hx
    refine ⟨i, hi, ?_⟩
    rw [List.getD_eq_getElem?_getD, List.getElem?_eq_getElem hi]; simpa using h
theorem getD_of {α : Type} {l : List α} {i : Nat} {d x : α} (h : l[i]? = some x) : l.getD i d = x := by rw [List.getD_eq_getElem?_getD, h]; rfl
theorem get_of_lt {α : Type} {l : List α} {i : Nat} (d : α) (h : i < l.length) : l[i]? = some (l.getD i d) := by
  rw [List.getD_eq_getElem?_getD, List.getElem?_eq_getElem h]; rfl
end Go.Proofs.Ytegdfpilhlcplaa
