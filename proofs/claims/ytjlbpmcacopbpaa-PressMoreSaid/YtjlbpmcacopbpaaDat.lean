/- Plain data of shifts, jobs, orders; what is reckoned of them. No program in sight. -/
namespace Go.Proofs.Ytjlbpmcacopbpaa
structure Sp where
  lo : Int
  hi : Int
deriving DecidableEq
structure Sf where
  x : Sp
  y : Sp
structure Jb where
  print : Sp
  lay : Sp
  due : Int
def sp0 : Sp := ⟨0, 0⟩
def sf0 : Sf := ⟨sp0, sp0⟩
def jb0 : Jb := ⟨sp0, sp0, 0⟩
def inB (n l h : Int) : Bool := decide (l ≤ n ∧ n ≤ h)
def spB (s : Sp) (l h : Int) : Bool := decide (l ≤ s.lo ∧ s.lo ≤ s.hi ∧ s.hi ≤ h)
def sfB (s : Sf) : Bool := spB s.x (-1000) 1000 && spB s.y (-1000) 1000
def shB (l : List Sf) : Bool := inB (l.length : Int) 1 8 && l.all sfB
def jbB (j : Jb) : Bool := spB j.print 0 1000 && spB j.lay 0 1000 && inB j.due 0 1048576
def jobsB (l : List Jb) : Bool := decide ((l.length : Int) ≤ 7) && l.all jbB
/-! ### fringes -/
def gtV (a : Int) (l : List Int) : Int := l.foldl max a
def ltV (a : Int) (l : List Int) : Int := l.foldl min a
def farIn (l : List Sp) (i : Nat) : Nat → Int → Int
  | 0, a => a
  | k + 1, a => if i = k then farIn l i k a else max (farIn l i k a) ((l.getD i sp0).hi - (l.getD k sp0).lo)
def farOut (l : List Sp) : Nat → Int
  | 0 => 0
  | i + 1 => farIn l i l.length (farOut l i)
def apartV (l : List Sp) : Sp := ⟨max 0 (gtV (l.getD 0 sp0).lo (l.map (·.lo)) - ltV (l.getD 0 sp0).hi (l.map (·.hi))), farOut l l.length⟩
def fringeV (l : List Sf) : Sp × Sp × Int := if shB l = true then (apartV (l.map (·.x)), apartV (l.map (·.y)), 0) else (sp0, sp0, 1)
/-! ### sheets -/
def goodV (s : Sp) (n : Int) : Sp := ⟨n - (n * s.hi + 999) / 1000, n - n * s.lo / 1000⟩
def goodR (s : Sp) (n : Int) : Sp × Int := if spB s 0 900 = false then (sp0, 1) else if inB n 0 1048576 = false then (sp0, 2) else (goodV s n, 0)
/-! ### jobs, in an order -/
abbrev Tm := Int × Int
def timeV (hi : Bool) (j : Jb) : Tm := if hi = true then (j.print.hi, j.lay.hi) else (j.print.lo, j.lay.lo)
def stepW (w t : Tm) : Tm := (w.1 + t.1, max (w.1 + t.1) w.2 + t.2)
def runL (ts : List Tm) (w : Tm) : Tm := ts.foldl stepW w
/-- the times of jobs, by an order -/
def ordT (ts : List Tm) (o : List Int) : List Tm := o.map fun k => ts.getD k.toNat (0, 0)
/-- when jobs end, by their numbers, after so many of the order -/
def endsK (ts : List Tm) (o : List Int) : Nat → List Int
  | 0 => List.replicate ts.length 0
  | k + 1 => (endsK ts o k).set (o.getD k 0).toNat (runL (ordT ts (o.take (k + 1))) (0, 0)).2
def endsV (ts : List Tm) (o : List Int) : List Int := endsK ts o o.length
def isOrd (o : List Int) (n : Nat) : Prop := o.Perm ((List.range n).map fun (i : Nat) => (i : Int))
end Go.Proofs.Ytjlbpmcacopbpaa
