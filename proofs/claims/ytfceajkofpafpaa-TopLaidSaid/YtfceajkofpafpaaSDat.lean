/- Plain data of boxes, tests, readings; what is reckoned of them. No program in sight. -/

namespace Go.Proofs.Ytfceajkofpafpaa.Sc
structure Sp where
  lo : Int
  hi : Int
deriving DecidableEq
structure Kd where
  many : Int
  wt : Sp
structure Bx where
  kinds : List Kd
  bag : Sp
  lost : Int
  extra : Int
structure Te where
  how : Int
  set : Int
  err : Sp
  pass : Sp
  cost : Int
structure Rd where
  test : Te
  got : Int
def sp0 : Sp := ⟨0, 0⟩
def kd0 : Kd := ⟨0, sp0⟩
def te0 : Te := ⟨0, 0, sp0, sp0, 0⟩
def rd0 : Rd := ⟨te0, 0⟩
def inB (n l h : Int) : Bool := decide (l ≤ n ∧ n ≤ h)
def spB (s : Sp) (l h : Int) : Bool := decide (l ≤ s.lo ∧ s.lo ≤ s.hi ∧ s.hi ≤ h)
def kdB (k : Kd) : Bool := inB k.many 0 2000 && spB k.wt 0 100000
def bxB (b : Bx) : Bool := inB (b.kinds.length : Int) 1 4 && inB b.lost 0 4 && inB b.extra 0 3 && spB b.bag 0 100000 && b.kinds.all kdB
def pw2 (k : Nat) : Nat := 2 ^ k
def teB (b : Bx) (t : Te) : Bool := (decide (t.how = 0) || (decide (t.how = 1) && inB t.set 0 ((pw2 b.kinds.length : Nat) - 1))) && spB t.err (-1000000) 1000000 && decide (t.pass.lo ≤ t.pass.hi) && inB t.cost 0 10000
/-- the error of a box, readings and tests -/
def chk (b : Bx) (l : List Rd) (ts : List Te) : Int :=
  if bxB b = false then 1 else if 16 < (l.length : Int) ∨ 8 < (ts.length : Int) then 3 else if (l.any (fun r => !teB b r.test) || ts.any (fun t => !teB b t)) = true then 1 else 0
/-- is a number in a set? -/
def inS (set : Int) (n : Nat) : Bool := decide (set / (pw2 n : Nat) % 2 = 1)
/-- what a test reads of so many pieces of a kind -/
def ofV (b : Bx) (t : Te) (i : Nat) (many : Int) : Sp := if t.how = 0 then ⟨many * (b.kinds.getD i kd0).wt.lo, many * (b.kinds.getD i kd0).wt.hi⟩ else if inS t.set i = true then ⟨many, many⟩ else sp0
def besV (b : Bx) (t : Te) : Sp := if t.how = 0 then ⟨t.err.lo + b.bag.lo, t.err.hi + b.bag.hi⟩ else t.err
def plusV (s o : Sp) : Sp := ⟨s.lo + o.lo, s.hi + o.hi⟩
/-- what it reads of the first k kinds -/
def readK (b : Bx) (t : Te) (has : List Int) : Nat → Sp
  | 0 => besV b t
  | k + 1 => plusV (readK b t has k) (ofV b t k ((b.kinds.getD k kd0).many + has.getD k 0))
def readV (b : Bx) (t : Te) (has : List Int) : Sp := readK b t has has.length
def meetsV (s o : Sp) : Bool := decide (s.lo ≤ o.hi ∧ o.lo ≤ s.hi)
def wholeV (has : List Int) : Bool := has.all fun n => decide (0 ≤ n)
/-- the numbers from one to another one -/
def fromTo (lo hi : Int) : List Int := (List.range (hi + 1 - lo).toNat).map fun i => lo + (i : Nat)
/-- all lists, in their order -/
def genL : List Kd → Int → Int → List (List Int)
  | [], _, _ => [[]]
  | k :: ks, lost, extra => (fromTo (-min lost k.many) extra).flatMap fun n => (genL ks (lost - max 0 (-n)) (extra - max 0 n)).map (n :: ·)
def allL (b : Bx) : List (List Int) := genL b.kinds b.lost b.extra
def fitV (b : Bx) (l : List Rd) (has : List Int) : Bool := l.all fun r => meetsV (readV b r.test has) ⟨r.got, r.got⟩
def fitL (b : Bx) (l : List Rd) : List (List Int) := (allL b).filter (fitV b l)
def openE (b : Bx) (l : List Rd) (ts : List Te) : Int := if chk b l ts ≠ 0 then chk b l ts else if (fitL b l).length = 0 then 6 else 0
def judgeV (ls : List (List Int)) : Int := if (ls.any fun h => !wholeV h) = false then 2 else if (ls.any wholeV) = false then 0 else 1
def leftV (ls : List (List Int)) (k : Nat) : Sp := ls.foldl (fun s h => ⟨min s.lo (h.getD k 0), max s.hi (h.getD k 0)⟩) ⟨(ls.getD 0 []).getD k 0, (ls.getD 0 []).getD k 0⟩
def leftL (b : Bx) (ls : List (List Int)) : List Sp := (List.range b.kinds.length).map (leftV ls)
end Go.Proofs.Ytfceajkofpafpaa.Sc
