/- Plain data of dies, blades, sides, and what is allowed; what is reckoned of them. No program in sight. -/
namespace Go.Proofs.Ytcgbdecgdddnkaa
structure Sp where
  lo : Int
  hi : Int
deriving DecidableEq
structure Bl where
  fresh : Sp
  wears : Sp
structure Di where
  blades : List Bl
  bound : Int
  stop : Int
  bend : Int
structure Ed where
  kind : Int
  at_ : Sp
  wide : Sp
  deep : Sp
structure Pl where
  len : Int
  slack : Int
  loose : Int
  damp : Sp
def spB (s : Sp) (l h : Int) : Bool := decide (l ≤ s.lo ∧ s.lo ≤ s.hi ∧ s.hi ≤ h)
def inB (n l h : Int) : Bool := decide (l ≤ n ∧ n ≤ h)
def blB (b : Bl) : Bool := spB b.fresh 0 10000 && spB b.wears 0 10000
def diB (d : Di) : Bool := inB d.stop 0 10000 && inB d.bend 0 10000 && inB (d.blades.length : Int) 1 5 && inB d.bound 0 100000 && d.blades.all blB
def sp0 : Sp := ⟨0, 0⟩
def bl0 : Bl := ⟨sp0, sp0⟩
/-- by how much a blade is off -/
def offV (b : Bl) (strokes : Int) : Sp := ⟨b.fresh.lo + b.wears.lo * strokes, b.fresh.hi + b.wears.hi * strokes⟩
def lastV (fresh wears bound : Int) : Int := if wears = 0 then 7000 else min 7000 ((bound - fresh) / wears)
def lastsV (b : Bl) (bound : Int) : Sp := ⟨lastV b.fresh.hi b.wears.hi bound, lastV b.fresh.lo b.wears.lo bound⟩
/-- a tab and a hole: what they differ by, and from where to where it is allowed -/
def byV (p : Pl) (a b : Ed) : Nat → Sp
  | 0 => ⟨a.at_.lo + b.at_.lo + -p.len, a.at_.hi + b.at_.hi + -p.len⟩
  | 1 => ⟨b.wide.lo - a.wide.hi, b.wide.hi - a.wide.lo⟩
  | _ => ⟨b.deep.lo - a.deep.hi, b.deep.hi - a.deep.lo⟩
def boV (p : Pl) : Nat → Sp
  | 0 => ⟨-p.slack, p.slack⟩
  | _ => ⟨0, p.loose⟩
def alwaysV (p : Pl) (a b : Ed) (i : Nat) : Bool := decide (1000 * (boV p i).lo ≤ (byV p a b i).lo * (1000 + p.damp.hi)) && decide ((byV p a b i).hi * (1000 + p.damp.hi) ≤ 1000 * (boV p i).hi)
def bestV (p : Pl) (a b : Ed) (i : Nat) : Int := min (max 0 (byV p a b i).lo) (byV p a b i).hi * (1000 + p.damp.lo)
def perhapsV (p : Pl) (a b : Ed) (i : Nat) : Bool := decide (1000 * (boV p i).lo ≤ bestV p a b i) && decide (bestV p a b i ≤ 1000 * (boV p i).hi)
def fitsV (p : Pl) (a b : Ed) : Int := if (List.range 3).all (alwaysV p a b) = true then 2 else if (List.range 3).all (perhapsV p a b) = true then 1 else 0
def plB (p : Pl) : Bool := inB p.len 1 10000 && inB p.slack 0 500 && inB p.loose 0 500 && spB p.damp 0 100
def edB (e : Ed) : Bool := spB e.at_ 0 10000 && spB e.wide 1 3000 && spB e.deep 1 3000
end Go.Proofs.Ytcgbdecgdddnkaa
