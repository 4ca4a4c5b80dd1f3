/- Plain data of solutions: boards, what may lie, all solutions in their order. No program in sight. -/
import Derived.Test.YtfceajkofpafpaaTDat
namespace Go.Proofs.Ytfceajkofpafpaa
abbrev Ly := Nat × Nat
def ownS (x : Ly) (s : Nat) : Nat := (s + 4 - x.2) % 4
def edAt (z : Pz) (k : Nat × Nat) : Eg := (z.pieces.getD k.1 pc0).ed k.2
def meetV (z : Pz) (k : (Nat × Nat) × (Nat × Nat)) : Int := if k.1.1 = k.2.1 then 0 else fitV z.play (edAt z k.1) (edAt z k.2)
def trnV (z : Pz) (p : Nat) : Nat := if z.turn = true ∧ 0 < p then 4 else 1
def rowI (z : Pz) (n : Nat) : Int := (n : Int) / z.wide
def colI (z : Pz) (n : Nat) : Int := (n : Int) % z.wide
/-- does a side of a cell lie on the rim? -/
def rimB (z : Pz) (n s : Nat) : Bool := if s = 0 then decide (rowI z n = 0) else if s = 1 then decide (colI z n = z.wide - 1) else if s = 2 then decide (rowI z n = z.high - 1) else decide (colI z n = 0)
def sdK (x : Ly) (s : Nat) : Nat × Nat := (x.1, ownS x s)
def flatB (z : Pz) (x : Ly) (s : Nat) : Bool := decide ((edAt z (sdK x s)).kind = 0)
def lyD (l : List Ly) (n : Nat) : Ly := l.getD n (0, 0)
/-- can a piece that does not lie yet lie in the next cell? -/
def mayV (z : Pz) (l : List Ly) (x : Ly) : Bool := ((List.range 4).all fun s => !rimB z l.length s || flatB z x s) && (decide (¬ 0 < rowI z l.length) || decide (meetV z (sdK (lyD l (l.length - z.wide.toNat)) 2, sdK x 0) ≠ 0)) && (decide (colI z l.length = 0) || decide (meetV z (sdK (lyD l (l.length - 1)) 1, sdK x 3) ≠ 0))
def usedB (l : List Ly) (p : Nat) : Bool := l.any fun x => decide (x.1 = p)
def solG (z : Pz) : Nat → List Ly → List (List Ly)
  | 0, l => [l]
  | f + 1, l => (List.range z.pieces.length).flatMap fun p => if usedB l p = true then [] else (List.range (trnV z p)).flatMap fun t => if mayV z l (p, t) = true then solG z f (l ++ [(p, t)]) else []
/-- all solutions, in their order -/
def solL (z : Pz) : List (List Ly) := solG z z.pieces.length []
def solT (z : Pz) (f : Nat) (l : List Ly) (p n : Nat) : List (List Ly) := (List.range n).flatMap fun t => if mayV z l (p, t) = true then solG z f (l ++ [(p, t)]) else []
def solP (z : Pz) (f : Nat) (l : List Ly) (n : Nat) : List (List Ly) := (List.range n).flatMap fun p => if usedB l p = true then [] else solT z f l p (trnV z p)
theorem solG_succ (z : Pz) (f : Nat) (l : List Ly) : solG z (f + 1) l = solP z f l z.pieces.length := rfl
theorem solT_succ (z : Pz) (f : Nat) (l : List Ly) (p n : Nat) : solT z f l p (n + 1) = solT z f l p n ++ if mayV z l (p, n) = true then solG z f (l ++ [(p, n)]) else [] := by
  unfold solT; rw [List.range_succ, List.flatMap_append]; simp
theorem solP_succ (z : Pz) (f : Nat) (l : List Ly) (n : Nat) : solP z f l (n + 1) = solP z f l n ++ if usedB l n = true then [] else solT z f l n (trnV z n) := by
  unfold solP; rw [List.range_succ, List.flatMap_append]; simp
/-- a valid puzzle -/
structure PzF (z : Pz) : Prop where
  play : plB z.play = true
  n : 1 ≤ z.pieces.length ∧ z.pieces.length ≤ 9
  w : 1 ≤ z.wide ∧ z.wide ≤ 9
  h : 1 ≤ z.high ∧ z.high ≤ 9
  nn : z.wide * z.high = (z.pieces.length : Int)
  eg : ∀ p, p ∈ z.pieces → ∀ s, egB (p.ed s) = true
def pcB (p : Pc) : Bool := egB p.e0 && egB p.e1 && egB p.e2 && egB p.e3
theorem pcB_ed {p : Pc} (h : pcB p = true) (s : Nat) : egB (p.ed s) = true := by
  unfold pcB at h
  simp only [Bool.and_eq_true] at h
  unfold Pc.ed
  split
  · exact h.1.1.1
  · split
    · exact h.1.1.2
    · split
      · exact h.1.2
      · exact h.2
theorem pcB_of {p : Pc} (h : ∀ s, s < 4 → egB (p.ed s) = true) : pcB p = true := by
  unfold pcB
  rw [show egB p.e0 = true from h 0 (by decide), show egB p.e1 = true from h 1 (by decide), show egB p.e2 = true from h 2 (by decide), show egB p.e3 = true from h 3 (by decide)]; rfl
theorem pz_of {z : Pz} (h : pzB z = true) : PzF z := by
  unfold pzB at h
  simp only [Bool.and_eq_true, decide_eq_true_eq, List.all_eq_true] at h
  obtain ⟨⟨⟨⟨⟨h1, h2⟩, h3⟩, h4⟩, h5⟩, h6⟩ := h
  exact ⟨h1, by omega, h3, h4, h5, fun p hp s => pcB_ed (by have := h6 p hp; unfold pcB; simp only [Bool.and_eq_true]; exact this) s⟩
theorem PzF.ed {z : Pz} (h : PzF z) {k : Nat × Nat} (hk : k.1 < z.pieces.length) : egB (edAt z k) = true := by
  refine h.eg _ ?_ _
  rw [List.getD_eq_getElem?_getD, List.getElem?_eq_getElem hk]; exact List.getElem_mem hk
/-- which keys a board has met -/
def Done (n i k s t : Nat) (q : (Nat × Nat) × (Nat × Nat)) : Prop := (q.1.1 < n ∧ q.2.1 < n ∧ q.1.2 < 4 ∧ q.2.2 < 4) ∧ (q.1.1 < i ∨ q.1.1 = i ∧ (q.2.1 < k ∨ q.2.1 = k ∧ (q.1.2 < s ∨ q.1.2 = s ∧ q.2.2 < t)))
structure Mt (z : Pz) (i k s t : Nat) (l : List (((Nat × Nat) × (Nat × Nat)) × Int)) : Prop where
  nd : (l.map (·.1)).Nodup
  only : ∀ p, p ∈ l → Done z.pieces.length i k s t p.1
  val : ∀ p, p ∈ l → p.2 = meetV z p.1
  all : ∀ q, Done z.pieces.length i k s t q → meetV z q ≠ 0 → ∃ p, p ∈ l ∧ p.1 = q
theorem Mt.nil (z : Pz) : Mt z 0 0 0 0 [] := ⟨List.nodup_nil, (fun _ h => by cases h), (fun _ h => by cases h), fun q h => by unfold Done at h; omega⟩
theorem Mt.same {z : Pz} {i k s t i' k' s' t' : Nat} {l : List (((Nat × Nat) × (Nat × Nat)) × Int)} (h : Mt z i k s t l) (e : ∀ q, Done z.pieces.length i' k' s' t' q ↔ Done z.pieces.length i k s t q) : Mt z i' k' s' t' l :=
  ⟨h.nd, fun p hp => (e _).2 (h.only p hp), h.val, fun q hq => h.all q ((e q).1 hq)⟩
theorem Mt.t4 {z : Pz} {i k s : Nat} {l} (h : Mt z i k s 4 l) : Mt z i k (s + 1) 0 l := h.same fun q => by unfold Done; omega
theorem Mt.s4 {z : Pz} {i k : Nat} {l} (h : Mt z i k 4 0 l) : Mt z i (k + 1) 0 0 l := h.same fun q => by unfold Done; omega
theorem Mt.kn {z : Pz} {i : Nat} {l} (h : Mt z i z.pieces.length 0 0 l) : Mt z (i + 1) 0 0 0 l := h.same fun q => by unfold Done; omega
theorem Mt.skip {z : Pz} {i k s t : Nat} {l} (h : Mt z i k s t l) (e : meetV z ((i, s), (k, t)) = 0) : Mt z i k s (t + 1) l :=
  ⟨h.nd, fun p hp => by have := h.only p hp; unfold Done at this ⊢; omega, h.val, fun q hq hm => by
    by_cases hd : Done z.pieces.length i k s t q
    · exact h.all q hd hm
    · obtain ⟨⟨a, x⟩, ⟨b, y⟩⟩ := q
      unfold Done at hq hd
      dsimp only at hq hd
      obtain ⟨rfl, rfl, rfl, rfl⟩ : a = i ∧ b = k ∧ x = s ∧ y = t := by omega
      exact absurd e hm⟩
theorem Mt.put {z : Pz} {i k s t : Nat} {l} (h : Mt z i k s t l) (hi : i < z.pieces.length) (hk : k < z.pieces.length) (hs : s < 4) (ht : t < 4) {v : Int} (e : v = meetV z ((i, s), (k, t))) : Mt z i k s (t + 1) (l ++ [(((i, s), (k, t)), v)]) where
  nd := by
    rw [List.map_append, List.nodup_append]
    refine ⟨h.nd, by simp, fun a ha b hb e2 => ?_⟩
    obtain ⟨p, hp, rfl⟩ := List.mem_map.1 ha
    simp at hb; subst hb
    have := h.only p hp
    rw [e2] at this
    unfold Done at this
    dsimp only at this
    omega
  only := fun p hp => by
    rcases List.mem_append.1 hp with hp | hp
    · have := h.only p hp; unfold Done at this ⊢; omega
    · simp at hp; subst hp; unfold Done; dsimp only; omega
  val := fun p hp => by
    rcases List.mem_append.1 hp with hp | hp
    · exact h.val p hp
    · simp at hp; subst hp; exact e
  all := fun q hq hm => by
    by_cases hd : Done z.pieces.length i k s t q
    · obtain ⟨p, h1, h2⟩ := h.all q hd hm
      exact ⟨p, List.mem_append.2 (.inl h1), h2⟩
    · obtain ⟨⟨a, x⟩, ⟨b, y⟩⟩ := q
      unfold Done at hq hd
      dsimp only at hq hd
      obtain ⟨rfl, rfl, rfl, rfl⟩ : a = i ∧ b = k ∧ x = s ∧ y = t := by omega
      exact ⟨_, List.mem_append.2 (.inr (.head _)), rfl⟩
end Go.Proofs.Ytfceajkofpafpaa
