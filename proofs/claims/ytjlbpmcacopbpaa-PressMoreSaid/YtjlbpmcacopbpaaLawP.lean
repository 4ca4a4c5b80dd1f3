/- Orders, one after the other, as words come in a dictionary. Plain. -/
import Derived.Test.YtjlbpmcacopbpaaDat
namespace Go.Proofs.Ytjlbpmcacopbpaa
def lexL : List Nat → List Nat → Prop
  | x :: xs, y :: ys => x < y ∨ x = y ∧ lexL xs ys
  | _, _ => False
theorem lexL_irrefl : ∀ xs : List Nat, ¬ lexL xs xs
  | [] => id
  | _ :: xs => fun h => h.elim (fun h => Nat.lt_irrefl _ h) fun h => lexL_irrefl xs h.2
theorem lexL_trans : ∀ {xs ys zs : List Nat}, lexL xs ys → lexL ys zs → lexL xs zs
  | _ :: _, _ :: _, _ :: _, h1, h2 => by
    rcases h1 with h1 | ⟨rfl, h1⟩
    · rcases h2 with h2 | ⟨rfl, _⟩
      · exact .inl (Nat.lt_trans h1 h2)
      · exact .inl h1
    · rcases h2 with h2 | ⟨rfl, h2⟩
      · exact .inl h2
      · exact .inr ⟨rfl, lexL_trans h1 h2⟩
theorem lexL_total : ∀ {xs ys : List Nat}, xs.length = ys.length → lexL xs ys ∨ xs = ys ∨ lexL ys xs
  | [], [], _ => .inr (.inl rfl)
  | x :: xs, y :: ys, h => by
    rcases Nat.lt_trichotomy x y with h1 | rfl | h1
    · exact .inl (.inl h1)
    · rcases lexL_total (xs := xs) (ys := ys) (by simpa using h) with h2 | rfl | h2
      · exact .inl (.inr ⟨rfl, h2⟩)
      · exact .inr (.inl rfl)
      · exact .inr (.inr (.inr ⟨rfl, h2⟩))
    · exact .inr (.inr (.inl h1))
/-- what rises comes first -/
theorem min_lex : ∀ {R ys : List Nat}, R.Pairwise (· < ·) → ys.Perm R → R = ys ∨ lexL R ys
  | [], ys, _, h => .inl h.eq_nil.symm
  | x :: R, [], _, h => absurd h.symm.eq_nil (by simp)
  | x :: R, y :: ys, hp, h => by
    have hp2 := List.pairwise_cons.1 hp
    rcases List.mem_cons.1 (h.mem_iff.1 (List.mem_cons_self ..)) with rfl | hy
    · rcases min_lex hp2.2 h.cons_inv with rfl | h2
      · exact .inl rfl
      · exact .inr (.inr ⟨rfl, h2⟩)
    · exact .inr (.inl (hp2.1 y hy))
/-- what falls comes last -/
theorem max_lex : ∀ {S ys : List Nat}, S.Pairwise (· > ·) → ys.Perm S → ¬ lexL S ys
  | [], _, _, _, h => h
  | x :: S, [], _, _, h => h
  | x :: S, y :: ys, hp, h, hl => by
    have hp2 := List.pairwise_cons.1 hp
    rcases hl with h1 | ⟨rfl, h1⟩
    · rcases List.mem_cons.1 (h.mem_iff.1 (List.mem_cons_self ..)) with rfl | hy
      · exact Nat.lt_irrefl _ h1
      · have := hp2.1 y hy; omega
    · exact max_lex hp2.2 h.cons_inv h1
/-- the next one: what lies between is nothing -/
theorem next_lex {a b : Nat} {B C : List Nat} (hS : (B ++ b :: C).Pairwise (· > ·)) (hb : a < b) (hC : ∀ c, c ∈ C → c < a) : ∀ (A q : List Nat), q.Perm (A ++ a :: (B ++ b :: C)) → lexL (A ++ a :: (B ++ b :: C)) q → A ++ b :: (B ++ a :: C).reverse = q ∨ lexL (A ++ b :: (B ++ a :: C).reverse) q
  | x :: A, [], h, _ => absurd h.symm.eq_nil (by simp)
  | x :: A, y :: ys, h, hl => by
    rcases hl with h1 | ⟨rfl, h1⟩
    · exact .inr (.inl h1)
    · rcases next_lex hS hb hC A ys h.cons_inv h1 with h2 | h2
      · exact .inl (by rw [← h2]; rfl)
      · exact .inr (.inr ⟨rfl, h2⟩)
  | [], [], h, _ => absurd h.symm.eq_nil (by simp)
  | [], y :: ys, h, hl => by
    have hS2 := List.pairwise_append.1 hS
    have hS3 := List.pairwise_cons.1 hS2.2.1
    rcases hl with h1 | ⟨rfl, h1⟩
    · have hby : b = y ∨ b < y := by
        rcases List.mem_cons.1 (h.mem_iff.1 (List.mem_cons_self ..)) with rfl | hy
        · exact absurd h1 (Nat.lt_irrefl _)
        · rcases List.mem_append.1 hy with hy | hy
          · exact .inr (hS2.2.2 y hy b (List.mem_cons_self ..))
          · rcases List.mem_cons.1 hy with rfl | hy
            · exact .inl rfl
            · have := hC y hy; omega
      rcases hby with rfl | hby
      · have hR : (B ++ a :: C).reverse.Pairwise (· < ·) := by
          rw [List.pairwise_reverse]
          refine List.pairwise_append.2 ⟨hS2.1, List.pairwise_cons.2 ⟨fun c hc => hC c hc, hS3.2⟩, fun x hx c hc => ?_⟩
          rcases List.mem_cons.1 hc with rfl | hc
          · exact Nat.lt_trans hb (hS2.2.2 x hx b (List.mem_cons_self ..))
          · exact hS2.2.2 x hx c (List.mem_cons_of_mem _ hc)
        have hp : ys.Perm (B ++ a :: C).reverse := by
          have e1 : (b :: ys).Perm (b :: (B ++ a :: C)) := by
            refine h.trans ?_
            have e2 : (a :: (B ++ b :: C)).Perm (a :: b :: (B ++ C)) := List.Perm.cons _ List.perm_middle
            have e3 : (b :: (B ++ a :: C)).Perm (b :: a :: (B ++ C)) := List.Perm.cons _ List.perm_middle
            exact e2.trans ((List.Perm.swap ..).trans e3.symm)
          exact e1.cons_inv.trans (List.reverse_perm _).symm
        rcases min_lex hR hp with h2 | h2
        · exact .inl (by rw [← h2]; rfl)
        · exact .inr (.inr ⟨rfl, h2⟩)
      · exact .inr (.inl hby)
    · exact absurd h1 (max_lex hS h.cons_inv)
theorem next_lt {a b : Nat} (hb : a < b) (S R : List Nat) : ∀ A : List Nat, lexL (A ++ a :: S) (A ++ b :: R)
  | [] => .inl hb
  | _ :: A => .inr ⟨rfl, next_lt hb S R A⟩
theorem next_perm (a b : Nat) (A B C : List Nat) : (A ++ b :: (B ++ a :: C).reverse).Perm (A ++ a :: (B ++ b :: C)) := by
  refine List.Perm.append_left A ?_
  have e1 : (b :: (B ++ a :: C).reverse).Perm (b :: (B ++ a :: C)) := List.Perm.cons _ (List.reverse_perm _)
  have e2 : (b :: (B ++ a :: C)).Perm (b :: a :: (B ++ C)) := List.Perm.cons _ List.perm_middle
  have e3 : (a :: (B ++ b :: C)).Perm (a :: b :: (B ++ C)) := List.Perm.cons _ List.perm_middle
  exact e1.trans (e2.trans ((List.Perm.swap ..).trans e3.symm))
/-- a number of a list -/
def valL (M : Nat) : List Nat → Nat
  | [] => 0
  | x :: xs => x * M ^ xs.length + valL M xs
theorem valL_lt {M : Nat} : ∀ {xs : List Nat}, (∀ x, x ∈ xs → x < M) → valL M xs < M ^ xs.length
  | [], _ => by simp [valL]
  | x :: xs, h => by
    have h1 := valL_lt (xs := xs) fun y hy => h y (List.mem_cons_of_mem _ hy)
    have h2 : x + 1 ≤ M := h x (List.mem_cons_self ..)
    have h3 : (x + 1) * M ^ xs.length ≤ M * M ^ xs.length := Nat.mul_le_mul_right _ h2
    unfold valL
    rw [List.length_cons, Nat.pow_succ, Nat.mul_comm (M ^ xs.length) M]
    rw [Nat.add_mul, Nat.one_mul] at h3
    omega
theorem valL_mono {M : Nat} : ∀ {xs ys : List Nat}, xs.length = ys.length → (∀ x, x ∈ xs → x < M) → lexL xs ys → valL M xs < valL M ys
  | x :: xs, y :: ys, hl, h, hx => by
    have hl2 : xs.length = ys.length := by simpa using hl
    unfold valL
    rw [hl2]
    rcases hx with h1 | ⟨rfl, h1⟩
    · have h2 := valL_lt (M := M) (xs := xs) fun y hy => h y (List.mem_cons_of_mem _ hy)
      have h3 : (x + 1) * M ^ ys.length ≤ y * M ^ ys.length := Nat.mul_le_mul_right _ h1
      rw [Nat.add_mul, Nat.one_mul] at h3
      rw [hl2] at h2
      omega
    · have := valL_mono hl2 (fun y hy => h y (List.mem_cons_of_mem _ hy)) h1
      omega
end Go.Proofs.Ytjlbpmcacopbpaa
