/- Short rings: how long the rings that are listed are, and how the best exchanges follow one another. -/
import Derived.Test.YtpijahglojichaaDoorLawI
import Derived.Test.YtpijahglojichaaDoorLawD
namespace Go.Proofs.YtpijahglojichaaDoor
open Go.Eng
theorem per_same {g : Nat → Nat} {n : Nat} (h : Pm g n) {x y : Nat} (hx : x < n) (e : Same g x y) : per g n x = per g n y := by
  have key : ∀ {x y : Nat}, x < n → Same g x y → per g n y ≤ per g n x := fun {x y} hx e => by
    obtain ⟨t, rfl⟩ := e
    have hp := h.perF hx
    have hq := h.perF (h.it_lt t hx)
    have : it g (per g n x) (it g t x) = it g t x := by rw [← it_add, Nat.add_comm, it_add, hp.back]
    exact Nat.le_of_not_lt fun hlt => hq.first _ hp.pos hlt this
  exact Nat.le_antisymm (key (e.lt h hx) (e.symm h hx)) (key hx e)
theorem rings_len {o : List Int} (ho : ordB o o.length = true) {long : Nat} (hs : longO o ≤ (long : Int)) {j : Nat} (hj : j < (ringsN (getN o) o.length o.length).length) : ((ringsN (getN o) o.length o.length).getD j []).length ≤ long := by
  have h := ord_pm ho
  obtain ⟨l, hl, _, _, e⟩ := (h.ringsF o.length (Nat.le_refl _)).of _ (getD_mem (d := []) hj)
  rw [e, cyc_len]
  have := longN_ge (g := getN o) (n := o.length) o.length l hl
  unfold longO at hs
  omega
theorem rings_long {o : List Int} (ho : ordB o o.length = true) {long : Nat} (h1 : 1 ≤ long) (hs : ∀ j, j < (ringsN (getN o) o.length o.length).length → ((ringsN (getN o) o.length o.length).getD j []).length ≤ long) : longO o ≤ (long : Int) := by
  have h := ord_pm ho
  have hR := h.ringsF o.length (Nat.le_refl _)
  unfold longO
  refine longN_le (by omega) _ fun i hi => ?_
  have hp := h.perF hi
  rcases Nat.lt_or_ge 1 (per (getN o) o.length i) with hc | hc
  · have hm : leastC (getN o) o.length i ∈ cycI (getN o) o.length i := leastL_mem (by rw [cyc_len]; exact hp.pos)
    obtain ⟨t, ht, e⟩ := List.mem_map.1 (show _ ∈ (List.range _).map _ from hm)
    have hsame : Same (getN o) i (it (getN o) t i) := ⟨t, rfl⟩
    have hl := h.it_lt t hi
    have hle : leastC (getN o) o.length (it (getN o) t i) = ((it (getN o) t i : Nat) : Int) := by rw [h.least_same hi hsame]; exact e.symm
    have hper := per_same h hi hsame
    have hin := hR.all _ hl hle (by omega)
    obtain ⟨j, hj, ej⟩ := List.mem_iff_getElem.1 hin
    have := hs j hj
    rw [getD_of (List.getElem?_eq_getElem hj), ej, cyc_len] at this
    omega
  · omega
theorem ShrF.le {m : Mt} {a b : Nat} {t u : Td} (h : ShrF m a t) (k : ShrF m b u) (hab : a ≤ b) : t.worth ≤ u.worth := by
  have := (k.top _ h.ord h.fair (by have := h.short; omega)).worth
  rw [h.worth]; exact this
theorem ShrF.best {m : Mt} {a : Nat} {t u : Td} (h : ShrF m a t) (k : BestF m u) : t.worth ≤ u.worth := by
  have := (k.top _ h.ord h.fair).worth
  rw [h.worth]; exact this
theorem ShrF.all {m : Mt} {a : Nat} {t u : Td} (h : ShrF m a t) (k : BestF m u) (hn : m.length ≤ a) : t.worth = u.worth := by
  have h1 := (h.top _ k.ord k.fair (by have := long_le k.ord; omega)).worth
  rw [← k.worth] at h1
  have h2 := h.best k
  dsimp only at h1
  omega
end Go.Proofs.YtpijahglojichaaDoor
