/- The document's example: plain values. -/
import Derived.Test.YtegdfpilhlcplaaLaw6
import Derived.Test.YtegdfpilhlcplaaLaw5
namespace Go.Proofs.Ytegdfpilhlcplaa
open Go Go.Eng Go.RowKit
def smpR : Rc := ⟨100, 60, 5, [⟨0, []⟩, ⟨3, [⟨10, 14⟩]⟩, ⟨0, []⟩]⟩
def wrdL : List Wd := [⟨0, 20, ⟨40, 45⟩⟩, ⟨1, 25, ⟨50, 50⟩⟩, ⟨2, 30, ⟨60, 70⟩⟩, ⟨0, 30, ⟨70, 80⟩⟩]
theorem smp_ok : rcB smpR = true := by decide +kernel
theorem smp_e : openE smpR wrdL true = 0 := by decide +kernel
theorem smp_w : wrk smpR 1 25 = 20 := by decide +kernel
theorem smp_c : cntP smpR wrdL 0 (wrk smpR 0 25) = ⟨45, 70⟩ := by decide +kernel
theorem smp_p : ptsP smpR wrdL 0 (wrk smpR 0 40) = ⟨70, 106⟩ := by decide +kernel
end Go.Proofs.Ytegdfpilhlcplaa
