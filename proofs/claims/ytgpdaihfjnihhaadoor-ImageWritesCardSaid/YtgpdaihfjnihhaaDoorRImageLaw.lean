/- Images: there and back, and what a turned byte does (no program). -/
import Derived.Test.YtgpdaihfjnihhaaDoorRPJx0
import Derived.Test.YtgpdaihfjnihhaaDoorRImagePure
import Derived.Test.YtgpdaihfjnihhaaDoorRLebAll
namespace Go.Proofs.YtgpdaihfjnihhaaDoor.PJ
open Go.RowKit Go.Proofs.YtgpdaihfjnihhaaDoorW.PrintWords Go.Proofs.YtgpdaihfjnihhaaDoorW.PrintLast Go.Proofs.YtgpdaihfjnihhaaDoorW.PrintMore Go.Proofs.YtgpdaihfjnihhaaDoor.LebPure Go.Proofs.YtgpdaihfjnihhaaDoor.LebForm Go.Proofs.YtgpdaihfjnihhaaDoor.B64
set_option linter.unusedVariables false
set_option linter.unusedSimpArgs false
theorem eightL_bts (n : Int) : Bts (eightL n) := by
 intro x hx
 simp only [eightL, List.mem_map] at hx
 obtain ⟨i, _, rfl⟩ := hx
 omega
def wfMod (m : ModL) : Prop := okLs m.1 ∧ (m.2.1.length ≤ 9223372036854775807 ∧ ∀ x ∈ m.2.1, x.f0 ≤ 9223372036854775807 ∧ okU x.f1) ∧ okLs m.2.2.1 ∧ (m.2.2.2.length ≤ 9223372036854775807 ∧ ∀ x ∈ m.2.2.2, okU x.f0 ∧ okLs x.f1 ∧ okLs x.f2 ∧ x.f3 ≤ 9223372036854775807 ∧ x.f4 ≤ 9223372036854775807 ∧ x.f5.length ≤ 9223372036854775807 ∧ ∀ i ∈ x.f5, -9223372036854775808 ≤ i.f1 ∧ i.f1 ≤ 9223372036854775807)
end Go.Proofs.YtgpdaihfjnihhaaDoor.PJ
