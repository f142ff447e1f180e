/- Images: there and back, and what a turned byte does (no program). -/
import Derived.Test.YtgpdaihfjnihhaaDoorKPJx0
import Derived.Test.YtgpdaihfjnihhaaDoorKImagePure
import Derived.Test.YtgpdaihfjnihhaaDoorKLebAll
namespace Go.Proofs.YtgpdaihfjnihhaaDoor.PJ
open Go.RowKit Go.Proofs.YtgpdaihfjnihhaaDoorW.PrintWords Go.Proofs.YtgpdaihfjnihhaaDoorW.PrintLast Go.Proofs.YtgpdaihfjnihhaaDoorW.PrintMore Go.Proofs.YtgpdaihfjnihhaaDoor.LebPure Go.Proofs.YtgpdaihfjnihhaaDoor.LebForm Go.Proofs.YtgpdaihfjnihhaaDoor.B64
set_option linter.unusedVariables false
set_option linter.unusedSimpArgs false
theorem eightL_bts (n : Int) : Bts (eightL n) := by
 intro x hx
 simp only [eightL, List.mem_map] at hx
 obtain ⟨i, _, rfl⟩ := hx
 omega
end Go.Proofs.YtgpdaihfjnihhaaDoor.PJ
