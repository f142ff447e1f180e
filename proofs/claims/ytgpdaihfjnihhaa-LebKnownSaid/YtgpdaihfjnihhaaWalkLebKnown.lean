/- The law LebKnown from its row's form. -/
import Derived.Test.YtgpdaihfjnihhaaHandLebKnown
namespace Go.Proofs.Ytgpdaihfjnihhaa.PJ
open Go.RowKit
theorem louverlaw03_LebKnown.walk (w : World) : Calls Try.prog 7 #[] w fun e w' => e = .returned (.bool true) ∧ Below w.heap.size w w' := lebKnown.calls w
end Go.Proofs.Ytgpdaihfjnihhaa.PJ
