/- The law CodeKnown from its row's form. -/
import Derived.Test.YtgpdaihfjnihhaaDoorHandCodeKnown
import Derived.Test.YtgpdaihfjnihhaaDoorHandTab
namespace Go.Proofs.YtgpdaihfjnihhaaDoor.PJ
open Go.RowKit
theorem louverlaw10_CodeKnown.walk (w : World) (hL : laidMetH Tryd.prog Rows.codeKnownRow.laid w) : Calls Tryd.prog 9 #[] w fun e w' => e = .returned (.bool true) ∧ Below w.heap.size w w' := codeKnown.calls w (tab_of_laid hL)
end Go.Proofs.YtgpdaihfjnihhaaDoor.PJ
