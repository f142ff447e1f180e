/- The law OpsKnown from its row's form. -/
import Derived.Test.YtblhmmhhjkjcgaaDoorHandOpsKnown
namespace Go.Proofs.YtblhmmhhjkjcgaaDoor.PJ
open Go.RowKit Go.Proofs.YtblhmmhhjkjcgaaDoorW.PrintWords Go.Proofs.YtblhmmhhjkjcgaaDoorW.PrintLast Go.Proofs.YtblhmmhhjkjcgaaDoorW.PrintMore
theorem louverlaw02_OpsKnown.walk (w : World) (hL : laidMetH Tryd.prog Rows.opsKnownRow.laid w) :
    Calls Tryd.prog 4 #[] w fun e w' => e = .returned (.bool true) ∧ Below w.heap.size w w' := opsKnown.calls w (tab_of_laid hL)
end Go.Proofs.YtblhmmhhjkjcgaaDoor.PJ
