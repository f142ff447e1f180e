/- The law ViewKnown from its row's form. -/
import Derived.Test.YtlnccdgclaalbaaHandViewKnown
namespace Go.Proofs.Ytlnccdgclaalbaa.PJ
open Go.RowKit Go.Proofs.YtlnccdgclaalbaaW.PrintWords Go.Proofs.YtlnccdgclaalbaaW.PrintLast Go.Proofs.YtlnccdgclaalbaaW.PrintMore
theorem louverlaw20_ViewKnown.walk (w : World) : Calls Try.prog 6 #[] w fun e w' => e = .returned (.bool true) ∧ Below w.heap.size w w' := viewKnown.calls w
end Go.Proofs.Ytlnccdgclaalbaa.PJ
