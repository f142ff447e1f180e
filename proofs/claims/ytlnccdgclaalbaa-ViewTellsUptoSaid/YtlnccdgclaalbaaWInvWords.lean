-- A PRINTED TEXT, PRUNED BY A PROGRAM OF THIS PROJECT: what this claim does not name is taken out.
import Derived.Test.YtlnccdgclaalbaaWInv
import Derived.Test.YtlnccdgclaalbaaWFootNe
namespace Go.Proofs.YtlnccdgclaalbaaW.PrintWords
open Go.RowKit
end Go.Proofs.YtlnccdgclaalbaaW.PrintWords
namespace Go.Proofs.YtlnccdgclaalbaaW.PrintLast
section
variable {ops : Array Oper} {a : Act} {o og : Oper} {g : Nat} {t : Tmp} {u : Bool}
end
end Go.Proofs.YtlnccdgclaalbaaW.PrintLast
