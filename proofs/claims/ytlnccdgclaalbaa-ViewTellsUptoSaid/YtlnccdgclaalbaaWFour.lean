-- A PRINTED TEXT, PRUNED BY A PROGRAM OF THIS PROJECT: what this claim does not name is taken out.
import Derived.Test.YtlnccdgclaalbaaWTab
/-! ### 56. Four, five, six operations that may come up next, in any order -/
namespace Go.Proofs.YtlnccdgclaalbaaW.PrintLast
section
variable {P : Program} {ops : Array Oper} {Q : Exit → Act → World → Prop} {md : Region.Mode} {S : World → Prop} {ds : List Nat} {T : Bool × List (List Nat × List Nat)}
end
end Go.Proofs.YtlnccdgclaalbaaW.PrintLast
