-- WRITTEN BY A PROGRAM OF THIS PROJECT (a turned copy of the print)
import Derived.Test.YtlnccdgclaalbaaPJx0
import Derived.Test.YtlnccdgclaalbaaPJx8
import Derived.Test.YtlnccdgclaalbaaPJx9
namespace Go.Proofs.Ytlnccdgclaalbaa.PJ
open Go.RowKit Go.Proofs.YtlnccdgclaalbaaW.PrintWords Go.Proofs.YtlnccdgclaalbaaW.PrintLast Go.Proofs.YtlnccdgclaalbaaW.PrintMore
attribute [local go_sem] max2_int min2_int max_two min_two max_three min_three max_four min_four   -- for this text's walks alone
set_option linter.unusedVariables false
set_option linter.unusedSimpArgs false

/-! ### view_alike: function 55 -/
mutual
def view_alike.j0 : Nat → List Int → Int → List Int → List Int → Bool → Option (Bool)
  | 0, _, _, _, _, _ => none
  | k + 1, x0, x1, x2, x3, x22 => if x22 = true then (some false) else (view_alike.l0 k x1 x2 x3 x0 (x0.length : Int) 0)
def view_alike.l0 : Nat → Int → List Int → List Int → List Int → Int → Int → Option (Bool)
  | 0, _, _, _, _, _, _ => none
  | k + 1, x1, x2, x3, x23, x24, x25 => if x25 < x24 then (if 0 ≤ x25 then (if x25 < (x23.length : Int) then ((bits_Within.f (rd x23 x25) x1).bind fun t271 => (if t271 = true then (if x25 < (x2.length : Int) then (if x25 < (x3.length : Int) then (if (rd x2 x25) = (rd x3 x25) then (view_alike.l0 k x1 x2 x3 x23 x24 (wrap64 (x25 + 1))) else (some false)) else (none)) else (none)) else (view_alike.l0 k x1 x2 x3 x23 x24 (wrap64 (x25 + 1))))) else (none)) else (none)) else (some true)
end
/-! ### view_Args: function 26 -/
/-! ### louverref20_Args: function 27 -/
/-! ### view_Results: function 28 -/
/-! ### louverref20_Results: function 29 -/
-- NOT PRINTED: function 5 (louverlaw20_ViewAlike)

-- NOT PRINTED: function 6 (louverlaw20_ViewKnown)

end Go.Proofs.Ytlnccdgclaalbaa.PJ
