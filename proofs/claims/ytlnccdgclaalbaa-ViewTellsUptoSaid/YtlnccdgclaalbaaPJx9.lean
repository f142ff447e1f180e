-- WRITTEN BY A PROGRAM OF THIS PROJECT (a turned copy of the print)
import Derived.Test.YtlnccdgclaalbaaPJx0
import Derived.Test.YtlnccdgclaalbaaPJx2
import Derived.Test.YtlnccdgclaalbaaPJx3
import Derived.Test.YtlnccdgclaalbaaPJx8
namespace Go.Proofs.Ytlnccdgclaalbaa.PJ
open Go.RowKit Go.Proofs.YtlnccdgclaalbaaW.PrintWords Go.Proofs.YtlnccdgclaalbaaW.PrintLast Go.Proofs.YtlnccdgclaalbaaW.PrintMore
attribute [local go_sem] max2_int min2_int max_two min_two max_three min_three max_four min_four   -- for this text's walks alone
set_option linter.unusedVariables false
set_option linter.unusedSimpArgs false

/-! ### louverref20_Alike: function 25 -/
mutual
def louverref20_Alike.j0 : Nat → Int → Bool → List Int → List (S57) → List Int → List (S48) → List Int → List (List Int) → List Int → List (List Int) → Option (Bool)
  | 0, _, _, _, _, _, _, _, _, _, _ => none
  | k + 1, x1, x20, x258000, x258001, x258002, x258003, x259000, x259001, x260000, x260001 => if x20 = true then (some false) else ((louverref20_numbers.f k x258000 x1 x259000 x260000).bind fun t262 => (if t262 = true then (louverref20_Alike.l0 k x1 0 x258000 x258001 x258002 x258003 x259000 x259001 x260000 x260001) else (some false)))
def louverref20_Alike.l0 : Nat → Int → Int → List Int → List (S57) → List Int → List (S48) → List Int → List (List Int) → List Int → List (List Int) → Option (Bool)
  | 0, _, _, _, _, _, _, _, _, _, _ => none
  | k + 1, x1, x9, x258000, x258001, x258002, x258003, x259000, x259001, x260000, x260001 => if x9 < (x258001.length : Int) then (louverref20_Alike.l1 k x1 x9 0 x258000 x258001 x258002 x258003 x259000 x259001 x260000 x260001) else (some true)
def louverref20_Alike.l1 : Nat → Int → Int → Int → List Int → List (S57) → List Int → List (S48) → List Int → List (List Int) → List Int → List (List Int) → Option (Bool)
  | 0, _, _, _, _, _, _, _, _, _, _, _ => none
  | k + 1, x1, x9, x10, x258000, x258001, x258002, x258003, x259000, x259001, x260000, x260001 => if 0 ≤ x9 then (if x9 < (x259001.length : Int) then (if x10 < ((rd_L3 x259001 x9).length : Int) then (if x9 < (x258001.length : Int) then ((louverref01_Within.f k ((rd_T57 x258001 x9).f1) x1).bind fun t265 => (if t265 = true then (if 0 ≤ x10 then (if x9 < (x260001.length : Int) then (if x10 < ((rd_L3 x260001 x9).length : Int) then (if (rd (rd_L3 x259001 x9) x10) = (rd (rd_L3 x260001 x9) x10) then (louverref20_Alike.l1 k x1 x9 (wrap64 (x10 + 1)) x258000 x258001 x258002 x258003 x259000 x259001 x260000 x260001) else (some false)) else (none)) else (none)) else (none)) else (louverref20_Alike.l1 k x1 x9 (wrap64 (x10 + 1)) x258000 x258001 x258002 x258003 x259000 x259001 x260000 x260001))) else (none)) else (louverref20_Alike.l0 k x1 (wrap64 (x9 + 1)) x258000 x258001 x258002 x258003 x259000 x259001 x260000 x260001)) else (none)) else (none)
end
/-! ### bits_Within: function 40 -/
def bits_Within.f (a0 : Int) (a1 : Int) : Option (Bool) := some ((Go.bits .andNot .u64 a0 a1) == 0)
end Go.Proofs.Ytlnccdgclaalbaa.PJ
