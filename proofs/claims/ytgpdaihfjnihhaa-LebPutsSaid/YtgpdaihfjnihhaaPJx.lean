-- WRITTEN BY A PROGRAM OF THIS PROJECT (a turned copy of the print)
import Derived.Test.YtgpdaihfjnihhaaPJx0
import Derived.Test.YtgpdaihfjnihhaaPJx1
import Derived.Test.YtgpdaihfjnihhaaPJx2
import Derived.Test.YtgpdaihfjnihhaaPJx3
import Derived.Test.YtgpdaihfjnihhaaPJx4
import Derived.Test.YtgpdaihfjnihhaaPJx5
namespace Go.Proofs.Ytgpdaihfjnihhaa.PJ
open Go.RowKit Go.Proofs.YtgpdaihfjnihhaaW.PrintWords Go.Proofs.YtgpdaihfjnihhaaW.PrintLast Go.Proofs.YtgpdaihfjnihhaaW.PrintMore
attribute [local go_sem] max2_int min2_int max_two min_two max_three min_three max_four min_four   -- for this text's walks alone
set_option linter.unusedVariables false
set_option linter.unusedSimpArgs false

end Go.Proofs.Ytgpdaihfjnihhaa.PJ
