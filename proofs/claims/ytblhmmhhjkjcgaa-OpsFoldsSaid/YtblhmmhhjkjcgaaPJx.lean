-- WRITTEN BY A PROGRAM OF THIS PROJECT (a turned copy of the print)
import Derived.Test.YtblhmmhhjkjcgaaPJx0
import Derived.Test.YtblhmmhhjkjcgaaPJx1
import Derived.Test.YtblhmmhhjkjcgaaPJx2
import Derived.Test.YtblhmmhhjkjcgaaPJx3
import Derived.Test.YtblhmmhhjkjcgaaPJx4
namespace Go.Proofs.Ytblhmmhhjkjcgaa.PJ
open Go.RowKit Go.Proofs.YtblhmmhhjkjcgaaW.PrintWords Go.Proofs.YtblhmmhhjkjcgaaW.PrintLast Go.Proofs.YtblhmmhhjkjcgaaW.PrintMore
attribute [local go_sem] max2_int min2_int max_two min_two max_three min_three max_four min_four   -- for this text's walks alone
set_option linter.unusedVariables false
set_option linter.unusedSimpArgs false

end Go.Proofs.Ytblhmmhhjkjcgaa.PJ
