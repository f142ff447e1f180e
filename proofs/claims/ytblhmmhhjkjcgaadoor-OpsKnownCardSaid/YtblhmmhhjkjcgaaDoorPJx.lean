-- WRITTEN BY A PROGRAM OF THIS PROJECT (a turned copy of the print)
import Derived.Test.YtblhmmhhjkjcgaaDoorPJx0
import Derived.Test.YtblhmmhhjkjcgaaDoorPJx1
import Derived.Test.YtblhmmhhjkjcgaaDoorPJx2
namespace Go.Proofs.YtblhmmhhjkjcgaaDoor.PJ
open Go.RowKit Go.Proofs.YtblhmmhhjkjcgaaDoorW.PrintWords Go.Proofs.YtblhmmhhjkjcgaaDoorW.PrintLast Go.Proofs.YtblhmmhhjkjcgaaDoorW.PrintMore
attribute [local go_sem] max2_int min2_int max_two min_two max_three min_three max_four min_four   -- for this text's walks alone
set_option linter.unusedVariables false
set_option linter.unusedSimpArgs false

end Go.Proofs.YtblhmmhhjkjcgaaDoor.PJ
