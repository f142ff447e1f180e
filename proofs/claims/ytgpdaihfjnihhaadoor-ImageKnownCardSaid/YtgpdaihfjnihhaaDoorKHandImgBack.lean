/- The law ImageBack: by hand, from its row's form. -/
import Derived.Test.YtgpdaihfjnihhaaDoorKPJx0
import Derived.Test.YtgpdaihfjnihhaaDoorKPKit
import Derived.Test.YtgpdaihfjnihhaaDoorKHandAwake12
import Derived.Test.YtgpdaihfjnihhaaDoorKNamesAll
namespace Go.Proofs.YtgpdaihfjnihhaaDoor.PJ
open Go.RowKit Go.Proofs.YtgpdaihfjnihhaaDoorW.PrintWords Go.Proofs.YtgpdaihfjnihhaaDoorW.PrintLast Go.Proofs.YtgpdaihfjnihhaaDoorW.PrintMore Go.Proofs.YtgpdaihfjnihhaaDoor.LebPure Go.Proofs.YtgpdaihfjnihhaaDoor.LebForm Go.Proofs.YtgpdaihfjnihhaaDoor.B64
set_option linter.unusedSimpArgs false
set_option linter.unusedVariables false
end Go.Proofs.YtgpdaihfjnihhaaDoor.PJ
