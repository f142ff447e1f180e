/- The law CodeNames from its row's form. -/
import Derived.Test.YtgpdaihfjnihhaaDoorPJx0
import Derived.Test.YtgpdaihfjnihhaaDoorHandCodeNames
import Derived.Test.YtgpdaihfjnihhaaDoorHandTab
import Derived.Test.YtgpdaihfjnihhaaDoorOpenCode
namespace Go.Proofs.YtgpdaihfjnihhaaDoor.PJ
open Go.RowKit Go.Proofs.YtgpdaihfjnihhaaDoorW.PrintWords Go.Proofs.YtgpdaihfjnihhaaDoorW.PrintLast Go.Proofs.YtgpdaihfjnihhaaDoorW.PrintMore
theorem louverlaw10_CodeNames.walk (cs0 : Array Value) (z0 : S44) (a1 : ByteArray) (w : World) (w0 : k44.K w z0 cs0.toList) (_y0 : (Lit.int .i64 z0.f0).wf = true ∧ (Lit.int .i64 z0.f1).wf = true) (_w1 : a1.size ≤ 140737488351232) (hL : laidMetH Tryd.prog Rows.codeNamesRow.laid w) :
    Calls Tryd.prog 8 #[.agg cs0, .string a1] w fun e w' => e = .returned (.bool true) ∧ Below w.heap.size w w' := by
  have e0 := k44_open w0
  obtain rfl : cs0 = #[.int .i64 z0.f0, .int .i64 z0.f1] := by
    apply Array.toList_inj.mp
    simpa using e0
  obtain ⟨p, q, kd, hT, ho, _, _⟩ := table_all z0.f0
  obtain ⟨r1, r2, h1, h2, h3⟩ := byName_all a1
  exact codeNames.calls z0.f0 z0.f1 a1 (nameOf z0.f0) p q kd (byName r1 r2).1 (validOp z0.f0) (mayOf z0.f0 z0.f1) (byName r1 r2).2 r1 r2 w (tab_of_laid hL) hT rfl ho rfl (refMay_f _ _) h1 h2 rfl h3
end Go.Proofs.YtgpdaihfjnihhaaDoor.PJ
