/- What the laid variable strings.asciiSpace reads as. -/
import Derived.Test.YtgpdaihfjnihhaaDoorHandNames
import Derived.LaidMore
import Derived.Stop.Joined
import Derived.Stop.LaidErr
import Derived.Lib.LaidTab
namespace Go.Proofs.YtgpdaihfjnihhaaDoor.PJ
open Go.RowKit Go.Proofs.YtgpdaihfjnihhaaDoorW.PrintWords Go.Proofs.YtgpdaihfjnihhaaDoorW.PrintLast Go.Proofs.YtgpdaihfjnihhaaDoorW.PrintMore
theorem asciiData : (Rows.laid_strings_asciiSpace : DataW Unit) = Lib.tabData .u8 Lib.asciiSpaceTab := by kernel_rfl
theorem tab_of_laid {W : World} (h : laidMetH Tryd.prog [("unicode.White_Space", Rows.laid_unicode_White_Space), ("strings.asciiSpace", Rows.laid_strings_asciiSpace)] W) : Lib.TabIs Tryd.prog W "strings.asciiSpace" .u8 Lib.asciiSpaceTab := by
  rw [MakeChecks.laidMetH_plain _ _ _ (by kernel_rfl), asciiData] at h
  exact Lib.tabIs_of_head (g := Tryd.laysFields_ren.g 0) Tryd.laysFields.m0 rfl Tryd.underlying168 Tryd.underlying5 (by kernel_rfl) (by kernel_rfl) (laidMet.tail h)
end Go.Proofs.YtgpdaihfjnihhaaDoor.PJ
