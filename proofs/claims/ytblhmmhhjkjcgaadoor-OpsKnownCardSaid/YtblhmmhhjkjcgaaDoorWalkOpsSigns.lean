/- The law OpsSigns from its row's form. -/
import Derived.Test.YtblhmmhhjkjcgaaDoorOpsSignPure
import Derived.Test.YtblhmmhhjkjcgaaDoorOpsBits
import Derived.LaidMore
import Derived.Stop.Joined
import Derived.Stop.LaidErr
import Derived.Lib.LaidTab
namespace Go.Proofs.YtblhmmhhjkjcgaaDoor.PJ
open Go.RowKit Go.Proofs.YtblhmmhhjkjcgaaDoorW.PrintWords Go.Proofs.YtblhmmhhjkjcgaaDoorW.PrintLast Go.Proofs.YtblhmmhhjkjcgaaDoorW.PrintMore
theorem asciiData : (Rows.laid_strings_asciiSpace : DataW Unit) = Lib.tabData .u8 Lib.asciiSpaceTab := by kernel_rfl
theorem tab_of_laid {W : World} (h : laidMetH Tryd.prog [("unicode.White_Space", Rows.laid_unicode_White_Space), ("strings.asciiSpace", Rows.laid_strings_asciiSpace)] W) : Lib.TabIs Tryd.prog W "strings.asciiSpace" .u8 Lib.asciiSpaceTab := by
  rw [MakeChecks.laidMetH_plain _ _ _ (by kernel_rfl), asciiData] at h
  exact Lib.tabIs_of_head (g := Tryd.laysFields_ren.g 0) Tryd.laysFields.m0 rfl Tryd.underlying41 Tryd.underlying5 (by kernel_rfl) (by kernel_rfl) (laidMet.tail h)
theorem louverlaw02_OpsSigns.walk (a0 : Int) (a1 : ByteArray) (a2 : Int) (w : World) (_w0 : (Lit.int .i64 a0).wf = true) (_w1 : a1.size ≤ 140737488351232) (_w2 : (Lit.int .i64 a2).wf = true) (hL : laidMetH Tryd.prog Rows.opsSignsRow.laid w) :
    Calls Tryd.prog 3 #[.int .i64 a0, .string a1, .int .i64 a2] w fun e w' => e = .returned (.bool true) ∧ Below w.heap.size w w' := by
  obtain ⟨r1, r2, h1, h2, l1, l2, h3⟩ := bySign_all a1 a2
  obtain ⟨a, h4, h5, hz⟩ := arity_all a0
  exact opsSigns.calls 60 a0 a1 a2 r1 r2 a _ _ w (tab_of_laid hL) h1 h2 l1 l2 rfl h3 h4 h5 hz (refSign_f a0) (OpsBits.awake 58)
end Go.Proofs.YtblhmmhhjkjcgaaDoor.PJ
