/- The walks of the laws OpsSigns and OpsKnown. -/
import Derived.Test.YtblhmmhhjkjcgaaDoorHandBySign
namespace Go.Proofs.YtblhmmhhjkjcgaaDoor.PJ
open Go.RowKit Go.Proofs.YtblhmmhhjkjcgaaDoorW.PrintWords Go.Proofs.YtblhmmhhjkjcgaaDoorW.PrintLast Go.Proofs.YtblhmmhhjkjcgaaDoorW.PrintMore
set_option linter.unusedSimpArgs false
set_option linter.unusedVariables false

set_option maxHeartbeats 8000000 in
set_option maxRecDepth 100000 in
theorem opsSigns.calls (k : Nat) (op : Int) (s : ByteArray) (ar r1 r2 a x : Int) (ok : Bool) (w : World) (ht : Lib.TabIs Tryd.prog w "strings.asciiSpace" .u8 Lib.asciiSpaceTab)
    (h1 : slices_Index_string_string.f k signs1 s = some r1) (h2 : slices_Index_string_string.f k signs2 s = some r2) (l1 : -1 ≤ r1 ∧ r1 ≤ 3) (l2 : -1 ≤ r2 ∧ r2 ≤ 14)
    (hby : bySign r1 r2 ar = (x, ok)) (h3 : louverref02_BySign.f k s ar = some (x, ok)) (h4 : ops_Arity.f k op = some a) (h5 : louverref02_Arity.f k op = some a) (hz : a = 0 ↔ op < 1 ∨ 17 < op) (h6 : louverref02_Sign.f op = some (signOf op)) (h7 : louverlaw02_awake.f k = some true) :
    Calls Tryd.prog 3 #[.int .i64 op, .string s, .int .i64 ar] w fun e w' => e = .returned (.bool true) ∧ Below w.heap.size w w' := by
  have HT := Aside0.mk ht
  have H1 := Aside0.mk h1
  have H2 := Aside0.mk h2
  have L1 := Aside0.mk l1
  have L2 := Aside0.mk l2
  have HBY := Aside0.mk hby
  have H3 := Aside0.mk h3
  have H4 := Aside0.mk h4
  have H5 := Aside0.mk h5
  have H6 := Aside0.mk h6
  have H7 := Aside0.mk h7
  have HZ := Aside0.mk hz
  clear ht h1 h2 l1 l2 hby h3 h4 h5 h6 h7 hz
  obtain ⟨sg, hsg⟩ : ∃ sg, sg = signOf op := ⟨_, rfl⟩
  have HSG := Aside0.mk hsg
  clear hsg
  go_enter Tryd.func3, Tryd.ntmps3
  go_wp2_with fail
  refine (ops_BySign.calls k s ar r1 r2 _ HT.out H1.out H2.out L1.out L2.out).mono ?_
  rintro e w1 ⟨rfl, hb⟩
  rw [HBY.out]
  have HB := Aside0.mk hb
  clear hb
  go_wp2_with fail
  refine (louverref02_BySign.calls k s ar x ok _ H3.out).mono ?_
  rintro e w2 ⟨rfl, hb⟩
  replace HB := Aside0.mk (below_step HB.out hb)
  clear hb
  go_wp2_with fail
  refine (ops_Arity.calls k op a _ H4.out).mono ?_
  rintro e w3 ⟨rfl, ⟨n3, rfl⟩⟩
  go_wp2_with fail
  refine (louverref02_Arity.calls k op a _ H5.out).mono ?_
  rintro e w4 ⟨rfl, ⟨n4, rfl⟩⟩
  replace HB := Aside0.mk (pw_below_drewN HB.out (n3 + n4))
  go_wp2_with fail
  refine (ops_Sign.calls k op a _ (tab_below HT.out HB.out) H4.out HZ.out).mono ?_
  rintro e w5 ⟨rfl, hb⟩
  replace HB := Aside0.mk (below_step HB.out hb)
  clear hb
  rw [← HSG.out]
  go_wp2_with fail
  refine (louverref02_Sign.calls op sg _ (by rw [HSG.out]; exact H6.out)).mono ?_
  rintro e w6 ⟨rfl, hb⟩
  replace HB := Aside0.mk (below_step HB.out hb)
  clear hb
  go_wp2_with fail
  refine (louverlaw02_awake.calls k true _ H7.out).mono ?_
  rintro e w7 ⟨rfl, ⟨n7, rfl⟩⟩
  go_wp2_with fail
  go_ret
  exact ⟨rfl, pw_below_drewN HB.out _⟩
end Go.Proofs.YtblhmmhhjkjcgaaDoor.PJ
