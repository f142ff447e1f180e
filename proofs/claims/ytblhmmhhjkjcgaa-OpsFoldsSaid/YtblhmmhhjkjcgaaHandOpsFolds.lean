/- The walk of the law OpsFolds: a fold of the program and of the document over any list come to one answer; the list stays. Lists whose bytes are at most 2^47 - 4096. -/
import Derived.Test.YtblhmmhhjkjcgaaHandLent
import Derived.Test.YtblhmmhhjkjcgaaPJx
import Derived.Test.YtblhmmhhjkjcgaaOpsRef
namespace Go.Proofs.Ytblhmmhhjkjcgaa.PJ
open Go.RowKit Go.Proofs.YtblhmmhhjkjcgaaW.PrintWords Go.Proofs.YtblhmmhhjkjcgaaW.PrintLast Go.Proofs.YtblhmmhhjkjcgaaW.PrintMore

set_option maxHeartbeats 8000000 in
set_option maxRecDepth 100000 in
theorem opsFolds.calls (k : Nat) (op : Int) (A0 : Option Addr) (c0 : Nat) (l0 : List Int) (x : Int) (ok : Bool) (w : World) (hr0 : Kd.C (Kd.int .i64) w A0 l0.length l0) (hc0 : l0.length ≤ c0) (hl : (l0.length + 1) * 8 ≤ 140737488355328)
    (h1 : ops_Fold.f k op l0 = some (x, ok)) (h2 : louverref02_Fold.f k op l0 = some (x, ok)) (h5 : louverkit_Int64s.f k l0 l0 = some true) (h6 : louverlaw02_awake.f k = some true) :
    Calls Try.prog 5 #[.int .i64 op, .slice A0 l0.length c0] w fun e w' => e = .returned (.bool true) ∧ Below w.heap.size w w' := by
  have HR0 := Aside0.mk hr0
  have HC0 := Aside0.mk hc0
  have HL := Aside0.mk hl
  have H1 := Aside0.mk h1
  have H2 := Aside0.mk h2
  have H5 := Aside0.mk h5
  have H6 := Aside0.mk h6
  clear hr0 hc0 hl h1 h2 h5 h6
  go_enter Try.func5, Try.ntmps5
  go_wp2_with fail
  refine (louverkit_LentInt64s.calls _ _ l0 w HR0.out HL.out).mono ?_
  rintro e w1 ⟨v, rfl, hL, hb⟩
  obtain ⟨ad, c, rfl, hcap, hC, _⟩ := hL.reads
  have HLent := Aside0.mk hL
  have HC := Aside0.mk hC
  have HCAP := Aside0.mk (show l0.length ≤ c by omega)
  have HB0 := Aside0.mk hb
  clear hL hC hcap hb
  go_wp2_with fail
  refine (ops_Fold.calls k _ _ _ l0 _ _ _ HC.out HCAP.out H1.out).mono ?_
  rintro e w2 ⟨rfl, ⟨n2, rfl⟩⟩
  go_wp2_with fail
  refine (louverref02_Fold.calls k _ _ _ l0 _ _ _ (Kd.C_drewN (Kd.C_below HR0.out HB0.out) _) HC0.out H2.out).mono ?_
  rintro e w3 ⟨rfl, ⟨n3, rfl⟩⟩
  go_wp2_with fail
  refine (louverkit_KeptInt64s.calls k _ l0 _ _ _ l0 _ (HLent.out.below (pw_below_drewN (Below.refl _ _) _)) (Kd.C_drewN (Kd.C_below HR0.out HB0.out) _) HC0.out (by have := HL.out; omega) H5.out).mono ?_
  rintro e w4 ⟨rfl, ⟨n4, rfl⟩⟩
  go_wp2_with fail
  refine (louverlaw02_awake.calls k true _ H6.out).mono ?_
  rintro e w5 ⟨rfl, ⟨n5, rfl⟩⟩
  go_wp2_with fail
  go_ret
  exact ⟨rfl, pw_below_drewN HB0.out _⟩
end Go.Proofs.Ytblhmmhhjkjcgaa.PJ
