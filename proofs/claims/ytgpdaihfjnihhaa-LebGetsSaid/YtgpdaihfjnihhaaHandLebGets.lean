/- The walk of the law LebGets: out of what the functions that it calls answer. -/
import Derived.Test.YtgpdaihfjnihhaaHandLent
import Derived.Test.YtgpdaihfjnihhaaLebGetS
namespace Go.Proofs.Ytgpdaihfjnihhaa.PJ
open Go.RowKit Go.Proofs.YtgpdaihfjnihhaaW.PrintWords Go.Proofs.YtgpdaihfjnihhaaW.PrintLast Go.Proofs.YtgpdaihfjnihhaaW.PrintMore

set_option maxHeartbeats 8000000 in
set_option maxRecDepth 100000 in
theorem lebGets.calls (k : Nat) (A0 : Option Addr) (c0 : Nat) (l0 : List Int) (n i e m j f : Int) (w : World) (hr0 : Kd.C (Kd.int .u8) w A0 l0.length l0) (hc0 : l0.length ≤ c0) (hl : (l0.length + 1) * 1 ≤ 140737488355328)
    (h1 : leb_Get.f k l0 = some (n, i, e)) (h2 : leb_GetSigned.f k l0 = some (m, j, f)) (h3 : louverref03_Get.f k l0 = some (n, i, e)) (h4 : louverref03_GetSigned.f k l0 = some (m, j, f)) (h5 : louverkit_Bytes.f k l0 l0 = some true) (h6 : louverlaw03_awake.f k = some true) :
    Calls Try.prog 4 #[.slice A0 l0.length c0] w fun e w' => e = .returned (.bool true) ∧ Below w.heap.size w w' := by
  have HR0 := Aside0.mk hr0
  have HC0 := Aside0.mk hc0
  have HL := Aside0.mk hl
  have H1 := Aside0.mk h1
  have H2 := Aside0.mk h2
  have H3 := Aside0.mk h3
  have H4 := Aside0.mk h4
  have H5 := Aside0.mk h5
  have H6 := Aside0.mk h6
  clear hr0 hc0 hl h1 h2 h3 h4 h5 h6
  go_enter Try.func4, Try.ntmps4
  go_wp2_with fail
  refine (louverkit_LentBytes.calls _ _ l0 w HR0.out HL.out).mono ?_
  rintro e w1 ⟨v, rfl, hL, hb⟩
  obtain ⟨ad, c, rfl, hcap, hC, _⟩ := hL.reads
  have HLent := Aside0.mk hL
  have HC := Aside0.mk hC
  have HCAP := Aside0.mk (show l0.length ≤ c by omega)
  have HB0 := Aside0.mk hb
  have HB1 := Aside0.mk (Below.refl w1.heap.size w1)
  clear hL hC hcap hb
  go_wp2_with fail
  refine (leb_Get.calls k _ _ l0 _ _ _ _ HC.out HCAP.out H1.out).mono ?_
  rintro e w2 ⟨rfl, hb⟩
  replace HB0 := Aside0.mk (below_step HB0.out hb)
  replace HB1 := Aside0.mk (below_step HB1.out hb)
  clear hb
  go_wp2_with fail
  refine (leb_GetSigned.calls k _ _ l0 _ _ _ _ (Kd.C_below HC.out HB1.out) HCAP.out H2.out).mono ?_
  rintro e w3 ⟨rfl, hb⟩
  replace HB0 := Aside0.mk (below_step HB0.out hb)
  replace HB1 := Aside0.mk (below_step HB1.out hb)
  clear hb
  go_wp2_with fail
  refine (louverref03_Get.calls k _ _ l0 _ _ _ _ (Kd.C_below HR0.out HB0.out) HC0.out H3.out).mono ?_
  rintro e w4 ⟨rfl, hb⟩
  replace HB0 := Aside0.mk (below_step HB0.out hb)
  replace HB1 := Aside0.mk (below_step HB1.out hb)
  clear hb
  go_wp2_with fail
  refine (louverref03_GetSigned.calls k _ _ l0 _ _ _ _ (Kd.C_below HR0.out HB0.out) HC0.out H4.out).mono ?_
  rintro e w5 ⟨rfl, hb⟩
  replace HB0 := Aside0.mk (below_step HB0.out hb)
  replace HB1 := Aside0.mk (below_step HB1.out hb)
  clear hb
  go_wp2_with fail
  refine (louverkit_KeptBytes.calls k _ l0 _ _ _ l0 _ (HLent.out.below HB1.out) (Kd.C_below HR0.out HB0.out) HC0.out (by have := HL.out; omega) H5.out).mono ?_
  rintro e w6 ⟨rfl, ⟨nd, rfl⟩⟩
  go_wp2_with fail
  refine (louverlaw03_awake.calls k _ _ H6.out).mono ?_
  rintro e w7 ⟨rfl, hb⟩
  replace HB0 := Aside0.mk (below_step (pw_below_drewN HB0.out _) hb)
  clear hb
  go_wp2
  go_ret
  exact ⟨rfl, HB0.out⟩
end Go.Proofs.Ytgpdaihfjnihhaa.PJ
namespace Go.Proofs.Ytgpdaihfjnihhaa.PJ
open Go.RowKit Go.Proofs.YtgpdaihfjnihhaaW.PrintWords Go.Proofs.YtgpdaihfjnihhaaW.PrintLast Go.Proofs.YtgpdaihfjnihhaaW.PrintMore Go.Proofs.Ytgpdaihfjnihhaa.LebPure
theorem louverlaw03_LebGets.walk (a0 : Option Addr) (len0 cap0 : Nat) (z0 : List Int) (w : World)
    (w0 : (a0 = none ∧ len0 = 0 ∧ cap0 = 0 ∧ z0 = []) ∨ ∃ x, a0 = some x ∧ len0 ≤ cap0 ∧ cap0 ≤ maxLen ∧ z0.length = cap0 ∧ (∀ i, i < z0.length → w.cell? (x.add i) = some (.int .u8 (z0.getD i 0))) ∧ ∀ n ∈ z0, (Lit.int .u8 n).wf = true) (y0 : len0 * 1 ≤ 140737488351232) :
    Calls Try.prog 4 #[.slice a0 len0 cap0] w fun e w' => e = .returned (.bool true) ∧ Below w.heap.size w w' := by
  obtain ⟨l0, rfl, hr0, hm0, hw0, hc0⟩ := ReadsInt.ofRowC w0
  have hb := bts_of_wf hw0
  have hl : l0.length < 9223372036854775807 := by omega
  exact lebGets.calls (2 * l0.length + 100) _ _ l0 _ _ _ _ _ _ w (Kd.C_of_reads (d := (0 : Int)) (h1 := fun _ => rfl) hr0) hc0 (by omega)
    (Get_f _ l0 hb hl (by omega)) (GetSigned_f _ l0 hb hl (by omega)) (refGet_f _ l0 hb hl (by omega)) (refGetSigned_f _ l0 hb hl (by omega))
    (by rw [Bytes_f _ l0 l0 hl (by omega)]; simp) (awake_f _ (by omega))
end Go.Proofs.Ytgpdaihfjnihhaa.PJ
