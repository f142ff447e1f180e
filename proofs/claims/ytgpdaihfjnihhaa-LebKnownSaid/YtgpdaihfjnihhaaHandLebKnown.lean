/- The walk of the law LebKnown (a closed statement), call by call. -/
import Derived.Test.YtgpdaihfjnihhaaHandReaderNil
import Derived.Test.YtgpdaihfjnihhaaHandLebReads
import Derived.Test.YtgpdaihfjnihhaaLebGetS
namespace Go.Proofs.Ytgpdaihfjnihhaa.PJ
open Go.RowKit Go.Proofs.YtgpdaihfjnihhaaW.PrintWords Go.Proofs.YtgpdaihfjnihhaaW.PrintLast Go.Proofs.YtgpdaihfjnihhaaW.PrintMore
set_option linter.unusedSimpArgs false
set_option linter.unusedVariables false
/-- A row that a literal has laid. -/
theorem lit_C (W : World) (xs : List Int) (g : Nat) (hg : W.heap.size = g) (h : xs.length ≤ 1000) : Kd.C (Kd.int .u8) (W.alloc (.cells (xs.map (Value.int .u8)).toArray 5)) (some ⟨g, 0, none⟩) xs.length xs := by
  subst hg
  have hR : Kd.R (Kd.int .u8) 5 (W.alloc (.cells (xs.map (Value.int .u8)).toArray 5)) W.heap.size (fun _ => True) (.slice (some ⟨W.heap.size, 0, none⟩) xs.length xs.length) xs :=
    Kd.R_of_own ⟨by simp [encs], .inr ⟨W.heap.size, xs.length, (xs.map (Value.int .u8)).toArray, rfl, Nat.le_refl _, heap_alloc_new W _, Nat.le_refl _, by simp only [maxLen]; omega, by simp, by simp [encs, List.take_of_length_le]⟩⟩ (fun _ _ => trivial)
  exact (Kd.R_reads' hR).2.2
set_option maxHeartbeats 16000000 in
set_option maxRecDepth 100000 in
theorem lebKnown.calls (w : World) :
    Calls Try.prog 7 #[] w fun e w' => e = .returned (.bool true) ∧ Below w.heap.size w w' := by
  have hw1 : wrap64 1 = 1 := by kernel_rfl
  have hw2 : wrap64 2 = 2 := by kernel_rfl
  go_enter Try.func7, Try.ntmps7
  go_wp2_with fail
  refine (louverlaw03_awake.calls 60 true _ (LebPure.awake_f 60 (Nat.le_refl _))).mono ?_
  rintro e w0 ⟨rfl, hb⟩
  have HB := Aside0.mk hb
  clear hb
  go_wp2_with fail
  refine (louverlaw03_put.calls 60 (0) _ _ [0] true _ (lit_C _ [0] _ rfl (by decide)) (by decide) (by kernel_rfl)).mono ?_
  rintro e w1 ⟨rfl, hb⟩
  replace HB := Aside0.mk (below_step (below_alloc HB.out _) hb)
  clear hb
  go_wp2_with fail
  refine (louverlaw03_put.calls 60 (127) _ _ [127] true _ (lit_C _ [127] _ rfl (by decide)) (by decide) (by kernel_rfl)).mono ?_
  rintro e w2 ⟨rfl, hb⟩
  replace HB := Aside0.mk (below_step (below_alloc HB.out _) hb)
  clear hb
  go_wp2_with fail
  refine (louverlaw03_times.calls 60 9 255 _ _ [1] [255, 255, 255, 255, 255, 255, 255, 255, 255, 1] _ (lit_C _ [1] _ rfl (by decide)) (by decide) (by kernel_rfl)).mono ?_
  rintro e w3 ⟨v, rfl, hR, hb⟩
  obtain ⟨AT, cT, rfl, hlT, hCT⟩ := Kd.R_reads hR
  have HCT := Aside0.mk hCT
  have HCC := Aside0.mk hlT
  replace HB := Aside0.mk (below_step (below_alloc HB.out _) hb)
  clear hb hR hCT hlT
  go_wp2_with fail
  refine (louverlaw03_put.calls 60 (18446744073709551615) _ _ [255, 255, 255, 255, 255, 255, 255, 255, 255, 1] true _ HCT.out HCC.out (by kernel_rfl)).mono ?_
  rintro e w4 ⟨rfl, hb⟩
  replace HB := Aside0.mk (below_step HB.out hb)
  clear hb
  clear HCT HCC
  go_wp2_with fail
  refine (louverlaw03_putSigned.calls 60 (0) _ _ [0] true _ (lit_C _ [0] _ rfl (by decide)) (by decide) (by kernel_rfl)).mono ?_
  rintro e w5 ⟨rfl, hb⟩
  replace HB := Aside0.mk (below_step (below_alloc HB.out _) hb)
  clear hb
  go_wp2_with fail
  refine (louverlaw03_putSigned.calls 60 (63) _ _ [63] true _ (lit_C _ [63] _ rfl (by decide)) (by decide) (by kernel_rfl)).mono ?_
  rintro e w6 ⟨rfl, hb⟩
  replace HB := Aside0.mk (below_step (below_alloc HB.out _) hb)
  clear hb
  go_wp2_with fail
  refine (louverlaw03_putSigned.calls 60 (64) _ _ [192, 0] true _ (lit_C _ [192, 0] _ rfl (by decide)) (by decide) (by kernel_rfl)).mono ?_
  rintro e w7 ⟨rfl, hb⟩
  replace HB := Aside0.mk (below_step (below_alloc HB.out _) hb)
  clear hb
  go_wp2_with fail
  refine (louverlaw03_putSigned.calls 60 (-1) _ _ [127] true _ (lit_C _ [127] _ rfl (by decide)) (by decide) (by kernel_rfl)).mono ?_
  rintro e w8 ⟨rfl, hb⟩
  replace HB := Aside0.mk (below_step (below_alloc HB.out _) hb)
  clear hb
  go_wp2_with fail
  refine (louverlaw03_putSigned.calls 60 (-64) _ _ [64] true _ (lit_C _ [64] _ rfl (by decide)) (by decide) (by kernel_rfl)).mono ?_
  rintro e w9 ⟨rfl, hb⟩
  replace HB := Aside0.mk (below_step (below_alloc HB.out _) hb)
  clear hb
  go_wp2_with fail
  refine (louverlaw03_times.calls 60 9 128 _ _ [127] [128, 128, 128, 128, 128, 128, 128, 128, 128, 127] _ (lit_C _ [127] _ rfl (by decide)) (by decide) (by kernel_rfl)).mono ?_
  rintro e w10 ⟨v, rfl, hR, hb⟩
  obtain ⟨AT, cT, rfl, hlT, hCT⟩ := Kd.R_reads hR
  have HCT := Aside0.mk hCT
  have HCC := Aside0.mk hlT
  replace HB := Aside0.mk (below_step (below_alloc HB.out _) hb)
  clear hb hR hCT hlT
  go_wp2_with fail
  refine (louverlaw03_putSigned.calls 60 (-9223372036854775808) _ _ [128, 128, 128, 128, 128, 128, 128, 128, 128, 127] true _ HCT.out HCC.out (by kernel_rfl)).mono ?_
  rintro e w11 ⟨rfl, hb⟩
  replace HB := Aside0.mk (below_step HB.out hb)
  clear hb
  clear HCT HCC
  go_wp2_with fail
  refine (louverlaw03_wrong.calls 60 _ _ [128] 30 _ (lit_C _ [128] _ rfl (by decide)) (by decide) (by kernel_rfl)).mono ?_
  rintro e w12 ⟨rfl, hb⟩
  replace HB := Aside0.mk (below_step (below_alloc HB.out _) hb)
  clear hb
  go_wp2_with fail
  refine (louverlaw03_wrong.calls 60 none 0 [] 30 _ (Kd.C_nil _ _) (Nat.le_refl _) (by kernel_rfl)).mono ?_
  rintro e w13 ⟨rfl, hb⟩
  replace HB := Aside0.mk (below_step HB.out hb)
  clear hb
  go_wp2_with fail
  refine (louverlaw03_wrong.calls 60 _ _ [128, 0] 31 _ (lit_C _ [128, 0] _ rfl (by decide)) (by decide) (by kernel_rfl)).mono ?_
  rintro e w14 ⟨rfl, hb⟩
  replace HB := Aside0.mk (below_step (below_alloc HB.out _) hb)
  clear hb
  go_wp2_with fail
  refine (louverlaw03_times.calls 60 10 255 none 0 [] [255, 255, 255, 255, 255, 255, 255, 255, 255, 255] _ (Kd.C_nil _ _) (Nat.le_refl _) (by kernel_rfl)).mono ?_
  rintro e w15 ⟨v, rfl, hR, hb⟩
  obtain ⟨AT, cT, rfl, hlT, hCT⟩ := Kd.R_reads hR
  have HCT := Aside0.mk hCT
  have HCC := Aside0.mk hlT
  replace HB := Aside0.mk (below_step HB.out hb)
  clear hb hR hCT hlT
  go_wp2_with fail
  refine (louverlaw03_wrong.calls 60 _ _ [255, 255, 255, 255, 255, 255, 255, 255, 255, 255] 31 _ HCT.out HCC.out (by kernel_rfl)).mono ?_
  rintro e w16 ⟨rfl, hb⟩
  replace HB := Aside0.mk (below_step HB.out hb)
  clear hb
  clear HCT HCC
  go_wp2_with fail
  refine (louverlaw03_times.calls 60 9 255 _ _ [2] [255, 255, 255, 255, 255, 255, 255, 255, 255, 2] _ (lit_C _ [2] _ rfl (by decide)) (by decide) (by kernel_rfl)).mono ?_
  rintro e w17 ⟨v, rfl, hR, hb⟩
  obtain ⟨AT, cT, rfl, hlT, hCT⟩ := Kd.R_reads hR
  have HCT := Aside0.mk hCT
  have HCC := Aside0.mk hlT
  replace HB := Aside0.mk (below_step (below_alloc HB.out _) hb)
  clear hb hR hCT hlT
  go_wp2_with fail
  refine (louverlaw03_wrong.calls 60 _ _ [255, 255, 255, 255, 255, 255, 255, 255, 255, 2] 31 _ HCT.out HCC.out (by kernel_rfl)).mono ?_
  rintro e w18 ⟨rfl, hb⟩
  replace HB := Aside0.mk (below_step HB.out hb)
  clear hb
  clear HCT HCC
  go_wp2_with fail
  refine (louverlaw03_times.calls 60 9 255 none 0 [] [255, 255, 255, 255, 255, 255, 255, 255, 255] _ (Kd.C_nil _ _) (Nat.le_refl _) (by kernel_rfl)).mono ?_
  rintro e w19 ⟨v, rfl, hR, hb⟩
  obtain ⟨AT, cT, rfl, hlT, hCT⟩ := Kd.R_reads hR
  have HCT := Aside0.mk hCT
  have HCC := Aside0.mk hlT
  replace HB := Aside0.mk (below_step HB.out hb)
  clear hb hR hCT hlT
  go_wp2_with fail
  refine (louverlaw03_wrong.calls 60 _ _ [255, 255, 255, 255, 255, 255, 255, 255, 255] 30 _ HCT.out HCC.out (by kernel_rfl)).mono ?_
  rintro e w20 ⟨rfl, hb⟩
  replace HB := Aside0.mk (below_step HB.out hb)
  clear hb
  clear HCT HCC
  go_wp2_with fail
  refine (leb_GetSigned.calls 60 _ _ [127] (-1) (1) (0) _ (lit_C _ [127] _ rfl (by decide)) (by decide) (by kernel_rfl)).mono ?_
  rintro e w21 ⟨rfl, hb⟩
  replace HB := Aside0.mk (below_step (below_alloc HB.out _) hb)
  clear hb
  go_wp2_with fail
  refine (leb_GetSigned.calls 60 _ _ [255, 127] (0) (0) (31) _ (lit_C _ [255, 127] _ rfl (by decide)) (by decide) (by kernel_rfl)).mono ?_
  rintro e w22 ⟨rfl, hb⟩
  replace HB := Aside0.mk (below_step (below_alloc HB.out _) hb)
  clear hb
  go_wp2_with fail
  refine (leb_GetSigned.calls 60 _ _ [128, 0] (0) (0) (31) _ (lit_C _ [128, 0] _ rfl (by decide)) (by decide) (by kernel_rfl)).mono ?_
  rintro e w23 ⟨rfl, hb⟩
  replace HB := Aside0.mk (below_step (below_alloc HB.out _) hb)
  clear hb
  go_wp2_with fail
  refine (leb_GetSigned.calls 60 _ _ [192, 0] (64) (2) (0) _ (lit_C _ [192, 0] _ rfl (by decide)) (by decide) (by kernel_rfl)).mono ?_
  rintro e w24 ⟨rfl, hb⟩
  replace HB := Aside0.mk (below_step (below_alloc HB.out _) hb)
  clear hb
  go_wp2_with fail
  refine (leb_NewReader.calls _ _ [5, 127, 128] _ (lit_C _ [5, 127, 128] _ rfl (by decide)) (by decide) (by decide)).mono ?_
  rintro e w25 ⟨g, rfl, hg, hR, hb⟩
  have HG := Aside0.mk (Nat.le_trans (below_size (below_alloc HB.out _)) hg)
  have HR := Aside0.mk hR
  replace HB := Aside0.mk (below_step (below_alloc HB.out _) hb)
  clear hg hR hb
  go_wp2_with fail
  refine (leb_Unsigned.calls 60 g _ [5, 127, 128] [5, 127, 128] 0 0 5 1 0 _ HR.out (by decide) rfl (by kernel_rfl)).mono ?_
  rintro e w26 ⟨rfl, hg, hR⟩
  simp [hw1, hw2] at hR
  replace HR := Aside0.mk hR
  replace HB := Aside0.mk (pw_below_grown HB.out (some g) (below_size HB.out) hg (fun q hq => by injection hq with hq; have := HG.out; omega))
  clear hg hR
  go_wp2_with fail
  refine (leb_Signed.calls 60 g _ [5, 127, 128] [127, 128] 1 0 (-1) 1 0 _ HR.out (by decide) rfl (by kernel_rfl)).mono ?_
  rintro e w27 ⟨rfl, hg, hR⟩
  simp [hw1, hw2] at hR
  replace HR := Aside0.mk hR
  replace HB := Aside0.mk (pw_below_grown HB.out (some g) (below_size HB.out) hg (fun q hq => by injection hq with hq; have := HG.out; omega))
  clear hg hR
  go_wp2_with fail
  refine (leb_Unsigned.calls 60 g _ [5, 127, 128] [128] 2 0 0 0 30 _ HR.out (by decide) rfl (by kernel_rfl)).mono ?_
  rintro e w28 ⟨rfl, hg, hR⟩
  simp [hw1, hw2] at hR
  replace HR := Aside0.mk hR
  replace HB := Aside0.mk (pw_below_grown HB.out (some g) (below_size HB.out) hg (fun q hq => by injection hq with hq; have := HG.out; omega))
  clear hg hR
  go_wp2_with fail
  refine (leb_Byte.calls g _ [5, 127, 128] [128] 2 30 128 1 0 _ HR.out (by decide) rfl (by kernel_rfl)).mono ?_
  rintro e w29 ⟨rfl, hg, hR⟩
  simp [hw1, hw2] at hR
  replace HR := Aside0.mk hR
  replace HB := Aside0.mk (pw_below_grown HB.out (some g) (below_size HB.out) hg (fun q hq => by injection hq with hq; have := HG.out; omega))
  clear hg hR
  go_wp2_with fail
  refine (leb_Err.calls g _ [5, 127, 128] 2 30 _ HR.out).mono ?_
  rintro e w_ ⟨rfl, hd⟩
  replace HR := Aside0.mk (Rdr.below HR.out hd.below)
  replace HB := Aside0.mk (below_step HB.out hd.below)
  clear hd
  go_wp2_with fail
  refine (leb_Left.calls g _ [5, 127, 128] 2 30 _ HR.out).mono ?_
  rintro e w_ ⟨rfl, hd⟩
  replace HR := Aside0.mk (Rdr.below HR.out hd.below)
  replace HB := Aside0.mk (below_step HB.out hd.below)
  clear hd
  go_wp2_with fail
  refine (leb_At.calls g _ [5, 127, 128] 2 30 _ HR.out).mono ?_
  rintro e w_ ⟨rfl, hd⟩
  replace HR := Aside0.mk (Rdr.below HR.out hd.below)
  replace HB := Aside0.mk (below_step HB.out hd.below)
  clear hd
  go_wp2_with fail
  refine (leb_Unsigned.nil _).mono ?_
  rintro e w_ ⟨rfl, hb⟩
  replace HB := Aside0.mk (below_step HB.out hb)
  clear hb
  go_wp2_with fail
  refine (leb_Signed.nil _).mono ?_
  rintro e w_ ⟨rfl, hb⟩
  replace HB := Aside0.mk (below_step HB.out hb)
  clear hb
  go_wp2_with fail
  refine (leb_Byte.nil _).mono ?_
  rintro e w_ ⟨rfl, hb⟩
  replace HB := Aside0.mk (below_step HB.out hb)
  clear hb
  go_wp2_with fail
  refine (leb_Left.nil _).mono ?_
  rintro e w_ ⟨rfl, hb⟩
  replace HB := Aside0.mk (below_step HB.out hb)
  clear hb
  go_wp2_with fail
  refine (leb_At.nil _).mono ?_
  rintro e w_ ⟨rfl, hb⟩
  replace HB := Aside0.mk (below_step HB.out hb)
  clear hb
  go_wp2_with fail
  refine (leb_Err.nil _).mono ?_
  rintro e w_ ⟨rfl, hb⟩
  replace HB := Aside0.mk (below_step HB.out hb)
  clear hb
  go_wp2_with fail
  go_ret
  exact ⟨rfl, HB.out⟩
end Go.Proofs.Ytgpdaihfjnihhaa.PJ
