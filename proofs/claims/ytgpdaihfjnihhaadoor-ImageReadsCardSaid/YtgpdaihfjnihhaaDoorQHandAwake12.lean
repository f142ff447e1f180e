/- louverlaw12.awake, by hand. -/
import Derived.Test.YtgpdaihfjnihhaaDoorQPJx0
import Derived.Test.YtgpdaihfjnihhaaDoorQPKit
import Derived.Test.YtgpdaihfjnihhaaDoorQPA
import Derived.Test.YtgpdaihfjnihhaaDoorQHandRead
import Derived.Test.YtgpdaihfjnihhaaDoorQHandSame
namespace Go.Proofs.YtgpdaihfjnihhaaDoor.PJ
open Go.RowKit Go.Proofs.YtgpdaihfjnihhaaDoorW.PrintWords Go.Proofs.YtgpdaihfjnihhaaDoorW.PrintLast Go.Proofs.YtgpdaihfjnihhaaDoorW.PrintMore Go.Proofs.YtgpdaihfjnihhaaDoor.LebPure Go.Proofs.YtgpdaihfjnihhaaDoor.LebForm Go.Proofs.YtgpdaihfjnihhaaDoor.B64
set_option linter.unusedSimpArgs false
set_option linter.unusedVariables false
theorem FnsOk.get {W : World} {ok : Nat → Prop} : ∀ {css : List (List Value)} {xs : List S41} {lo hi : Nat}, FnsOk W ok lo hi css xs → ∀ (j : Nat) (x : S41), xs[j]? = some x → ∃ cs l m, css[j]? = some cs ∧ FnRows W l m x cs
 | [], [], _, _, _, j, x, hj => by simp at hj
 | cs :: css, y :: xs, lo, hi, ⟨l, m, h1, h2, h3, h4, h5⟩, j, x, hj => by
  cases j with
  | zero =>
   simp only [List.getElem?_cons_zero, Option.some.injEq] at hj
   subst hj
   exact ⟨cs, l, m, rfl, h4⟩
  | succ j =>
   simp only [List.getElem?_cons_succ] at hj ⊢
   exact h5.get j x hj
 | [], _ :: _, _, _, h, _, _, _ => h.elim
 | _ :: _, [], _, _, h, _, _, _ => h.elim
theorem FnRows.reads {W : World} {lo hi : Nat} {x : S41} {cs : List Value} (h : FnRows W lo hi x cs) : k41.K W x cs := by
 obtain ⟨v1, v2, v5, l1, m1, l2, m2, l5, m5, e, a, b, c, d, f, g, i, h1, h2, h5⟩ := h
 obtain ⟨A1, e1, r1⟩ := h1.reads
 obtain ⟨A2, e2, r2⟩ := h2.reads
 obtain ⟨A5, e5, r5⟩ := h5.reads
 subst e e1 e2 e5
 exact k41_mk W x (Nat.le_refl _) r1 (Nat.le_refl _) r2 (Nat.le_refl _) r5
theorem FnsOut.reads {W : World} {lo hi : Nat} {v : Value} {xs : List S41} (h : FnsOut W lo hi v xs) : ∃ A, v = .slice A xs.length xs.length ∧ Kd.C k41 W A xs.length xs := by
 obtain ⟨css, hl, hc, hf⟩ := h
 obtain ⟨A, e, hC⟩ := hc.reads
 rw [hl] at e hC
 refine ⟨A, e, rfl, hC.2.1, fun hn => ?_⟩
 obtain ⟨ad, ea, hcc⟩ := hC.2.2 hn
 refine ⟨ad, ea, fun j x hj => ?_⟩
 obtain ⟨cs, l, m, h1, h2⟩ := hf.get j x hj
 obtain ⟨c, h3, h4, h5⟩ := hcc j cs h1
 obtain ⟨h6, h7, _⟩ := h4
 subst h6
 exact ⟨c, h3, h2.reads, h5⟩
theorem ModOut.reads {W : World} {lo hi : Nat} {v1 v2 v3 v4 : Value} {m : ModL} (h : ModOut W lo hi v1 v2 v3 v4 m) : ∃ A1 A2 A3 A4, v1 = .slice A1 m.1.length m.1.length ∧ v2 = .slice A2 m.2.1.length m.2.1.length ∧ v3 = .slice A3 m.2.2.1.length m.2.2.1.length ∧ v4 = .slice A4 m.2.2.2.length m.2.2.2.length ∧ Kd.C (Kd.int .u64) W A1 m.1.length m.1 ∧ Kd.C k38 W A2 m.2.1.length m.2.1 ∧ Kd.C (Kd.int .u64) W A3 m.2.2.1.length m.2.2.1 ∧ Kd.C k41 W A4 m.2.2.2.length m.2.2.2 := by
 obtain ⟨a1, b1, a2, b2, a3, b3, a4, b4, p1, p2, p3, p4, p5, p6, p7, p8, p9, h1, h2, h3, h4⟩ := h
 obtain ⟨A1, e1, r1⟩ := h1.reads
 obtain ⟨A2, e2, r2⟩ := h2.reads
 obtain ⟨A3, e3, r3⟩ := h3.reads
 obtain ⟨A4, e4, r4⟩ := h4.reads
 exact ⟨A1, A2, A3, A4, e1, e2, e3, e4, r1, r2, r3, r4⟩
abbrev gFns : List S41 := [⟨1, [], [0], 2, 4, [⟨32, 7⟩, ⟨46, 0⟩]⟩]
abbrev gArrs : List S38 := [⟨2, 0⟩]
abbrev formL : List Int := [76, 86, 82, 1, 1, 3, 1, 2, 0, 0, 1, 1, 0, 1, 0, 2, 4, 2, 32, 7, 46]
def imgB : List Int := formL ++ eightL (sumL formL)
theorem write_given : writeM [3] gArrs [] gFns = (imgB, 0) := by kernel_rfl
theorem wf_given : wfW [3] gArrs [] gFns := by
 unfold wfW okFnW okU
 simp
theorem read_given : readM imgB = (([3], gArrs, [], gFns), 0) := by kernel_rfl
theorem sealed_form : louverlaw12_sealed.f 200 formL = some imgB := by kernel_rfl
theorem bytes_img : louverkit_Bytes.f 200 imgB imgB = some true := by kernel_rfl
theorem sum_a : sumL [97] = 12638187200555641996 := by kernel_rfl
theorem imgB_bts : Bts imgB := by
 intro x hx
 rcases List.mem_append.1 hx with h | h
 ·
  simp only [List.mem_cons, List.not_mem_nil, or_false] at h
  omega
 ·
  exact eightL_bts _ x h
theorem row97 (w : World) : Kd.C (Kd.int .u8) (w.alloc (.cells #[.int .u8 97] 5)) (some ⟨w.heap.size, 0, none⟩) [97].length [97] :=
 (RowSt.reads (P := fun _ => True) (q := w.heap.size + 1) (c := 1) (.inr ⟨w.heap.size, (0, 0), rfl, heap_alloc_new w _, by omega, by decide⟩)).2
theorem sum97.calls (w8 : World) : Calls Tryd.prog 46 #[.slice (some ⟨w8.heap.size + 1, 0, none⟩) 1 1] ((w8.alloc (.cells #[.int .u8 97] 5)).alloc (.cells #[.slice (some ⟨w8.heap.size, 0, none⟩) 1 1] 27)) fun e w' => e = .returned (.int .u64 12638187200555641996) ∧ Below (w8.alloc (.cells #[.int .u8 97] 5)).heap.size (w8.alloc (.cells #[.int .u8 97] 5)) w' := by
 have h := sum1.calls [97] (fun x hx => by rw [List.mem_singleton.1 hx]; decide) (some ⟨w8.heap.size, 0, none⟩) 1 (w8.alloc (.cells #[.int .u8 97] 5)) (row97 w8) (Nat.le_refl _)
 rw [sum_a] at h
 rw [show w8.heap.size + 1 = (w8.alloc (.cells #[.int .u8 97] 5)).heap.size from (Array.size_push _).symm]
 exact h
set_option maxHeartbeats 16000000 in
set_option maxRecDepth 100000 in
theorem awake12.calls (w : World) (ht : Lib.TabIs Tryd.prog w "strings.asciiSpace" .u8 Lib.asciiSpaceTab) : Calls Tryd.prog 17 #[] w fun e w' => e = .returned (.bool true) ∧ Below w.heap.size w w' := by
 have HT := Aside0.mk ht
 clear ht
 go_enter Tryd.func17, Tryd.ntmps17
 go_wp2_with fail
 refine (louverlaw12_given.calls [3] gArrs [] gFns _ rfl).mono ?_
 rintro e w1 ⟨g0, g1, g2, g3, rfl, hg0, hg1, hg2, hg3, hb1⟩
 obtain ⟨D0, d0, rfl⟩ := Kd.R_slice hg0
 obtain ⟨D1, d1, rfl⟩ := Kd.R_slice hg1
 obtain ⟨D2, d2, rfl⟩ := Kd.R_slice hg2
 obtain ⟨D3, d3, rfl⟩ := Kd.N_slice hg3
 have HB1 := Aside0.mk hb1
 have HT1 := Aside0.mk (tab_below HT.out hb1)
 have HWC := Aside0.mk (image_Write.calls D0 D1 D2 D3 d0 d1 d2 d3 [3] gArrs [] gFns w1 HT1.out (Kd.R_reads' hg0).2.2 (Kd.R_reads' hg1).2.2 (Kd.R_reads' hg2).2.2 (Kd.N_reads' hg3).2.2 wf_given)
 rw [write_given] at HWC
 clear hg0 hg1 hg2 hg3 hb1
 go_wp2_with fail
 refine HWC.out.mono ?_
 rintro e w2 ⟨v, rfl, hV, hb2⟩
 obtain ⟨B0, bc, rfl, hVR⟩ := hV
 have HB2 := Aside0.mk (below_step HB1.out hb2)
 have HI2 := Aside0.mk (Kd.R_reads' hVR).2.2
 have HT2 := Aside0.mk (tab_below HT1.out hb2)
 have HRC := Aside0.mk (image_Read.calls B0 imgB.length imgB imgB_bts w2 HT2.out (Nat.le_refl _) HI2.out)
 rw [read_given] at HRC
 clear hVR hb2 HWC
 go_wp2_with fail
 refine HRC.out.mono ?_
 rintro e w3 ⟨v1, v2, v3, v4, rfl, hM, hb3⟩
 obtain ⟨E0, E1, E2, E3, rfl, rfl, rfl, rfl, hM0, hM1, hM2, hM3⟩ := hM.reads
 simp only [List.length_cons, List.length_nil, Nat.zero_add] at hM0 hM1 hM2 hM3
 have hbB := below_alloc (Below.refl w3.heap.size w3) (.cells #[.slice E0 1 1, .slice E1 1 1, .slice E2 0 0, .slice E3 1 1] 26)
 obtain ⟨wb, hwb⟩ : ∃ wb, w3.alloc (.cells #[.slice E0 1 1, .slice E1 1 1, .slice E2 0 0, .slice E3 1 1] 26) = wb := ⟨_, rfl⟩
 have HWB := Aside0.mk hwb
 have HGB := Aside0.mk (show wb.heap[w3.heap.size]? = some (.cells #[.slice E0 1 1, .slice E1 1 1, .slice E2 0 0, .slice E3 1 1] 26 (0, 0)) by rw [← hwb]; exact heap_alloc_new w3 _)
 have hbB2 : Below w3.heap.size w3 wb := by rw [← hwb]; exact hbB
 have HB3 := Aside0.mk (below_step (below_step HB2.out hb3) hbB2)
 have HIM := Aside0.mk (Kd.C_below HI2.out (below_step hb3 hbB2))
 have HM0 := Aside0.mk (Kd.C_below hM0 hbB2)
 have HM1 := Aside0.mk (Kd.C_below hM1 hbB2)
 have HM2 := Aside0.mk (Kd.C_below hM2 hbB2)
 have HM3 := Aside0.mk (Kd.C_below hM3 hbB2)
 clear hM hM0 hM1 hM2 hM3 hb3 hbB hbB2 HRC
 obtain ⟨⟨m0, m1, m2, m3⟩, _⟩ := facts4 HGB.out
 go_wp2_with fail
 refine start_ (n := 24) (S := fun w' => w'.cell? ⟨w3.heap.size, 0, none⟩ = some (.slice E0 1 1) ∧ w'.cell? ⟨w3.heap.size, 1, none⟩ = some (.slice E1 1 1) ∧ w'.cell? ⟨w3.heap.size, 2, none⟩ = some (.slice E2 0 0) ∧ w'.cell? ⟨w3.heap.size, 3, none⟩ = some (.slice E3 1 1)) (ds := []) #[false, false, false, false, false, false, false, false, false, false, false, false, false, false, false, false, false, false, false, false, false, false, false, false] (by kernel_rfl) rfl rfl ⟨m0, m1, m2, m3⟩ (fun hHeld => ?_)
 refine pure_ (i := 0) (N := some 15) (v := ?_) (a' := ?_) #[true, false, false, false, false, false, false, false, false, false, false, false, false, false, false, false, false, false, false, false, false, false, false, false] rfl rfl (by kernel_rfl) (fun _ _ _ h => h) (Or.inl ⟨by rfl, ?_⟩) ?_ ?_
 rotate_left
 ·
  intro w'
  go_simp
  with_reducible rfl
 rotate_left
 ·
  simp only [Act.put, List.setIfInBounds_toArray, List.set_cons_zero, List.set_cons_succ, i64_w, i32_w]
  rfl
 refine pure_ (i := 1) (N := some 16) (v := ?_) (a' := ?_) #[true, true, false, false, false, false, false, false, false, false, false, false, false, false, false, false, false, false, false, false, false, false, false, false] rfl rfl (by kernel_rfl) (fun _ _ _ h => h) (Or.inl ⟨by rfl, ?_⟩) ?_ ?_
 rotate_left
 ·
  intro w'
  go_simp
  with_reducible rfl
 rotate_left
 ·
  simp only [Act.put, List.setIfInBounds_toArray, List.set_cons_zero, List.set_cons_succ, i64_w, i32_w]
  rfl
 refine pure_ (i := 2) (N := some 17) (v := ?_) (a' := ?_) #[true, true, true, false, false, false, false, false, false, false, false, false, false, false, false, false, false, false, false, false, false, false, false, false] rfl rfl (by kernel_rfl) (fun _ _ _ h => h) (Or.inl ⟨by rfl, ?_⟩) ?_ ?_
 rotate_left
 ·
  intro w'
  go_simp
  with_reducible rfl
 rotate_left
 ·
  simp only [Act.put, List.setIfInBounds_toArray, List.set_cons_zero, List.set_cons_succ, i64_w, i32_w]
  rfl
 refine pure_ (i := 3) (N := some 18) (v := ?_) (a' := ?_) #[true, true, true, true, false, false, false, false, false, false, false, false, false, false, false, false, false, false, false, false, false, false, false, false] rfl rfl (by kernel_rfl) (fun _ _ _ h => h) (Or.inl ⟨by rfl, ?_⟩) ?_ ?_
 rotate_left
 ·
  intro w'
  go_simp
  with_reducible rfl
 rotate_left
 ·
  simp only [Act.put, List.setIfInBounds_toArray, List.set_cons_zero, List.set_cons_succ, i64_w, i32_w]
  rfl
 refine one_ (i := 4) (N := some 19) #[true, true, true, true, true, false, false, false, false, false, false, false, false, false, false, false, false, false, false, false, false, false, false, false] rfl rfl (by kernel_rfl) (by decide) (fun K hK => ?_)
 refine goes_ Tryd.func51 (by kernel_rfl) rfl #[] (by rfl) rfl rfl (by simp only [List.map_toArray, List.map_cons, List.map_nil]) ?_
 with_reducible refine (louverlaw12_form.calls formL _ rfl).mono ?_
 rintro e w4 ⟨u4, rfl, hR4, hb4⟩
 refine ⟨_, rfl, ?_⟩
 obtain ⟨B4, d4, rfl⟩ := Kd.R_slice hR4
 have hbw4 := below_step (below_drew1 (Below.refl wb.heap.size wb)) hb4
 refine hK.out _ _ ⟨(pw_cell_below hbw4 m0), (pw_cell_below hbw4 m1), (pw_cell_below hbw4 m2), (pw_cell_below hbw4 m3)⟩ (fun hHeld => ?_)
 clear hK K
 refine norm_ (a' := ?_) ?_ ?_
 rotate_left
 ·
  show Act.put _ (some 19) _ = _
  simp only [Act.put, List.setIfInBounds_toArray, List.set_cons_zero, List.set_cons_succ, i64_w, i32_w]
  rfl
 refine one_ (i := 5) (N := some 20) #[true, true, true, true, true, true, false, false, false, false, false, false, false, false, false, false, false, false, false, false, false, false, false, false] rfl rfl (by kernel_rfl) (by decide) (fun K hK => ?_)
 refine goes_ Tryd.func48 (by kernel_rfl) rfl #[.slice B4 formL.length d4] (by rfl) rfl rfl (by simp only [List.map_toArray, List.map_cons, List.map_nil]; rfl) ?_
 with_reducible refine (louverlaw12_sealed.calls 200 (fun k => k < w4.heap.size) B4 d4 formL imgB w4 (by unfold Kd.V; exact ⟨B4, d4, rfl, (Kd.R_reads' hR4).2.1, F_of_C (heapy_int _) (Kd.R_reads' hR4).2.2⟩) sealed_form).mono ?_
 rintro e w5 ⟨u5, rfl, hR5, hb5⟩
 refine ⟨_, rfl, ?_⟩
 obtain ⟨B5, d5, rfl, hl5, hC5⟩ := Kd.R_reads hR5
 have hbw5 := below_step hbw4 hb5
 refine hK.out _ _ ⟨(pw_cell_below hbw5 m0), (pw_cell_below hbw5 m1), (pw_cell_below hbw5 m2), (pw_cell_below hbw5 m3)⟩ (fun hHeld => ?_)
 clear hK K
 refine norm_ (a' := ?_) ?_ ?_
 rotate_left
 ·
  show Act.put _ (some 20) _ = _
  simp only [Act.put, List.setIfInBounds_toArray, List.set_cons_zero, List.set_cons_succ, i64_w, i32_w]
  rfl
 refine one_ (i := 6) (N := some 21) #[true, true, true, true, true, true, true, false, false, false, false, false, false, false, false, false, false, false, false, false, false, false, false, false] rfl rfl (by kernel_rfl) (by decide) (fun K hK => ?_)
 refine goes_ Tryd.func25 (by kernel_rfl) rfl #[.slice B0 imgB.length imgB.length, .slice B5 imgB.length d5] (by rfl) rfl rfl (by simp only [List.map_toArray, List.map_cons, List.map_nil]; rfl) ?_
 with_reducible refine (louverkit_Bytes.calls 200 B0 imgB.length imgB B5 d5 imgB true w5 (Kd.C_below HIM.out hbw5) (Nat.le_refl _) hC5 hl5 bytes_img).mono ?_
 rintro e w6 ⟨rfl, hd6⟩
 refine ⟨_, rfl, ?_⟩
 have hbw6 := below_step hbw5 hd6.below
 refine hK.out _ _ ⟨(pw_cell_below hbw6 m0), (pw_cell_below hbw6 m1), (pw_cell_below hbw6 m2), (pw_cell_below hbw6 m3)⟩ (fun hHeld => ?_)
 clear hK K
 refine norm_ (a' := ?_) ?_ ?_
 rotate_left
 ·
  show Act.put _ (some 21) _ = _
  simp only [Act.put, List.setIfInBounds_toArray, List.set_cons_zero, List.set_cons_succ, i64_w, i32_w]
  rfl
 refine pure_ (i := 7) (N := some 22) (v := ?_) (a' := ?_) #[true, true, true, true, true, true, true, true, false, false, false, false, false, false, false, false, false, false, false, false, false, false, false, false] rfl rfl (by kernel_rfl) (fun _ _ _ h => h) (Or.inl ⟨by rfl, ?_⟩) ?_ ?_
 rotate_left
 ·
  intro w'
  go_simp
  with_reducible rfl
 rotate_left
 ·
  simp only [Act.put, List.setIfInBounds_toArray, List.set_cons_zero, List.set_cons_succ, i64_w, i32_w]
  rfl
 refine pure_ (i := 8) (N := some 23) (v := ?_) (a' := ?_) #[true, true, true, true, true, true, true, true, true, false, false, false, false, false, false, false, false, false, false, false, false, false, false, false] rfl rfl (by kernel_rfl) (fun _ _ _ h => h) (Or.inl ⟨by rfl, ?_⟩) ?_ ?_
 rotate_left
 ·
  intro w'
  go_simp
  with_reducible rfl
 rotate_left
 ·
  simp only [Act.put, List.setIfInBounds_toArray, List.set_cons_zero, List.set_cons_succ, i64_w, i32_w]
  rfl
 refine pure_ (i := 9) (N := some 24) (v := ?_) (a' := ?_) #[true, true, true, true, true, true, true, true, true, true, false, false, false, false, false, false, false, false, false, false, false, false, false, false] rfl rfl (by kernel_rfl) (fun _ _ _ h => h) (Or.inl ⟨by rfl, ?_⟩) ?_ ?_
 rotate_left
 ·
  intro w'
  go_simp
  with_reducible rfl
 rotate_left
 ·
  simp only [Act.put, List.setIfInBounds_toArray, List.set_cons_zero, List.set_cons_succ, i64_w, i32_w]
  rfl
 refine pure_ (i := 10) (N := some 25) (v := ?_) (a' := ?_) #[true, true, true, true, true, true, true, true, true, true, true, false, false, false, false, false, false, false, false, false, false, false, false, false] rfl rfl (by kernel_rfl) (fun _ _ _ h => h) (Or.inl ⟨by rfl, ?_⟩) ?_ ?_
 rotate_left
 ·
  intro w'
  go_simp
  with_reducible rfl
 rotate_left
 ·
  simp only [Act.put, List.setIfInBounds_toArray, List.set_cons_zero, List.set_cons_succ, i64_w, i32_w]
  rfl
 refine pure_ (i := 11) (N := some 26) (v := ?_) (a' := ?_) #[true, true, true, true, true, true, true, true, true, true, true, true, false, false, false, false, false, false, false, false, false, false, false, false] rfl rfl (by kernel_rfl) (fun _ _ _ h => h) (Or.inl ⟨by rfl, ?_⟩) ?_ ?_
 rotate_left
 ·
  intro w'
  go_simp
  with_reducible rfl
 rotate_left
 ·
  simp only [Act.put, List.setIfInBounds_toArray, List.set_cons_zero, List.set_cons_succ, i64_w, i32_w]
  rfl
 refine pure_ (i := 12) (N := some 27) (v := ?_) (a' := ?_) #[true, true, true, true, true, true, true, true, true, true, true, true, true, false, false, false, false, false, false, false, false, false, false, false] rfl rfl (by kernel_rfl) (fun _ _ _ h => h) (Or.inl ⟨by rfl, ?_⟩) ?_ ?_
 rotate_left
 ·
  intro w'
  go_simp
  with_reducible rfl
 rotate_left
 ·
  simp only [Act.put, List.setIfInBounds_toArray, List.set_cons_zero, List.set_cons_succ, i64_w, i32_w]
  rfl
 refine take_ (i := 13) (N := some 28) (v := ?_) (a' := ?_) #[true, true, true, true, true, true, true, true, true, true, true, true, true, true, false, false, false, false, false, false, false, false, false, false] rfl rfl (by kernel_rfl) (fun _ _ _ h => h) (Or.inl ⟨by rfl, ?_⟩) hHeld ?_ ?_
 rotate_left
 ·
  rintro w' ⟨s0, s1, s2, s3⟩
  go_simp
  with_reducible rfl
 rotate_left
 ·
  simp only [Act.put, List.setIfInBounds_toArray, List.set_cons_zero, List.set_cons_succ, i64_w, i32_w]
  rfl
 refine one_ (i := 14) (N := some 29) #[true, true, true, true, true, true, true, true, true, true, true, true, true, true, true, false, false, false, false, false, false, false, false, false] rfl rfl (by kernel_rfl) (by decide) (fun K hK => ?_)
 refine goes_ Tryd.func50 (by kernel_rfl) rfl #[] (by rfl) rfl rfl (by simp only [List.map_toArray, List.map_cons, List.map_nil]) ?_
 with_reducible refine (louverlaw12_given.calls [3] gArrs [] gFns _ rfl).mono ?_
 rintro e w7 ⟨g0, g1, g2, g3, rfl, hg0, hg1, hg2, hg3, hb7⟩
 refine ⟨_, rfl, ?_⟩
 obtain ⟨D0, d0, rfl⟩ := Kd.R_slice hg0
 obtain ⟨D1, d1, rfl⟩ := Kd.R_slice hg1
 obtain ⟨D2, d2, rfl⟩ := Kd.R_slice hg2
 obtain ⟨D3, d3, rfl⟩ := Kd.N_slice hg3
 have hbw7 := below_step hbw6 hb7
 refine hK.out _ _ ⟨(pw_cell_below hbw7 m0), (pw_cell_below hbw7 m1), (pw_cell_below hbw7 m2), (pw_cell_below hbw7 m3)⟩ (fun hHeld => ?_)
 clear hK K
 refine norm_ (a' := ?_) ?_ ?_
 rotate_left
 ·
  show Act.put _ (some 29) _ = _
  simp only [Act.put, List.setIfInBounds_toArray, List.set_cons_zero, List.set_cons_succ, i64_w, i32_w]
  rfl
 refine one_ (i := 15) (N := some 30) #[true, true, true, true, true, true, true, true, true, true, true, true, true, true, true, true, false, false, false, false, false, false, false, false] rfl rfl (by kernel_rfl) (by decide) (fun K hK => ?_)
 have hMC : Calls Tryd.prog 44 #[.agg #[.slice E0 1 1, .slice E1 1 1, .slice E2 0 0, .slice E3 1 1], .agg #[.slice D0 1 d0, .slice D1 1 d1, .slice D2 0 d2, .slice D3 1 d3]] w7 (fun e w' => e = .returned (.bool true) ∧ Below w7.heap.size w7 w') := moduleSame.calls E0 E1 E2 E3 D0 D1 D2 D3 1 1 0 1 d0 d1 d2 d3 [3] gArrs [] gFns w7 (Kd.C_below HM0.out hbw7) (Nat.le_refl _) (Kd.C_below HM1.out hbw7) (Nat.le_refl _) (Kd.C_below HM2.out hbw7) (Nat.le_refl _) (Kd.C_below HM3.out hbw7) (Nat.le_refl _) (Kd.R_reads' hg0).2.2 (Kd.R_reads' hg0).2.1 (Kd.R_reads' hg1).2.2 (Kd.R_reads' hg1).2.1 (Kd.R_reads' hg2).2.2 (Kd.R_reads' hg2).2.1 (Kd.N_reads' hg3).2.2 (Kd.N_reads' hg3).2.1
 refine goes_ Tryd.func44 (by kernel_rfl) rfl #[.agg #[.slice E0 1 1, .slice E1 1 1, .slice E2 0 0, .slice E3 1 1], .agg #[.slice D0 1 d0, .slice D1 1 d1, .slice D2 0 d2, .slice D3 1 d3]] (by rfl) rfl rfl (by simp only [List.map_toArray, List.map_cons, List.map_nil]; rfl) ?_
 with_reducible refine (hMC).mono ?_
 rintro e w8 ⟨rfl, hb8⟩
 refine ⟨_, rfl, ?_⟩
 have hbw8 := below_step hbw7 hb8
 refine hK.out _ _ ⟨(pw_cell_below hbw8 m0), (pw_cell_below hbw8 m1), (pw_cell_below hbw8 m2), (pw_cell_below hbw8 m3)⟩ (fun hHeld => ?_)
 clear hK K
 refine norm_ (a' := ?_) ?_ ?_
 rotate_left
 ·
  show Act.put _ (some 30) _ = _
  simp only [Act.put, List.setIfInBounds_toArray, List.set_cons_zero, List.set_cons_succ, i64_w, i32_w]
  rfl
 refine pure_ (i := 16) (N := some 31) (v := ?_) (a' := ?_) #[true, true, true, true, true, true, true, true, true, true, true, true, true, true, true, true, true, false, false, false, false, false, false, false] rfl rfl (by kernel_rfl) (fun _ _ _ h => h) (Or.inl ⟨by rfl, ?_⟩) ?_ ?_
 rotate_left
 ·
  intro w'
  go_simp
  with_reducible rfl
 rotate_left
 ·
  simp only [Act.put, List.setIfInBounds_toArray, List.set_cons_zero, List.set_cons_succ, i64_w, i32_w]
  rfl
 refine pure_ (i := 17) (N := some 32) (v := ?_) (a' := ?_) #[true, true, true, true, true, true, true, true, true, true, true, true, true, true, true, true, true, true, false, false, false, false, false, false] rfl rfl (by kernel_rfl) (fun _ _ _ h => h) (Or.inl ⟨by rfl, ?_⟩) ?_ ?_
 rotate_left
 ·
  intro w'
  go_simp
  with_reducible rfl
 rotate_left
 ·
  simp only [Act.put, List.setIfInBounds_toArray, List.set_cons_zero, List.set_cons_succ, i64_w, i32_w]
  rfl
 refine one_ (i := 18) (N := some 33) #[true, true, true, true, true, true, true, true, true, true, true, true, true, true, true, true, true, true, true, false, false, false, false, false] rfl rfl (by kernel_rfl) (by decide) (fun K hK => ?_)
 refine value_ (w1 := ?_) (v := ?_) (by rfl) rfl ?_ ?_
 rotate_left 2
 ·
  go_simp
  constructor
  ·
   rfl
  ·
   rfl
 have hbw9 := below_step hbw8 (below_alloc (Below.refl w8.heap.size w8) (.cells #[.int .u8 97] 5))
 refine hK.out _ _ ⟨(pw_cell_below hbw9 m0), (pw_cell_below hbw9 m1), (pw_cell_below hbw9 m2), (pw_cell_below hbw9 m3)⟩ (fun hHeld => ?_)
 clear hK K
 refine norm_ (a' := ?_) ?_ ?_
 rotate_left
 ·
  show Act.put _ (some 33) _ = _
  simp only [Act.put, List.setIfInBounds_toArray, List.set_cons_zero, List.set_cons_succ, i64_w, i32_w]
  rfl
 refine one_ (i := 19) (N := some 34) #[true, true, true, true, true, true, true, true, true, true, true, true, true, true, true, true, true, true, true, true, false, false, false, false] rfl rfl (by kernel_rfl) (by decide) (fun K hK => ?_)
 refine value_ (w1 := ?_) (v := ?_) (by rfl) rfl ?_ ?_
 rotate_left 2
 ·
  go_simp
  constructor
  ·
   rfl
  ·
   rfl
 have hbw10 := below_step hbw9 (below_alloc (Below.refl (w8.alloc (.cells #[.int .u8 97] 5)).heap.size (w8.alloc (.cells #[.int .u8 97] 5))) (.cells #[.slice (some ⟨w8.heap.size, 0, none⟩) 1 1] 27))
 refine hK.out _ _ ⟨(pw_cell_below hbw10 m0), (pw_cell_below hbw10 m1), (pw_cell_below hbw10 m2), (pw_cell_below hbw10 m3)⟩ (fun hHeld => ?_)
 clear hK K
 refine norm_ (a' := ?_) ?_ ?_
 rotate_left
 ·
  show Act.put _ (some 34) _ = _
  simp only [Act.put, List.setIfInBounds_toArray, List.set_cons_zero, List.set_cons_succ, i64_w, i32_w]
  rfl
 refine one_ (i := 20) (N := some 35) #[true, true, true, true, true, true, true, true, true, true, true, true, true, true, true, true, true, true, true, true, true, false, false, false] rfl rfl (by kernel_rfl) (by decide) (fun K hK => ?_)
 have hSM := sum97.calls w8
 refine goes_ Tryd.func46 (by kernel_rfl) rfl #[.slice (some ⟨w8.heap.size + 1, 0, none⟩) 1 1] (by rfl) rfl rfl (by simp only [List.map_toArray, List.map_cons, List.map_nil]; rfl) ?_
 with_reducible refine (hSM).mono ?_
 rintro e w11 ⟨rfl, hb11⟩
 refine ⟨_, rfl, ?_⟩
 have hbw11 := below_step hbw9 hb11
 refine hK.out _ _ ⟨(pw_cell_below hbw11 m0), (pw_cell_below hbw11 m1), (pw_cell_below hbw11 m2), (pw_cell_below hbw11 m3)⟩ (fun hHeld => ?_)
 clear hK K
 refine norm_ (a' := ?_) ?_ ?_
 rotate_left
 ·
  show Act.put _ (some 35) _ = _
  simp only [Act.put, List.setIfInBounds_toArray, List.set_cons_zero, List.set_cons_succ, i64_w, i32_w]
  rfl
 refine pure_ (i := 21) (N := some 36) (v := ?_) (a' := ?_) #[true, true, true, true, true, true, true, true, true, true, true, true, true, true, true, true, true, true, true, true, true, true, false, false] rfl rfl (by kernel_rfl) (fun _ _ _ h => h) (Or.inl ⟨by rfl, ?_⟩) ?_ ?_
 rotate_left
 ·
  intro w'
  go_simp
  with_reducible rfl
 rotate_left
 ·
  simp only [Act.put, List.setIfInBounds_toArray, List.set_cons_zero, List.set_cons_succ, i64_w, i32_w]
  rfl
 refine pure_ (i := 22) (N := some 37) (v := ?_) (a' := ?_) #[true, true, true, true, true, true, true, true, true, true, true, true, true, true, true, true, true, true, true, true, true, true, true, false] rfl rfl (by kernel_rfl) (fun _ _ _ h => h) (Or.inl ⟨by rfl, ?_⟩) ?_ ?_
 rotate_left
 ·
  intro w'
  go_simp
  with_reducible rfl
 rotate_left
 ·
  simp only [Act.put, List.setIfInBounds_toArray, List.set_cons_zero, List.set_cons_succ, i64_w, i32_w]
  rfl
 refine pure_ (i := 23) (N := some 0) (v := ?_) (a' := ?_) #[true, true, true, true, true, true, true, true, true, true, true, true, true, true, true, true, true, true, true, true, true, true, true, true] rfl rfl (by kernel_rfl) (fun _ _ _ h => h) (Or.inl ⟨by rfl, ?_⟩) ?_ ?_
 rotate_left
 ·
  intro w'
  go_simp
  with_reducible rfl
 rotate_left
 ·
  simp only [Act.put, List.setIfInBounds_toArray, List.set_cons_zero, List.set_cons_succ, i64_w, i32_w]
  rfl
 refine done_ (by kernel_rfl) ?_
 have HBF := Aside0.mk (below_step HB3.out hbw11)
 clear hb4 hbw4 hb5 hbw5 hd6 hbw6 hb7 hbw7 hb8 hbw8 hbw9 hbw10 hb11 hbw11
 go_wp2
 go_ret
 exact ⟨rfl, HBF.out⟩
end Go.Proofs.YtgpdaihfjnihhaaDoor.PJ
