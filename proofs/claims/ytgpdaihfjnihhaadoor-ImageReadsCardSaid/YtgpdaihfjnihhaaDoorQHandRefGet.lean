/- louverref10.Get by hand: it tells what code.Get tells. -/
import Derived.Test.YtgpdaihfjnihhaaDoorQPJx0
import Derived.Test.YtgpdaihfjnihhaaDoorQPA
import Derived.Test.YtgpdaihfjnihhaaDoorQPB
import Derived.Test.YtgpdaihfjnihhaaDoorQHandCode3
namespace Go.Proofs.YtgpdaihfjnihhaaDoor.PJ
open Go.RowKit Go.Proofs.YtgpdaihfjnihhaaDoorW.PrintWords Go.Proofs.YtgpdaihfjnihhaaDoorW.PrintLast Go.Proofs.YtgpdaihfjnihhaaDoorW.PrintMore
set_option linter.unusedSimpArgs false
set_option linter.unusedVariables false
set_option maxHeartbeats 16000000 in
set_option maxRecDepth 100000 in
theorem louverref10_Get.calls (k : Nat) (A0 : Option Addr) (c0 : Nat) (l0 : List Int) (U S : Int × Int × Int) (w : World) (hr0 : Kd.C (Kd.int .u8) w A0 l0.length l0) (hc0 : l0.length ≤ c0) (hbt : ∀ x ∈ l0, 0 ≤ x ∧ x ≤ 255)
  (hU : 0 ≤ U.1 ∧ U.1 ≤ 18446744073709551615) (hT : ∀ op, ∃ nm p q kd, louverref10_Table.f 3 op = some (nm, p, q, kd, validOp op) ∧ operandOp op = (validOp op && decide (0 < kd)) ∧ (validOp op = true → (kd = 1 ↔ op = 32)) ∧ 0 ≤ kd)
  (h1 : louverref03_Get.f k l0.tail = some U) (h2 : louverref03_GetSigned.f k l0.tail = some S) :
  Calls Tryd.prog 24 #[.slice A0 l0.length c0] w fun e w' => e = .returned (.tuple #[.agg #[.int .i64 (codeGet l0 U S).1, .int .i64 (codeGet l0 U S).2.1], .int .i64 (codeGet l0 U S).2.2.1, .int .i64 (codeGet l0 U S).2.2.2]) ∧ Below w.heap.size w w' := by
 cases l0 with
 | nil =>
  have HG := Aside0.mk (heap_alloc_new w (.cells #[.int .i64 0, .int .i64 0] 44))
  clear h1 h2 hT
  show Calls _ _ _ _ fun e w' => e = .returned (.tuple #[.agg #[.int .i64 0, .int .i64 0], .int .i64 0, .int .i64 30]) ∧ _
  go_enter Tryd.func24, Tryd.ntmps24
  go_wp2
  refine bodyPost_ret (results_ctt rfl _ _ w.heap.size 44 #[.int .i64 0, .int .i64 0] (0, 0) _ rfl HG.out Tryd.underlying44 rfl (by kernel_rfl)) rfl ?_
  exact ⟨rfl, below_alloc (Below.refl _ _) _⟩
 | cons b t =>
  obtain ⟨nm, p, q, kd, hTb, hop, hkd, hk0⟩ := hT b
  obtain ⟨ad, rfl, hx⟩ := Kd.at_int hr0 0 (by omega) (by simp)
  have hx0 : w.cell? ad = some (.int .u8 b) := by
   have := hx
   simpa [rd, Addr.add] using this
  have hbb := hbt b (by simp)
  have hwb : wrap64 b = b := by unfold wrap64; omega
  obtain ⟨A4, hcut, hR4, hc4⟩ := cut_drop_int (P := Tryd.prog) (k := .u8) 27 5 Tryd.underlying27 info5 (some ad) c0 (b :: t) t 1 (by simp) hc0 rfl
  have hcut1 : ∀ W : World, (Instr.slice 27 (.slice (some ad) (t.length + 1) c0) (some (.int .i64 1)) none none).run Tryd.prog W = .ok (.slice A4 t.length (c0 - 1)) W := hcut
  have HR4 := Aside0.mk hR4
  have HC4 := Aside0.mk hc4
  have H1 := Aside0.mk (show louverref03_Get.f k t = some U from h1)
  have H2 := Aside0.mk (show louverref03_GetSigned.f k t = some S from h2)
  have HR0 := Aside0.mk hr0
  have HX0 := Aside0.mk hx0
  have HTb := Aside0.mk hTb
  have hx1 : ∀ o, (w.alloc o).cell? ad = some (.int .u8 b) := fun o => pw_cell_below (below_alloc (Below.refl _ _) o) hx0
  have hn : ¬ ((t.length : Int) + 1 = 0) := by omega
  clear hr0 hc0 hx hx0 hcut hR4 hc4 h1 h2 hbt hbb hT hTb
  obtain ⟨R, hRq⟩ : ∃ R, codeGet (b :: t) U S = R := ⟨_, rfl⟩
  rw [hRq]
  have HB0 := Aside0.mk (below_alloc (Below.refl w.heap.size w) (.cells #[.int .i64 0, .int .i64 0] 44))
  have HG0 := Aside0.mk (heap_alloc_new w (.cells #[.int .i64 0, .int .i64 0] 44))
  by_cases hv : validOp b = true
  ·
   rw [hv] at HTb
   have hk := hkd hv
   rw [hv, Bool.true_and] at hop
   by_cases h32 : b = 32
   ·
    obtain rfl : kd = 1 := hk.mpr h32
    have HRq := Aside0.mk (show instrErr b S S.1 false = R by rw [← hRq, codeGet_cons, if_pos hv, if_pos h32])
    clear hRq hv hop hk hkd h32 hk0
    obtain ⟨s1, s2, s3⟩ := S
    by_cases he : s3 = 0
    ·
     subst he
     obtain rfl : (b, s1, wrap64 (s2 + 1), 0) = R := by rw [← HRq.out]; simp [instrErr]
     clear HRq
     go_enter Tryd.func24, Tryd.ntmps24
     go_wp2_with fail
     refine (louverref10_Table.calls 3 b nm p q 1 true _ HTb.out).mono ?_
     rintro e w1 ⟨rfl, hb⟩
     have HB1 := Aside0.mk (below_alloc (below_step HB0.out hb) (.cells #[.string nm, .int .i64 p, .int .i64 q, .int .i64 1] 62))
     have HG1 := Aside0.mk (blk_alloc (blk_below HG0.out hb) (.cells #[.string nm, .int .i64 p, .int .i64 q, .int .i64 1] 62))
     have HW1 := Aside0.mk (heap_alloc_new w1 (.cells #[.string nm, .int .i64 p, .int .i64 q, .int .i64 1] 62))
     have hx2 : ∀ o, (w1.alloc o).cell? ad = some (.int .u8 b) := fun o => pw_cell_below (below_alloc (below_step HB0.out hb) o) HX0.out
     have HB2 := Aside0.mk (below_alloc HB1.out (.cells #[.int .i64 b, .int .i64 0] 44))
     have HG2 := Aside0.mk (blk_alloc HG1.out (.cells #[.int .i64 b, .int .i64 0] 44))
     have HW2 := Aside0.mk (blk_alloc HW1.out (.cells #[.int .i64 b, .int .i64 0] 44))
     have HI2 := Aside0.mk (show ((w1.alloc (.cells #[.string nm, .int .i64 p, .int .i64 q, .int .i64 1] 62)).alloc (.cells #[.int .i64 b, .int .i64 0] 44)).heap[w1.heap.size + 1]? = some (.cells #[.int .i64 b, .int .i64 0] 44 (0, 0)) by
      have := heap_alloc_new (w1.alloc (.cells #[.string nm, .int .i64 p, .int .i64 q, .int .i64 1] 62)) (.cells #[.int .i64 b, .int .i64 0] 44)
      simpa using this)
     have d3 : ((w1.alloc (.cells #[.string nm, .int .i64 p, .int .i64 q, .int .i64 1] 62)).alloc (.cells #[.int .i64 b, .int .i64 0] 44)).cell? ⟨w1.heap.size, 3, none⟩ = some (.int .i64 1) := blk_cell HW2.out 3
     have hlt : w.heap.size < w1.heap.size := by have := below_size (below_step HB0.out hb); have := blk_lt (blk_below HG0.out hb); omega
     obtain ⟨i0, i1, _, _⟩ := facts2 HI2.out
     obtain ⟨c20, c21, f20, f21⟩ := facts2 HG2.out
     clear hb
     go_wp2_with fail
     refine (louverref03_GetSigned.calls k A4 _ t s1 s2 0 _ (HR4.out _ (Kd.C_below HR0.out HB2.out)) HC4.out H2.out).mono ?_
     rintro e w4 ⟨rfl, hb⟩
     clear c20 c21 f20 f21 i0 i1 d3
     have HB4 := Aside0.mk (below_step HB2.out hb)
     have HG4 := Aside0.mk (blk_below HG2.out hb)
     have HW4 := Aside0.mk (blk_below HW2.out hb)
     have HI4 := Aside0.mk (blk_below HI2.out hb)
     obtain ⟨c20, c21, f20, f21⟩ := facts2 HG4.out
     obtain ⟨i0, i1, fi0, fi1⟩ := facts2 HI4.out
     have d3 : w4.cell? ⟨w1.heap.size, 3, none⟩ = some (.int .i64 1) := blk_cell HW4.out 3
     have HG5 := Aside0.mk (blk_far (p := ⟨w1.heap.size + 1, 1, none⟩) HG4.out (show w.heap.size ≠ w1.heap.size + 1 by omega) (.int .i64 s1))
     have HW5 := Aside0.mk (blk_far (p := ⟨w1.heap.size + 1, 1, none⟩) HW4.out (show w1.heap.size ≠ w1.heap.size + 1 by omega) (.int .i64 s1))
     have HI5 := Aside0.mk (blk_set HI4.out 1 (.int .i64 s1))
     have HB5 := Aside0.mk (below_set (j := 1) (v := .int .i64 s1) HB4.out (show w.heap.size ≤ w1.heap.size + 1 by omega))
     obtain ⟨g20, g21, h20, h21⟩ := facts2 HG5.out
     obtain ⟨j0, j1, _, _⟩ := facts2 (x := .int .i64 b) (y := .int .i64 s1) HI5.out
     have e3 : (w4.setCell ⟨w1.heap.size + 1, 1, none⟩ (.int .i64 s1)).cell? ⟨w1.heap.size, 3, none⟩ = some (.int .i64 1) := blk_cell HW5.out 3
     clear hb
     go_wp2
     refine bodyPost_ret (results_ctt rfl _ _ w.heap.size 44 #[.int .i64 b, .int .i64 s1] (0, 0) _ rfl (put2 HG5.out _ _) Tryd.underlying44 rfl (by kernel_rfl)) rfl ?_
     exact ⟨rfl, below_set (below_set HB5.out (Nat.le_refl _)) (Nat.le_refl _)⟩
    ·
     have heb : (s3 == 0) = false := beq_eq_false_iff_ne.mpr he
     have hec : (s3 != 0) = true := bne_iff_ne.mpr he
     obtain rfl : (0, 0, 0, s3) = R := by rw [← HRq.out]; simp [instrErr, he]
     clear HRq
     go_enter Tryd.func24, Tryd.ntmps24
     go_wp2_with fail
     refine (louverref10_Table.calls 3 b nm p q 1 true _ HTb.out).mono ?_
     rintro e w1 ⟨rfl, hb⟩
     have HB1 := Aside0.mk (below_alloc (below_step HB0.out hb) (.cells #[.string nm, .int .i64 p, .int .i64 q, .int .i64 1] 62))
     have HG1 := Aside0.mk (blk_alloc (blk_below HG0.out hb) (.cells #[.string nm, .int .i64 p, .int .i64 q, .int .i64 1] 62))
     have HW1 := Aside0.mk (heap_alloc_new w1 (.cells #[.string nm, .int .i64 p, .int .i64 q, .int .i64 1] 62))
     have hx2 : ∀ o, (w1.alloc o).cell? ad = some (.int .u8 b) := fun o => pw_cell_below (below_alloc (below_step HB0.out hb) o) HX0.out
     have HB2 := Aside0.mk (below_alloc HB1.out (.cells #[.int .i64 b, .int .i64 0] 44))
     have HG2 := Aside0.mk (blk_alloc HG1.out (.cells #[.int .i64 b, .int .i64 0] 44))
     have HW2 := Aside0.mk (blk_alloc HW1.out (.cells #[.int .i64 b, .int .i64 0] 44))
     have HI2 := Aside0.mk (show ((w1.alloc (.cells #[.string nm, .int .i64 p, .int .i64 q, .int .i64 1] 62)).alloc (.cells #[.int .i64 b, .int .i64 0] 44)).heap[w1.heap.size + 1]? = some (.cells #[.int .i64 b, .int .i64 0] 44 (0, 0)) by
      have := heap_alloc_new (w1.alloc (.cells #[.string nm, .int .i64 p, .int .i64 q, .int .i64 1] 62)) (.cells #[.int .i64 b, .int .i64 0] 44)
      simpa using this)
     have d3 : ((w1.alloc (.cells #[.string nm, .int .i64 p, .int .i64 q, .int .i64 1] 62)).alloc (.cells #[.int .i64 b, .int .i64 0] 44)).cell? ⟨w1.heap.size, 3, none⟩ = some (.int .i64 1) := blk_cell HW2.out 3
     have hlt : w.heap.size < w1.heap.size := by have := below_size (below_step HB0.out hb); have := blk_lt (blk_below HG0.out hb); omega
     obtain ⟨i0, i1, _, _⟩ := facts2 HI2.out
     obtain ⟨c20, c21, f20, f21⟩ := facts2 HG2.out
     clear hb
     go_wp2_with fail
     refine (louverref03_GetSigned.calls k A4 _ t s1 s2 s3 _ (HR4.out _ (Kd.C_below HR0.out HB2.out)) HC4.out H2.out).mono ?_
     rintro e w4 ⟨rfl, hb⟩
     clear c20 c21 f20 f21 i0 i1 d3
     have HB4 := Aside0.mk (below_step HB2.out hb)
     have HG4 := Aside0.mk (blk_below HG2.out hb)
     have HW4 := Aside0.mk (blk_below HW2.out hb)
     have HI4 := Aside0.mk (blk_below HI2.out hb)
     obtain ⟨c20, c21, f20, f21⟩ := facts2 HG4.out
     obtain ⟨i0, i1, fi0, fi1⟩ := facts2 HI4.out
     have d3 : w4.cell? ⟨w1.heap.size, 3, none⟩ = some (.int .i64 1) := blk_cell HW4.out 3
     clear hb
     go_wp2
     refine bodyPost_ret (results_ctt rfl _ _ w.heap.size 44 #[.int .i64 0, .int .i64 0] (0, 0) _ rfl (put2 HG4.out _ _) Tryd.underlying44 rfl (by kernel_rfl)) rfl ?_
     exact ⟨rfl, below_set (below_set HB4.out (Nat.le_refl _)) (Nat.le_refl _)⟩
   have hk1 : ¬ (kd = 1) := fun h => h32 (hk.mp h)
   have hk1b : (kd == 1) = false := beq_eq_false_iff_ne.mpr hk1
   by_cases ho : operandOp b = true
   ·
    have hk2 : 1 < kd := by have := of_decide_eq_true (hop.symm.trans ho); omega
    have hk2b : decide (1 < kd) = true := decide_eq_true hk2
    have HRq := Aside0.mk (show instrErr b U (wrap64 U.1) (decide (wrap64 U.1 < 0)) = R by rw [← hRq, codeGet_cons, if_pos hv, if_neg h32, if_pos ho])
    clear hRq hv ho hop hk hkd h32 hk0
    obtain ⟨u1, u2, u3⟩ := U
    obtain ⟨a1, ha1⟩ : ∃ a1, wrap64 u1 = a1 := ⟨_, rfl⟩
    simp only [ha1] at HRq hU
    by_cases he : u3 = 0
    ·
     subst he
     by_cases hneg : a1 < 0
     ·
      have hbig : 9223372036854775807 < u1 := by rw [← ha1] at hneg; unfold wrap64 at hneg; omega
      have hbigb : decide (9223372036854775807 < u1) = true := decide_eq_true hbig
      obtain rfl : (0, 0, 0, 100) = R := by rw [← HRq.out]; simp [instrErr, hneg]
      clear HRq hU hneg
      go_enter Tryd.func24, Tryd.ntmps24
      go_wp2_with fail
      refine (louverref10_Table.calls 3 b nm p q kd true _ HTb.out).mono ?_
      rintro e w1 ⟨rfl, hb⟩
      have HB1 := Aside0.mk (below_alloc (below_step HB0.out hb) (.cells #[.string nm, .int .i64 p, .int .i64 q, .int .i64 kd] 62))
      have HG1 := Aside0.mk (blk_alloc (blk_below HG0.out hb) (.cells #[.string nm, .int .i64 p, .int .i64 q, .int .i64 kd] 62))
      have HW1 := Aside0.mk (heap_alloc_new w1 (.cells #[.string nm, .int .i64 p, .int .i64 q, .int .i64 kd] 62))
      have hx2 : ∀ o, (w1.alloc o).cell? ad = some (.int .u8 b) := fun o => pw_cell_below (below_alloc (below_step HB0.out hb) o) HX0.out
      have HB2 := Aside0.mk (below_alloc HB1.out (.cells #[.int .i64 b, .int .i64 0] 44))
      have HG2 := Aside0.mk (blk_alloc HG1.out (.cells #[.int .i64 b, .int .i64 0] 44))
      have HW2 := Aside0.mk (blk_alloc HW1.out (.cells #[.int .i64 b, .int .i64 0] 44))
      have HI2 := Aside0.mk (show ((w1.alloc (.cells #[.string nm, .int .i64 p, .int .i64 q, .int .i64 kd] 62)).alloc (.cells #[.int .i64 b, .int .i64 0] 44)).heap[w1.heap.size + 1]? = some (.cells #[.int .i64 b, .int .i64 0] 44 (0, 0)) by
       have := heap_alloc_new (w1.alloc (.cells #[.string nm, .int .i64 p, .int .i64 q, .int .i64 kd] 62)) (.cells #[.int .i64 b, .int .i64 0] 44)
       simpa using this)
      have d3 : ((w1.alloc (.cells #[.string nm, .int .i64 p, .int .i64 q, .int .i64 kd] 62)).alloc (.cells #[.int .i64 b, .int .i64 0] 44)).cell? ⟨w1.heap.size, 3, none⟩ = some (.int .i64 kd) := blk_cell HW2.out 3
      have hlt : w.heap.size < w1.heap.size := by have := below_size (below_step HB0.out hb); have := blk_lt (blk_below HG0.out hb); omega
      obtain ⟨i0, i1, _, _⟩ := facts2 HI2.out
      obtain ⟨c20, c21, f20, f21⟩ := facts2 HG2.out
      clear hb
      go_wp2_with fail
      refine (louverref03_Get.calls k A4 _ t u1 u2 0 _ (HR4.out _ (Kd.C_below HR0.out HB2.out)) HC4.out H1.out).mono ?_
      rintro e w4 ⟨rfl, hb⟩
      clear c20 c21 f20 f21 i0 i1 d3
      have HB4 := Aside0.mk (below_step HB2.out hb)
      have HG4 := Aside0.mk (blk_below HG2.out hb)
      have HW4 := Aside0.mk (blk_below HW2.out hb)
      have HI4 := Aside0.mk (blk_below HI2.out hb)
      obtain ⟨c20, c21, f20, f21⟩ := facts2 HG4.out
      obtain ⟨i0, i1, fi0, fi1⟩ := facts2 HI4.out
      have d3 : w4.cell? ⟨w1.heap.size, 3, none⟩ = some (.int .i64 kd) := blk_cell HW4.out 3
      clear hb
      go_wp2
      refine bodyPost_ret (results_ctt rfl _ _ w.heap.size 44 #[.int .i64 0, .int .i64 0] (0, 0) _ rfl (put2 HG4.out _ _) Tryd.underlying44 rfl (by kernel_rfl)) rfl ?_
      exact ⟨rfl, below_set (below_set HB4.out (Nat.le_refl _)) (Nat.le_refl _)⟩
     ·
      have hbig : ¬ (9223372036854775807 < u1) := by rw [← ha1] at hneg; unfold wrap64 at hneg; omega
      have hbigb : decide (9223372036854775807 < u1) = false := decide_eq_false hbig
      obtain rfl : (b, a1, wrap64 (u2 + 1), 0) = R := by rw [← HRq.out]; simp [instrErr, hneg]
      clear HRq hU hneg
      go_enter Tryd.func24, Tryd.ntmps24
      go_wp2_with fail
      refine (louverref10_Table.calls 3 b nm p q kd true _ HTb.out).mono ?_
      rintro e w1 ⟨rfl, hb⟩
      have HB1 := Aside0.mk (below_alloc (below_step HB0.out hb) (.cells #[.string nm, .int .i64 p, .int .i64 q, .int .i64 kd] 62))
      have HG1 := Aside0.mk (blk_alloc (blk_below HG0.out hb) (.cells #[.string nm, .int .i64 p, .int .i64 q, .int .i64 kd] 62))
      have HW1 := Aside0.mk (heap_alloc_new w1 (.cells #[.string nm, .int .i64 p, .int .i64 q, .int .i64 kd] 62))
      have hx2 : ∀ o, (w1.alloc o).cell? ad = some (.int .u8 b) := fun o => pw_cell_below (below_alloc (below_step HB0.out hb) o) HX0.out
      have HB2 := Aside0.mk (below_alloc HB1.out (.cells #[.int .i64 b, .int .i64 0] 44))
      have HG2 := Aside0.mk (blk_alloc HG1.out (.cells #[.int .i64 b, .int .i64 0] 44))
      have HW2 := Aside0.mk (blk_alloc HW1.out (.cells #[.int .i64 b, .int .i64 0] 44))
      have HI2 := Aside0.mk (show ((w1.alloc (.cells #[.string nm, .int .i64 p, .int .i64 q, .int .i64 kd] 62)).alloc (.cells #[.int .i64 b, .int .i64 0] 44)).heap[w1.heap.size + 1]? = some (.cells #[.int .i64 b, .int .i64 0] 44 (0, 0)) by
       have := heap_alloc_new (w1.alloc (.cells #[.string nm, .int .i64 p, .int .i64 q, .int .i64 kd] 62)) (.cells #[.int .i64 b, .int .i64 0] 44)
       simpa using this)
      have d3 : ((w1.alloc (.cells #[.string nm, .int .i64 p, .int .i64 q, .int .i64 kd] 62)).alloc (.cells #[.int .i64 b, .int .i64 0] 44)).cell? ⟨w1.heap.size, 3, none⟩ = some (.int .i64 kd) := blk_cell HW2.out 3
      have hlt : w.heap.size < w1.heap.size := by have := below_size (below_step HB0.out hb); have := blk_lt (blk_below HG0.out hb); omega
      obtain ⟨i0, i1, _, _⟩ := facts2 HI2.out
      obtain ⟨c20, c21, f20, f21⟩ := facts2 HG2.out
      clear hb
      go_wp2_with fail
      refine (louverref03_Get.calls k A4 _ t u1 u2 0 _ (HR4.out _ (Kd.C_below HR0.out HB2.out)) HC4.out H1.out).mono ?_
      rintro e w4 ⟨rfl, hb⟩
      clear c20 c21 f20 f21 i0 i1 d3
      have HB4 := Aside0.mk (below_step HB2.out hb)
      have HG4 := Aside0.mk (blk_below HG2.out hb)
      have HW4 := Aside0.mk (blk_below HW2.out hb)
      have HI4 := Aside0.mk (blk_below HI2.out hb)
      obtain ⟨c20, c21, f20, f21⟩ := facts2 HG4.out
      obtain ⟨i0, i1, fi0, fi1⟩ := facts2 HI4.out
      have d3 : w4.cell? ⟨w1.heap.size, 3, none⟩ = some (.int .i64 kd) := blk_cell HW4.out 3
      have HG5 := Aside0.mk (blk_far (p := ⟨w1.heap.size + 1, 1, none⟩) HG4.out (show w.heap.size ≠ w1.heap.size + 1 by omega) (.int .i64 a1))
      have HW5 := Aside0.mk (blk_far (p := ⟨w1.heap.size + 1, 1, none⟩) HW4.out (show w1.heap.size ≠ w1.heap.size + 1 by omega) (.int .i64 a1))
      have HI5 := Aside0.mk (blk_set HI4.out 1 (.int .i64 a1))
      have HB5 := Aside0.mk (below_set (j := 1) (v := .int .i64 a1) HB4.out (show w.heap.size ≤ w1.heap.size + 1 by omega))
      obtain ⟨g20, g21, h20, h21⟩ := facts2 HG5.out
      obtain ⟨j0, j1, _, _⟩ := facts2 (x := .int .i64 b) (y := .int .i64 a1) HI5.out
      have e3 : (w4.setCell ⟨w1.heap.size + 1, 1, none⟩ (.int .i64 a1)).cell? ⟨w1.heap.size, 3, none⟩ = some (.int .i64 kd) := blk_cell HW5.out 3
      clear hb
      go_wp2
      refine bodyPost_ret (results_ctt rfl _ _ w.heap.size 44 #[.int .i64 b, .int .i64 a1] (0, 0) _ rfl (put2 HG5.out _ _) Tryd.underlying44 rfl (by kernel_rfl)) rfl ?_
      exact ⟨rfl, below_set (below_set HB5.out (Nat.le_refl _)) (Nat.le_refl _)⟩
    ·
     have heb : (u3 == 0) = false := beq_eq_false_iff_ne.mpr he
     have hec : (u3 != 0) = true := bne_iff_ne.mpr he
     obtain rfl : (0, 0, 0, u3) = R := by rw [← HRq.out]; simp [instrErr, he]
     clear HRq hU
     go_enter Tryd.func24, Tryd.ntmps24
     go_wp2_with fail
     refine (louverref10_Table.calls 3 b nm p q kd true _ HTb.out).mono ?_
     rintro e w1 ⟨rfl, hb⟩
     have HB1 := Aside0.mk (below_alloc (below_step HB0.out hb) (.cells #[.string nm, .int .i64 p, .int .i64 q, .int .i64 kd] 62))
     have HG1 := Aside0.mk (blk_alloc (blk_below HG0.out hb) (.cells #[.string nm, .int .i64 p, .int .i64 q, .int .i64 kd] 62))
     have HW1 := Aside0.mk (heap_alloc_new w1 (.cells #[.string nm, .int .i64 p, .int .i64 q, .int .i64 kd] 62))
     have hx2 : ∀ o, (w1.alloc o).cell? ad = some (.int .u8 b) := fun o => pw_cell_below (below_alloc (below_step HB0.out hb) o) HX0.out
     have HB2 := Aside0.mk (below_alloc HB1.out (.cells #[.int .i64 b, .int .i64 0] 44))
     have HG2 := Aside0.mk (blk_alloc HG1.out (.cells #[.int .i64 b, .int .i64 0] 44))
     have HW2 := Aside0.mk (blk_alloc HW1.out (.cells #[.int .i64 b, .int .i64 0] 44))
     have HI2 := Aside0.mk (show ((w1.alloc (.cells #[.string nm, .int .i64 p, .int .i64 q, .int .i64 kd] 62)).alloc (.cells #[.int .i64 b, .int .i64 0] 44)).heap[w1.heap.size + 1]? = some (.cells #[.int .i64 b, .int .i64 0] 44 (0, 0)) by
      have := heap_alloc_new (w1.alloc (.cells #[.string nm, .int .i64 p, .int .i64 q, .int .i64 kd] 62)) (.cells #[.int .i64 b, .int .i64 0] 44)
      simpa using this)
     have d3 : ((w1.alloc (.cells #[.string nm, .int .i64 p, .int .i64 q, .int .i64 kd] 62)).alloc (.cells #[.int .i64 b, .int .i64 0] 44)).cell? ⟨w1.heap.size, 3, none⟩ = some (.int .i64 kd) := blk_cell HW2.out 3
     have hlt : w.heap.size < w1.heap.size := by have := below_size (below_step HB0.out hb); have := blk_lt (blk_below HG0.out hb); omega
     obtain ⟨i0, i1, _, _⟩ := facts2 HI2.out
     obtain ⟨c20, c21, f20, f21⟩ := facts2 HG2.out
     clear hb
     go_wp2_with fail
     refine (louverref03_Get.calls k A4 _ t u1 u2 u3 _ (HR4.out _ (Kd.C_below HR0.out HB2.out)) HC4.out H1.out).mono ?_
     rintro e w4 ⟨rfl, hb⟩
     clear c20 c21 f20 f21 i0 i1 d3
     have HB4 := Aside0.mk (below_step HB2.out hb)
     have HG4 := Aside0.mk (blk_below HG2.out hb)
     have HW4 := Aside0.mk (blk_below HW2.out hb)
     have HI4 := Aside0.mk (blk_below HI2.out hb)
     obtain ⟨c20, c21, f20, f21⟩ := facts2 HG4.out
     obtain ⟨i0, i1, fi0, fi1⟩ := facts2 HI4.out
     have d3 : w4.cell? ⟨w1.heap.size, 3, none⟩ = some (.int .i64 kd) := blk_cell HW4.out 3
     clear hb
     go_wp2
     refine bodyPost_ret (results_ctt rfl _ _ w.heap.size 44 #[.int .i64 0, .int .i64 0] (0, 0) _ rfl (put2 HG4.out _ _) Tryd.underlying44 rfl (by kernel_rfl)) rfl ?_
     exact ⟨rfl, below_set (below_set HB4.out (Nat.le_refl _)) (Nat.le_refl _)⟩
   ·
    have ho2 : operandOp b = false := by simpa using ho
    obtain rfl : kd = 0 := by have := of_decide_eq_false (hop.symm.trans ho2); omega
    obtain rfl : (b, 0, 1, 0) = R := by rw [← hRq, codeGet_cons, if_pos hv, if_neg h32, if_neg ho]
    have hw1 : wrap64 1 = 1 := by kernel_rfl
    clear hRq hv ho ho2 hop hk hkd h32 hk0 hk1 hk1b
    go_enter Tryd.func24, Tryd.ntmps24
    go_wp2_with fail
    refine (louverref10_Table.calls 3 b nm p q 0 true _ HTb.out).mono ?_
    rintro e w1 ⟨rfl, hb⟩
    have HB1 := Aside0.mk (below_alloc (below_step HB0.out hb) (.cells #[.string nm, .int .i64 p, .int .i64 q, .int .i64 0] 62))
    have HG1 := Aside0.mk (blk_alloc (blk_below HG0.out hb) (.cells #[.string nm, .int .i64 p, .int .i64 q, .int .i64 0] 62))
    have HW1 := Aside0.mk (heap_alloc_new w1 (.cells #[.string nm, .int .i64 p, .int .i64 q, .int .i64 0] 62))
    have hx2 : ∀ o, (w1.alloc o).cell? ad = some (.int .u8 b) := fun o => pw_cell_below (below_alloc (below_step HB0.out hb) o) HX0.out
    have HB2 := Aside0.mk (below_alloc HB1.out (.cells #[.int .i64 b, .int .i64 0] 44))
    have HG2 := Aside0.mk (blk_alloc HG1.out (.cells #[.int .i64 b, .int .i64 0] 44))
    have HW2 := Aside0.mk (blk_alloc HW1.out (.cells #[.int .i64 b, .int .i64 0] 44))
    have HI2 := Aside0.mk (show ((w1.alloc (.cells #[.string nm, .int .i64 p, .int .i64 q, .int .i64 0] 62)).alloc (.cells #[.int .i64 b, .int .i64 0] 44)).heap[w1.heap.size + 1]? = some (.cells #[.int .i64 b, .int .i64 0] 44 (0, 0)) by
     have := heap_alloc_new (w1.alloc (.cells #[.string nm, .int .i64 p, .int .i64 q, .int .i64 0] 62)) (.cells #[.int .i64 b, .int .i64 0] 44)
     simpa using this)
    have d3 : ((w1.alloc (.cells #[.string nm, .int .i64 p, .int .i64 q, .int .i64 0] 62)).alloc (.cells #[.int .i64 b, .int .i64 0] 44)).cell? ⟨w1.heap.size, 3, none⟩ = some (.int .i64 0) := blk_cell HW2.out 3
    have hlt : w.heap.size < w1.heap.size := by have := below_size (below_step HB0.out hb); have := blk_lt (blk_below HG0.out hb); omega
    obtain ⟨i0, i1, _, _⟩ := facts2 HI2.out
    obtain ⟨c20, c21, f20, f21⟩ := facts2 HG2.out
    clear hb
    clear hlt
    go_wp2
    refine bodyPost_ret (results_ctt rfl _ _ w.heap.size 44 #[.int .i64 b, .int .i64 0] (0, 0) _ rfl (put2 HG2.out _ _) Tryd.underlying44 rfl (by kernel_rfl)) rfl ?_
    exact ⟨rfl, below_set (below_set HB2.out (Nat.le_refl _)) (Nat.le_refl _)⟩
  ·
   have hv2 : validOp b = false := by simpa using hv
   rw [hv2] at HTb
   obtain rfl : (0, 0, 0, 100) = R := by rw [← hRq, codeGet_cons, if_neg hv]
   clear hRq hv hv2 hop hkd hk0
   go_enter Tryd.func24, Tryd.ntmps24
   go_wp2_with fail
   refine (louverref10_Table.calls 3 b nm p q kd false _ HTb.out).mono ?_
   rintro e w1 ⟨rfl, hb⟩
   have HB1 := Aside0.mk (below_alloc (below_step HB0.out hb) (.cells #[.string nm, .int .i64 p, .int .i64 q, .int .i64 kd] 62))
   have HG1 := Aside0.mk (blk_alloc (blk_below HG0.out hb) (.cells #[.string nm, .int .i64 p, .int .i64 q, .int .i64 kd] 62))
   have HW1 := Aside0.mk (heap_alloc_new w1 (.cells #[.string nm, .int .i64 p, .int .i64 q, .int .i64 kd] 62))
   have hx2 : ∀ o, (w1.alloc o).cell? ad = some (.int .u8 b) := fun o => pw_cell_below (below_alloc (below_step HB0.out hb) o) HX0.out
   obtain ⟨c20, c21, f20, f21⟩ := facts2 HG1.out
   clear hb
   go_wp2
   refine bodyPost_ret (results_ctt rfl _ _ w.heap.size 44 #[.int .i64 0, .int .i64 0] (0, 0) _ rfl (put2 HG1.out _ _) Tryd.underlying44 rfl (by kernel_rfl)) rfl ?_
   exact ⟨rfl, below_set (below_set HB1.out (Nat.le_refl _)) (Nat.le_refl _)⟩
end Go.Proofs.YtgpdaihfjnihhaaDoor.PJ
