/- code.Get by hand. -/
import Derived.Test.YtgpdaihfjnihhaaDoorQPJx0
import Derived.Test.YtgpdaihfjnihhaaDoorQPJx3
import Derived.Test.YtgpdaihfjnihhaaDoorQPA
import Derived.Test.YtgpdaihfjnihhaaDoorQPB
import Derived.Test.YtgpdaihfjnihhaaDoorQHandCode2
namespace Go.Proofs.YtgpdaihfjnihhaaDoor.PJ
open Go.RowKit Go.Proofs.YtgpdaihfjnihhaaDoorW.PrintWords Go.Proofs.YtgpdaihfjnihhaaDoorW.PrintLast Go.Proofs.YtgpdaihfjnihhaaDoorW.PrintMore
set_option linter.unusedSimpArgs false
set_option linter.unusedVariables false
def instrErr (b : Int) (x : Int × Int × Int) (a : Int) (neg : Bool) : Int × Int × Int × Int :=
 let e := if x.2.2 = 0 ∧ neg = true then 100 else x.2.2
 if e = 0 then (b, a, wrap64 (x.2.1 + 1), 0) else (0, 0, 0, e)
def codeGet (l : List Int) (U S : Int × Int × Int) : Int × Int × Int × Int :=
 match l with
 | [] => (0, 0, 0, 30)
 | b :: _ => if validOp b then (if b = 32 then instrErr b S S.1 false else if operandOp b then instrErr b U (wrap64 U.1) (decide (wrap64 U.1 < 0)) else (b, 0, 1, 0)) else (0, 0, 0, 100)
theorem facts2 {w : World} {g t : Nat} {x y : Value} (h : w.heap[g]? = some (.cells #[x, y] t (0, 0))) : w.cell? ⟨g, 0, none⟩ = some x ∧ w.cell? ⟨g, 1, none⟩ = some y ∧ w.frozen? ⟨g, 0, none⟩ = false ∧ w.frozen? ⟨g, 1, none⟩ = false :=
 ⟨blk_cell h 0, blk_cell h 1, blk_frozen h 0, blk_frozen h 1⟩
theorem put2 {w : World} {g t : Nat} {x y : Value} (h : w.heap[g]? = some (.cells #[x, y] t (0, 0))) (u v : Value) : ((w.setCell ⟨g, 0, none⟩ u).setCell ⟨g, 1, none⟩ v).heap[g]? = some (.cells #[u, v] t (0, 0)) :=
 blk_put (blk_put h 0 u rfl) 1 v rfl
theorem codeGet_cons (b : Int) (t : List Int) (U S : Int × Int × Int) : codeGet (b :: t) U S = if validOp b = true then (if b = 32 then instrErr b S S.1 false else if operandOp b = true then instrErr b U (wrap64 U.1) (decide (wrap64 U.1 < 0)) else (b, 0, 1, 0)) else (0, 0, 0, 100) := rfl
set_option maxHeartbeats 16000000 in
set_option maxRecDepth 100000 in
theorem code_Get.calls (k : Nat) (A0 : Option Addr) (c0 : Nat) (l0 : List Int) (U S : Int × Int × Int) (w : World) (ht : Lib.TabIs Tryd.prog w "strings.asciiSpace" .u8 Lib.asciiSpaceTab) (hr0 : Kd.C (Kd.int .u8) w A0 l0.length l0) (hc0 : l0.length ≤ c0) (hbt : ∀ x ∈ l0, 0 ≤ x ∧ x ≤ 255)
  (h1 : leb_Get.f k l0.tail = some U) (h2 : leb_GetSigned.f k l0.tail = some S) :
  Calls Tryd.prog 23 #[.slice A0 l0.length c0] w fun e w' => e = .returned (.tuple #[.agg #[.int .i64 (codeGet l0 U S).1, .int .i64 (codeGet l0 U S).2.1], .int .i64 (codeGet l0 U S).2.2.1, .int .i64 (codeGet l0 U S).2.2.2]) ∧ Below w.heap.size w w' := by
 have HT := Aside0.mk ht
 clear ht
 cases l0 with
 | nil =>
  have HG := Aside0.mk (heap_alloc_new w (.cells #[.int .i64 0, .int .i64 0] 44))
  clear h1 h2
  show Calls _ _ _ _ fun e w' => e = .returned (.tuple #[.agg #[.int .i64 0, .int .i64 0], .int .i64 0, .int .i64 30]) ∧ _
  go_enter Tryd.func23, Tryd.ntmps23
  go_wp2
  refine bodyPost_ret (results_ctt rfl _ _ w.heap.size 44 #[.int .i64 0, .int .i64 0] (0, 0) _ rfl HG.out Tryd.underlying44 rfl (by kernel_rfl)) rfl ?_
  exact ⟨rfl, below_alloc (Below.refl _ _) _⟩
 | cons b t =>
  obtain ⟨ad, rfl, hx⟩ := Kd.at_int hr0 0 (by omega) (by simp)
  have hx0 : w.cell? ad = some (.int .u8 b) := by
   have := hx
   simpa [rd, Addr.add] using this
  have hbb := hbt b (by simp)
  have hwb : wrap64 b = b := by unfold wrap64; omega
  have h256 : b % 256 = b := by omega
  obtain ⟨A4, hcut, hR4, hc4⟩ := cut_drop_int (P := Tryd.prog) (k := .u8) 27 5 Tryd.underlying27 info5 (some ad) c0 (b :: t) t 1 (by simp) hc0 rfl
  have hcut1 : ∀ W : World, (Instr.slice 27 (.slice (some ad) (t.length + 1) c0) (some (.int .i64 1)) none none).run Tryd.prog W = .ok (.slice A4 t.length (c0 - 1)) W := hcut
  have HR4 := Aside0.mk hR4
  have HC4 := Aside0.mk hc4
  have H1 := Aside0.mk (show leb_Get.f k t = some U from h1)
  have H2 := Aside0.mk (show leb_GetSigned.f k t = some S from h2)
  have HR0 := Aside0.mk hr0
  have HX := Aside0.mk hx0
  have hx1 : ∀ o, (w.alloc o).cell? ad = some (.int .u8 b) := fun o => pw_cell_below (below_alloc (Below.refl _ _) o) hx0
  have hn : ¬ ((t.length : Int) + 1 = 0) := by omega
  clear hr0 hc0 hx hx0 hcut hR4 hc4 h1 h2 hbt hbb
  obtain ⟨R, hRq⟩ : ∃ R, codeGet (b :: t) U S = R := ⟨_, rfl⟩
  rw [hRq]
  have HB2 := Aside0.mk (below_alloc (below_alloc (Below.refl w.heap.size w) (.cells #[.int .i64 0, .int .i64 0] 44)) (.cells #[.int .i64 b, .int .i64 0] 44))
  have HG := Aside0.mk (blk_alloc (heap_alloc_new w (.cells #[.int .i64 0, .int .i64 0] 44)) (.cells #[.int .i64 b, .int .i64 0] 44))
  have HG5 := Aside0.mk (show ((w.alloc (.cells #[.int .i64 0, .int .i64 0] 44)).alloc (.cells #[.int .i64 b, .int .i64 0] 44)).heap[w.heap.size + 1]? = some (.cells #[.int .i64 b, .int .i64 0] 44 (0, 0)) by
   have := heap_alloc_new (w.alloc (.cells #[.int .i64 0, .int .i64 0] 44)) (.cells #[.int .i64 b, .int .i64 0] 44)
   simpa using this)
  have hne := nameOf_empty b
  by_cases hv : validOp b = true
  ·
   rw [hv] at hne
   have hne2 : (nameOf b).toList.isEmpty = false := hne
   by_cases h32 : b = 32
   ·
    subst h32
    have HRq := Aside0.mk (show instrErr 32 S S.1 false = R by rw [← hRq, codeGet_cons, if_pos hv, if_pos rfl])
    clear hRq hne hv
    obtain ⟨s1, s2, s3⟩ := S
    by_cases he : s3 = 0
    ·
     subst he
     obtain rfl : (32, s1, wrap64 (s2 + 1), 0) = R := by rw [← HRq.out]; simp [instrErr]
     clear HRq
     go_enter Tryd.func23, Tryd.ntmps23
     go_wp2_with fail
     refine (code_Name.calls 32 _ (tab_below HT.out HB2.out)).mono ?_
     rintro e w3 ⟨rfl, hb⟩
     obtain ⟨c50, c51, f50, f51⟩ := facts2 (blk_below HG5.out hb)
     obtain ⟨c20, c21, f20, f21⟩ := facts2 (blk_below HG.out hb)
     have HG5' := Aside0.mk (blk_below HG5.out hb)
     have HG' := Aside0.mk (blk_below HG.out hb)
     have HB := Aside0.mk (below_step HB2.out hb)
     clear hb
     go_wp2_with fail
     refine (leb_GetSigned.calls k A4 _ t s1 s2 0 _ (HR4.out _ (Kd.C_below HR0.out HB.out)) HC4.out H2.out).mono ?_
     rintro e w4 ⟨rfl, hb⟩
     clear c50 c51 f50 f51 c20 c21 f20 f21
     have HG5b := Aside0.mk (blk_below (w := w3) HG5'.out hb)
     have HGb := Aside0.mk (blk_far (p := ⟨w.heap.size + 1, 1, none⟩) (blk_below (w := w3) HG'.out hb) (show w.heap.size ≠ w.heap.size + 1 by omega) (.int .i64 s1))
     have HG5c := Aside0.mk (blk_set HG5b.out 1 (.int .i64 s1))
     obtain ⟨c50, c51, f50, f51⟩ := facts2 HG5b.out
     obtain ⟨d50, d51, g50, g51⟩ := facts2 (x := .int .i64 32) (y := .int .i64 s1) HG5c.out
     obtain ⟨c20, c21, f20, f21⟩ := facts2 HGb.out
     have HBb := Aside0.mk (below_set (j := 1) (v := .int .i64 s1) (below_step HB.out hb) (show w.heap.size ≤ w.heap.size + 1 by omega))
     clear hb
     go_wp2
     refine bodyPost_ret (results_ctt rfl _ _ w.heap.size 44 #[.int .i64 32, .int .i64 s1] (0, 0) _ rfl (put2 HGb.out _ _) Tryd.underlying44 rfl (by kernel_rfl)) rfl ?_
     exact ⟨rfl, below_set (below_set HBb.out (Nat.le_refl _)) (Nat.le_refl _)⟩
    ·
     have heb : (s3 == 0) = false := beq_eq_false_iff_ne.mpr he
     have hec : (s3 != 0) = true := bne_iff_ne.mpr he
     obtain rfl : (0, 0, 0, s3) = R := by rw [← HRq.out]; simp [instrErr, he]
     clear HRq
     go_enter Tryd.func23, Tryd.ntmps23
     go_wp2_with fail
     refine (code_Name.calls 32 _ (tab_below HT.out HB2.out)).mono ?_
     rintro e w3 ⟨rfl, hb⟩
     obtain ⟨c50, c51, f50, f51⟩ := facts2 (blk_below HG5.out hb)
     obtain ⟨c20, c21, f20, f21⟩ := facts2 (blk_below HG.out hb)
     have HG5' := Aside0.mk (blk_below HG5.out hb)
     have HG' := Aside0.mk (blk_below HG.out hb)
     have HB := Aside0.mk (below_step HB2.out hb)
     clear hb
     go_wp2_with fail
     refine (leb_GetSigned.calls k A4 _ t s1 s2 s3 _ (HR4.out _ (Kd.C_below HR0.out HB.out)) HC4.out H2.out).mono ?_
     rintro e w4 ⟨rfl, hb⟩
     clear c50 c51 f50 f51 c20 c21 f20 f21
     have HG5b := Aside0.mk (blk_below (w := w3) HG5'.out hb)
     have HGb := Aside0.mk (blk_far (p := ⟨w.heap.size + 1, 1, none⟩) (blk_below (w := w3) HG'.out hb) (show w.heap.size ≠ w.heap.size + 1 by omega) (.int .i64 s1))
     have HG5c := Aside0.mk (blk_set HG5b.out 1 (.int .i64 s1))
     obtain ⟨c50, c51, f50, f51⟩ := facts2 HG5b.out
     obtain ⟨d50, d51, g50, g51⟩ := facts2 (x := .int .i64 32) (y := .int .i64 s1) HG5c.out
     obtain ⟨c20, c21, f20, f21⟩ := facts2 HGb.out
     have HBb := Aside0.mk (below_set (j := 1) (v := .int .i64 s1) (below_step HB.out hb) (show w.heap.size ≤ w.heap.size + 1 by omega))
     clear hb
     go_wp2
     refine bodyPost_ret (results_ctt rfl _ _ w.heap.size 44 #[.int .i64 0, .int .i64 0] (0, 0) _ rfl (put2 HGb.out _ _) Tryd.underlying44 rfl (by kernel_rfl)) rfl ?_
     exact ⟨rfl, below_set (below_set HBb.out (Nat.le_refl _)) (Nat.le_refl _)⟩
   have h32b : (b == 32) = false := beq_eq_false_iff_ne.mpr h32
   have HO := Aside0.mk (Operand_f 0 b)
   by_cases ho : operandOp b = true
   ·
    rw [ho] at HO
    have HRq := Aside0.mk (show instrErr b U (wrap64 U.1) (decide (wrap64 U.1 < 0)) = R by rw [← hRq, codeGet_cons, if_pos hv, if_neg h32, if_pos ho])
    clear hRq hne hv ho
    obtain ⟨u1, u2, u3⟩ := U
    obtain ⟨a1, ha1⟩ : ∃ a1, wrap64 u1 = a1 := ⟨_, rfl⟩
    simp only [ha1] at HRq
    by_cases he : u3 = 0
    ·
     subst he
     by_cases hneg : a1 < 0
     ·
      have hnb : decide (a1 < 0) = true := decide_eq_true hneg
      obtain rfl : (0, 0, 0, 100) = R := by rw [← HRq.out]; simp [instrErr, hneg]
      clear HRq
      go_enter Tryd.func23, Tryd.ntmps23
      go_wp2_with fail
      refine (code_Name.calls b _ (tab_below HT.out HB2.out)).mono ?_
      rintro e w3 ⟨rfl, hb⟩
      obtain ⟨c50, c51, f50, f51⟩ := facts2 (blk_below HG5.out hb)
      obtain ⟨c20, c21, f20, f21⟩ := facts2 (blk_below HG.out hb)
      have HG5' := Aside0.mk (blk_below HG5.out hb)
      have HG' := Aside0.mk (blk_below HG.out hb)
      have HB := Aside0.mk (below_step HB2.out hb)
      clear hb
      go_wp2_with fail
      refine (code_Operand.calls 2 b true _ HO.out).mono ?_
      rintro e w3b ⟨rfl, ⟨nd, rfl⟩⟩
      have HBx := Aside0.mk (pw_below_drewN HB.out nd)
      go_wp2_with fail
      refine (leb_Get.calls k A4 _ t u1 u2 0 _ (HR4.out _ (Kd.C_below HR0.out HBx.out)) HC4.out H1.out).mono ?_
      rintro e w4 ⟨rfl, hb⟩
      clear c50 c51 f50 f51 c20 c21 f20 f21
      have HG5b := Aside0.mk (blk_below (w := w3.drewN nd) HG5'.out hb)
      have HGb := Aside0.mk (blk_far (p := ⟨w.heap.size + 1, 1, none⟩) (blk_below (w := w3.drewN nd) HG'.out hb) (show w.heap.size ≠ w.heap.size + 1 by omega) (.int .i64 a1))
      have HG5c := Aside0.mk (blk_set HG5b.out 1 (.int .i64 a1))
      obtain ⟨c50, c51, f50, f51⟩ := facts2 HG5b.out
      obtain ⟨d50, d51, g50, g51⟩ := facts2 (x := .int .i64 b) (y := .int .i64 a1) HG5c.out
      obtain ⟨c20, c21, f20, f21⟩ := facts2 HGb.out
      have HBb := Aside0.mk (below_set (j := 1) (v := .int .i64 a1) (below_step HBx.out hb) (show w.heap.size ≤ w.heap.size + 1 by omega))
      clear hb
      go_wp2
      refine bodyPost_ret (results_ctt rfl _ _ w.heap.size 44 #[.int .i64 0, .int .i64 0] (0, 0) _ rfl (put2 HGb.out _ _) Tryd.underlying44 rfl (by kernel_rfl)) rfl ?_
      exact ⟨rfl, below_set (below_set HBb.out (Nat.le_refl _)) (Nat.le_refl _)⟩
     ·
      have hnb : decide (a1 < 0) = false := decide_eq_false hneg
      obtain rfl : (b, a1, wrap64 (u2 + 1), 0) = R := by rw [← HRq.out]; simp [instrErr, hneg]
      clear HRq
      go_enter Tryd.func23, Tryd.ntmps23
      go_wp2_with fail
      refine (code_Name.calls b _ (tab_below HT.out HB2.out)).mono ?_
      rintro e w3 ⟨rfl, hb⟩
      obtain ⟨c50, c51, f50, f51⟩ := facts2 (blk_below HG5.out hb)
      obtain ⟨c20, c21, f20, f21⟩ := facts2 (blk_below HG.out hb)
      have HG5' := Aside0.mk (blk_below HG5.out hb)
      have HG' := Aside0.mk (blk_below HG.out hb)
      have HB := Aside0.mk (below_step HB2.out hb)
      clear hb
      go_wp2_with fail
      refine (code_Operand.calls 2 b true _ HO.out).mono ?_
      rintro e w3b ⟨rfl, ⟨nd, rfl⟩⟩
      have HBx := Aside0.mk (pw_below_drewN HB.out nd)
      go_wp2_with fail
      refine (leb_Get.calls k A4 _ t u1 u2 0 _ (HR4.out _ (Kd.C_below HR0.out HBx.out)) HC4.out H1.out).mono ?_
      rintro e w4 ⟨rfl, hb⟩
      clear c50 c51 f50 f51 c20 c21 f20 f21
      have HG5b := Aside0.mk (blk_below (w := w3.drewN nd) HG5'.out hb)
      have HGb := Aside0.mk (blk_far (p := ⟨w.heap.size + 1, 1, none⟩) (blk_below (w := w3.drewN nd) HG'.out hb) (show w.heap.size ≠ w.heap.size + 1 by omega) (.int .i64 a1))
      have HG5c := Aside0.mk (blk_set HG5b.out 1 (.int .i64 a1))
      obtain ⟨c50, c51, f50, f51⟩ := facts2 HG5b.out
      obtain ⟨d50, d51, g50, g51⟩ := facts2 (x := .int .i64 b) (y := .int .i64 a1) HG5c.out
      obtain ⟨c20, c21, f20, f21⟩ := facts2 HGb.out
      have HBb := Aside0.mk (below_set (j := 1) (v := .int .i64 a1) (below_step HBx.out hb) (show w.heap.size ≤ w.heap.size + 1 by omega))
      clear hb
      go_wp2
      refine bodyPost_ret (results_ctt rfl _ _ w.heap.size 44 #[.int .i64 b, .int .i64 a1] (0, 0) _ rfl (put2 HGb.out _ _) Tryd.underlying44 rfl (by kernel_rfl)) rfl ?_
      exact ⟨rfl, below_set (below_set HBb.out (Nat.le_refl _)) (Nat.le_refl _)⟩
    ·
     have heb : (u3 == 0) = false := beq_eq_false_iff_ne.mpr he
     have hec : (u3 != 0) = true := bne_iff_ne.mpr he
     obtain rfl : (0, 0, 0, u3) = R := by rw [← HRq.out]; simp [instrErr, he]
     clear HRq
     go_enter Tryd.func23, Tryd.ntmps23
     go_wp2_with fail
     refine (code_Name.calls b _ (tab_below HT.out HB2.out)).mono ?_
     rintro e w3 ⟨rfl, hb⟩
     obtain ⟨c50, c51, f50, f51⟩ := facts2 (blk_below HG5.out hb)
     obtain ⟨c20, c21, f20, f21⟩ := facts2 (blk_below HG.out hb)
     have HG5' := Aside0.mk (blk_below HG5.out hb)
     have HG' := Aside0.mk (blk_below HG.out hb)
     have HB := Aside0.mk (below_step HB2.out hb)
     clear hb
     go_wp2_with fail
     refine (code_Operand.calls 2 b true _ HO.out).mono ?_
     rintro e w3b ⟨rfl, ⟨nd, rfl⟩⟩
     have HBx := Aside0.mk (pw_below_drewN HB.out nd)
     go_wp2_with fail
     refine (leb_Get.calls k A4 _ t u1 u2 u3 _ (HR4.out _ (Kd.C_below HR0.out HBx.out)) HC4.out H1.out).mono ?_
     rintro e w4 ⟨rfl, hb⟩
     clear c50 c51 f50 f51 c20 c21 f20 f21
     have HG5b := Aside0.mk (blk_below (w := w3.drewN nd) HG5'.out hb)
     have HGb := Aside0.mk (blk_far (p := ⟨w.heap.size + 1, 1, none⟩) (blk_below (w := w3.drewN nd) HG'.out hb) (show w.heap.size ≠ w.heap.size + 1 by omega) (.int .i64 a1))
     have HG5c := Aside0.mk (blk_set HG5b.out 1 (.int .i64 a1))
     obtain ⟨c50, c51, f50, f51⟩ := facts2 HG5b.out
     obtain ⟨d50, d51, g50, g51⟩ := facts2 (x := .int .i64 b) (y := .int .i64 a1) HG5c.out
     obtain ⟨c20, c21, f20, f21⟩ := facts2 HGb.out
     have HBb := Aside0.mk (below_set (j := 1) (v := .int .i64 a1) (below_step HBx.out hb) (show w.heap.size ≤ w.heap.size + 1 by omega))
     clear hb
     go_wp2
     refine bodyPost_ret (results_ctt rfl _ _ w.heap.size 44 #[.int .i64 0, .int .i64 0] (0, 0) _ rfl (put2 HGb.out _ _) Tryd.underlying44 rfl (by kernel_rfl)) rfl ?_
     exact ⟨rfl, below_set (below_set HBb.out (Nat.le_refl _)) (Nat.le_refl _)⟩
   ·
    rw [show operandOp b = false by simpa using ho] at HO
    obtain rfl : (b, 0, 1, 0) = R := by rw [← hRq, codeGet_cons, if_pos hv, if_neg h32, if_neg ho]
    have hw1 : wrap64 1 = 1 := by kernel_rfl
    clear hRq hne hv ho
    go_enter Tryd.func23, Tryd.ntmps23
    go_wp2_with fail
    refine (code_Name.calls b _ (tab_below HT.out HB2.out)).mono ?_
    rintro e w3 ⟨rfl, hb⟩
    obtain ⟨c50, c51, f50, f51⟩ := facts2 (blk_below HG5.out hb)
    obtain ⟨c20, c21, f20, f21⟩ := facts2 (blk_below HG.out hb)
    have HG5' := Aside0.mk (blk_below HG5.out hb)
    have HG' := Aside0.mk (blk_below HG.out hb)
    have HB := Aside0.mk (below_step HB2.out hb)
    clear hb
    go_wp2_with fail
    refine (code_Operand.calls 2 b false _ HO.out).mono ?_
    rintro e w3b ⟨rfl, ⟨nd, rfl⟩⟩
    have HBx := Aside0.mk (pw_below_drewN HB.out nd)
    go_wp2_with fail
    refine bodyPost_ret (results_ctt rfl _ _ w.heap.size 44 #[.int .i64 b, .int .i64 0] (0, 0) _ rfl (put2 (show (w3.drewN nd).heap[w.heap.size]? = _ from HG'.out) _ _) Tryd.underlying44 rfl (by kernel_rfl)) rfl ?_
    exact ⟨rfl, below_set (below_set HBx.out (Nat.le_refl _)) (Nat.le_refl _)⟩
  ·
   have hv2 : validOp b = false := by simpa using hv
   rw [hv2] at hne
   have hne2 : (nameOf b).toList.isEmpty = true := hne
   obtain rfl : (0, 0, 0, 100) = R := by rw [← hRq, codeGet_cons, if_neg hv]
   clear hRq hne hv hv2
   go_enter Tryd.func23, Tryd.ntmps23
   go_wp2_with fail
   refine (code_Name.calls b _ (tab_below HT.out HB2.out)).mono ?_
   rintro e w3 ⟨rfl, hb⟩
   obtain ⟨c50, c51, f50, f51⟩ := facts2 (blk_below HG5.out hb)
   obtain ⟨c20, c21, f20, f21⟩ := facts2 (blk_below HG.out hb)
   have HG5' := Aside0.mk (blk_below HG5.out hb)
   have HG' := Aside0.mk (blk_below HG.out hb)
   have HB := Aside0.mk (below_step HB2.out hb)
   clear hb
   go_wp2_with fail
   refine bodyPost_ret (results_ctt rfl _ _ w.heap.size 44 #[.int .i64 0, .int .i64 0] (0, 0) _ rfl (put2 HG'.out _ _) Tryd.underlying44 rfl (by kernel_rfl)) rfl ?_
   exact ⟨rfl, below_set (below_set HB.out (Nat.le_refl _)) (Nat.le_refl _)⟩
end Go.Proofs.YtgpdaihfjnihhaaDoor.PJ
