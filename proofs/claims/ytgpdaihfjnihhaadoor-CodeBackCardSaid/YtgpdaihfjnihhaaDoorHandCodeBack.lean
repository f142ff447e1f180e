/- The walk of the law CodeBack. -/
import Derived.Test.YtgpdaihfjnihhaaDoorPJx0
import Derived.Test.YtgpdaihfjnihhaaDoorPJx1
import Derived.Test.YtgpdaihfjnihhaaDoorPJx2
import Derived.Test.YtgpdaihfjnihhaaDoorPJx5
import Derived.Test.YtgpdaihfjnihhaaDoorPJx6
import Derived.Test.YtgpdaihfjnihhaaDoorPJx8
import Derived.Test.YtgpdaihfjnihhaaDoorPJx10
import Derived.Test.YtgpdaihfjnihhaaDoorHandCode6
namespace Go.Proofs.YtgpdaihfjnihhaaDoor.PJ
open Go.RowKit Go.Proofs.YtgpdaihfjnihhaaDoorW.PrintWords Go.Proofs.YtgpdaihfjnihhaaDoorW.PrintLast Go.Proofs.YtgpdaihfjnihhaaDoorW.PrintMore
set_option linter.unusedSimpArgs false
set_option linter.unusedVariables false
def codeBack.T11 : Bool × List (List Nat × List Nat) := (true, [([], []), ([0], [0]), ([1], [1]), ([2], [2]), ([3, 2, 2], [2, 3]), ([4, 4, 2], [2, 4]), ([5], [5]), ([6, 5, 5], [5, 6]), ([5], [5]), ([5], [5]), ([8, 9, 5], [5, 8, 9]), ([7, 10, 7, 5], [5, 7, 10]), ([5, 11, 2], [2, 5, 11]), ([2, 12], [2, 12]), ([13, 11, 0, 1, 2, 3, 4, 5, 6, 7, 8, 9, 10, 11, 12, 13], [13])])
def codeBack.B11 : List Nat := [0, 1, 3, 7, 15, 31, 63, 127, 63, 63, 831, 2047, 4095, 8191, 16383]
set_option maxRecDepth 100000 in
theorem codeBack.tab11 : rtab .any (opsOf Tryd.f10 11) = codeBack.T11 := by kernel_rfl
set_option maxRecDepth 100000 in
theorem codeBack.bits11 : waitsOk codeBack.T11.2 codeBack.B11 = true := by kernel_rfl
set_option maxHeartbeats 16000000 in
set_option maxRecDepth 100000 in
theorem codeBack.long (op a : Int) (A1 : Option Addr) (c1 : Nat) (l1 : List Int) (w : World) (ht : Lib.TabIs Tryd.prog w "strings.asciiSpace" .u8 Lib.asciiSpaceTab) (hr1 : Kd.C (Kd.int .u8) w A1 l1.length l1) (hc1 : l1.length ≤ c1) (hn : 1000 < (l1.length : Int)) :
    Calls Tryd.prog 10 #[.agg #[.int .i64 op, .int .i64 a], .slice A1 l1.length c1] w fun e w' => e = .returned (.bool true) ∧ Below w.heap.size w w' := by
  have HT := Aside0.mk ht
  have HR1 := Aside0.mk hr1
  have HC1 := Aside0.mk hc1
  clear ht hr1 hc1
  have HG := Aside0.mk (heap_alloc_new w (.cells #[.int .i64 op, .int .i64 a] 44))
  have HB := Aside0.mk (below_alloc (Below.refl w.heap.size w) (.cells #[.int .i64 op, .int .i64 a] 44))
  go_enter Tryd.func10, Tryd.ntmps10
  go_wp2_with fail
  refine (code_awake.calls _ (tab_below HT.out HB.out)).mono ?_
  rintro e w9 ⟨rfl, hb⟩
  replace HG := Aside0.mk (blk_below HG.out hb)
  replace HB := Aside0.mk (below_step HB.out hb)
  clear hb
  go_wp2
  go_ret
  exact ⟨rfl, HB.out⟩
set_option maxHeartbeats 16000000 in
set_option maxRecDepth 100000 in
theorem codeBack.no (op a : Int) (A1 : Option Addr) (c1 : Nat) (l1 : List Int) (w : World) (ht : Lib.TabIs Tryd.prog w "strings.asciiSpace" .u8 Lib.asciiSpaceTab) (hr1 : Kd.C (Kd.int .u8) w A1 l1.length l1) (hc1 : l1.length ≤ c1) (hn : (l1.length : Int) ≤ 1000) (hm : mayOf op a = false) :
    Calls Tryd.prog 10 #[.agg #[.int .i64 op, .int .i64 a], .slice A1 l1.length c1] w fun e w' => e = .returned (.bool true) ∧ Below w.heap.size w w' := by
  have HT := Aside0.mk ht
  have HR1 := Aside0.mk hr1
  have HC1 := Aside0.mk hc1
  clear ht hr1 hc1
  have HG := Aside0.mk (heap_alloc_new w (.cells #[.int .i64 op, .int .i64 a] 44))
  have HB := Aside0.mk (below_alloc (Below.refl w.heap.size w) (.cells #[.int .i64 op, .int .i64 a] 44))
  have HM := Aside0.mk hm
  have hn' : ¬ (1000 < (l1.length : Int)) := by omega
  clear hm
  go_enter Tryd.func10, Tryd.ntmps10
  go_wp2_with fail
  refine (code_awake.calls _ (tab_below HT.out HB.out)).mono ?_
  rintro e w9 ⟨rfl, hb⟩
  replace HG := Aside0.mk (blk_below HG.out hb)
  replace HB := Aside0.mk (below_step HB.out hb)
  obtain ⟨b0, b1, _, _⟩ := facts2 HG.out
  clear hb
  go_wp2_with fail
  refine (code_Put.callsC 60 op a [] _ (tab_below HT.out HB.out) (fun _ => rfl) (fun h => by rw [HM.out] at h; cases h) (fun h => by rw [HM.out] at h; cases h) (fun h => by rw [HM.out] at h; cases h)).mono ?_
  rintro e w2 ⟨v, rfl, hC, hb⟩
  replace HG := Aside0.mk (blk_below HG.out hb)
  replace HB := Aside0.mk (below_step HB.out hb)
  obtain ⟨A2, rfl, hA2⟩ := hC.reads
  clear hA2 hC b0 b1
  obtain ⟨b0, b1, _, _⟩ := facts2 HG.out
  clear hb
  go_wp2_with fail
  refine (code_May.calls op a _ (tab_below HT.out HB.out)).mono ?_
  rintro e w3 ⟨rfl, hb⟩
  rw [HM.out]
  replace HG := Aside0.mk (blk_below HG.out hb)
  replace HB := Aside0.mk (below_step HB.out hb)
  clear b0 b1
  obtain ⟨b0, b1, _, _⟩ := facts2 HG.out
  clear hb
  go_wp2
  go_ret
  exact ⟨rfl, HB.out⟩
set_option maxHeartbeats 16000000 in
set_option maxRecDepth 100000 in
theorem codeBack.left (op a : Int) (A1 : Option Addr) (c1 : Nat) (l1 r pa : List Int) (U S U1 S1 : Int × Int × Int) (q1 q2 ko ka : Int) (kk : Nat) (m f : Int) (w : World) (ht : Lib.TabIs Tryd.prog w "strings.asciiSpace" .u8 Lib.asciiSpaceTab) (hr1 : Kd.C (Kd.int .u8) w A1 l1.length l1) (hc1 : l1.length ≤ c1) (hm : mayOf op a = true) (hn : (l1.length : Int) ≤ 1000) (hbt : ∀ x ∈ l1, 0 ≤ x ∧ x ≤ 255) (hp : PutIs kk op a r) (hrl : r.length ≤ 100) (hpa : r ++ l1 = pa) (hpb : ∀ x ∈ pa, 0 ≤ x ∧ x ≤ 255) (hg1 : leb_Get.f kk pa.tail = some U) (hg2 : leb_GetSigned.f kk pa.tail = some S) (hg : codeGet pa U S = (op, a, (r.length : Int), 0))
    (hi1 : slices_Index_string_string.f 60 opL (nameOf op) = some q1) (hi2 : slices_Index_string_string.f 60 inL (nameOf op) = some q2) (hbn : byName q1 q2 = (op, true)) (hlen : (((r.length : Int) == 1) == operandOp op) = false)
    (hk1 : leb_Get.f kk l1.tail = some U1) (hk2 : leb_GetSigned.f kk l1.tail = some S1) (hk : codeGet l1 U1 S1 = (ko, ka, m, f)) (hf : ¬ (f = 0)) :
    Calls Tryd.prog 10 #[.agg #[.int .i64 op, .int .i64 a], .slice A1 l1.length c1] w fun e w' => e = .returned (.bool true) ∧ Below w.heap.size w w' := by
  have HT := Aside0.mk ht
  have HR1 := Aside0.mk hr1
  have HC1 := Aside0.mk hc1
  clear ht hr1 hc1
  have HG := Aside0.mk (heap_alloc_new w (.cells #[.int .i64 op, .int .i64 a] 44))
  have HB := Aside0.mk (below_alloc (Below.refl w.heap.size w) (.cells #[.int .i64 op, .int .i64 a] 44))
  have Hhm := Aside0.mk hm
  have Hhbt := Aside0.mk hbt
  have Hhp := Aside0.mk hp
  have Hhpa := Aside0.mk hpa
  have Hhpb := Aside0.mk hpb
  have Hhg1 := Aside0.mk hg1
  have Hhg2 := Aside0.mk hg2
  have Hhg := Aside0.mk hg
  have Hhi1 := Aside0.mk hi1
  have Hhi2 := Aside0.mk hi2
  have Hhbn := Aside0.mk hbn
  have Hhlen := Aside0.mk hlen
  have Hhk1 := Aside0.mk hk1
  have Hhk2 := Aside0.mk hk2
  have Hhk := Aside0.mk hk
  have hn' : ¬ (1000 < (l1.length : Int)) := by omega
  have HL := Aside0.mk hrl
  have HN := Aside0.mk hn
  clear hm hbt hp hpa hpb hg1 hg2 hg hi1 hi2 hbn hlen hk1 hk2 hk hrl hn
  go_enter Tryd.func10, Tryd.ntmps10
  go_wp2_with fail
  refine (code_awake.calls _ (tab_below HT.out HB.out)).mono ?_
  rintro e w9 ⟨rfl, hb⟩
  replace HG := Aside0.mk (blk_below HG.out hb)
  replace HB := Aside0.mk (below_step HB.out hb)
  obtain ⟨b0, b1, _, _⟩ := facts2 HG.out
  clear hb
  go_wp2_with fail
  refine (code_Put.callsC kk op a r _ (tab_below HT.out HB.out) Hhp.out.1 Hhp.out.2.1 Hhp.out.2.2.1 Hhp.out.2.2.2).mono ?_
  rintro e w2 ⟨v, rfl, hC, hb⟩
  replace HG := Aside0.mk (blk_below HG.out hb)
  replace HB := Aside0.mk (below_step HB.out hb)
  obtain ⟨A2, rfl, hA2⟩ := hC.reads
  clear hA2 hC b0 b1
  obtain ⟨b0, b1, _, _⟩ := facts2 HG.out
  clear hb
  go_wp2_with fail
  refine (code_May.calls op a _ (tab_below HT.out HB.out)).mono ?_
  rintro e w3 ⟨rfl, hb⟩
  rw [Hhm.out]
  replace HG := Aside0.mk (blk_below HG.out hb)
  replace HB := Aside0.mk (below_step HB.out hb)
  clear b0 b1
  obtain ⟨b0, b1, _, _⟩ := facts2 HG.out
  clear hb
  go_wp2_with fail
  refine (code_Put.callsC kk op a r _ (tab_below HT.out HB.out) Hhp.out.1 Hhp.out.2.1 Hhp.out.2.2.1 Hhp.out.2.2.2).mono ?_
  rintro e w4 ⟨v, rfl, hC, hb⟩
  replace HG := Aside0.mk (blk_below HG.out hb)
  replace HB := Aside0.mk (below_step HB.out hb)
  obtain ⟨A3, rfl, hA3⟩ := hC.reads
  have HA3 := Aside0.mk hA3
  clear hA3 hC b0 b1
  obtain ⟨b0, b1, _, _⟩ := facts2 HG.out
  clear hb
  go_wp2_with (first | ((with_reducible refine gate_builtin (b := .append) (xs := #[.tmp 32, .tmp 33]) rfl ?_); at_builtin; refine append_full rfl (.tmp 32) (.tmp 33) 27 5 1 rfl Tryd.underlying27 info5 (by decide) r l1 pa Hhpa.out A3 A1 l1.length c1 rfl rfl HA3.out (Kd.C_below HR1.out HB.out) (by have := HL.out; have := HN.out; omega) ?_; rintro v1 w9 ⟨B3, cB3, rfl, hcB, hCB⟩ hb; replace HG := Aside0.mk (blk_below HG.out hb); replace HB := Aside0.mk (below_step HB.out hb); clear hb; have HP3 := Aside0.mk hCB; have HC3 := Aside0.mk hcB; clear hCB hcB; clear HA3))
  refine (code_Get.calls kk B3 cB3 pa U S _ (tab_below HT.out HB.out) HP3.out HC3.out Hhpb.out Hhg1.out Hhg2.out).mono ?_
  rintro e w5 ⟨rfl, hb⟩
  rw [Hhg.out]
  replace HG := Aside0.mk (blk_below HG.out hb)
  replace HB := Aside0.mk (below_step HB.out hb)
  clear b0 b1
  have HGJ := Aside0.mk (heap_alloc_new w5 (.cells #[.int .i64 op, .int .i64 a] 44))
  replace HG := Aside0.mk (blk_alloc HG.out (.cells #[.int .i64 op, .int .i64 a] 44))
  replace HB := Aside0.mk (below_alloc HB.out (.cells #[.int .i64 op, .int .i64 a] 44))
  obtain ⟨b0, b1, _, _⟩ := facts2 HG.out
  clear hb
  go_wp2_with fail
  refine (code_Name.calls op _ (tab_below HT.out HB.out)).mono ?_
  rintro e w6 ⟨rfl, hb⟩
  replace HG := Aside0.mk (blk_below HG.out hb)
  replace HB := Aside0.mk (below_step HB.out hb)
  replace HGJ := Aside0.mk (blk_below HGJ.out hb)
  clear hb
  go_wp2_with fail
  refine (code_ByName.calls 60 (nameOf op) q1 q2 _ (tab_below HT.out HB.out) Hhi1.out Hhi2.out).mono ?_
  rintro e w7 ⟨rfl, hb⟩
  rw [Hhbn.out]
  replace HG := Aside0.mk (blk_below HG.out hb)
  replace HB := Aside0.mk (below_step HB.out hb)
  replace HGJ := Aside0.mk (blk_below HGJ.out hb)
  clear b0 b1
  obtain ⟨b0, b1, _, _⟩ := facts2 HG.out
  obtain ⟨d0, d1, _, _⟩ := facts2 HGJ.out
  have heq : ∀ W : World, (Op.equalIn 10000 44 (.agg #[.int .i64 op, .int .i64 a]) (.agg #[.int .i64 op, .int .i64 a])).run Tryd.prog W = .ok true W := fun W => by
    have := eqA44 9998 W op op a a
    simpa using this
  clear hb
  go_wp2_with fail
  refine (code_Operand.calls 2 op (operandOp op) _ (Operand_f 0 op)).mono ?_
  rintro e w8 ⟨rfl, hd⟩
  have hb := hd.below
  replace HG := Aside0.mk (blk_below HG.out hb)
  replace HB := Aside0.mk (below_step HB.out hb)
  have hlen := Hhlen.out
  clear hb
  go_wp2_with fail
  refine (code_Get.calls kk A1 c1 l1 U1 S1 _ (tab_below HT.out HB.out) (Kd.C_below HR1.out HB.out) HC1.out Hhbt.out Hhk1.out Hhk2.out).mono ?_
  rintro e w10 ⟨rfl, hb⟩
  rw [Hhk.out]
  replace HG := Aside0.mk (blk_below HG.out hb)
  replace HB := Aside0.mk (below_step HB.out hb)
  have HGK := Aside0.mk (heap_alloc_new w10 (.cells #[.int .i64 ko, .int .i64 ka] 44))
  replace HB := Aside0.mk (below_alloc HB.out (.cells #[.int .i64 ko, .int .i64 ka] 44))
  have HQ := Aside0.mk (below_drew1 HB.out)
  obtain ⟨k0, k1, _, _⟩ := facts2 HGK.out
  clear hb
  go_wp2_with fail
  have hfb : (f == (0 : Int)) = false := by simpa using hf
  have hfc : (f != (0 : Int)) = true := by simpa using hf
  refine start_ (n := 15) (S := fun w' => w'.cell? ⟨w10.heap.size, 0, none⟩ = some (.int .i64 ko) ∧ w'.cell? ⟨w10.heap.size, 1, none⟩ = some (.int .i64 ka)) (ds := []) #[false, false, false, false, false, false, false, false, false, false, false, false, false, false, false] (by kernel_rfl) rfl rfl ⟨k0, k1⟩ (fun hHeld => ?_)
  refine with_tabW codeBack.tab11 codeBack.bits11 (fun HT_ HW_ => ?_)
  refine pure_ (i := 0) (N := some 84) (v := ?_) (a' := ?_) #[true, false, false, false, false, false, false, false, false, false, false, false, false, false, false] rfl rfl (any_of HT_.out (by kernel_rfl)) (fun _ _ _ h => h) (Or.inl ⟨by rfl, ?_⟩) ?_ ?_
  rotate_left
  · intro w'
    go_simp
    with_reducible rfl
  rotate_left
  · simp only [Act.put, List.setIfInBounds_toArray, List.set_cons_zero, List.set_cons_succ, i64_w, i32_w]
    rfl
  refine pure_ (i := 1) (N := some 85) (v := ?_) (a' := ?_) #[true, true, false, false, false, false, false, false, false, false, false, false, false, false, false] rfl rfl (any_of HT_.out (by kernel_rfl)) (fun _ _ _ h => h) (Or.inl ⟨by rfl, ?_⟩) ?_ ?_
  rotate_left
  · intro w'
    go_simp
    with_reducible rfl
  rotate_left
  · simp only [Act.put, List.setIfInBounds_toArray, List.set_cons_zero, List.set_cons_succ, i64_w, i32_w]
    rfl
  refine pure_ (i := 2) (N := some 86) (v := ?_) (a' := ?_) #[true, true, true, false, false, false, false, false, false, false, false, false, false, false, false] rfl rfl (any_of HT_.out (by kernel_rfl)) (fun _ _ _ h => h) (Or.inl ⟨by rfl, ?_⟩) ?_ ?_
  rotate_left
  · intro w'
    go_simp
    with_reducible rfl
  rotate_left
  · simp only [Act.put, List.setIfInBounds_toArray, List.set_cons_zero, List.set_cons_succ, i64_w, i32_w]
    rfl
  refine pure_ (i := 3) (N := some 87) (v := undef) (a' := ?_) #[true, true, true, true, false, false, false, false, false, false, false, false, false, false, false] rfl rfl (any_of HT_.out (by kernel_rfl)) (fun _ _ _ h => h) (Or.inr ⟨by rfl, rfl⟩) ?_ ?_
  rotate_left
  · simp only [Act.put, List.setIfInBounds_toArray, List.set_cons_zero, List.set_cons_succ, i64_w, i32_w]
    rfl
  refine pure_ (i := 4) (N := some 88) (v := undef) (a' := ?_) #[true, true, true, true, true, false, false, false, false, false, false, false, false, false, false] rfl rfl (any_of HT_.out (by kernel_rfl)) (fun _ _ _ h => h) (Or.inr ⟨by rfl, rfl⟩) ?_ ?_
  rotate_left
  · simp only [Act.put, List.setIfInBounds_toArray, List.set_cons_zero, List.set_cons_succ, i64_w, i32_w]
    rfl
  refine pure_ (i := 5) (N := some 89) (v := undef) (a' := ?_) #[true, true, true, true, true, true, false, false, false, false, false, false, false, false, false] rfl rfl (any_of HT_.out (by kernel_rfl)) (fun _ _ _ h => h) (Or.inr ⟨by rfl, rfl⟩) ?_ ?_
  rotate_left
  · simp only [Act.put, List.setIfInBounds_toArray, List.set_cons_zero, List.set_cons_succ, i64_w, i32_w]
    rfl
  refine pure_ (i := 6) (N := some 90) (v := undef) (a' := ?_) #[true, true, true, true, true, true, true, false, false, false, false, false, false, false, false] rfl rfl (any_of HT_.out (by kernel_rfl)) (fun _ _ _ h => h) (Or.inr ⟨by rfl, rfl⟩) ?_ ?_
  rotate_left
  · simp only [Act.put, List.setIfInBounds_toArray, List.set_cons_zero, List.set_cons_succ, i64_w, i32_w]
    rfl
  refine pure_ (i := 7) (N := some 91) (v := undef) (a' := ?_) #[true, true, true, true, true, true, true, true, false, false, false, false, false, false, false] rfl rfl (any_of HT_.out (by kernel_rfl)) (fun _ _ _ h => h) (Or.inr ⟨by rfl, rfl⟩) ?_ ?_
  rotate_left
  · simp only [Act.put, List.setIfInBounds_toArray, List.set_cons_zero, List.set_cons_succ, i64_w, i32_w]
    rfl
  refine pure_ (i := 8) (N := some 92) (v := undef) (a' := ?_) #[true, true, true, true, true, true, true, true, true, false, false, false, false, false, false] rfl rfl (any_of HT_.out (by kernel_rfl)) (fun _ _ _ h => h) (Or.inr ⟨by rfl, rfl⟩) ?_ ?_
  rotate_left
  · simp only [Act.put, List.setIfInBounds_toArray, List.set_cons_zero, List.set_cons_succ, i64_w, i32_w]
    rfl
  refine pure_ (i := 9) (N := some 93) (v := undef) (a' := ?_) #[true, true, true, true, true, true, true, true, true, true, false, false, false, false, false] rfl rfl (any_of HT_.out (by kernel_rfl)) (fun _ _ _ h => h) (Or.inr ⟨by rfl, rfl⟩) ?_ ?_
  rotate_left
  · simp only [Act.put, List.setIfInBounds_toArray, List.set_cons_zero, List.set_cons_succ, i64_w, i32_w]
    rfl
  refine pure_ (i := 10) (N := some 94) (v := undef) (a' := ?_) #[true, true, true, true, true, true, true, true, true, true, true, false, false, false, false] rfl rfl (any_of HT_.out (by kernel_rfl)) (fun _ _ _ h => h) (Or.inr ⟨by rfl, rfl⟩) ?_ ?_
  rotate_left
  · simp only [Act.put, List.setIfInBounds_toArray, List.set_cons_zero, List.set_cons_succ, i64_w, i32_w]
    rfl
  refine pure_ (i := 11) (N := some 95) (v := undef) (a' := ?_) #[true, true, true, true, true, true, true, true, true, true, true, true, false, false, false] rfl rfl (any_of HT_.out (by kernel_rfl)) (fun _ _ _ h => h) (Or.inr ⟨by rfl, rfl⟩) ?_ ?_
  rotate_left
  · simp only [Act.put, List.setIfInBounds_toArray, List.set_cons_zero, List.set_cons_succ, i64_w, i32_w]
    rfl
  refine pure_ (i := 12) (N := some 96) (v := undef) (a' := ?_) #[true, true, true, true, true, true, true, true, true, true, true, true, true, false, false] rfl rfl (any_of HT_.out (by kernel_rfl)) (fun _ _ _ h => h) (Or.inr ⟨by rfl, rfl⟩) ?_ ?_
  rotate_left
  · simp only [Act.put, List.setIfInBounds_toArray, List.set_cons_zero, List.set_cons_succ, i64_w, i32_w]
    rfl
  refine pure_ (i := 13) (N := some 97) (v := ?_) (a' := ?_) #[true, true, true, true, true, true, true, true, true, true, true, true, true, true, false] rfl rfl (any_of HT_.out (by kernel_rfl)) (fun _ _ _ h => h) (Or.inl ⟨by rfl, ?_⟩) ?_ ?_
  rotate_left
  · intro w'
    go_simp
    with_reducible rfl
  rotate_left
  · simp only [Act.put, List.setIfInBounds_toArray, List.set_cons_zero, List.set_cons_succ, i64_w, i32_w]
    rfl
  refine pure_ (i := 14) (N := some 4) (v := ?_) (a' := ?_) #[true, true, true, true, true, true, true, true, true, true, true, true, true, true, true] rfl rfl (any_of HT_.out (by kernel_rfl)) (fun _ _ _ h => h) (Or.inl ⟨by rfl, ?_⟩) ?_ ?_
  rotate_left
  · intro w'
    go_simp
    with_reducible rfl
  rotate_left
  · simp only [Act.put, List.setIfInBounds_toArray, List.set_cons_zero, List.set_cons_succ, i64_w, i32_w]
    rfl
  refine done_ (done_of HT_.out (by kernel_rfl)) ?_
  try go_wp2
  go_ret
  exact ⟨rfl, HQ.out⟩
set_option maxHeartbeats 16000000 in
set_option maxRecDepth 100000 in
theorem codeBack.got (op a : Int) (A1 : Option Addr) (c1 : Nat) (l1 r pa r2 cut : List Int) (U S U1 S1 : Int × Int × Int) (q1 q2 ko ka : Int) (kk : Nat) (m : Nat) (w : World) (ht : Lib.TabIs Tryd.prog w "strings.asciiSpace" .u8 Lib.asciiSpaceTab) (hr1 : Kd.C (Kd.int .u8) w A1 l1.length l1) (hc1 : l1.length ≤ c1) (hm : mayOf op a = true) (hn : (l1.length : Int) ≤ 1000) (hbt : ∀ x ∈ l1, 0 ≤ x ∧ x ≤ 255) (hp : PutIs kk op a r) (hrl : r.length ≤ 100) (hpa : r ++ l1 = pa) (hpb : ∀ x ∈ pa, 0 ≤ x ∧ x ≤ 255) (hg1 : leb_Get.f kk pa.tail = some U) (hg2 : leb_GetSigned.f kk pa.tail = some S) (hg : codeGet pa U S = (op, a, (r.length : Int), 0))
    (hi1 : slices_Index_string_string.f 60 opL (nameOf op) = some q1) (hi2 : slices_Index_string_string.f 60 inL (nameOf op) = some q2) (hbn : byName q1 q2 = (op, true)) (hlen : (((r.length : Int) == 1) == operandOp op) = false)
    (hk1 : leb_Get.f kk l1.tail = some U1) (hk2 : leb_GetSigned.f kk l1.tail = some S1) (hk : codeGet l1 U1 S1 = (ko, ka, (m : Int), 0)) (hmk : mayOf ko ka = true) (hpk : PutIs kk ko ka r2) (hml : m ≤ l1.length) (hcut : l1.take m = cut) (hcb : louverkit_Bytes.f kk r2 cut = some true) :
    Calls Tryd.prog 10 #[.agg #[.int .i64 op, .int .i64 a], .slice A1 l1.length c1] w fun e w' => e = .returned (.bool true) ∧ Below w.heap.size w w' := by
  have HT := Aside0.mk ht
  have HR1 := Aside0.mk hr1
  have HC1 := Aside0.mk hc1
  clear ht hr1 hc1
  have HG := Aside0.mk (heap_alloc_new w (.cells #[.int .i64 op, .int .i64 a] 44))
  have HB := Aside0.mk (below_alloc (Below.refl w.heap.size w) (.cells #[.int .i64 op, .int .i64 a] 44))
  have Hhm := Aside0.mk hm
  have Hhbt := Aside0.mk hbt
  have Hhp := Aside0.mk hp
  have Hhpa := Aside0.mk hpa
  have Hhpb := Aside0.mk hpb
  have Hhg1 := Aside0.mk hg1
  have Hhg2 := Aside0.mk hg2
  have Hhg := Aside0.mk hg
  have Hhi1 := Aside0.mk hi1
  have Hhi2 := Aside0.mk hi2
  have Hhbn := Aside0.mk hbn
  have Hhlen := Aside0.mk hlen
  have Hhk1 := Aside0.mk hk1
  have Hhk2 := Aside0.mk hk2
  have Hhk := Aside0.mk hk
  have Hhmk := Aside0.mk hmk
  have Hhpk := Aside0.mk hpk
  have Hhcb := Aside0.mk hcb
  have hn' : ¬ (1000 < (l1.length : Int)) := by omega
  have HL := Aside0.mk hrl
  have HN := Aside0.mk hn
  clear hm hbt hp hpa hpb hg1 hg2 hg hi1 hi2 hbn hlen hk1 hk2 hk hmk hpk hcb hrl hn
  obtain ⟨hcut1, hcutR, hcutL⟩ := cut_take_int (P := Tryd.prog) (k := .u8) 27 5 Tryd.underlying27 info5 A1 c1 l1 cut m hml HC1.out hcut
  have HCR := Aside0.mk hcutR
  have HCL := Aside0.mk hcutL
  clear hcutR hcutL hcut hml
  go_enter Tryd.func10, Tryd.ntmps10
  go_wp2_with fail
  refine (code_awake.calls _ (tab_below HT.out HB.out)).mono ?_
  rintro e w9 ⟨rfl, hb⟩
  replace HG := Aside0.mk (blk_below HG.out hb)
  replace HB := Aside0.mk (below_step HB.out hb)
  obtain ⟨b0, b1, _, _⟩ := facts2 HG.out
  clear hb
  go_wp2_with fail
  refine (code_Put.callsC kk op a r _ (tab_below HT.out HB.out) Hhp.out.1 Hhp.out.2.1 Hhp.out.2.2.1 Hhp.out.2.2.2).mono ?_
  rintro e w2 ⟨v, rfl, hC, hb⟩
  replace HG := Aside0.mk (blk_below HG.out hb)
  replace HB := Aside0.mk (below_step HB.out hb)
  obtain ⟨A2, rfl, hA2⟩ := hC.reads
  clear hA2 hC b0 b1
  obtain ⟨b0, b1, _, _⟩ := facts2 HG.out
  clear hb
  go_wp2_with fail
  refine (code_May.calls op a _ (tab_below HT.out HB.out)).mono ?_
  rintro e w3 ⟨rfl, hb⟩
  rw [Hhm.out]
  replace HG := Aside0.mk (blk_below HG.out hb)
  replace HB := Aside0.mk (below_step HB.out hb)
  clear b0 b1
  obtain ⟨b0, b1, _, _⟩ := facts2 HG.out
  clear hb
  go_wp2_with fail
  refine (code_Put.callsC kk op a r _ (tab_below HT.out HB.out) Hhp.out.1 Hhp.out.2.1 Hhp.out.2.2.1 Hhp.out.2.2.2).mono ?_
  rintro e w4 ⟨v, rfl, hC, hb⟩
  replace HG := Aside0.mk (blk_below HG.out hb)
  replace HB := Aside0.mk (below_step HB.out hb)
  obtain ⟨A3, rfl, hA3⟩ := hC.reads
  have HA3 := Aside0.mk hA3
  clear hA3 hC b0 b1
  obtain ⟨b0, b1, _, _⟩ := facts2 HG.out
  clear hb
  go_wp2_with (first | ((with_reducible refine gate_builtin (b := .append) (xs := #[.tmp 32, .tmp 33]) rfl ?_); at_builtin; refine append_full rfl (.tmp 32) (.tmp 33) 27 5 1 rfl Tryd.underlying27 info5 (by decide) r l1 pa Hhpa.out A3 A1 l1.length c1 rfl rfl HA3.out (Kd.C_below HR1.out HB.out) (by have := HL.out; have := HN.out; omega) ?_; rintro v1 w9 ⟨B3, cB3, rfl, hcB, hCB⟩ hb; replace HG := Aside0.mk (blk_below HG.out hb); replace HB := Aside0.mk (below_step HB.out hb); clear hb; have HP3 := Aside0.mk hCB; have HC3 := Aside0.mk hcB; clear hCB hcB; clear HA3))
  refine (code_Get.calls kk B3 cB3 pa U S _ (tab_below HT.out HB.out) HP3.out HC3.out Hhpb.out Hhg1.out Hhg2.out).mono ?_
  rintro e w5 ⟨rfl, hb⟩
  rw [Hhg.out]
  replace HG := Aside0.mk (blk_below HG.out hb)
  replace HB := Aside0.mk (below_step HB.out hb)
  clear b0 b1
  have HGJ := Aside0.mk (heap_alloc_new w5 (.cells #[.int .i64 op, .int .i64 a] 44))
  replace HG := Aside0.mk (blk_alloc HG.out (.cells #[.int .i64 op, .int .i64 a] 44))
  replace HB := Aside0.mk (below_alloc HB.out (.cells #[.int .i64 op, .int .i64 a] 44))
  obtain ⟨b0, b1, _, _⟩ := facts2 HG.out
  clear hb
  go_wp2_with fail
  refine (code_Name.calls op _ (tab_below HT.out HB.out)).mono ?_
  rintro e w6 ⟨rfl, hb⟩
  replace HG := Aside0.mk (blk_below HG.out hb)
  replace HB := Aside0.mk (below_step HB.out hb)
  replace HGJ := Aside0.mk (blk_below HGJ.out hb)
  clear hb
  go_wp2_with fail
  refine (code_ByName.calls 60 (nameOf op) q1 q2 _ (tab_below HT.out HB.out) Hhi1.out Hhi2.out).mono ?_
  rintro e w7 ⟨rfl, hb⟩
  rw [Hhbn.out]
  replace HG := Aside0.mk (blk_below HG.out hb)
  replace HB := Aside0.mk (below_step HB.out hb)
  replace HGJ := Aside0.mk (blk_below HGJ.out hb)
  clear b0 b1
  obtain ⟨b0, b1, _, _⟩ := facts2 HG.out
  obtain ⟨d0, d1, _, _⟩ := facts2 HGJ.out
  have heq : ∀ W : World, (Op.equalIn 10000 44 (.agg #[.int .i64 op, .int .i64 a]) (.agg #[.int .i64 op, .int .i64 a])).run Tryd.prog W = .ok true W := fun W => by
    have := eqA44 9998 W op op a a
    simpa using this
  clear hb
  go_wp2_with fail
  refine (code_Operand.calls 2 op (operandOp op) _ (Operand_f 0 op)).mono ?_
  rintro e w8 ⟨rfl, hd⟩
  have hb := hd.below
  replace HG := Aside0.mk (blk_below HG.out hb)
  replace HB := Aside0.mk (below_step HB.out hb)
  have hlen := Hhlen.out
  clear hb
  go_wp2_with fail
  refine (code_Get.calls kk A1 c1 l1 U1 S1 _ (tab_below HT.out HB.out) (Kd.C_below HR1.out HB.out) HC1.out Hhbt.out Hhk1.out Hhk2.out).mono ?_
  rintro e w10 ⟨rfl, hb⟩
  rw [Hhk.out]
  replace HG := Aside0.mk (blk_below HG.out hb)
  replace HB := Aside0.mk (below_step HB.out hb)
  have HGK := Aside0.mk (heap_alloc_new w10 (.cells #[.int .i64 ko, .int .i64 ka] 44))
  replace HB := Aside0.mk (below_alloc HB.out (.cells #[.int .i64 ko, .int .i64 ka] 44))
  have HQ := Aside0.mk (below_drew1 HB.out)
  obtain ⟨k0, k1, _, _⟩ := facts2 HGK.out
  clear hb
  go_wp2_with fail
  obtain ⟨hkk1, hkk2, hkk3, hkk4⟩ := Hhpk.out
  have HK1 := Aside0.mk hkk1
  have HK2 := Aside0.mk hkk2
  have HK3 := Aside0.mk hkk3
  have HK4 := Aside0.mk hkk4
  clear hkk1 hkk2 hkk3 hkk4
  refine start_ (n := 15) (S := fun w' => w'.cell? ⟨w10.heap.size, 0, none⟩ = some (.int .i64 ko) ∧ w'.cell? ⟨w10.heap.size, 1, none⟩ = some (.int .i64 ka)) (ds := []) #[false, false, false, false, false, false, false, false, false, false, false, false, false, false, false] (by kernel_rfl) rfl rfl ⟨k0, k1⟩ (fun hHeld => ?_)
  refine with_tabW codeBack.tab11 codeBack.bits11 (fun HT_ HW_ => ?_)
  refine pure_ (i := 0) (N := some 84) (v := ?_) (a' := ?_) #[true, false, false, false, false, false, false, false, false, false, false, false, false, false, false] rfl rfl (any_of HT_.out (by kernel_rfl)) (fun _ _ _ h => h) (Or.inl ⟨by rfl, ?_⟩) ?_ ?_
  rotate_left
  · intro w'
    go_simp
    with_reducible rfl
  rotate_left
  · simp only [Act.put, List.setIfInBounds_toArray, List.set_cons_zero, List.set_cons_succ, i64_w, i32_w]
    rfl
  refine pure_ (i := 1) (N := some 85) (v := ?_) (a' := ?_) #[true, true, false, false, false, false, false, false, false, false, false, false, false, false, false] rfl rfl (any_of HT_.out (by kernel_rfl)) (fun _ _ _ h => h) (Or.inl ⟨by rfl, ?_⟩) ?_ ?_
  rotate_left
  · intro w'
    go_simp
    with_reducible rfl
  rotate_left
  · simp only [Act.put, List.setIfInBounds_toArray, List.set_cons_zero, List.set_cons_succ, i64_w, i32_w]
    rfl
  refine pure_ (i := 2) (N := some 86) (v := ?_) (a' := ?_) #[true, true, true, false, false, false, false, false, false, false, false, false, false, false, false] rfl rfl (any_of HT_.out (by kernel_rfl)) (fun _ _ _ h => h) (Or.inl ⟨by rfl, ?_⟩) ?_ ?_
  rotate_left
  · intro w'
    go_simp
    with_reducible rfl
  rotate_left
  · simp only [Act.put, List.setIfInBounds_toArray, List.set_cons_zero, List.set_cons_succ, i64_w, i32_w]
    rfl
  refine take_ (i := 3) (N := some 87) (v := ?_) (a' := ?_) #[true, true, true, true, false, false, false, false, false, false, false, false, false, false, false] rfl rfl (take_ofW HT_.out HW_.out (by kernel_rfl)) (fun _ _ _ h => h) (Or.inl ⟨by rfl, ?_⟩) hHeld ?_ ?_
  rotate_left
  · rintro w' ⟨s0, s1⟩
    go_simp
    with_reducible rfl
  rotate_left
  · simp only [Act.put, List.setIfInBounds_toArray, List.set_cons_zero, List.set_cons_succ, i64_w, i32_w]
    rfl
  refine one_ (i := 4) (N := some 88) #[true, true, true, true, true, false, false, false, false, false, false, false, false, false, false] rfl rfl (one_of HT_.out (by kernel_rfl)) (by decide) (fun K hK => ?_)
  refine goes_ Tryd.func19 (by kernel_rfl) rfl #[.agg #[.int .i64 ko, .int .i64 ka]] (by rfl) rfl rfl (by (try simp only [List.map_toArray, List.map_cons, List.map_nil]); first | done | rfl) ?_
  with_reducible refine (code_May.calls ko ka _ (tab_below HT.out HQ.out)).mono ?_
  rintro e v19 ⟨rfl, hb⟩
  rw [Hhmk.out]
  replace HQ := Aside0.mk (below_step HQ.out hb)
  refine ⟨_, rfl, ?_⟩
  refine hK.out _ _ ⟨(pw_cell_below hb hHeld.1), (pw_cell_below hb hHeld.2)⟩ (fun hHeld => ?_)
  clear hK K
  refine norm_ (a' := ?_) ?_ ?_
  rotate_left
  · show Act.put _ (some 88) _ = _
    simp only [Act.put, List.setIfInBounds_toArray, List.set_cons_zero, List.set_cons_succ, i64_w, i32_w]
    rfl
  refine pure_ (i := 5) (N := some 89) (v := ?_) (a' := ?_) #[true, true, true, true, true, true, false, false, false, false, false, false, false, false, false] rfl rfl (any_of HT_.out (by kernel_rfl)) (fun _ _ _ h => h) (Or.inl ⟨by rfl, ?_⟩) ?_ ?_
  rotate_left
  · intro w'
    go_simp
    with_reducible rfl
  rotate_left
  · simp only [Act.put, List.setIfInBounds_toArray, List.set_cons_zero, List.set_cons_succ, i64_w, i32_w]
    rfl
  refine pure_ (i := 8) (N := some 92) (v := ?_) (a' := ?_) #[true, true, true, true, true, true, false, false, true, false, false, false, false, false, false] rfl rfl (any_of HT_.out (by kernel_rfl)) (fun _ _ _ h => h) (Or.inl ⟨by rfl, ?_⟩) ?_ ?_
  rotate_left
  · intro w'
    go_simp
    with_reducible rfl
  rotate_left
  · simp only [Act.put, List.setIfInBounds_toArray, List.set_cons_zero, List.set_cons_succ, i64_w, i32_w]
    rfl
  refine pure_ (i := 9) (N := some 93) (v := ?_) (a' := ?_) #[true, true, true, true, true, true, false, false, true, true, false, false, false, false, false] rfl rfl (any_of HT_.out (by kernel_rfl)) (fun _ _ _ h => h) (Or.inl ⟨by rfl, ?_⟩) ?_ ?_
  rotate_left
  · intro w'
    go_simp
    with_reducible rfl
  rotate_left
  · simp only [Act.put, List.setIfInBounds_toArray, List.set_cons_zero, List.set_cons_succ, i64_w, i32_w]
    rfl
  refine pure_ (i := 10) (N := some 94) (v := ?_) (a' := ?_) #[true, true, true, true, true, true, false, false, true, true, true, false, false, false, false] rfl rfl (any_of HT_.out (by kernel_rfl)) (fun _ _ _ h => h) (Or.inl ⟨by rfl, ?_⟩) ?_ ?_
  rotate_left
  · intro w'
    go_simp
    with_reducible rfl
  rotate_left
  · simp only [Act.put, List.setIfInBounds_toArray, List.set_cons_zero, List.set_cons_succ, i64_w, i32_w]
    rfl
  refine take_ (i := 6) (N := some 90) (v := ?_) (a' := ?_) #[true, true, true, true, true, true, true, false, true, true, true, false, false, false, false] rfl rfl (take_ofW HT_.out HW_.out (by kernel_rfl)) (fun _ _ _ h => h) (Or.inl ⟨by rfl, ?_⟩) hHeld ?_ ?_
  rotate_left
  · rintro w' ⟨s0, s1⟩
    go_simp
    with_reducible rfl
  rotate_left
  · simp only [Act.put, List.setIfInBounds_toArray, List.set_cons_zero, List.set_cons_succ, i64_w, i32_w]
    rfl
  refine one_ (i := 7) (N := some 91) #[true, true, true, true, true, true, true, true, true, true, true, false, false, false, false] rfl rfl (one_of HT_.out (by kernel_rfl)) (by decide) (fun K hK => ?_)
  refine goes_ Tryd.func21 (by kernel_rfl) rfl #[.agg #[.int .i64 ko, .int .i64 ka]] (by rfl) rfl rfl (by (try simp only [List.map_toArray, List.map_cons, List.map_nil]); first | done | rfl) ?_
  with_reducible refine (code_Put.callsC kk ko ka r2 _ (tab_below HT.out HQ.out) HK1.out HK2.out HK3.out HK4.out).mono ?_
  rintro e v21 ⟨v, rfl, hC, hb⟩
  obtain ⟨A7, rfl, hA7⟩ := hC.reads
  have HA7 := Aside0.mk hA7
  replace HQ := Aside0.mk (below_step HQ.out hb)
  refine ⟨_, rfl, ?_⟩
  refine hK.out _ _ ⟨(pw_cell_below hb hHeld.1), (pw_cell_below hb hHeld.2)⟩ (fun hHeld => ?_)
  clear hK K
  refine norm_ (a' := ?_) ?_ ?_
  rotate_left
  · show Act.put _ (some 91) _ = _
    simp only [Act.put, List.setIfInBounds_toArray, List.set_cons_zero, List.set_cons_succ, i64_w, i32_w]
    rfl
  refine one_ (i := 11) (N := some 95) #[true, true, true, true, true, true, true, true, true, true, true, true, false, false, false] rfl rfl (one_of HT_.out (by kernel_rfl)) (by decide) (fun K hK => ?_)
  refine goes_ Tryd.func25 (by kernel_rfl) rfl #[.slice A7 r2.length r2.length, .slice A1 cut.length c1] (by rfl) rfl rfl (by (try simp only [List.map_toArray, List.map_cons, List.map_nil]); first | done | rfl) ?_
  with_reducible refine (louverkit_Bytes.calls kk A7 _ r2 A1 c1 cut true _ HA7.out (Nat.le_refl _) (HCR.out _ (Kd.C_below HR1.out HQ.out)) HCL.out Hhcb.out).mono ?_
  rintro e v25 ⟨rfl, hd⟩
  obtain ⟨nd, rfl⟩ := hd
  have hb := pw_below_drewN (Below.refl v21.heap.size v21) nd
  replace HQ := Aside0.mk (below_step HQ.out hb)
  refine ⟨_, rfl, ?_⟩
  refine hK.out _ _ ⟨(pw_cell_below hb hHeld.1), (pw_cell_below hb hHeld.2)⟩ (fun hHeld => ?_)
  clear hK K
  refine norm_ (a' := ?_) ?_ ?_
  rotate_left
  · show Act.put _ (some 95) _ = _
    simp only [Act.put, List.setIfInBounds_toArray, List.set_cons_zero, List.set_cons_succ, i64_w, i32_w]
    rfl
  refine pure_ (i := 12) (N := some 96) (v := ?_) (a' := ?_) #[true, true, true, true, true, true, true, true, true, true, true, true, true, false, false] rfl rfl (any_of HT_.out (by kernel_rfl)) (fun _ _ _ h => h) (Or.inl ⟨by rfl, ?_⟩) ?_ ?_
  rotate_left
  · intro w'
    go_simp
    with_reducible rfl
  rotate_left
  · simp only [Act.put, List.setIfInBounds_toArray, List.set_cons_zero, List.set_cons_succ, i64_w, i32_w]
    rfl
  refine pure_ (i := 13) (N := some 97) (v := ?_) (a' := ?_) #[true, true, true, true, true, true, true, true, true, true, true, true, true, true, false] rfl rfl (any_of HT_.out (by kernel_rfl)) (fun _ _ _ h => h) (Or.inl ⟨by rfl, ?_⟩) ?_ ?_
  rotate_left
  · intro w'
    go_simp
    with_reducible rfl
  rotate_left
  · simp only [Act.put, List.setIfInBounds_toArray, List.set_cons_zero, List.set_cons_succ, i64_w, i32_w]
    rfl
  refine pure_ (i := 14) (N := some 4) (v := ?_) (a' := ?_) #[true, true, true, true, true, true, true, true, true, true, true, true, true, true, true] rfl rfl (any_of HT_.out (by kernel_rfl)) (fun _ _ _ h => h) (Or.inl ⟨by rfl, ?_⟩) ?_ ?_
  rotate_left
  · intro w'
    go_simp
    with_reducible rfl
  rotate_left
  · simp only [Act.put, List.setIfInBounds_toArray, List.set_cons_zero, List.set_cons_succ, i64_w, i32_w]
    rfl
  refine done_ (done_of HT_.out (by kernel_rfl)) ?_
  try go_wp2
  go_ret
  exact ⟨rfl, HQ.out⟩
end Go.Proofs.YtgpdaihfjnihhaaDoor.PJ
