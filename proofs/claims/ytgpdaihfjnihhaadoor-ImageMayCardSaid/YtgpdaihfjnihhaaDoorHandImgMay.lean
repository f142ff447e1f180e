/- The law ImageMay: by hand, from its row's form. -/
import Derived.Test.YtgpdaihfjnihhaaDoorPJx0
import Derived.Test.YtgpdaihfjnihhaaDoorHandImgBack
namespace Go.Proofs.YtgpdaihfjnihhaaDoor.PJ
open Go.RowKit Go.Proofs.YtgpdaihfjnihhaaDoorW.PrintWords Go.Proofs.YtgpdaihfjnihhaaDoorW.PrintLast Go.Proofs.YtgpdaihfjnihhaaDoorW.PrintMore Go.Proofs.YtgpdaihfjnihhaaDoor.LebPure Go.Proofs.YtgpdaihfjnihhaaDoor.LebForm Go.Proofs.YtgpdaihfjnihhaaDoor.B64
set_option linter.unusedSimpArgs false
set_option linter.unusedVariables false
theorem any_step {α : Type} (bad : α → Bool) (l : List α) (i : Nat) (hi : i < l.length) : (l.take (i + 1)).any bad = ((l.take i).any bad || bad l[i]) := by
  have := any_take bad l i hi false
  simpa using this
theorem form_one (n : Nat) : 1 ≤ (form n).length := by
  rw [form_length]
  unfold ulen
  split <;> omega
theorem full_long (gs : List Int) (arr : List S38) (chs : List Int) (fns : List S41) : 8 ≤ (fullM gs arr chs fns).length := by
  unfold fullM cMod cLabels cArrs cFns cNum
  simp only [List.flatten_append, List.flatten_cons, List.length_append]
  have h1 := form_one ((gs.length : Int) % 18446744073709551616).toNat
  have h2 := form_one ((arr.length : Int) % 18446744073709551616).toNat
  have h3 := form_one ((chs.length : Int) % 18446744073709551616).toNat
  have h4 := form_one ((fns.length : Int) % 18446744073709551616).toNat
  have h5 : magicL.length = 4 := rfl
  omega
theorem writeM_cases (gs : List Int) (arr : List S38) (chs : List Int) (fns : List S41) (h : badM arr fns = false) : (∃ b, writeM gs arr chs fns = (b, 0) ∧ 16 ≤ b.length ∧ b.length ≤ 262144) ∨ writeM gs arr chs fns = ([], 3) := by
  by_cases hl : 262144 < (fullM gs arr chs fns).length + 8
  · right
    unfold writeM
    rw [h, if_neg (by decide), if_pos hl]
  · left
    refine ⟨fullM gs arr chs fns ++ eightL (sumL (fullM gs arr chs fns)), ?_, ?_, ?_⟩
    · unfold writeM
      rw [h, if_neg (by decide), if_neg hl]
    · rw [List.length_append, eightL_length]
      have : 8 ≤ (fullM gs arr chs fns).length := full_long gs arr chs fns
      omega
    · rw [List.length_append, eightL_length]
      omega
set_option maxHeartbeats 16000000 in
set_option maxRecDepth 100000 in
theorem imageMay.calls (A0 A1 A2 A3 : Option Addr) (c0 c1 c2 c3 : Nat) (l0 : List Int) (l1 : List S38) (l2 : List Int) (l3 : List S41) (w : World) (ht : Lib.TabIs Tryd.prog w "strings.asciiSpace" .u8 Lib.asciiSpaceTab)
    (h0 : Kd.C (Kd.int .u64) w A0 l0.length l0) (k0 : l0.length ≤ c0) (h1 : Kd.C k38 w A1 l1.length l1) (k1 : l1.length ≤ c1) (h2 : Kd.C (Kd.int .u64) w A2 l2.length l2) (k2 : l2.length ≤ c2) (h3 : Kd.C k41 w A3 l3.length l3) (k3 : l3.length ≤ c3) (hw : wfW l0 l1 l2 l3) :
    Calls Tryd.prog 4 #[.agg #[.slice A0 l0.length c0, .slice A1 l1.length c1, .slice A2 l2.length c2, .slice A3 l3.length c3]] w fun e w' => e = .returned (.bool true) ∧ Below w.heap.size w w' := by
  have hbA := below_alloc (Below.refl w.heap.size w) (.cells #[.slice A0 l0.length c0, .slice A1 l1.length c1, .slice A2 l2.length c2, .slice A3 l3.length c3] 26)
  have HB0 := Aside0.mk hbA
  have HG := Aside0.mk (heap_alloc_new w (.cells #[.slice A0 l0.length c0, .slice A1 l1.length c1, .slice A2 l2.length c2, .slice A3 l3.length c3] 26))
  have HT0 := Aside0.mk (tab_below ht hbA)
  have HL := Aside0.mk (And.intro (Kd.C_below h0 hbA) (And.intro (Kd.C_below h1 hbA) (And.intro (Kd.C_below h2 hbA) (Kd.C_below h3 hbA))))
  have HK := Aside0.mk (And.intro k1 k3)
  have HWC := Aside0.mk (image_Write.calls A0 A1 A2 A3 c0 c1 c2 c3 l0 l1 l2 l3 (w.alloc (.cells #[.slice A0 l0.length c0, .slice A1 l1.length c1, .slice A2 l2.length c2, .slice A3 l3.length c3] 26)) HT0.out HL.out.1 HL.out.2.1 HL.out.2.2.1 HL.out.2.2.2 hw)
  have HM1 := Aside0.mk (Kd.C_max h1)
  have HM3 := Aside0.mk (Kd.C_max h3)
  obtain ⟨⟨m0, m1, m2, m3⟩, _⟩ := facts4 HG.out
  clear ht h0 k0 h1 k1 h2 k2 h3 k3 hw hbA
  go_enter Tryd.func4, Tryd.ntmps4
  go_wp2_with fail
  refine HWC.out.mono ?_
  rintro e w1 ⟨v, rfl, hV, hb1⟩
  obtain ⟨B0, bc, rfl, hVR⟩ := hV
  have HBB := Aside0.mk (below_step HB0.out hb1)
  have HTB := Aside0.mk (tab_below HT0.out hb1)
  have HG1 := Aside0.mk (blk_below HG.out hb1)
  have HA := Aside0.mk (Kd.C_below HL.out.2.1 hb1)
  have HF := Aside0.mk (Kd.C_below HL.out.2.2.2 hb1)
  clear hVR hb1 HWC HT0 HB0 HG HL m0 m1 m2 m3
  obtain ⟨⟨bs, er⟩, hbm⟩ : ∃ p, writeM l0 l1 l2 l3 = p := ⟨_, rfl⟩
  have HBM := Aside0.mk hbm
  simp only [hbm]
  clear hbm
  obtain ⟨⟨m0, m1, m2, m3⟩, _⟩ := facts4 HG1.out
  go_wp2
  go_loopg [5, 6] (l1.length + 1) (fun kq v5 v6 w' => ∃ (i : Nat), v5 = .bool ((l1.take i).any badA) ∧ v6 = .int .i64 (i : Int) ∧ Aside0 (i + kq = l1.length + 1) ∧ Aside0 (1 ≤ kq) ∧ w1 = w')
  case atStart => exact ⟨0, rfl, rfl, ⟨by omega⟩, ⟨by omega⟩, rfl⟩
  case round =>
    obtain ⟨i, rfl, rfl, HI, HI1, rfl⟩ := hrel
    cases gk with
    | zero => exact absurd HI1.out (by omega)
    | succ k1 =>
      by_cases ci : i < l1.length
      · have cib : decide ((i : Int) < (l1.length : Int)) = true := decide_eq_true (by omega)
        have hii : (i : Int) < (l1.length : Int) := by omega
        have hw2 : wrap64 ((i : Int) + 1) = (i : Int) + 1 := by have := HM1.out; unfold wrap64; omega
        have HY := Aside0.mk (any_step badA l1 i ci)
        obtain ⟨ad, ead, hc0, hc1⟩ := at_T38 HA.out (i : Int) (by omega) hii
        rw [show rd_T38 l1 (i : Int) = l1[i] by simp [rd_T38, List.getD_eq_getElem?_getD, ci]] at hc0 hc1
        rw [Int.toNat_natCast] at hc0 hc1
        subst ead
        obtain ⟨x, hx⟩ : ∃ x, l1[i] = x := ⟨_, rfl⟩
        rw [hx] at HY hc0 hc1
        clear hx
        obtain ⟨β, hβ⟩ : ∃ β, (l1.take i).any badA = β := ⟨_, rfl⟩
        rw [hβ] at HY ⊢
        cases β with
        | true =>
          go_wp2
          go_roundg k1
          case measure => omega
          case rel => exact ⟨i + 1, by rw [HY.out]; rfl, by rw [hw2]; rfl, ⟨by have := HI.out; omega⟩, ⟨by have := HI.out; omega⟩, rfl⟩
        | false =>
          go_wp2
          go_roundg k1
          case measure => omega
          case rel => exact ⟨i + 1, by rw [HY.out]; rfl, by rw [hw2]; rfl, ⟨by have := HI.out; omega⟩, ⟨by have := HI.out; omega⟩, rfl⟩
      · have cib : decide ((i : Int) < (l1.length : Int)) = false := decide_eq_false (by omega)
        have hti : (l1.take i).any badA = l1.any badA := by rw [List.take_of_length_le (by omega)]
        rw [hti]
        go_wp2
        go_loopg [5, 7] (l3.length + 1) (fun kq v5 v7 w' => ∃ (i : Nat), v5 = .bool (l1.any badA || (l3.take i).any badF) ∧ v7 = .int .i64 (i : Int) ∧ Aside0 (i + kq = l3.length + 1) ∧ Aside0 (1 ≤ kq) ∧ Aside0 (Below w1.heap.size w1 w'))
        case atStart => exact ⟨0, by simp, rfl, ⟨by omega⟩, ⟨by omega⟩, ⟨Below.refl _ _⟩⟩
        case round =>
          obtain ⟨i2, rfl, rfl, HI2, HI3, HWB⟩ := hrel
          cases gk with
          | zero => exact absurd HI3.out (by omega)
          | succ k2 =>
            clear m0 m1 m2 m3
            obtain ⟨⟨m0, m1, m2, m3⟩, _⟩ := facts4 (blk_below HG1.out HWB.out)
            by_cases cf : i2 < l3.length
            · have cfb : decide ((i2 : Int) < (l3.length : Int)) = true := decide_eq_true (by omega)
              have hff : (i2 : Int) < (l3.length : Int) := by omega
              have hw3 : wrap64 ((i2 : Int) + 1) = (i2 : Int) + 1 := by have := HM3.out; unfold wrap64; omega
              have hy2 := any_step badF l3 i2 cf
              obtain ⟨ad3, X1, d1, X2, d2, X5, d5, ead3, hc0, hc1, hc2, hc3, hc4, hc5, p1, g1, p2, g2, p5, g5⟩ := at_T41 (Kd.C_below HF.out HWB.out) (i2 : Int) (by omega) hff
              rw [show rd_T41 l3 (i2 : Int) = l3[i2] by simp [rd_T41, List.getD_eq_getElem?_getD, cf]] at hc0 hc1 hc2 hc3 hc4 hc5 p1 g1 p2 g2 p5 g5
              rw [Int.toNat_natCast] at hc0 hc1 hc2 hc3 hc4 hc5
              subst ead3
              obtain ⟨x, hx⟩ : ∃ x, l3[i2] = x := ⟨_, rfl⟩
              rw [hx] at hy2 hc0 hc1 hc2 hc3 hc4 hc5 p1 g1 p2 g2 p5 g5
              have hbx := below_alloc (Below.refl wr.heap.size wr) (.cells #[.int .u64 x.f0, .slice X1 x.f1.length d1, .slice X2 x.f2.length d2, .int .i64 x.f3, .int .i64 x.f4, .slice X5 x.f5.length d5] 41)
              have hgx := heap_alloc_new wr (.cells #[.int .u64 x.f0, .slice X1 x.f1.length d1, .slice X2 x.f2.length d2, .int .i64 x.f3, .int .i64 x.f4, .slice X5 x.f5.length d5] 41)
              obtain ⟨wx, hwx⟩ : ∃ wx, wr.alloc (.cells #[.int .u64 x.f0, .slice X1 x.f1.length d1, .slice X2 x.f2.length d2, .int .i64 x.f3, .int .i64 x.f4, .slice X5 x.f5.length d5] 41) = wx := ⟨_, rfl⟩
              rw [hwx] at hbx hgx
              have HXB := Aside0.mk (below_step HWB.out hbx)
              have HXG := Aside0.mk hgx
              have HXT := Aside0.mk (tab_below HTB.out HXB.out)
              have HX5 := Aside0.mk (Kd.C_below g5 hbx)
              have HM5 := Aside0.mk (Kd.C_max g5)
              obtain ⟨⟨q0, q1, q2, q3, q4, q5⟩, r0, r1, r2, r3, r4, r5⟩ := facts6 hgx
              obtain ⟨β, hβ⟩ : ∃ β, (l1.any badA || (l3.take i2).any badF) = β := ⟨_, rfl⟩
              rw [hβ]
              have hfin : (l1.any badA || (l3.take (i2 + 1)).any badF) = (β || (decide (x.f3 < 0) || (decide (x.f4 < 0) || x.f5.any badI))) := by rw [hy2, ← Bool.or_assoc, hβ]; rfl
              clear hx hy2 hβ g1 g2 g5 p1 p2 p5 hbx hgx
              cases β with
              | true =>
                have HFIN := Aside0.mk (show (l1.any badA || (l3.take (i2 + 1)).any badF) = (true || x.f5.any badI) by rw [hfin]; rfl)
                clear hfin
                go_wp2
                go_loopg [5, 9] (x.f5.length + 1) (fun kq v5 v9 w' => ∃ (j : Nat), v5 = .bool (true || (x.f5.take j).any badI) ∧ v9 = .int .i64 (j : Int) ∧ Aside0 (j + kq = x.f5.length + 1) ∧ Aside0 (1 ≤ kq) ∧ Aside0 (Below wx.heap.size wx w'))
                case atStart => exact ⟨0, by simp, rfl, ⟨by omega⟩, ⟨by omega⟩, ⟨Below.refl _ _⟩⟩
                case round =>
                  obtain ⟨j, rfl, rfl, HJ, HJ1, HJB⟩ := hrel
                  cases gk with
                  | zero => exact absurd HJ1.out (by omega)
                  | succ k3 =>
                    have HJT := Aside0.mk (tab_below HXT.out HJB.out)
                    obtain ⟨⟨b0, b1, b2, b3, b4, b5⟩, _⟩ := facts6 (blk_below HXG.out HJB.out)
                    obtain ⟨γ, hγ⟩ : ∃ γ, (true || (x.f5.take j).any badI) = γ := ⟨_, rfl⟩
                    have HGA := Aside0.mk hγ
                    rw [hγ]
                    clear hγ
                    by_cases cj : j < x.f5.length
                    · have cjb : decide ((j : Int) < (x.f5.length : Int)) = true := decide_eq_true (by omega)
                      have hjj : (j : Int) < (x.f5.length : Int) := by omega
                      have hw2 : wrap64 ((j : Int) + 1) = (j : Int) + 1 := by have := HM5.out; unfold wrap64; omega
                      have HYJ := Aside0.mk (any_step badI x.f5 j cj)
                      obtain ⟨ad5, ead5, hd0, hd1⟩ := at_T44 (Kd.C_below HX5.out HJB.out) (j : Int) (by omega) hjj
                      rw [show rd_T44 x.f5 (j : Int) = x.f5[j] by simp [rd_T44, List.getD_eq_getElem?_getD, cj]] at hd0 hd1
                      rw [Int.toNat_natCast] at hd0 hd1
                      subst ead5
                      obtain ⟨y, hy⟩ : ∃ y, x.f5[j] = y := ⟨_, rfl⟩
                      rw [hy] at HYJ hd0 hd1
                      clear hy
                      cases γ with
                      | true =>
                        go_wp2
                        go_roundg k3
                        case measure => omega
                        case rel => exact ⟨j + 1, by rw [HYJ.out, ← Bool.or_assoc, HGA.out]; rfl, by rw [hw2]; rfl, ⟨by have := HJ.out; omega⟩, ⟨by have := HJ.out; omega⟩, HJB⟩
                      | false =>
                        go_wp2_with fail
                        refine (code_May.calls y.f0 y.f1 _ HJT.out).mono ?_
                        rintro e w9 ⟨rfl, hb9⟩
                        have HB9 := Aside0.mk (below_step HJB.out hb9)
                        clear hb9
                        go_wp2
                        go_roundg k3
                        case measure => omega
                        case rel => exact ⟨j + 1, by rw [HYJ.out, ← Bool.or_assoc, HGA.out]; rfl, by rw [hw2]; rfl, ⟨by have := HJ.out; omega⟩, ⟨by have := HJ.out; omega⟩, HB9⟩
                    · have cjb : decide ((j : Int) < (x.f5.length : Int)) = false := decide_eq_false (by omega)
                      have HE := Aside0.mk (show (l1.any badA || (l3.take (i2 + 1)).any badF) = γ by rw [HFIN.out, ← HGA.out, List.take_of_length_le (by omega)])
                      go_wp2
                      go_roundg k2
                      case measure => omega
                      case rel => exact ⟨i2 + 1, by rw [HE.out], by rw [hw3]; rfl, ⟨by have := HI2.out; omega⟩, ⟨by have := HI2.out; omega⟩, ⟨below_step HXB.out HJB.out⟩⟩
              | false =>
                by_cases hn3 : x.f3 < 0
                · have hn3b : decide (x.f3 < 0) = true := decide_eq_true hn3
                  have HFIN := Aside0.mk (show (l1.any badA || (l3.take (i2 + 1)).any badF) = (true || x.f5.any badI) by rw [hfin, hn3b]; rfl)
                  clear hfin
                  go_wp2
                  go_loopg [5, 9] (x.f5.length + 1) (fun kq v5 v9 w' => ∃ (j : Nat), v5 = .bool (true || (x.f5.take j).any badI) ∧ v9 = .int .i64 (j : Int) ∧ Aside0 (j + kq = x.f5.length + 1) ∧ Aside0 (1 ≤ kq) ∧ Aside0 (Below wx.heap.size wx w'))
                  case atStart => exact ⟨0, by simp, rfl, ⟨by omega⟩, ⟨by omega⟩, ⟨Below.refl _ _⟩⟩
                  case round =>
                    obtain ⟨j, rfl, rfl, HJ, HJ1, HJB⟩ := hrel
                    cases gk with
                    | zero => exact absurd HJ1.out (by omega)
                    | succ k3 =>
                      have HJT := Aside0.mk (tab_below HXT.out HJB.out)
                      obtain ⟨⟨b0, b1, b2, b3, b4, b5⟩, _⟩ := facts6 (blk_below HXG.out HJB.out)
                      obtain ⟨γ, hγ⟩ : ∃ γ, (true || (x.f5.take j).any badI) = γ := ⟨_, rfl⟩
                      have HGA := Aside0.mk hγ
                      rw [hγ]
                      clear hγ
                      by_cases cj : j < x.f5.length
                      · have cjb : decide ((j : Int) < (x.f5.length : Int)) = true := decide_eq_true (by omega)
                        have hjj : (j : Int) < (x.f5.length : Int) := by omega
                        have hw2 : wrap64 ((j : Int) + 1) = (j : Int) + 1 := by have := HM5.out; unfold wrap64; omega
                        have HYJ := Aside0.mk (any_step badI x.f5 j cj)
                        obtain ⟨ad5, ead5, hd0, hd1⟩ := at_T44 (Kd.C_below HX5.out HJB.out) (j : Int) (by omega) hjj
                        rw [show rd_T44 x.f5 (j : Int) = x.f5[j] by simp [rd_T44, List.getD_eq_getElem?_getD, cj]] at hd0 hd1
                        rw [Int.toNat_natCast] at hd0 hd1
                        subst ead5
                        obtain ⟨y, hy⟩ : ∃ y, x.f5[j] = y := ⟨_, rfl⟩
                        rw [hy] at HYJ hd0 hd1
                        clear hy
                        cases γ with
                        | true =>
                          go_wp2
                          go_roundg k3
                          case measure => omega
                          case rel => exact ⟨j + 1, by rw [HYJ.out, ← Bool.or_assoc, HGA.out]; rfl, by rw [hw2]; rfl, ⟨by have := HJ.out; omega⟩, ⟨by have := HJ.out; omega⟩, HJB⟩
                        | false =>
                          go_wp2_with fail
                          refine (code_May.calls y.f0 y.f1 _ HJT.out).mono ?_
                          rintro e w9 ⟨rfl, hb9⟩
                          have HB9 := Aside0.mk (below_step HJB.out hb9)
                          clear hb9
                          go_wp2
                          go_roundg k3
                          case measure => omega
                          case rel => exact ⟨j + 1, by rw [HYJ.out, ← Bool.or_assoc, HGA.out]; rfl, by rw [hw2]; rfl, ⟨by have := HJ.out; omega⟩, ⟨by have := HJ.out; omega⟩, HB9⟩
                      · have cjb : decide ((j : Int) < (x.f5.length : Int)) = false := decide_eq_false (by omega)
                        have HE := Aside0.mk (show (l1.any badA || (l3.take (i2 + 1)).any badF) = γ by rw [HFIN.out, ← HGA.out, List.take_of_length_le (by omega)])
                        go_wp2
                        go_roundg k2
                        case measure => omega
                        case rel => exact ⟨i2 + 1, by rw [HE.out], by rw [hw3]; rfl, ⟨by have := HI2.out; omega⟩, ⟨by have := HI2.out; omega⟩, ⟨below_step HXB.out HJB.out⟩⟩
                · have hn3b : decide (x.f3 < 0) = false := decide_eq_false hn3
                  by_cases hn4 : x.f4 < 0
                  · have hn4b : decide (x.f4 < 0) = true := decide_eq_true hn4
                    have HFIN := Aside0.mk (show (l1.any badA || (l3.take (i2 + 1)).any badF) = (true || x.f5.any badI) by rw [hfin, hn3b, hn4b]; rfl)
                    clear hfin
                    go_wp2
                    go_loopg [5, 9] (x.f5.length + 1) (fun kq v5 v9 w' => ∃ (j : Nat), v5 = .bool (true || (x.f5.take j).any badI) ∧ v9 = .int .i64 (j : Int) ∧ Aside0 (j + kq = x.f5.length + 1) ∧ Aside0 (1 ≤ kq) ∧ Aside0 (Below wx.heap.size wx w'))
                    case atStart => exact ⟨0, by simp, rfl, ⟨by omega⟩, ⟨by omega⟩, ⟨Below.refl _ _⟩⟩
                    case round =>
                      obtain ⟨j, rfl, rfl, HJ, HJ1, HJB⟩ := hrel
                      cases gk with
                      | zero => exact absurd HJ1.out (by omega)
                      | succ k3 =>
                        have HJT := Aside0.mk (tab_below HXT.out HJB.out)
                        obtain ⟨⟨b0, b1, b2, b3, b4, b5⟩, _⟩ := facts6 (blk_below HXG.out HJB.out)
                        obtain ⟨γ, hγ⟩ : ∃ γ, (true || (x.f5.take j).any badI) = γ := ⟨_, rfl⟩
                        have HGA := Aside0.mk hγ
                        rw [hγ]
                        clear hγ
                        by_cases cj : j < x.f5.length
                        · have cjb : decide ((j : Int) < (x.f5.length : Int)) = true := decide_eq_true (by omega)
                          have hjj : (j : Int) < (x.f5.length : Int) := by omega
                          have hw2 : wrap64 ((j : Int) + 1) = (j : Int) + 1 := by have := HM5.out; unfold wrap64; omega
                          have HYJ := Aside0.mk (any_step badI x.f5 j cj)
                          obtain ⟨ad5, ead5, hd0, hd1⟩ := at_T44 (Kd.C_below HX5.out HJB.out) (j : Int) (by omega) hjj
                          rw [show rd_T44 x.f5 (j : Int) = x.f5[j] by simp [rd_T44, List.getD_eq_getElem?_getD, cj]] at hd0 hd1
                          rw [Int.toNat_natCast] at hd0 hd1
                          subst ead5
                          obtain ⟨y, hy⟩ : ∃ y, x.f5[j] = y := ⟨_, rfl⟩
                          rw [hy] at HYJ hd0 hd1
                          clear hy
                          cases γ with
                          | true =>
                            go_wp2
                            go_roundg k3
                            case measure => omega
                            case rel => exact ⟨j + 1, by rw [HYJ.out, ← Bool.or_assoc, HGA.out]; rfl, by rw [hw2]; rfl, ⟨by have := HJ.out; omega⟩, ⟨by have := HJ.out; omega⟩, HJB⟩
                          | false =>
                            go_wp2_with fail
                            refine (code_May.calls y.f0 y.f1 _ HJT.out).mono ?_
                            rintro e w9 ⟨rfl, hb9⟩
                            have HB9 := Aside0.mk (below_step HJB.out hb9)
                            clear hb9
                            go_wp2
                            go_roundg k3
                            case measure => omega
                            case rel => exact ⟨j + 1, by rw [HYJ.out, ← Bool.or_assoc, HGA.out]; rfl, by rw [hw2]; rfl, ⟨by have := HJ.out; omega⟩, ⟨by have := HJ.out; omega⟩, HB9⟩
                        · have cjb : decide ((j : Int) < (x.f5.length : Int)) = false := decide_eq_false (by omega)
                          have HE := Aside0.mk (show (l1.any badA || (l3.take (i2 + 1)).any badF) = γ by rw [HFIN.out, ← HGA.out, List.take_of_length_le (by omega)])
                          go_wp2
                          go_roundg k2
                          case measure => omega
                          case rel => exact ⟨i2 + 1, by rw [HE.out], by rw [hw3]; rfl, ⟨by have := HI2.out; omega⟩, ⟨by have := HI2.out; omega⟩, ⟨below_step HXB.out HJB.out⟩⟩
                  · have hn4b : decide (x.f4 < 0) = false := decide_eq_false hn4
                    have HFIN := Aside0.mk (show (l1.any badA || (l3.take (i2 + 1)).any badF) = (false || x.f5.any badI) by rw [hfin, hn3b, hn4b]; rfl)
                    clear hfin
                    go_wp2
                    go_loopg [5, 9] (x.f5.length + 1) (fun kq v5 v9 w' => ∃ (j : Nat), v5 = .bool (false || (x.f5.take j).any badI) ∧ v9 = .int .i64 (j : Int) ∧ Aside0 (j + kq = x.f5.length + 1) ∧ Aside0 (1 ≤ kq) ∧ Aside0 (Below wx.heap.size wx w'))
                    case atStart => exact ⟨0, by simp, rfl, ⟨by omega⟩, ⟨by omega⟩, ⟨Below.refl _ _⟩⟩
                    case round =>
                      obtain ⟨j, rfl, rfl, HJ, HJ1, HJB⟩ := hrel
                      cases gk with
                      | zero => exact absurd HJ1.out (by omega)
                      | succ k3 =>
                        have HJT := Aside0.mk (tab_below HXT.out HJB.out)
                        obtain ⟨⟨b0, b1, b2, b3, b4, b5⟩, _⟩ := facts6 (blk_below HXG.out HJB.out)
                        obtain ⟨γ, hγ⟩ : ∃ γ, (false || (x.f5.take j).any badI) = γ := ⟨_, rfl⟩
                        have HGA := Aside0.mk hγ
                        rw [hγ]
                        clear hγ
                        by_cases cj : j < x.f5.length
                        · have cjb : decide ((j : Int) < (x.f5.length : Int)) = true := decide_eq_true (by omega)
                          have hjj : (j : Int) < (x.f5.length : Int) := by omega
                          have hw2 : wrap64 ((j : Int) + 1) = (j : Int) + 1 := by have := HM5.out; unfold wrap64; omega
                          have HYJ := Aside0.mk (any_step badI x.f5 j cj)
                          obtain ⟨ad5, ead5, hd0, hd1⟩ := at_T44 (Kd.C_below HX5.out HJB.out) (j : Int) (by omega) hjj
                          rw [show rd_T44 x.f5 (j : Int) = x.f5[j] by simp [rd_T44, List.getD_eq_getElem?_getD, cj]] at hd0 hd1
                          rw [Int.toNat_natCast] at hd0 hd1
                          subst ead5
                          obtain ⟨y, hy⟩ : ∃ y, x.f5[j] = y := ⟨_, rfl⟩
                          rw [hy] at HYJ hd0 hd1
                          clear hy
                          cases γ with
                          | true =>
                            go_wp2
                            go_roundg k3
                            case measure => omega
                            case rel => exact ⟨j + 1, by rw [HYJ.out, ← Bool.or_assoc, HGA.out]; rfl, by rw [hw2]; rfl, ⟨by have := HJ.out; omega⟩, ⟨by have := HJ.out; omega⟩, HJB⟩
                          | false =>
                            go_wp2_with fail
                            refine (code_May.calls y.f0 y.f1 _ HJT.out).mono ?_
                            rintro e w9 ⟨rfl, hb9⟩
                            have HB9 := Aside0.mk (below_step HJB.out hb9)
                            clear hb9
                            go_wp2
                            go_roundg k3
                            case measure => omega
                            case rel => exact ⟨j + 1, by rw [HYJ.out, ← Bool.or_assoc, HGA.out]; rfl, by rw [hw2]; rfl, ⟨by have := HJ.out; omega⟩, ⟨by have := HJ.out; omega⟩, HB9⟩
                        · have cjb : decide ((j : Int) < (x.f5.length : Int)) = false := decide_eq_false (by omega)
                          have HE := Aside0.mk (show (l1.any badA || (l3.take (i2 + 1)).any badF) = γ by rw [HFIN.out, ← HGA.out, List.take_of_length_le (by omega)])
                          go_wp2
                          go_roundg k2
                          case measure => omega
                          case rel => exact ⟨i2 + 1, by rw [HE.out], by rw [hw3]; rfl, ⟨by have := HI2.out; omega⟩, ⟨by have := HI2.out; omega⟩, ⟨below_step HXB.out HJB.out⟩⟩
            · have cfb : decide ((i2 : Int) < (l3.length : Int)) = false := decide_eq_false (by omega)
              have HBR := Aside0.mk (below_step HBB.out HWB.out)
              have HTR := Aside0.mk (tab_below HTB.out HWB.out)
              obtain ⟨β, hβ⟩ : ∃ β, badM l1 l3 = β := ⟨_, rfl⟩
              have hβ2 : (l1.any badA || (l3.take i2).any badF) = β := by rw [List.take_of_length_le (by omega)]; exact hβ
              rw [hβ2]
              cases β with
              | true =>
                have hbm := HBM.out
                rw [writeM_bad hβ] at hbm
                injection hbm with e1 e2
                subst e1 e2
                clear hβ hβ2
                go_wp2_with fail
                refine (awake12.calls _ (HTR.out)).mono ?_
                rintro e w8 ⟨rfl, hb8⟩
                have HB8 := Aside0.mk (below_step (HBR.out) hb8)
                clear hb8
                go_wp2
                go_ret
                exact ⟨rfl, HB8.out⟩
              | false =>
                have hbm := HBM.out
                rcases writeM_cases l0 l1 l2 l3 hβ with ⟨b, eb, hb1, hb2⟩ | eb
                · rw [eb] at hbm
                  injection hbm with e1 e2
                  subst e1 e2
                  have hg : decide ((b.length : Int) ≥ 16) = true := decide_eq_true (by omega)
                  have hg2 : decide ((b.length : Int) ≤ 262144) = true := decide_eq_true (by omega)
                  clear hβ hβ2 eb
                  go_wp2_with fail
                  refine (awake12.calls _ (HTR.out)).mono ?_
                  rintro e w8 ⟨rfl, hb8⟩
                  have HB8 := Aside0.mk (below_step (HBR.out) hb8)
                  clear hb8
                  go_wp2
                  go_ret
                  exact ⟨rfl, HB8.out⟩
                · rw [eb] at hbm
                  injection hbm with e1 e2
                  subst e1 e2
                  clear hβ hβ2 eb
                  go_wp2_with fail
                  refine (awake12.calls _ (HTR.out)).mono ?_
                  rintro e w8 ⟨rfl, hb8⟩
                  have HB8 := Aside0.mk (below_step (HBR.out) hb8)
                  clear hb8
                  go_wp2
                  go_ret
                  exact ⟨rfl, HB8.out⟩
theorem louverlaw12_ImageMay.walk (cs0 : Array Value) (z0 : List Int × List S38 × List Int × List S41) (w : World) (w0 : kMod.K w z0 cs0.toList)
    (y0 : ((∀ y ∈ z0.1, (Lit.int .u64 y).wf = true) ∧ z0.1.length * 8 ≤ 140737488351232) ∧ ((∀ x ∈ z0.2.1, (Lit.int .i64 x.f0).wf = true ∧ (Lit.int .u64 x.f1).wf = true) ∧ z0.2.1.length * 16 ≤ 140737488351232) ∧ ((∀ y ∈ z0.2.2.1, (Lit.int .u64 y).wf = true) ∧ z0.2.2.1.length * 8 ≤ 140737488351232) ∧ ((∀ x ∈ z0.2.2.2, okFunc x) ∧ z0.2.2.2.length * 96 ≤ 140737488351232)) (hL : laidMetH Tryd.prog Rows.imageMayRow.laid w) :
    Calls Tryd.prog 4 #[.agg cs0] w fun e w' => e = .returned (.bool true) ∧ Below w.heap.size w w' := by
  obtain ⟨l0, l1, l2, l3⟩ := z0
  obtain ⟨_, _, e, ⟨A0, c0, rfl, h0, g0⟩, ⟨_, _, rfl, ⟨A1, c1, rfl, h1, g1⟩, ⟨_, _, rfl, ⟨A2, c2, rfl, h2, g2⟩, ⟨A3, c3, rfl, h3, g3⟩⟩⟩⟩ := w0
  obtain rfl : cs0 = #[.slice A0 l0.length c0, .slice A1 l1.length c1, .slice A2 l2.length c2, .slice A3 l3.length c3] := by
    apply Array.toList_inj.mp
    simpa using e
  obtain ⟨q1, q2⟩ := wf_open y0
  exact imageMay.calls A0 A1 A2 A3 c0 c1 c2 c3 l0 l1 l2 l3 w (tab_of_laid hL) g0 h0 g1 h1 g2 h2 g3 h3 q1
end Go.Proofs.YtgpdaihfjnihhaaDoor.PJ
