/- The law ImageWrites: by hand, from its row's form. -/
import Derived.Test.YtgpdaihfjnihhaaDoorRPJx0
import Derived.Test.YtgpdaihfjnihhaaDoorRPJx4
import Derived.Test.YtgpdaihfjnihhaaDoorRPB
import Derived.Test.YtgpdaihfjnihhaaDoorRHandImgBack
import Derived.Test.YtgpdaihfjnihhaaDoorRLentAll
import Derived.Test.YtgpdaihfjnihhaaDoorRRefWrite
namespace Go.Proofs.YtgpdaihfjnihhaaDoor.PJ
open Go.RowKit Go.Proofs.YtgpdaihfjnihhaaDoorW.PrintWords Go.Proofs.YtgpdaihfjnihhaaDoorW.PrintLast Go.Proofs.YtgpdaihfjnihhaaDoorW.PrintMore Go.Proofs.YtgpdaihfjnihhaaDoor.LebPure Go.Proofs.YtgpdaihfjnihhaaDoor.LebForm Go.Proofs.YtgpdaihfjnihhaaDoor.B64
set_option linter.unusedSimpArgs false
set_option linter.unusedVariables false
def sel2 {α : Type} (a b : α) : Nat → α
 | 0 => a
 | _ => b
theorem clipped_in2 {W w : World} {v : Value} {l : List Int} (h : Clipped W w.heap.size v l) : ∃ A c, v = .slice A l.length l.length ∧ Kd.R (Kd.int .u8) 5 W 0 (fun k => w.heap.size ≤ k ∧ k < W.heap.size) (.slice A l.length c) l := by
 obtain ⟨A, c, rfl, hR⟩ := h
 exact ⟨A, c, rfl, Kd.R_lower (Kd.R_mono (Kd.R_bound hR) (fun k hk => ⟨hk.1, hk.2.2.1⟩)) (Nat.zero_le _)⟩
theorem image_Write.callsE (A0 A1 A2 A3 : Option Addr) (c0 c1 c2 c3 : Nat) (gs : List Int) (arr : List S38) (chs : List Int) (fns : List S41) (BS : List Int) (ER : Int) (hbm : writeM gs arr chs fns = (BS, ER)) (w : World) (ht : Lib.TabIs Tryd.prog w "strings.asciiSpace" .u8 Lib.asciiSpaceTab)
  (h0 : Kd.C (Kd.int .u64) w A0 gs.length gs) (h1 : Kd.C k38 w A1 arr.length arr) (h2 : Kd.C (Kd.int .u64) w A2 chs.length chs) (h3 : Kd.C k41 w A3 fns.length fns) (hw : wfW gs arr chs fns) :
  Calls Tryd.prog 16 #[.agg #[.slice A0 gs.length c0, .slice A1 arr.length c1, .slice A2 chs.length c2, .slice A3 fns.length c3]] w fun e w' => ∃ v, e = .returned (.tuple #[v, .int .i64 ER]) ∧ Clipped w' w.heap.size v BS ∧ Below w.heap.size w w' := by
 have h := image_Write.calls A0 A1 A2 A3 c0 c1 c2 c3 gs arr chs fns w ht h0 h1 h2 h3 hw
 rw [hbm] at h
 exact h
theorem writeM_short (gs : List Int) (arr : List S38) (chs : List Int) (fns : List S41) : (writeM gs arr chs fns).1.length ≤ 262144 := by
 unfold writeM
 split
 ·
  exact Nat.zero_le _
 ·
  split
  ·
   exact Nat.zero_le _
  ·
   rw [List.length_append, eightL_length]; omega
set_option maxHeartbeats 16000000 in
set_option maxRecDepth 100000 in
theorem imageWrites.calls (A0 A1 A2 A3 : Option Addr) (c0 c1 c2 c3 : Nat) (l0 : List Int) (l1 : List S38) (l2 : List Int) (l3 : List S41) (w : World) (ht : Lib.TabIs Tryd.prog w "strings.asciiSpace" .u8 Lib.asciiSpaceTab)
  (h0 : Kd.C (Kd.int .u64) w A0 l0.length l0) (k0 : l0.length ≤ c0) (h1 : Kd.C k38 w A1 l1.length l1) (k1 : l1.length ≤ c1) (h2 : Kd.C (Kd.int .u64) w A2 l2.length l2) (k2 : l2.length ≤ c2) (h3 : Kd.C k41 w A3 l3.length l3) (k3 : l3.length ≤ c3) (hw : wfW l0 l1 l2 l3)
  (hs0 : (l0.length + 1) * 8 ≤ 140737488355328) (hs1 : (l1.length + 1) * 16 ≤ 140737488355328) (hs2 : (l2.length + 1) * 8 ≤ 140737488355328) (hs3 : (l3.length + 1) * 96 ≤ 140737488355328)
  (hsf : ∀ x ∈ l3, (x.f1.length + 1) * 8 ≤ 140737488355328 ∧ (x.f2.length + 1) * 8 ≤ 140737488355328 ∧ (x.f5.length + 1) * 16 ≤ 140737488355328)
  (kf : Nat) (BS : List Int) (ER : Int) (hbm : writeM l0 l1 l2 l3 = (BS, ER)) (hf : louverref12_Write.f kf l0 l1 l2 l3 = some (BS, ER)) :
  Calls Tryd.prog 11 #[.agg #[.slice A0 l0.length c0, .slice A1 l1.length c1, .slice A2 l2.length c2, .slice A3 l3.length c3]] w fun e w' => e = .returned (.bool true) ∧ Below w.heap.size w w' := by
 have HT := Aside0.mk ht
 have HR0 := Aside0.mk h0
 have HR1 := Aside0.mk h1
 have HR2 := Aside0.mk h2
 have HR3 := Aside0.mk h3
 have HC := Aside0.mk (And.intro k0 (And.intro k1 (And.intro k2 k3)))
 have HS := Aside0.mk (And.intro hs0 (And.intro hs1 (And.intro hs2 (And.intro hs3 hsf))))
 have HW := Aside0.mk hw
 have HF := Aside0.mk hf
 have HSH := Aside0.mk (show BS.length ≤ 262144 by have := writeM_short l0 l1 l2 l3; rw [hbm] at this; exact this)
 have HBM := Aside0.mk hbm
 have hb := below_alloc (Below.refl w.heap.size w) (.cells #[.slice A0 l0.length c0, .slice A1 l1.length c1, .slice A2 l2.length c2, .slice A3 l3.length c3] 26)
 have HB := Aside0.mk hb
 have HGm := Aside0.mk (heap_alloc_new w (.cells #[.slice A0 l0.length c0, .slice A1 l1.length c1, .slice A2 l2.length c2, .slice A3 l3.length c3] 26))
 clear ht h0 h1 h2 h3 k0 k1 k2 k3 hs0 hs1 hs2 hs3 hsf hw hf hb hbm
 obtain ⟨⟨m0, m1, m2, m3⟩, _⟩ := facts4 HGm.out
 go_enter Tryd.func11, Tryd.ntmps11
 go_wp2_with fail
 refine (lentModC A0 A1 A2 A3 c0 c1 c2 c3 l0 l1 l2 l3 _ (Kd.C_below HR0.out HB.out) (Kd.C_below HR1.out HB.out) (Kd.C_below HR2.out HB.out) (Kd.C_below HR3.out HB.out) HS.out.1 HS.out.2.1 HS.out.2.2.1 HS.out.2.2.2.1 HS.out.2.2.2.2).mono ?_
 rintro e w1 ⟨v, rfl, hL, hb⟩
 have HL := Aside0.mk hL
 obtain ⟨B0, d0, B1, d1, B2, d2, B3, d3, rfl, ⟨p0, q0⟩, ⟨p1, q1⟩, ⟨p2, q2⟩, ⟨p3, q3⟩⟩ := hL
 have HQ0 := Aside0.mk (lentC_reads q0)
 have HQ1 := Aside0.mk (lentC_reads q1)
 have HQ2 := Aside0.mk (lentC_reads q2)
 have HQ3 := Aside0.mk (C_LF q3)
 clear p0 q0 p1 q1 p2 q2 p3 q3 m0 m1 m2 m3
 replace HGm := Aside0.mk (blk_below HGm.out hb)
 replace HB := Aside0.mk (below_step HB.out hb)
 clear hb
 have HBW := HB
 have HL1 := HL
 have HN := Aside0.mk (heap_alloc_new w1 (.cells #[.slice B0 l0.length d0, .slice B1 l1.length d1, .slice B2 l2.length d2, .slice B3 l3.length d3] 26))
 have HB1 := Aside0.mk (Below.refl w1.heap.size w1)
 have hb := below_alloc (Below.refl w1.heap.size w1) (.cells #[.slice B0 l0.length d0, .slice B1 l1.length d1, .slice B2 l2.length d2, .slice B3 l3.length d3] 26)
 replace HGm := Aside0.mk (blk_below HGm.out hb)
 replace HL := Aside0.mk (HL.out.below hb)
 replace HQ0 := Aside0.mk (Kd.C_below HQ0.out hb)
 replace HQ1 := Aside0.mk (Kd.C_below HQ1.out hb)
 replace HQ2 := Aside0.mk (Kd.C_below HQ2.out hb)
 replace HQ3 := Aside0.mk (Kd.C_below HQ3.out hb)
 replace HB := Aside0.mk (below_step HB.out hb)
 replace HB1 := Aside0.mk (below_step HB1.out hb)
 clear hb
 obtain ⟨⟨m0, m1, m2, m3⟩, _⟩ := facts4 HGm.out
 obtain ⟨⟨n0, n1, n2, n3⟩, _⟩ := facts4 HN.out
 go_wp2_with fail
 refine (image_Write.callsE B0 B1 B2 B3 d0 d1 d2 d3 l0 l1 l2 l3 BS ER HBM.out _ (tab_below HT.out HB.out) HQ0.out HQ1.out HQ2.out HQ3.out HW.out).mono ?_
 rintro e w2 ⟨vx, rfl, hX, hb⟩
 have hsz1 : (w1.alloc (.cells #[.slice B0 l0.length d0, .slice B1 l1.length d1, .slice B2 l2.length d2, .slice B3 l3.length d3] 26)).heap.size = w1.heap.size + 1 := by simp
 have S1 := Aside0.mk (below_size hb)
 rw [hsz1] at S1
 obtain ⟨Ax, cx, rfl, hXr⟩ := clipped_in2 hX
 rw [hsz1] at hXr
 clear hsz1
 have HX := Aside0.mk hXr
 clear hX hXr m0 m1 m2 m3 n0 n1 n2 n3
 replace HGm := Aside0.mk (blk_below HGm.out hb)
 replace HN := Aside0.mk (blk_below HN.out hb)
 replace HL := Aside0.mk (HL.out.below hb)
 replace HQ0 := Aside0.mk (Kd.C_below HQ0.out hb)
 replace HQ1 := Aside0.mk (Kd.C_below HQ1.out hb)
 replace HQ2 := Aside0.mk (Kd.C_below HQ2.out hb)
 replace HQ3 := Aside0.mk (Kd.C_below HQ3.out hb)
 replace HB := Aside0.mk (below_step HB.out hb)
 replace HB1 := Aside0.mk (below_step HB1.out hb)
 clear hb
 obtain ⟨⟨m0, m1, m2, m3⟩, _⟩ := facts4 HGm.out
 obtain ⟨⟨n0, n1, n2, n3⟩, _⟩ := facts4 HN.out
 go_wp2_with fail
 refine (image_Write.callsE B0 B1 B2 B3 d0 d1 d2 d3 l0 l1 l2 l3 BS ER HBM.out _ (tab_below HT.out HB.out) HQ0.out HQ1.out HQ2.out HQ3.out HW.out).mono ?_
 rintro e w3 ⟨vy, rfl, hY, hb⟩
 have S2 := Aside0.mk (below_size hb)
 obtain ⟨Ay, cy, rfl, hYr⟩ := clipped_in2 hY
 have HY := Aside0.mk hYr
 clear hY hYr m0 m1 m2 m3 n0 n1 n2 n3
 replace HGm := Aside0.mk (blk_below HGm.out hb)
 replace HN := Aside0.mk (blk_below HN.out hb)
 replace HL := Aside0.mk (HL.out.below hb)
 replace HX := Aside0.mk (Kd.R_below HX.out hb)
 replace HB := Aside0.mk (below_step HB.out hb)
 replace HB1 := Aside0.mk (below_step HB1.out hb)
 clear hb
 obtain ⟨⟨m0, m1, m2, m3⟩, _⟩ := facts4 HGm.out
 obtain ⟨⟨n0, n1, n2, n3⟩, _⟩ := facts4 HN.out
 go_wp2_with fail
 refine (louverref12_Write.calls kf A0 c0 l0 A1 c1 l1 A2 c2 l2 A3 c3 l3 BS ER _ (Kd.C_below HR0.out HB.out) HC.out.1 (Kd.C_below HR1.out HB.out) HC.out.2.1 (Kd.C_below HR2.out HB.out) HC.out.2.2.1 (Kd.C_below HR3.out HB.out) HC.out.2.2.2 HF.out).mono ?_
 rintro e w4 ⟨vw, rfl, hWr, hb⟩
 have S3 := Aside0.mk (below_size hb)
 obtain ⟨Aw, cw, rfl, hcw, hCw⟩ := Kd.R_reads hWr
 have HCW := Aside0.mk hCw
 have HCWc := Aside0.mk hcw
 clear hWr hCw hcw m0 m1 m2 m3 n0 n1 n2 n3
 replace HGm := Aside0.mk (blk_below HGm.out hb)
 replace HN := Aside0.mk (blk_below HN.out hb)
 replace HL := Aside0.mk (HL.out.below hb)
 replace HX := Aside0.mk (Kd.R_below HX.out hb)
 replace HY := Aside0.mk (Kd.R_below HY.out hb)
 replace HB := Aside0.mk (below_step HB.out hb)
 replace HB1 := Aside0.mk (below_step HB1.out hb)
 clear hb
 obtain ⟨⟨m0, m1, m2, m3⟩, _⟩ := facts4 HGm.out
 obtain ⟨⟨n0, n1, n2, n3⟩, _⟩ := facts4 HN.out
 obtain ⟨kb, hkb⟩ : ∃ kb, kb = BS.length + 1 := ⟨_, rfl⟩
 have HK := Aside0.mk (show louverkit_Bytes.f kb BS BS = some true by rw [Bytes_f kb BS BS (by have := HSH.out; omega) (by omega), decide_eq_true rfl])
 clear hkb
 go_wp2_with fail
 refine (louverkit_Bytes.calls kb _ _ BS _ _ BS true _ ?b1 (Nat.le_refl _) HCW.out HCWc.out HK.out).mono ?_
 case b1 => exact (Kd.R_reads' HX.out).2.2
 rintro e w5 ⟨rfl, ⟨n5, rfl⟩⟩
 have hb := pw_below_drewN (Below.refl w4.heap.size w4) n5
 obtain ⟨w5, hw5⟩ : ∃ W, w4.drewN n5 = W := ⟨_, rfl⟩
 rw [hw5] at hb ⊢
 have S5 := Aside0.mk (below_size hb)
 clear hw5
 replace HGm := Aside0.mk (blk_below HGm.out hb)
 replace HN := Aside0.mk (blk_below HN.out hb)
 replace HL := Aside0.mk (HL.out.below hb)
 replace HX := Aside0.mk (Kd.R_below HX.out hb)
 replace HY := Aside0.mk (Kd.R_below HY.out hb)
 replace HCW := Aside0.mk (Kd.C_below HCW.out hb)
 replace HB := Aside0.mk (below_step HB.out hb)
 replace HB1 := Aside0.mk (below_step HB1.out hb)
 clear hb
 go_wp2_with fail
 refine (louverkit_Bytes.calls kb _ _ BS _ _ BS true _ ?b1 (Nat.le_refl _) HCW.out HCWc.out HK.out).mono ?_
 case b1 => exact (Kd.R_reads' HY.out).2.2
 rintro e w6 ⟨rfl, ⟨n6, rfl⟩⟩
 have hb := pw_below_drewN (Below.refl w5.heap.size w5) n6
 obtain ⟨w6, hw6⟩ : ∃ W, w5.drewN n6 = W := ⟨_, rfl⟩
 rw [hw6] at hb ⊢
 have S6 := Aside0.mk (below_size hb)
 clear hw6
 clear m0 m1 m2 m3 n0 n1 n2 n3
 replace HGm := Aside0.mk (blk_below HGm.out hb)
 replace HN := Aside0.mk (blk_below HN.out hb)
 replace HL := Aside0.mk (HL.out.below hb)
 replace HX := Aside0.mk (Kd.R_below HX.out hb)
 replace HY := Aside0.mk (Kd.R_below HY.out hb)
 replace HB := Aside0.mk (below_step HB.out hb)
 replace HB1 := Aside0.mk (below_step HB1.out hb)
 clear hb
 clear HCW
 obtain ⟨⟨m0, m1, m2, m3⟩, _⟩ := facts4 HGm.out
 obtain ⟨⟨n0, n1, n2, n3⟩, _⟩ := facts4 HN.out
 go_wp2_with fail
 refine (louverkit_KeptModuleC.calls _ A0 A1 A2 A3 c0 c1 c2 c3 l0 l1 l2 l3 _ HL.out (Kd.C_below HR0.out HB.out) HC.out.1 (Kd.C_below HR1.out HB.out) HC.out.2.1 (Kd.C_below HR2.out HB.out) HC.out.2.2.1 (Kd.C_below HR3.out HB.out) HC.out.2.2.2).mono ?_
 rintro e w7 ⟨rfl, hb⟩
 have S7 := Aside0.mk (below_size hb)
 clear m0 m1 m2 m3 n0 n1 n2 n3
 replace HGm := Aside0.mk (blk_below HGm.out hb)
 replace HN := Aside0.mk (blk_below HN.out hb)
 replace HL := Aside0.mk (HL.out.below hb)
 replace HX := Aside0.mk (Kd.R_below HX.out hb)
 replace HY := Aside0.mk (Kd.R_below HY.out hb)
 replace HB := Aside0.mk (below_step HB.out hb)
 replace HB1 := Aside0.mk (below_step HB1.out hb)
 clear hb
 have S4 := Aside0.mk (below_size HB1.out)
 have HA2 := Aside0.mk (heap_alloc_new w7 (.cells #[.slice Ax BS.length BS.length, .slice Ay BS.length BS.length] 27))
 have hb := below_alloc (Below.refl w7.heap.size w7) (.cells #[.slice Ax BS.length BS.length, .slice Ay BS.length BS.length] 27)
 replace HGm := Aside0.mk (blk_below HGm.out hb)
 replace HN := Aside0.mk (blk_below HN.out hb)
 replace HL := Aside0.mk (HL.out.below hb)
 replace HX := Aside0.mk (Kd.R_below HX.out hb)
 replace HY := Aside0.mk (Kd.R_below HY.out hb)
 replace HB := Aside0.mk (below_step HB.out hb)
 replace HB1 := Aside0.mk (below_step HB1.out hb)
 clear hb
 go_wp2_with fail
 refine (apartBytes.calls 2 (sel2 Ax Ay) (sel2 BS.length BS.length) (sel2 cx cy) (sel2 (fun k => w1.heap.size + 1 ≤ k ∧ k < w2.heap.size) (fun k => w2.heap.size ≤ k ∧ k < w3.heap.size)) (sel2 BS BS) _ _ _ (by decide) ?g1 ?g2 ?g3 ?g4 ?g5 ?g6).mono ?_
 case g1 =>
  have := HSH.out
  intro i hi
  match i, hi with
  | 0, _ => show BS.length + 80 ≤ _; omega
  | 1, _ => show BS.length + 80 ≤ _; omega
 case g2 =>
  intro i hi
  rw [add_plain]
  refine (blk_cell HA2.out i).trans ?_
  match i, hi with
  | 0, _ => rfl
  | 1, _ => rfl
 case g3 =>
  intro i
  rw [add_plain]
 case g4 =>
  refine ⟨fun i hi => ?_, fun i hi => ?_⟩
  ·
   match i, hi with
   | 0, _ => rfl
   | 1, _ => rfl
  ·
   match i, hi with
   | 0, _ => exact HX.out
   | 1, _ => exact HY.out
 case g5 =>
  intro i j k hi hj h1 h2
  match i, j, hi, hj, h1, h2 with
  | 0, 0, _, _, _, _ => rfl
  | 1, 1, _, _, _, _ => rfl
  | 0, 1, _, _, h1, h2 => exact absurd (Nat.lt_of_lt_of_le h1.2 h2.1) (Nat.lt_irrefl _)
  | 1, 0, _, _, h1, h2 => exact absurd (Nat.lt_of_lt_of_le h2.2 h1.1) (Nat.lt_irrefl _)
 case g6 =>
  have h2 := S2.out
  have h3 := S3.out
  have h5 := S5.out
  have h6 := S6.out
  have h7 := S7.out
  intro i hi h
  match i, hi, h with
  | 0, _, h => have := h.2; simp at this; omega
  | 1, _, h => have := h.2; simp at this; omega
 rintro e w8 ⟨rfl, hw⟩
 have hbw := below_size HBW.out
 have hlo : ∀ k, (∃ i, i < 2 ∧ sel2 (fun k => w1.heap.size + 1 ≤ k ∧ k < w2.heap.size) (fun k => w2.heap.size ≤ k ∧ k < w3.heap.size) i k) → w1.heap.size + 1 ≤ k := by
  have h1 := S1.out
  rintro k ⟨i, hi, h⟩
  match i, hi, h with
  | 0, _, h => exact h.1
  | 1, _, h => exact Nat.le_trans h1 h.1
 have hsz7 : (w7.alloc (.cells #[.slice Ax BS.length BS.length, .slice Ay BS.length BS.length] 27)).heap.size = w7.heap.size + 1 := by simp
 have hb := hw.toBelow w1.heap.size (Nat.le_trans (below_size HB1.out) (Nat.le_refl _)) (fun k hk => Nat.le_trans (Nat.le_succ _) (hlo k hk))
 have h17 := S4.out
 replace HGm := Aside0.mk ((hw.block w.heap.size (by rw [hsz7]; omega) (fun hk => by have := hlo _ hk; omega)).trans HGm.out)
 replace HN := Aside0.mk ((hw.block w1.heap.size (by rw [hsz7]; omega) (fun hk => by have := hlo _ hk; omega)).trans HN.out)
 replace HB1 := Aside0.mk (Below.trans HB1.out hb)
 replace HB := Aside0.mk (below_step HBW.out HB1.out)
 replace HL := Aside0.mk (HL1.out.below HB1.out)
 clear hb hw hlo hbw hsz7 h17
 obtain ⟨⟨m0, m1, m2, m3⟩, _⟩ := facts4 HGm.out
 obtain ⟨⟨n0, n1, n2, n3⟩, _⟩ := facts4 HN.out
 go_wp2_with fail
 refine (louverkit_KeptModuleC.calls _ A0 A1 A2 A3 c0 c1 c2 c3 l0 l1 l2 l3 _ HL.out (Kd.C_below HR0.out HB.out) HC.out.1 (Kd.C_below HR1.out HB.out) HC.out.2.1 (Kd.C_below HR2.out HB.out) HC.out.2.2.1 (Kd.C_below HR3.out HB.out) HC.out.2.2.2).mono ?_
 rintro e w9 ⟨rfl, hb⟩
 replace HB := Aside0.mk (below_step HB.out hb)
 clear hb
 go_wp2_with fail
 refine (awake12.calls _ (tab_below HT.out HB.out)).mono ?_
 rintro e w10 ⟨rfl, hb⟩
 replace HB := Aside0.mk (below_step HB.out hb)
 clear hb
 go_wp2
 go_ret
 exact ⟨rfl, HB.out⟩
theorem okModR_of {l0 : List Int} {l1 : List S38} {l2 : List Int} {l3 : List S41} (q : wfMod (l0, l1, l2, l3)) : okModR l0 l1 l2 l3 := by
 obtain ⟨h0, ⟨h1, h1x⟩, h2, ⟨h3, h3x⟩⟩ := q
 refine ⟨h0, ⟨h1, fun x hx => (h1x x hx).2⟩, h2, ⟨h3, fun x hx => ?_⟩⟩
 obtain ⟨r0, r1, r2, _, _, r5, r6⟩ := h3x x hx
 exact ⟨r0, r1, r2, r5, r6⟩
theorem louverlaw12_ImageWrites.walk (cs0 : Array Value) (z0 : List Int × List S38 × List Int × List S41) (w : World) (w0 : kMod.K w z0 cs0.toList)
  (y0 : ((∀ y ∈ z0.1, (Lit.int .u64 y).wf = true) ∧ z0.1.length * 8 ≤ 140737488351232) ∧ ((∀ x ∈ z0.2.1, (Lit.int .i64 x.f0).wf = true ∧ (Lit.int .u64 x.f1).wf = true) ∧ z0.2.1.length * 16 ≤ 140737488351232) ∧ ((∀ y ∈ z0.2.2.1, (Lit.int .u64 y).wf = true) ∧ z0.2.2.1.length * 8 ≤ 140737488351232) ∧ ((∀ x ∈ z0.2.2.2, okFunc x) ∧ z0.2.2.2.length * 96 ≤ 140737488351232)) (hL : laidMetH Tryd.prog Rows.imageWritesRow.laid w) :
  Calls Tryd.prog 11 #[.agg cs0] w fun e w' => e = .returned (.bool true) ∧ Below w.heap.size w w' := by
 obtain ⟨l0, l1, l2, l3⟩ := z0
 obtain ⟨_, _, e, ⟨A0, c0, rfl, h0, g0⟩, ⟨_, _, rfl, ⟨A1, c1, rfl, h1, g1⟩, ⟨_, _, rfl, ⟨A2, c2, rfl, h2, g2⟩, ⟨A3, c3, rfl, h3, g3⟩⟩⟩⟩ := w0
 obtain rfl : cs0 = #[.slice A0 l0.length c0, .slice A1 l1.length c1, .slice A2 l2.length c2, .slice A3 l3.length c3] := by
  apply Array.toList_inj.mp
  simpa using e
 obtain ⟨q1, q2⟩ := wf_open y0
 obtain ⟨K, hK⟩ := refWrite_ev (okModR_of q2)
 obtain ⟨⟨_, n0⟩, ⟨_, n1⟩, ⟨_, n2⟩, ⟨p3, n3⟩⟩ := y0
 replace n0 : l0.length * 8 ≤ 140737488351232 := n0
 replace n1 : l1.length * 16 ≤ 140737488351232 := n1
 replace n2 : l2.length * 8 ≤ 140737488351232 := n2
 replace n3 : l3.length * 96 ≤ 140737488351232 := n3
 exact imageWrites.calls A0 A1 A2 A3 c0 c1 c2 c3 l0 l1 l2 l3 w (tab_of_laid hL) g0 h0 g1 h1 g2 h2 g3 h3 q1 (by omega) (by omega) (by omega) (by omega) (fun x hx => by
  obtain ⟨_, ⟨_, r1⟩, ⟨_, r2⟩, _, _, ⟨_, r5⟩⟩ := p3 x hx
  exact ⟨by omega, by omega, by omega⟩) K _ _ rfl (hK K (Nat.le_refl _))
end Go.Proofs.YtgpdaihfjnihhaaDoor.PJ
