/- The law ImageReads: by hand. -/
import Derived.Test.YtgpdaihfjnihhaaDoorQPJx0
import Derived.Test.YtgpdaihfjnihhaaDoorQPKit
import Derived.Test.YtgpdaihfjnihhaaDoorQHandMods
import Derived.Test.YtgpdaihfjnihhaaDoorQHandRefRd
import Derived.Test.YtgpdaihfjnihhaaDoorQHandLent
import Derived.Test.YtgpdaihfjnihhaaDoorQNamesAll
namespace Go.Proofs.YtgpdaihfjnihhaaDoor.PJ
open Go.RowKit Go.Proofs.YtgpdaihfjnihhaaDoorW.PrintWords Go.Proofs.YtgpdaihfjnihhaaDoorW.PrintLast Go.Proofs.YtgpdaihfjnihhaaDoorW.PrintMore Go.Proofs.YtgpdaihfjnihhaaDoor.LebPure Go.Proofs.YtgpdaihfjnihhaaDoor.LebForm Go.Proofs.YtgpdaihfjnihhaaDoor.B64
set_option linter.unusedSimpArgs false
set_option linter.unusedVariables false
theorem MD.Ok.wide {m : MD} {W : World} {lo hi lo' hi' : Nat} (h : m.Ok W lo hi) (h1 : lo' ≤ lo) (h2 : hi ≤ hi') : m.Ok W lo' hi' :=
 ⟨h.lab.wide h1 h2, h.cod.wide h1 h2, h.ar.wide h1 h2, h.hd.wide h1 h2, h.hn, h.hdr, h.szl, h.szc, h.sza, h.szf⟩
set_option maxHeartbeats 16000000 in
set_option maxRecDepth 100000 in
theorem imageReads.calls (A0 : Option Addr) (c0 : Nat) (l : List Int) (w : World) (ht : Lib.TabIs Tryd.prog w "strings.asciiSpace" .u8 Lib.asciiSpaceTab)
  (h0 : Kd.C (Kd.int .u8) w A0 l.length l) (k0 : l.length ≤ c0) (hb : Bts l) (hl : l.length + 1 ≤ 140737488355328) :
  Calls Tryd.prog 12 #[.slice A0 l.length c0] w fun e w' => e = .returned (.bool true) ∧ Below w.heap.size w w' := by
 have HT := Aside0.mk ht
 have HR0 := Aside0.mk h0
 have HC := Aside0.mk k0
 have HBT := Aside0.mk hb
 have HL := Aside0.mk hl
 have HK := Aside0.mk (show louverkit_Bytes.f (l.length + 1) l l = some true by rw [Bytes_f _ l l (by omega) (by omega), decide_eq_true rfl])
 have HLE := Aside0.mk (lens_of hb)
 obtain ⟨⟨⟨x0, x1, x2, x3⟩, f⟩, hrd⟩ : ∃ p, readM l = p := ⟨_, rfl⟩
 have HRD := Aside0.mk hrd
 clear ht h0 k0 hb hl hrd
 go_enter Tryd.func12, Tryd.ntmps12
 go_wp2_with fail
 refine (louverkit_LentBytes.calls A0 c0 l w HR0.out (by have := HL.out; omega)).mono ?_
 rintro e w1 ⟨v, rfl, hL, hb⟩
 obtain ⟨ad, c, rfl, hcap, hCx, _⟩ := hL.reads
 have HLent := Aside0.mk hL
 have HX := Aside0.mk (And.intro (show l.length ≤ c by omega) hCx)
 have HB1 := Aside0.mk hb
 clear hL hCx hcap hb
 go_wp2_with fail
 refine (image_Read.calls (some ad) c l HBT.out w1 (tab_below HT.out HB1.out) HX.out.1 HX.out.2).mono ?_
 rintro e w2 ⟨v0, v1, v2, v3, rfl, hM, hb⟩
 rw [HRD.out] at hM ⊢
 obtain ⟨P0, P1, P2, P3, rfl, rfl, rfl, rfl, _⟩ := hM.reads
 have HM := Aside0.mk hM
 have HB2 := Aside0.mk hb
 clear hM hb
 have hz := heap_alloc_new w2 (.cells #[.slice none 0 0, .slice none 0 0, .slice none 0 0, .slice none 0 0] 26)
 obtain ⟨⟨z0, z1, z2, z3⟩, y0, y1, y2, y3⟩ := facts4 hz
 obtain ⟨w3, hw3⟩ : ∃ W, W = w2.alloc (.cells #[.slice P0 x0.length x0.length, .slice P1 x1.length x1.length, .slice P2 x2.length x2.length, .slice P3 x3.length x3.length] 26) := ⟨_, rfl⟩
 have HGw3 := Aside0.mk (show w3.heap[w2.heap.size]? = some (.cells #[.slice P0 x0.length x0.length, .slice P1 x1.length x1.length, .slice P2 x2.length x2.length, .slice P3 x3.length x3.length] 26) by rw [hw3]; exact heap_alloc_new w2 _)
 have HAw3 := Aside0.mk (show Below w2.heap.size w2 w3 by rw [hw3]; exact below_alloc (Below.refl _ _) _)
 have HZw3 := Aside0.mk (show w3.heap.size = w2.heap.size + 1 by rw [hw3]; simp)
 clear hz
 go_wp2_with fail
 rw [← hw3]
 clear hw3 z0 z1 z2 z3 y0 y1 y2 y3
 refine (image_Read.calls (some ad) c l HBT.out w3 (tab_below HT.out (below_step HB1.out (below_step HB2.out HAw3.out))) HX.out.1 (Kd.C_below HX.out.2 (below_step HB2.out HAw3.out))).mono ?_
 rintro e w4 ⟨v0, v1, v2, v3, rfl, hM, hb⟩
 rw [HRD.out] at hM ⊢
 obtain ⟨Q0, Q1, Q2, Q3, rfl, rfl, rfl, rfl, _⟩ := hM.reads
 have HN := Aside0.mk hM
 have HB4 := Aside0.mk hb
 clear hM hb
 have hz := heap_alloc_new w4 (.cells #[.slice none 0 0, .slice none 0 0, .slice none 0 0, .slice none 0 0] 26)
 obtain ⟨⟨z0, z1, z2, z3⟩, y0, y1, y2, y3⟩ := facts4 hz
 obtain ⟨w5, hw5⟩ : ∃ W, W = w4.alloc (.cells #[.slice Q0 x0.length x0.length, .slice Q1 x1.length x1.length, .slice Q2 x2.length x2.length, .slice Q3 x3.length x3.length] 26) := ⟨_, rfl⟩
 have HGw5 := Aside0.mk (show w5.heap[w4.heap.size]? = some (.cells #[.slice Q0 x0.length x0.length, .slice Q1 x1.length x1.length, .slice Q2 x2.length x2.length, .slice Q3 x3.length x3.length] 26) by rw [hw5]; exact heap_alloc_new w4 _)
 have HAw5 := Aside0.mk (show Below w4.heap.size w4 w5 by rw [hw5]; exact below_alloc (Below.refl _ _) _)
 have HZw5 := Aside0.mk (show w5.heap.size = w4.heap.size + 1 by rw [hw5]; simp)
 clear hz
 go_wp2_with fail
 rw [← hw5]
 clear hw5 z0 z1 z2 z3 y0 y1 y2 y3
 have HB5 := Aside0.mk (below_step HB1.out (below_step HB2.out (below_step HAw3.out (below_step HB4.out HAw5.out))))
 refine (refRead.calls A0 c0 l HBT.out w5 HC.out (Kd.C_below HR0.out HB5.out)).mono ?_
 rintro e w6 ⟨hRO, hb⟩
 rw [HRD.out] at hRO
 obtain ⟨R0, r0, R1, r1, R2, r2, R3, r3, rfl, hcs, hRR⟩ := hRO
 have HRR := Aside0.mk hRR
 have HCS := Aside0.mk hcs
 have HB6 := Aside0.mk hb
 clear hRR hcs hb
 have hz := heap_alloc_new w6 (.cells #[.slice none 0 0, .slice none 0 0, .slice none 0 0, .slice none 0 0] 26)
 obtain ⟨⟨z0, z1, z2, z3⟩, y0, y1, y2, y3⟩ := facts4 hz
 obtain ⟨w7, hw7⟩ : ∃ W, W = w6.alloc (.cells #[.slice R0 x0.length r0, .slice R1 x1.length r1, .slice R2 x2.length r2, .slice R3 x3.length r3] 26) := ⟨_, rfl⟩
 have HGw7 := Aside0.mk (show w7.heap[w6.heap.size]? = some (.cells #[.slice R0 x0.length r0, .slice R1 x1.length r1, .slice R2 x2.length r2, .slice R3 x3.length r3] 26) by rw [hw7]; exact heap_alloc_new w6 _)
 have HAw7 := Aside0.mk (show Below w6.heap.size w6 w7 by rw [hw7]; exact below_alloc (Below.refl _ _) _)
 have HZw7 := Aside0.mk (show w7.heap.size = w6.heap.size + 1 by rw [hw7]; simp)
 clear hz
 go_upto_region 5 with fail
 rw [← hw7]
 clear hw7 z0 z1 z2 z3 y0 y1 y2 y3
 have HF := Aside0.mk (show ∀ W : World, (∀ k, w1.heap.size ≤ k → k < w7.heap.size → W.heap[k]? = w7.heap[k]?) → w7.heap.size ≤ W.heap.size →
   W.heap[w2.heap.size]? = some (.cells #[.slice P0 x0.length x0.length, .slice P1 x1.length x1.length, .slice P2 x2.length x2.length, .slice P3 x3.length x3.length] 26) ∧ W.heap[w4.heap.size]? = some (.cells #[.slice Q0 x0.length x0.length, .slice Q1 x1.length x1.length, .slice Q2 x2.length x2.length, .slice Q3 x3.length x3.length] 26) ∧ W.heap[w6.heap.size]? = some (.cells #[.slice R0 x0.length r0, .slice R1 x1.length r1, .slice R2 x2.length r2, .slice R3 x3.length r3] 26) ∧ ModOut W w1.heap.size w2.heap.size (.slice P0 x0.length x0.length) (.slice P1 x1.length x1.length) (.slice P2 x2.length x2.length) (.slice P3 x3.length x3.length) (x0, x1, x2, x3) ∧
   ModOut W w3.heap.size w4.heap.size (.slice Q0 x0.length x0.length) (.slice Q1 x1.length x1.length) (.slice Q2 x2.length x2.length) (.slice Q3 x3.length x3.length) (x0, x1, x2, x3) ∧
   (Kd.C (Kd.int .u64) W R0 x0.length x0 ∧ Kd.C k38 W R1 x1.length x1 ∧ Kd.C (Kd.int .u64) W R2 x2.length x2 ∧ Kd.C k41 W R3 x3.length x3) from fun W hW hs => by
  have s2 := HB2.out.size
  have s3 := HZw3.out
  have s4 := HB4.out.size
  have s5 := HZw5.out
  have s6 := HB6.out.size
  have s7 := HZw7.out
  have b7 : ∀ k, w1.heap.size ≤ k → k < w6.heap.size → W.heap[k]? = w6.heap[k]? := fun k h1 h2 => (hW k h1 (by omega)).trans (HAw7.out.block k h2)
  have b5 : ∀ k, w1.heap.size ≤ k → k < w5.heap.size → W.heap[k]? = w5.heap[k]? := fun k h1 h2 => (b7 k h1 (by omega)).trans (HB6.out.block k h2)
  have b4 : ∀ k, w1.heap.size ≤ k → k < w4.heap.size → W.heap[k]? = w4.heap[k]? := fun k h1 h2 => (b5 k h1 (by omega)).trans (HAw5.out.block k h2)
  have b3 : ∀ k, w1.heap.size ≤ k → k < w3.heap.size → W.heap[k]? = w3.heap[k]? := fun k h1 h2 => (b4 k h1 (by omega)).trans (HB4.out.block k h2)
  have b2 : ∀ k, w1.heap.size ≤ k → k < w2.heap.size → W.heap[k]? = w2.heap[k]? := fun k h1 h2 => (b3 k h1 (by omega)).trans (HAw3.out.block k h2)
  exact ⟨(b3 _ (by omega) (by omega)).trans HGw3.out, (b5 _ (by omega) (by omega)).trans HGw5.out, (hW _ (by omega) (by omega)).trans HGw7.out, HM.out.move (fun k h1 h2 _ => b2 k h1 h2), HN.out.move (fun k h1 h2 _ => b4 k (by omega) h2), HRR.out W (fun k h1 h2 => b7 k (by omega) h2)⟩)
 have HSZ := Aside0.mk (show w1.heap.size ≤ w2.heap.size ∧ w2.heap.size < w3.heap.size ∧ w3.heap.size ≤ w4.heap.size ∧ w4.heap.size < w5.heap.size ∧ w5.heap.size ≤ w6.heap.size ∧ w6.heap.size < w7.heap.size by
  have s2 := HB2.out.size
  have s3 := HZw3.out
  have s4 := HB4.out.size
  have s5 := HZw5.out
  have s6 := HB6.out.size
  have s7 := HZw7.out
  omega)
 have HB7 := Aside0.mk (below_step HB5.out (below_step HB6.out HAw7.out))
 have HL7 := Aside0.mk (show Below w1.heap.size w1 w7 from below_step HB2.out (below_step HAw3.out (below_step HB4.out (below_step HAw5.out (below_step HB6.out HAw7.out)))))
 clear HB2 HAw3 HGw3 HZw3 HB4 HAw5 HGw5 HZw5 HB6 HAw7 HGw7 HZw7 HM HN HRR HB5
 have hff : (f != f) = false := by simp
 obtain ⟨hgp, hgq, hgr, _⟩ := HF.out w7 (fun _ _ _ => rfl) (Nat.le_refl _)
 obtain ⟨⟨m0, m1, m2, m3⟩, _⟩ := facts4 hgp
 obtain ⟨⟨n0, n1, n2, n3⟩, _⟩ := facts4 hgr
 clear hgp hgq hgr
 go_wp2_with fail
 obtain ⟨_, _, _, hmo, hno, q0, q1, q2, q3⟩ := HF.out w7 (fun _ _ _ => rfl) (Nat.le_refl _)
 obtain ⟨_, _, _, _, e0, e1, e2, e3, g0, g1, g2, g3⟩ := hmo.reads
 injection e0 with e0
 injection e1 with e1
 injection e2 with e2
 injection e3 with e3
 subst e0 e1 e2 e3
 have HS := Aside0.mk (moduleSame.calls P0 P1 P2 P3 R0 R1 R2 R3 x0.length x1.length x2.length x3.length r0 r1 r2 r3 x0 x1 x2 x3 w7 g0 (Nat.le_refl _) g1 (Nat.le_refl _) g2 (Nat.le_refl _) g3 (Nat.le_refl _) q0 HCS.out.1 q1 HCS.out.2.1 q2 HCS.out.2.2.1 q3 HCS.out.2.2.2)
 clear hmo hno q0 q1 q2 q3 g0 g1 g2 g3
 refine HS.out.mono ?_
 rintro e w8 ⟨rfl, hb⟩
 clear HS
 have HB8 := Aside0.mk (show Below w7.heap.size w7 w8 from hb)
 clear hb m0 m1 m2 m3 n0 n1 n2 n3
 obtain ⟨hgp, hgq, hgr, _⟩ := HF.out w8 (fun k _ h => HB8.out.block k h) HB8.out.size
 obtain ⟨⟨m0, m1, m2, m3⟩, _⟩ := facts4 hgq
 obtain ⟨⟨n0, n1, n2, n3⟩, _⟩ := facts4 hgr
 clear hgp hgq hgr
 go_wp2_with fail
 obtain ⟨_, _, _, hmo, hno, q0, q1, q2, q3⟩ := HF.out w8 (fun k _ h => HB8.out.block k h) HB8.out.size
 obtain ⟨_, _, _, _, e0, e1, e2, e3, g0, g1, g2, g3⟩ := hno.reads
 injection e0 with e0
 injection e1 with e1
 injection e2 with e2
 injection e3 with e3
 subst e0 e1 e2 e3
 have HS := Aside0.mk (moduleSame.calls Q0 Q1 Q2 Q3 R0 R1 R2 R3 x0.length x1.length x2.length x3.length r0 r1 r2 r3 x0 x1 x2 x3 w8 g0 (Nat.le_refl _) g1 (Nat.le_refl _) g2 (Nat.le_refl _) g3 (Nat.le_refl _) q0 HCS.out.1 q1 HCS.out.2.1 q2 HCS.out.2.2.1 q3 HCS.out.2.2.2)
 clear hmo hno q0 q1 q2 q3 g0 g1 g2 g3
 refine HS.out.mono ?_
 rintro e w9 ⟨rfl, hb⟩
 clear HS
 have HB9 := Aside0.mk (below_step HB8.out hb)
 clear hb m0 m1 m2 m3 n0 n1 n2 n3 HB8
 go_wp2_with fail
 refine (louverkit_KeptBytes.calls (l.length + 1) _ l _ _ _ l w9 (HLent.out.below (below_step HL7.out HB9.out)) (Kd.C_below HR0.out (below_step HB7.out HB9.out)) HC.out (by have := HL.out; omega) HK.out).mono ?_
 rintro e wa ⟨rfl, hd⟩
 have HBa := Aside0.mk (below_step HB9.out hd.below)
 clear hd HB9
 have HLa := Aside0.mk (HLent.out.below (below_step HL7.out HBa.out))
 have HBl := Aside0.mk (show w.heap.size ≤ ad.block ∧ ad.block < w1.heap.size from by
  obtain ⟨A, c', e, hR⟩ := HLent.out
  injection e with e
  subst e
  obtain ⟨inner, ho⟩ := Kd.R_own hR
  exact ⟨own_base ho ad.block rfl, own_lt ho ad.block rfl⟩)
 obtain ⟨A, c', e, hR⟩ := HLa.out
 injection e with e _ ec
 subst e ec
 obtain ⟨g, e⟩ := Kd.R_head hR
 obtain ⟨ad0, had⟩ : ∃ a, ad = a := ⟨_, rfl⟩
 have hge : ad = ⟨g, 0, none⟩ := e
 clear had
 subst hge
 obtain ⟨X, hX⟩ : ∃ X, l ++ [201] = X := ⟨_, rfl⟩
 have HXL := Aside0.mk (show X.length = l.length + 1 by rw [← hX]; simp)
 rw [hX, HXL.out] at hR
 have HXR := Aside0.mk (show ∃ xs : List Int, xs.length = l.length + 1 ∧ Kd.R (Kd.int .u8) 5 wa w.heap.size (fun _ => True) (.slice (some ⟨g, 0, none⟩) (l.length + 1) c) xs from ⟨X, HXL.out, hR⟩)
 have HWa := Aside0.mk (Wrote.refl (fun k => k = g) wa)
 clear hR hX
 go_wp2
 go_loopg [10] (l.length + 1) (fun kq v10 w' => ∃ (i : Nat), v10 = .int .i64 (i : Int) ∧ Aside0 (i + kq = l.length + 1) ∧ Aside0 (1 ≤ kq) ∧ Aside0 (∃ xs : List Int, xs.length = l.length + 1 ∧ Kd.R (Kd.int .u8) 5 w' w.heap.size (fun _ => True) (.slice (some ⟨g, 0, none⟩) (l.length + 1) c) xs) ∧ Aside0 (Wrote (fun k => k = g) wa w'))
 case atStart => exact ⟨0, rfl, ⟨by omega⟩, ⟨by omega⟩, HXR, HWa⟩
 case round =>
  clear HXR HWa
  obtain ⟨i, rfl, HI, HI1, HXR, HW⟩ := hrel
  cases gk with
  | zero => exact absurd HI1.out (by omega)
  | succ k1 =>
   by_cases ci : i < l.length
   ·
    have cib : decide ((i : Int) < (l.length : Int)) = true := decide_eq_true (by omega)
    have hii : (i : Int) < (l.length : Int) := by omega
    have hw2 : wrap64 ((i : Int) + 1) = (i : Int) + 1 := by have := HL.out; unfold wrap64; omega
    obtain ⟨xs, hxl, hR⟩ := HXR.out
    obtain ⟨hc1, hf1⟩ := Kd.R_celln (0 : Int) hR (i : Int) (by omega) (by omega)
    rw [Int.toNat_natCast] at hc1 hf1
    have HP := Aside0.mk (show ∀ y : Int, (∃ xs : List Int, xs.length = l.length + 1 ∧ Kd.R (Kd.int .u8) 5 (wr.setCell ⟨g, i, none⟩ (.int .u8 y)) w.heap.size (fun _ => True) (.slice (some ⟨g, 0, none⟩) (l.length + 1) c) xs) ∧ Wrote (fun k => k = g) wa (wr.setCell ⟨g, i, none⟩ (.int .u8 y)) from fun y => by
     have h1 := Kd.R_putn hR (i : Int) y
     rw [Int.toNat_natCast] at h1
     exact ⟨⟨_, by rw [List.length_set]; exact hxl, h1⟩, HW.out.put (p := ⟨g, i, none⟩) (.inl rfl) _⟩)
    clear hR
    go_wp2
    go_roundg k1
    case measure => omega
    case rel => exact ⟨i + 1, by simp [hw2], ⟨by have := HI.out; omega⟩, ⟨by have := HI.out; omega⟩, ⟨(HP.out _).1⟩, ⟨(HP.out _).2⟩⟩
   ·
    have cib : decide ((i : Int) < (l.length : Int)) = false := decide_eq_false (by omega)
    obtain ⟨wb, hwb⟩ : ∃ W, W = wr := ⟨_, rfl⟩
    rw [← hwb] at HW HXR ⊢
    clear hwb HI HI1 HXR
    have HB7b := Aside0.mk (show ∀ k, w1.heap.size ≤ k → k < w7.heap.size → wb.heap[k]? = w7.heap[k]? from fun k h1 h2 => (HW.out.block k (Nat.lt_of_lt_of_le h2 HBa.out.size) (fun e => by have h9 : g < w1.heap.size := HBl.out.2; omega)).trans (HBa.out.block k h2))
    have HSb := Aside0.mk (show w7.heap.size ≤ wb.heap.size from Nat.le_trans HBa.out.size HW.out.size)
    have HBb := Aside0.mk (show Below w.heap.size w wb from (below_step HB7.out HBa.out).trans (HW.out.toBelow w.heap.size (below_step HB7.out HBa.out).size (fun k hk => by rw [hk]; exact HBl.out.1)))
    obtain ⟨hgp, hgq, hgr, _⟩ := HF.out wb HB7b.out HSb.out
    obtain ⟨⟨m0, m1, m2, m3⟩, _⟩ := facts4 hgp
    obtain ⟨⟨n0, n1, n2, n3⟩, _⟩ := facts4 hgr
    clear hgp hgq hgr
    go_wp2_with fail
    obtain ⟨_, _, _, hmo, hno, q0, q1, q2, q3⟩ := HF.out wb HB7b.out HSb.out
    obtain ⟨_, _, _, _, e0, e1, e2, e3, g0, g1, g2, g3⟩ := hmo.reads
    injection e0 with e0
    injection e1 with e1
    injection e2 with e2
    injection e3 with e3
    subst e0 e1 e2 e3
    have HS := Aside0.mk (moduleSame.calls P0 P1 P2 P3 R0 R1 R2 R3 x0.length x1.length x2.length x3.length r0 r1 r2 r3 x0 x1 x2 x3 wb g0 (Nat.le_refl _) g1 (Nat.le_refl _) g2 (Nat.le_refl _) g3 (Nat.le_refl _) q0 HCS.out.1 q1 HCS.out.2.1 q2 HCS.out.2.2.1 q3 HCS.out.2.2.2)
    clear hmo hno q0 q1 q2 q3 g0 g1 g2 g3
    refine HS.out.mono ?_
    rintro e wc ⟨rfl, hb⟩
    clear HS
    have HBc := Aside0.mk hb
    clear hb m0 m1 m2 m3 n0 n1 n2 n3
    have HBd := Aside0.mk (show ∀ k, w1.heap.size ≤ k → k < w7.heap.size → wc.heap[k]? = w7.heap[k]? from fun k h1 h2 => (HBc.out.block k (Nat.lt_of_lt_of_le h2 HSb.out)).trans (HB7b.out k h1 h2))
    have HSc := Aside0.mk (Nat.le_trans HSb.out HBc.out.size)
    obtain ⟨hgp, hgq, hgr, _⟩ := HF.out wc HBd.out HSc.out
    obtain ⟨⟨m0, m1, m2, m3⟩, _⟩ := facts4 hgp
    obtain ⟨⟨n0, n1, n2, n3⟩, _⟩ := facts4 hgq
    clear hgp hgq hgr
    obtain ⟨_, _, _, hmo, hno, _⟩ := HF.out wc HBd.out HSc.out
    have hlen : Lens (x0, x1, x2, x3) := by have := HLE.out; rw [HRD.out] at this; exact this
    obtain ⟨M, e0, e1, e2, e3, hMo⟩ := MD.of hmo hlen
    obtain ⟨N, f0, f1, f2, f3, hNo⟩ := MD.of hno hlen
    have hal := below_alloc (Below.refl wc.heap.size wc) (.cells #[.slice P0 x0.length x0.length, .slice P1 x1.length x1.length, .slice P2 x2.length x2.length, .slice P3 x3.length x3.length, .slice Q0 x0.length x0.length, .slice Q1 x1.length x1.length, .slice Q2 x2.length x2.length, .slice Q3 x3.length x3.length] 26)
    have hh := heap_alloc_new wc (.cells #[.slice P0 x0.length x0.length, .slice P1 x1.length x1.length, .slice P2 x2.length x2.length, .slice P3 x3.length x3.length, .slice Q0 x0.length x0.length, .slice Q1 x1.length x1.length, .slice Q2 x2.length x2.length, .slice Q3 x3.length x3.length] 26)
    have HMC := Aside0.mk (modules.calls [M, N] wc.heap.size 2 w1.heap.size w4.heap.size (wc.alloc (.cells #[.slice P0 x0.length x0.length, .slice P1 x1.length x1.length, .slice P2 x2.length x2.length, .slice P3 x3.length x3.length, .slice Q0 x0.length x0.length, .slice Q1 x1.length x1.length, .slice Q2 x2.length x2.length, .slice Q3 x3.length x3.length] 26)) (by simp) (by simp) (fun i m hm => by
     match i, hm with
     | 0, hm =>
      obtain rfl : M = m := by simpa using hm
      exact ⟨(blk_cell hh 0).trans (congrArg some e0), (blk_cell hh 1).trans (congrArg some e1), (blk_cell hh 2).trans (congrArg some e2), (blk_cell hh 3).trans (congrArg some e3)⟩
     | 1, hm =>
      obtain rfl : N = m := by simpa using hm
      exact ⟨(blk_cell hh 4).trans (congrArg some f0), (blk_cell hh 5).trans (congrArg some f1), (blk_cell hh 6).trans (congrArg some f2), (blk_cell hh 7).trans (congrArg some f3)⟩
     | i + 2, hm => simp at hm) ⟨w2.heap.size, HSZ.out.1, hMo.move (fun k _ _ h => hal.block k h), w4.heap.size, by have := HSZ.out; omega, (hNo.move (fun k _ _ h => hal.block k h)).wide (by have := HSZ.out; omega) (Nat.le_refl _), Nat.le_refl _⟩ (by have := HSZ.out; have := HSc.out; omega))
    have HBe := Aside0.mk (below_step (below_step HBb.out HBc.out) hal)
    clear hmo hno hlen e0 e1 e2 e3 f0 f1 f2 f3 hMo hNo hal hh
    go_wp2_with fail
    refine HMC.out.mono ?_
    rintro e wd ⟨rfl, hW⟩
    have HBf := Aside0.mk (show Below w.heap.size w wd from HBe.out.trans (hW.toBelow w.heap.size HBe.out.size (fun k hk => Nat.le_trans HB1.out.size hk.1)))
    clear hW HMC HBe
    go_wp2_with fail
    refine (awake12.calls wd (tab_below HT.out HBf.out)).mono ?_
    rintro e we ⟨rfl, hb⟩
    have HBg := Aside0.mk (below_step HBf.out hb)
    clear hb
    go_wp2
    go_ret
    exact ⟨rfl, HBg.out⟩
theorem louverlaw12_ImageReads.walk (a0 : Option Addr) (len0 cap0 : Nat) (z0 : List Int) (w : World)
  (w0 : (a0 = none ∧ len0 = 0 ∧ cap0 = 0 ∧ z0 = []) ∨ ∃ x, a0 = some x ∧ len0 ≤ cap0 ∧ cap0 ≤ maxLen ∧ z0.length = cap0 ∧ (∀ i, i < z0.length → w.cell? (x.add i) = some (.int .u8 (z0.getD i 0))) ∧ ∀ n ∈ z0, (Lit.int .u8 n).wf = true) (y0 : len0 * 1 ≤ 140737488351232) (hL : laidMetH Tryd.prog Rows.imageReadsRow.laid w) :
  Calls Tryd.prog 12 #[.slice a0 len0 cap0] w fun e w' => e = .returned (.bool true) ∧ Below w.heap.size w w' := by
 obtain ⟨l0, rfl, hr0, hm0, hw0, hc0⟩ := ReadsInt.ofRowC w0
 exact imageReads.calls a0 cap0 l0 w (tab_of_laid hL) (Kd.C_of_reads (d := (0 : Int)) (h1 := fun _ => rfl) hr0) hc0 (bts_of_wf hw0) (by omega)
end Go.Proofs.YtgpdaihfjnihhaaDoor.PJ
