/- The law ImageSums, second form: by hand, where what comes in is of bulk at most 1048576. -/
import Derived.Test.YtgpdaihfjnihhaaDoorSPJx3
import Derived.Test.YtgpdaihfjnihhaaDoorSPKit
import Derived.Test.YtgpdaihfjnihhaaDoorSPFns
import Derived.Test.YtgpdaihfjnihhaaDoorSHandImgBack
import Derived.Test.YtgpdaihfjnihhaaDoorSHandLent
import Derived.Test.YtgpdaihfjnihhaaDoorSNamesAll
import Derived.Test.YtgpdaihfjnihhaaDoorSOpenUptoB
namespace Go.Proofs.YtgpdaihfjnihhaaDoor.PJ
open Go.RowKit Go.Proofs.YtgpdaihfjnihhaaDoorW.PrintWords Go.Proofs.YtgpdaihfjnihhaaDoorW.PrintLast Go.Proofs.YtgpdaihfjnihhaaDoorW.PrintMore Go.Proofs.YtgpdaihfjnihhaaDoor.LebPure Go.Proofs.YtgpdaihfjnihhaaDoor.LebForm Go.Proofs.YtgpdaihfjnihhaaDoor.B64
set_option linter.unusedSimpArgs false
set_option linter.unusedVariables false
theorem sumRows.calls (vs : Array Value) (ls : List (List Int)) (n : Nat) (w : World) (hn : n = ls.length) (hb : ∀ l ∈ ls, Bts l) (hm : ls.length ≤ 1000) (hl : ∀ l ∈ ls, l.length ≤ 9223372036854775807)
  (hv : ∀ (i : Nat) (l : List Int), ls[i]? = some l → ∃ (A : Option Addr) (c : Nat), vs[i]? = some (Value.slice A l.length c) ∧ l.length ≤ c ∧ Kd.C (Kd.int .u8) w A l.length l) :
  Calls Tryd.prog 46 #[.slice (some ⟨w.heap.size, 0, none⟩) n n] (w.alloc (.cells vs 27)) fun e w' => e = .returned (.int .u64 (sumL ls.flatten)) ∧ Below (w.alloc (.cells vs 27)).heap.size (w.alloc (.cells vs 27)) w' := by
 obtain ⟨K, hK⟩ := imgSum_f ls hb (by omega) hl
 subst hn
 refine (image_Sum.calls K (some ⟨w.heap.size, 0, none⟩) ls.length ls (sumL ls.flatten) (w.alloc (.cells vs 27)) ⟨rfl, by omega, fun hp => ⟨_, rfl, fun j p hj => ?_⟩⟩ (Nat.le_refl _) (hK K (Nat.le_refl _))).mono ?_
 ·
  obtain ⟨A, c, h1, h2, h3⟩ := hv j p hj
  refine ⟨[.slice A p.length c], rfl, ⟨A, c, rfl, h2, Kd.C_below h3 (below_alloc (Below.refl _ _) _)⟩, fun q u hu => ?_⟩
  match q, hu with
  | 0, hu =>
   obtain rfl : Value.slice A p.length c = u := by simpa using hu
   show (w.alloc (.cells vs 27)).cell? ((⟨w.heap.size, 0, none⟩ : Addr).add (j * 1 + 0)) = _
   rw [add_plain, Nat.mul_one, Nat.add_zero]
   exact (blk_cell (heap_alloc_new w (.cells vs 27)) j).trans h1
  | q + 1, hu => simp at hu
 ·
  rintro e w' ⟨rfl, hd⟩
  exact ⟨rfl, hd.below⟩
set_option maxHeartbeats 16000000 in
set_option maxRecDepth 100000 in
theorem imageSums.calls (A0 B0 : Option Addr) (c0 d0 : Nat) (la lb : List Int) (w : World) (ht : Lib.TabIs Tryd.prog w "strings.asciiSpace" .u8 Lib.asciiSpaceTab)
  (h0 : Kd.C (Kd.int .u8) w A0 la.length la) (k0 : la.length ≤ c0) (g0 : Kd.C (Kd.int .u8) w B0 lb.length lb) (m0 : lb.length ≤ d0) (ha : Bts la) (hb : Bts lb) (hl : la.length + lb.length ≤ 2000000) :
  Calls Tryd.prog 13 #[.slice A0 la.length c0, .slice B0 lb.length d0] w fun e w' => e = .returned (.bool true) ∧ Below w.heap.size w w' := by
 have HT := Aside0.mk ht
 have HR0 := Aside0.mk h0
 have HG0 := Aside0.mk g0
 have HC := Aside0.mk (And.intro k0 m0)
 have HBT := Aside0.mk (And.intro ha hb)
 have HL := Aside0.mk hl
 have HB := Aside0.mk (Below.refl w.heap.size w)
 have HK := Aside0.mk (show louverkit_Bytes.f (la.length + 1) la la = some true by rw [Bytes_f _ la la (by omega) (by omega), decide_eq_true rfl])
 have HF1 := Aside0.mk (refSum_f (la ++ lb) (ha.append hb) (by rw [List.length_append]; omega) ((la ++ lb).length + 1) (by omega))
 have HF2 := Aside0.mk (refSum_f lb hb (by omega) (lb.length + 1) (by omega))
 have HF3 := Aside0.mk (refSum_f la ha (by omega) (la.length + 1) (by omega))
 obtain ⟨s1, hs1⟩ : ∃ s, sumL (la ++ lb) = s := ⟨_, rfl⟩
 obtain ⟨s2, hs2⟩ : ∃ s, sumL lb = s := ⟨_, rfl⟩
 obtain ⟨s3, hs3⟩ : ∃ s, sumL la = s := ⟨_, rfl⟩
 rw [hs1] at HF1
 rw [hs2] at HF2
 rw [hs3] at HF3
 have HS := Aside0.mk (And.intro hs1 (And.intro hs2 hs3))
 clear ht h0 g0 k0 m0 ha hb hl hs1 hs2 hs3
 go_enter Tryd.func13, Tryd.ntmps13
 go_wp2_with (first | ((with_reducible refine gate_builtin (b := .append) (xs := #[.tmp 7, .tmp 8]) rfl ?_); at_builtin; refine Kd.R_append_rows (Kd.int .u8) (w0 := w) w.heap.size rfl (.tmp 7) (.tmp 8) 27 5 (.int .u8 0) 1 rfl Tryd.underlying27 winfo8 rfl (by decide) (by omega) (.slice none 0 0) ([] : List Int) la A0 la.length c0 (fun k => w.heap.size ≤ k) (fun _ => False) rfl rfl ?aO ?aR (fun _ _ h => h) (fun _ h => h.elim) ?aF ?aB ?aS ?aL ?_; (case aO => exact Kd.R_nil _ _ _ _ _); (case aR => exact HR0.out); (case aF => exact (fun k hk => hk)); (case aB => exact HB.out); (case aS => exact Nat.le_refl _); (case aL => have := HL.out; simp; omega); intro v1 w1 ho hb hg hat; rw [List.nil_append] at ho; obtain ⟨X1, x1, e1⟩ := Kd.R_slice ho; subst e1; have HR1 := Aside0.mk ho; have HB1 := Aside0.mk hb; clear ho hb hg hat) | ((with_reducible refine gate_builtin (b := .append) (xs := #[.tmp 10, .tmp 11]) rfl ?_); at_builtin; refine Kd.R_append_rows (Kd.int .u8) (w0 := w) w.heap.size rfl (.tmp 10) (.tmp 11) 27 5 (.int .u8 0) 1 rfl Tryd.underlying27 winfo8 rfl (by decide) (by omega) (.slice X1 la.length x1) la lb B0 lb.length d0 (fun k => w.heap.size ≤ k) (fun _ => False) rfl rfl ?aO ?aR (fun _ _ h => h) (fun _ h => h.elim) ?aF ?aB ?aS ?aL ?_; (case aO => exact HR1.out); (case aR => exact Kd.C_below HG0.out HB1.out); (case aF => exact (fun k hk => Nat.le_trans HB1.out.size hk)); (case aB => exact HB1.out); (case aS => exact HB1.out.size); (case aL => have := HL.out; omega); intro v2 w2 ho hb hg hat; obtain ⟨X2, x2, e2⟩ := Kd.R_slice ho; subst e2; have HR2 := Aside0.mk (Kd.R_reads' ho).2; have HB2 := Aside0.mk hb; clear ho hb hg hat))
 refine (louverkit_LentBytes.calls A0 c0 la w2 (Kd.C_below HR0.out HB2.out) (by have := HL.out; omega)).mono ?_
 rintro e w3 ⟨v, rfl, hL, hb⟩
 obtain ⟨ad, c, rfl, hcap, hCx, _⟩ := hL.reads
 have HLent := Aside0.mk hL
 have HX := Aside0.mk (And.intro (show la.length ≤ c by omega) hCx)
 have HB3 := Aside0.mk (below_step HB2.out hb)
 have HA3 := Aside0.mk (Kd.C_below HR2.out.2 hb)
 clear hL hCx hcap hb HB HB1 HR1
 go_wp2_with fail
 refine (sumRows.calls #[.slice (some ad) la.length c, .slice B0 lb.length d0] [la, lb] 2 w3 rfl ?b1 (by simp) ?b2 ?b3).mono ?_
 case b1 => intro l h; simp only [List.mem_cons, List.not_mem_nil, or_false] at h; rcases h with rfl | rfl; exact HBT.out.1; exact HBT.out.2
 case b2 => intro l h; have := HL.out; simp only [List.mem_cons, List.not_mem_nil, or_false] at h; rcases h with rfl | rfl <;> omega
 case b3 =>
  intro i l h
  match i, h with
  | 0, h =>
   obtain rfl : la = l := by simpa using h
   exact ⟨_, _, rfl, HX.out.1, HX.out.2⟩
  | 1, h =>
   obtain rfl : lb = l := by simpa using h
   exact ⟨_, _, rfl, HC.out.2, Kd.C_below HG0.out HB3.out⟩
 rintro e w4 ⟨rfl, hb⟩
 rw [show [la, lb].flatten = la ++ lb by simp, HS.out.1]
 have HB4 := Aside0.mk (below_step (below_alloc (Below.refl w3.heap.size w3) (.cells #[.slice (some ad) la.length c, .slice B0 lb.length d0] 27)) hb)
 clear hb
 go_wp2_with fail
 have HSC := Aside0.mk (louverref12_Sum.calls ((la ++ lb).length + 1) X2 x2 (la ++ lb) s1 w4 (Kd.C_below HA3.out HB4.out) HR2.out.1 HF1.out)
 rw [List.length_append] at HSC
 refine HSC.out.mono ?_
 rintro e w5 ⟨rfl, hd⟩
 have HB5 := Aside0.mk (below_step HB4.out hd.below)
 clear hd HB4 HA3
 go_wp2_with fail
 refine (sumRows.calls #[.slice B0 lb.length d0] [lb] 1 w5 rfl ?b1 (by simp) ?b2 ?b3).mono ?_
 case b1 => intro l h; rw [List.mem_singleton.1 h]; exact HBT.out.2
 case b2 => intro l h; have := HL.out; rw [List.mem_singleton.1 h]; omega
 case b3 =>
  intro i l h
  match i, h with
  | 0, h =>
   obtain rfl : lb = l := by simpa using h
   exact ⟨_, _, rfl, HC.out.2, Kd.C_below HG0.out (below_step HB3.out HB5.out)⟩
 rintro e w6 ⟨rfl, hb⟩
 rw [show [lb].flatten = lb by simp, HS.out.2.1]
 have HB6 := Aside0.mk (below_step HB5.out (below_step (below_alloc (Below.refl w5.heap.size w5) (.cells #[.slice B0 lb.length d0] 27)) hb))
 clear hb HB5
 go_wp2_with fail
 refine (louverref12_Sum.calls (lb.length + 1) B0 d0 lb s2 w6 (Kd.C_below HG0.out (below_step HB3.out HB6.out)) HC.out.2 HF2.out).mono ?_
 rintro e w7 ⟨rfl, hd⟩
 have HB7 := Aside0.mk (below_step HB6.out hd.below)
 clear hd HB6
 go_wp2_with fail
 refine (sumRows.calls #[.slice none 0 0, .slice (some ad) la.length c, .slice none 0 0] [[], la, []] 3 w7 rfl ?b1 (by simp) ?b2 ?b3).mono ?_
 case b1 => intro l h; simp only [List.mem_cons, List.not_mem_nil, or_false] at h; rcases h with rfl | rfl | rfl; (intro x hx; cases hx); exact HBT.out.1; (intro x hx; cases hx)
 case b2 => intro l h; have := HL.out; simp only [List.mem_cons, List.not_mem_nil, or_false] at h; rcases h with rfl | rfl | rfl <;> simp <;> omega
 case b3 =>
  intro i l h
  match i, h with
  | 0, h =>
   obtain rfl : [] = l := by simpa using h
   exact ⟨none, 0, rfl, Nat.le_refl _, Kd.C_nil _ _⟩
  | 1, h =>
   obtain rfl : la = l := by simpa using h
   exact ⟨_, _, rfl, HX.out.1, Kd.C_below HX.out.2 HB7.out⟩
  | 2, h =>
   obtain rfl : [] = l := by simpa using h
   exact ⟨none, 0, rfl, Nat.le_refl _, Kd.C_nil _ _⟩
 rintro e w8 ⟨rfl, hb⟩
 rw [show [[], la, []].flatten = la by simp, HS.out.2.2]
 have HB8 := Aside0.mk (below_step HB7.out (below_step (below_alloc (Below.refl w7.heap.size w7) (.cells #[.slice none 0 0, .slice (some ad) la.length c, .slice none 0 0] 27)) hb))
 clear hb HB7
 go_wp2_with fail
 refine (louverref12_Sum.calls (la.length + 1) A0 c0 la s3 w8 (Kd.C_below HR0.out (below_step HB3.out HB8.out)) HC.out.1 HF3.out).mono ?_
 rintro e w9 ⟨rfl, hd⟩
 have HB9 := Aside0.mk (below_step HB8.out hd.below)
 clear hd HB8
 go_wp2_with fail
 refine (louverkit_KeptBytes.calls (la.length + 1) _ la _ _ _ la w9 (HLent.out.below HB9.out) (Kd.C_below HR0.out (below_step HB3.out HB9.out)) HC.out.1 (by have := HL.out; omega) HK.out).mono ?_
 rintro e w10 ⟨rfl, hd⟩
 have HB10 := Aside0.mk (below_step HB9.out hd.below)
 clear hd HB9
 go_wp2_with fail
 refine (awake12.calls w10 (tab_below HT.out (below_step HB3.out HB10.out))).mono ?_
 rintro e w11 ⟨rfl, hb⟩
 have HB11 := Aside0.mk (below_step HB3.out (below_step HB10.out hb))
 clear hb
 go_wp2
 go_ret
 exact ⟨rfl, HB11.out⟩
theorem louverlaw12_ImageSums.walk (a0 : Option Addr) (len0 cap0 : Nat) (z0 : List Int) (a1 : Option Addr) (len1 cap1 : Nat) (z1 : List Int) (w : World)
  (w0 : (Kd.slice 5 (Kd.int .u8)).K w z0 (Value.slice a0 len0 cap0).cells.toList) (y0 : (∀ x ∈ z0, (Lit.int .u8 x).wf = true) ∧ z0.length * 1 ≤ 140737488351232)
  (w1 : (Kd.slice 5 (Kd.int .u8)).K w z1 (Value.slice a1 len1 cap1).cells.toList) (y1 : (∀ x ∈ z1, (Lit.int .u8 x).wf = true) ∧ z1.length * 1 ≤ 140737488351232)
  (hb : z0.length + z1.length ≤ 2000000) (hL : laidMetH Tryd.prog Rows.imageSumsRow.laid w) :
  Calls Tryd.prog 13 #[.slice a0 len0 cap0, .slice a1 len1 cap1] w fun e w' => e = .returned (.bool true) ∧ Below w.heap.size w w' := by
 obtain ⟨A0, c0, e0, h0, g0⟩ := w0
 obtain ⟨A1, c1, e1, h1, g1⟩ := w1
 have e0 : Value.slice a0 len0 cap0 = .slice A0 z0.length c0 := by simpa [Value.cells] using e0
 have e1 : Value.slice a1 len1 cap1 = .slice A1 z1.length c1 := by simpa [Value.cells] using e1
 rw [e0, e1]
 exact imageSums.calls A0 A1 c0 c1 z0 z1 w (tab_of_laid hL) g0 h0 g1 h1 (bts_of_wf y0.1) (bts_of_wf y1.1) hb
end Go.Proofs.YtgpdaihfjnihhaaDoor.PJ
