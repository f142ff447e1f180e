/- Package code without a program: names lead to operations as the document's loop does; the table by its rows. -/
import Derived.Test.YtgpdaihfjnihhaaDoorPJx3
import Derived.Test.YtgpdaihfjnihhaaDoorPJx10
import Derived.Test.YtgpdaihfjnihhaaDoorHandCode6
namespace Go.Proofs.YtgpdaihfjnihhaaDoor.PJ
open Go.RowKit Go.Proofs.YtgpdaihfjnihhaaDoorW.PrintWords Go.Proofs.YtgpdaihfjnihhaaDoorW.PrintLast Go.Proofs.YtgpdaihfjnihhaaDoorW.PrintMore
set_option linter.unusedSimpArgs false
set_option maxRecDepth 100000
theorem idx_step (k : Nat) (l : List ByteArray) (s g : ByteArray) (n i j : Int) (hi : i < n) (h0 : 0 ≤ i) (hl : i < (l.length : Int)) (hg : rdOf ByteArray.empty l i = g) (hj : i + 1 = j) (hb : i ≤ 1000) :
    slices_Index_string_string.l0 (k + 1) l s n i = if s.toList = g.toList then some i else slices_Index_string_string.l0 k l s n j := by
  rw [slices_Index_string_string.l0, if_pos hi, if_pos h0, if_pos hl, hg, show wrap64 (i + 1) = j by unfold wrap64; omega]
theorem idx_end (k : Nat) (l : List ByteArray) (s : ByteArray) (n i : Int) (hi : ¬ i < n) : slices_Index_string_string.l0 (k + 1) l s n i = some (-1) := by
  rw [slices_Index_string_string.l0, if_neg hi]
theorem ref_step (k : Nat) (s g : ByteArray) (x y p q d : Int) (hx : x ≤ 47) (hT : louverref10_Table.f k x = some (g, p, q, d, true)) (hy : x + 1 = y) (hb : 0 ≤ x) :
    louverref10_ByName.l0 (k + 1) s x = if s.toList = g.toList then some (x, true) else louverref10_ByName.l0 k s y := by
  rw [louverref10_ByName.l0, if_pos hx, hT, Option.bind_some, show wrap64 (x + 1) = y by unfold wrap64; omega]
  rw [if_pos rfl]
  by_cases h : g.toList = s.toList
  · rw [if_pos h, if_pos h.symm]
  · rw [if_neg h, if_neg (fun e => h e.symm)]
theorem ref_skip (k : Nat) (s g : ByteArray) (x y p q d : Int) (hx : x ≤ 47) (hT : louverref10_Table.f k x = some (g, p, q, d, false)) (hy : x + 1 = y) (hb : 0 ≤ x) :
    louverref10_ByName.l0 (k + 1) s x = louverref10_ByName.l0 k s y := by
  rw [louverref10_ByName.l0, if_pos hx, hT, Option.bind_some, show wrap64 (x + 1) = y by unfold wrap64; omega]
  rfl
theorem ref_end (k : Nat) (s : ByteArray) : louverref10_ByName.l0 (k + 1) s 48 = some (0, false) := by
  rw [louverref10_ByName.l0, if_neg (by decide)]
theorem indexO (s : ByteArray) : slices_Index_string_string.f 60 opL s = some (if s.toList = (⟨#[97, 100, 100]⟩ : ByteArray).toList then 0 else if s.toList = (⟨#[115, 117, 98]⟩ : ByteArray).toList then 1 else if s.toList = (⟨#[109, 117, 108]⟩ : ByteArray).toList then 2 else if s.toList = (⟨#[100, 105, 118]⟩ : ByteArray).toList then 3 else if s.toList = (⟨#[114, 101, 109]⟩ : ByteArray).toList then 4 else if s.toList = (⟨#[97, 110, 100]⟩ : ByteArray).toList then 5 else if s.toList = (⟨#[111, 114]⟩ : ByteArray).toList then 6 else if s.toList = (⟨#[120, 111, 114]⟩ : ByteArray).toList then 7 else if s.toList = (⟨#[115, 104, 108]⟩ : ByteArray).toList then 8 else if s.toList = (⟨#[115, 104, 114]⟩ : ByteArray).toList then 9 else if s.toList = (⟨#[101, 113]⟩ : ByteArray).toList then 10 else if s.toList = (⟨#[110, 101]⟩ : ByteArray).toList then 11 else if s.toList = (⟨#[108, 116]⟩ : ByteArray).toList then 12 else if s.toList = (⟨#[108, 101]⟩ : ByteArray).toList then 13 else if s.toList = (⟨#[110, 101, 103]⟩ : ByteArray).toList then 14 else if s.toList = (⟨#[110, 111, 116]⟩ : ByteArray).toList then 15 else if s.toList = (⟨#[105, 110, 118]⟩ : ByteArray).toList then 16 else -1) := by
  show slices_Index_string_string.l0 60 opL s 17 0 = _
  rw [idx_step 59 opL s (⟨#[97, 100, 100]⟩ : ByteArray) 17 0 1 (by decide) (by decide) (by decide) rfl (by decide) (by decide)]
  rw [idx_step 58 opL s (⟨#[115, 117, 98]⟩ : ByteArray) 17 1 2 (by decide) (by decide) (by decide) rfl (by decide) (by decide)]
  rw [idx_step 57 opL s (⟨#[109, 117, 108]⟩ : ByteArray) 17 2 3 (by decide) (by decide) (by decide) rfl (by decide) (by decide)]
  rw [idx_step 56 opL s (⟨#[100, 105, 118]⟩ : ByteArray) 17 3 4 (by decide) (by decide) (by decide) rfl (by decide) (by decide)]
  rw [idx_step 55 opL s (⟨#[114, 101, 109]⟩ : ByteArray) 17 4 5 (by decide) (by decide) (by decide) rfl (by decide) (by decide)]
  rw [idx_step 54 opL s (⟨#[97, 110, 100]⟩ : ByteArray) 17 5 6 (by decide) (by decide) (by decide) rfl (by decide) (by decide)]
  rw [idx_step 53 opL s (⟨#[111, 114]⟩ : ByteArray) 17 6 7 (by decide) (by decide) (by decide) rfl (by decide) (by decide)]
  rw [idx_step 52 opL s (⟨#[120, 111, 114]⟩ : ByteArray) 17 7 8 (by decide) (by decide) (by decide) rfl (by decide) (by decide)]
  rw [idx_step 51 opL s (⟨#[115, 104, 108]⟩ : ByteArray) 17 8 9 (by decide) (by decide) (by decide) rfl (by decide) (by decide)]
  rw [idx_step 50 opL s (⟨#[115, 104, 114]⟩ : ByteArray) 17 9 10 (by decide) (by decide) (by decide) rfl (by decide) (by decide)]
  rw [idx_step 49 opL s (⟨#[101, 113]⟩ : ByteArray) 17 10 11 (by decide) (by decide) (by decide) rfl (by decide) (by decide)]
  rw [idx_step 48 opL s (⟨#[110, 101]⟩ : ByteArray) 17 11 12 (by decide) (by decide) (by decide) rfl (by decide) (by decide)]
  rw [idx_step 47 opL s (⟨#[108, 116]⟩ : ByteArray) 17 12 13 (by decide) (by decide) (by decide) rfl (by decide) (by decide)]
  rw [idx_step 46 opL s (⟨#[108, 101]⟩ : ByteArray) 17 13 14 (by decide) (by decide) (by decide) rfl (by decide) (by decide)]
  rw [idx_step 45 opL s (⟨#[110, 101, 103]⟩ : ByteArray) 17 14 15 (by decide) (by decide) (by decide) rfl (by decide) (by decide)]
  rw [idx_step 44 opL s (⟨#[110, 111, 116]⟩ : ByteArray) 17 15 16 (by decide) (by decide) (by decide) rfl (by decide) (by decide)]
  rw [idx_step 43 opL s (⟨#[105, 110, 118]⟩ : ByteArray) 17 16 17 (by decide) (by decide) (by decide) rfl (by decide) (by decide)]
  rw [idx_end 42 opL s 17 17 (by decide)]
  simp only [apply_ite some]
theorem indexI (s : ByteArray) : slices_Index_string_string.f 60 inL s = some (if s.toList = (⟨#[99, 111, 110, 115, 116]⟩ : ByteArray).toList then 0 else if s.toList = (⟨#[108, 111, 99, 97, 108]⟩ : ByteArray).toList then 1 else if s.toList = (⟨#[115, 101, 116]⟩ : ByteArray).toList then 2 else if s.toList = (⟨#[103, 108, 111, 98, 97, 108]⟩ : ByteArray).toList then 3 else if s.toList = (⟨#[115, 101, 116, 103, 108, 111, 98, 97, 108]⟩ : ByteArray).toList then 4 else if s.toList = (⟨#[108, 111, 97, 100]⟩ : ByteArray).toList then 5 else if s.toList = (⟨#[115, 116, 111, 114, 101]⟩ : ByteArray).toList then 6 else if s.toList = (⟨#[100, 117, 112]⟩ : ByteArray).toList then 7 else if s.toList = (⟨#[115, 119, 97, 112]⟩ : ByteArray).toList then 8 else if s.toList = (⟨#[112, 111, 112]⟩ : ByteArray).toList then 9 else if s.toList = (⟨#[110, 111, 112]⟩ : ByteArray).toList then 10 else if s.toList = (⟨#[106, 117, 109, 112]⟩ : ByteArray).toList then 11 else if s.toList = (⟨#[122, 101, 114, 111]⟩ : ByteArray).toList then 12 else if s.toList = (⟨#[99, 97, 108, 108]⟩ : ByteArray).toList then 13 else if s.toList = (⟨#[114, 101, 116, 117, 114, 110]⟩ : ByteArray).toList then 14 else if s.toList = (⟨#[115, 101, 110, 100]⟩ : ByteArray).toList then 15 else -1) := by
  show slices_Index_string_string.l0 60 inL s 16 0 = _
  rw [idx_step 59 inL s (⟨#[99, 111, 110, 115, 116]⟩ : ByteArray) 16 0 1 (by decide) (by decide) (by decide) rfl (by decide) (by decide)]
  rw [idx_step 58 inL s (⟨#[108, 111, 99, 97, 108]⟩ : ByteArray) 16 1 2 (by decide) (by decide) (by decide) rfl (by decide) (by decide)]
  rw [idx_step 57 inL s (⟨#[115, 101, 116]⟩ : ByteArray) 16 2 3 (by decide) (by decide) (by decide) rfl (by decide) (by decide)]
  rw [idx_step 56 inL s (⟨#[103, 108, 111, 98, 97, 108]⟩ : ByteArray) 16 3 4 (by decide) (by decide) (by decide) rfl (by decide) (by decide)]
  rw [idx_step 55 inL s (⟨#[115, 101, 116, 103, 108, 111, 98, 97, 108]⟩ : ByteArray) 16 4 5 (by decide) (by decide) (by decide) rfl (by decide) (by decide)]
  rw [idx_step 54 inL s (⟨#[108, 111, 97, 100]⟩ : ByteArray) 16 5 6 (by decide) (by decide) (by decide) rfl (by decide) (by decide)]
  rw [idx_step 53 inL s (⟨#[115, 116, 111, 114, 101]⟩ : ByteArray) 16 6 7 (by decide) (by decide) (by decide) rfl (by decide) (by decide)]
  rw [idx_step 52 inL s (⟨#[100, 117, 112]⟩ : ByteArray) 16 7 8 (by decide) (by decide) (by decide) rfl (by decide) (by decide)]
  rw [idx_step 51 inL s (⟨#[115, 119, 97, 112]⟩ : ByteArray) 16 8 9 (by decide) (by decide) (by decide) rfl (by decide) (by decide)]
  rw [idx_step 50 inL s (⟨#[112, 111, 112]⟩ : ByteArray) 16 9 10 (by decide) (by decide) (by decide) rfl (by decide) (by decide)]
  rw [idx_step 49 inL s (⟨#[110, 111, 112]⟩ : ByteArray) 16 10 11 (by decide) (by decide) (by decide) rfl (by decide) (by decide)]
  rw [idx_step 48 inL s (⟨#[106, 117, 109, 112]⟩ : ByteArray) 16 11 12 (by decide) (by decide) (by decide) rfl (by decide) (by decide)]
  rw [idx_step 47 inL s (⟨#[122, 101, 114, 111]⟩ : ByteArray) 16 12 13 (by decide) (by decide) (by decide) rfl (by decide) (by decide)]
  rw [idx_step 46 inL s (⟨#[99, 97, 108, 108]⟩ : ByteArray) 16 13 14 (by decide) (by decide) (by decide) rfl (by decide) (by decide)]
  rw [idx_step 45 inL s (⟨#[114, 101, 116, 117, 114, 110]⟩ : ByteArray) 16 14 15 (by decide) (by decide) (by decide) rfl (by decide) (by decide)]
  rw [idx_step 44 inL s (⟨#[115, 101, 110, 100]⟩ : ByteArray) 16 15 16 (by decide) (by decide) (by decide) rfl (by decide) (by decide)]
  rw [idx_end 43 inL s 16 16 (by decide)]
  simp only [apply_ite some]
theorem refByName (s : ByteArray) : louverref10_ByName.f 60 s = some (if s.toList = (⟨#[97, 100, 100]⟩ : ByteArray).toList then (1, true) else if s.toList = (⟨#[115, 117, 98]⟩ : ByteArray).toList then (2, true) else if s.toList = (⟨#[109, 117, 108]⟩ : ByteArray).toList then (3, true) else if s.toList = (⟨#[100, 105, 118]⟩ : ByteArray).toList then (4, true) else if s.toList = (⟨#[114, 101, 109]⟩ : ByteArray).toList then (5, true) else if s.toList = (⟨#[97, 110, 100]⟩ : ByteArray).toList then (6, true) else if s.toList = (⟨#[111, 114]⟩ : ByteArray).toList then (7, true) else if s.toList = (⟨#[120, 111, 114]⟩ : ByteArray).toList then (8, true) else if s.toList = (⟨#[115, 104, 108]⟩ : ByteArray).toList then (9, true) else if s.toList = (⟨#[115, 104, 114]⟩ : ByteArray).toList then (10, true) else if s.toList = (⟨#[101, 113]⟩ : ByteArray).toList then (11, true) else if s.toList = (⟨#[110, 101]⟩ : ByteArray).toList then (12, true) else if s.toList = (⟨#[108, 116]⟩ : ByteArray).toList then (13, true) else if s.toList = (⟨#[108, 101]⟩ : ByteArray).toList then (14, true) else if s.toList = (⟨#[110, 101, 103]⟩ : ByteArray).toList then (15, true) else if s.toList = (⟨#[110, 111, 116]⟩ : ByteArray).toList then (16, true) else if s.toList = (⟨#[105, 110, 118]⟩ : ByteArray).toList then (17, true) else if s.toList = (⟨#[99, 111, 110, 115, 116]⟩ : ByteArray).toList then (32, true) else if s.toList = (⟨#[108, 111, 99, 97, 108]⟩ : ByteArray).toList then (33, true) else if s.toList = (⟨#[115, 101, 116]⟩ : ByteArray).toList then (34, true) else if s.toList = (⟨#[103, 108, 111, 98, 97, 108]⟩ : ByteArray).toList then (35, true) else if s.toList = (⟨#[115, 101, 116, 103, 108, 111, 98, 97, 108]⟩ : ByteArray).toList then (36, true) else if s.toList = (⟨#[108, 111, 97, 100]⟩ : ByteArray).toList then (37, true) else if s.toList = (⟨#[115, 116, 111, 114, 101]⟩ : ByteArray).toList then (38, true) else if s.toList = (⟨#[100, 117, 112]⟩ : ByteArray).toList then (39, true) else if s.toList = (⟨#[115, 119, 97, 112]⟩ : ByteArray).toList then (40, true) else if s.toList = (⟨#[112, 111, 112]⟩ : ByteArray).toList then (41, true) else if s.toList = (⟨#[110, 111, 112]⟩ : ByteArray).toList then (42, true) else if s.toList = (⟨#[106, 117, 109, 112]⟩ : ByteArray).toList then (43, true) else if s.toList = (⟨#[122, 101, 114, 111]⟩ : ByteArray).toList then (44, true) else if s.toList = (⟨#[99, 97, 108, 108]⟩ : ByteArray).toList then (45, true) else if s.toList = (⟨#[114, 101, 116, 117, 114, 110]⟩ : ByteArray).toList then (46, true) else if s.toList = (⟨#[115, 101, 110, 100]⟩ : ByteArray).toList then (47, true) else (0, false)) := by
  show louverref10_ByName.l0 60 s 1 = _
  rw [ref_step 59 s (⟨#[97, 100, 100]⟩ : ByteArray) 1 2 (2) (1) 0 (by decide) (by kernel_rfl) (by decide) (by decide)]
  rw [ref_step 58 s (⟨#[115, 117, 98]⟩ : ByteArray) 2 3 (2) (1) 0 (by decide) (by kernel_rfl) (by decide) (by decide)]
  rw [ref_step 57 s (⟨#[109, 117, 108]⟩ : ByteArray) 3 4 (2) (1) 0 (by decide) (by kernel_rfl) (by decide) (by decide)]
  rw [ref_step 56 s (⟨#[100, 105, 118]⟩ : ByteArray) 4 5 (2) (1) 0 (by decide) (by kernel_rfl) (by decide) (by decide)]
  rw [ref_step 55 s (⟨#[114, 101, 109]⟩ : ByteArray) 5 6 (2) (1) 0 (by decide) (by kernel_rfl) (by decide) (by decide)]
  rw [ref_step 54 s (⟨#[97, 110, 100]⟩ : ByteArray) 6 7 (2) (1) 0 (by decide) (by kernel_rfl) (by decide) (by decide)]
  rw [ref_step 53 s (⟨#[111, 114]⟩ : ByteArray) 7 8 (2) (1) 0 (by decide) (by kernel_rfl) (by decide) (by decide)]
  rw [ref_step 52 s (⟨#[120, 111, 114]⟩ : ByteArray) 8 9 (2) (1) 0 (by decide) (by kernel_rfl) (by decide) (by decide)]
  rw [ref_step 51 s (⟨#[115, 104, 108]⟩ : ByteArray) 9 10 (2) (1) 0 (by decide) (by kernel_rfl) (by decide) (by decide)]
  rw [ref_step 50 s (⟨#[115, 104, 114]⟩ : ByteArray) 10 11 (2) (1) 0 (by decide) (by kernel_rfl) (by decide) (by decide)]
  rw [ref_step 49 s (⟨#[101, 113]⟩ : ByteArray) 11 12 (2) (1) 0 (by decide) (by kernel_rfl) (by decide) (by decide)]
  rw [ref_step 48 s (⟨#[110, 101]⟩ : ByteArray) 12 13 (2) (1) 0 (by decide) (by kernel_rfl) (by decide) (by decide)]
  rw [ref_step 47 s (⟨#[108, 116]⟩ : ByteArray) 13 14 (2) (1) 0 (by decide) (by kernel_rfl) (by decide) (by decide)]
  rw [ref_step 46 s (⟨#[108, 101]⟩ : ByteArray) 14 15 (2) (1) 0 (by decide) (by kernel_rfl) (by decide) (by decide)]
  rw [ref_step 45 s (⟨#[110, 101, 103]⟩ : ByteArray) 15 16 (1) (1) 0 (by decide) (by kernel_rfl) (by decide) (by decide)]
  rw [ref_step 44 s (⟨#[110, 111, 116]⟩ : ByteArray) 16 17 (1) (1) 0 (by decide) (by kernel_rfl) (by decide) (by decide)]
  rw [ref_step 43 s (⟨#[105, 110, 118]⟩ : ByteArray) 17 18 (1) (1) 0 (by decide) (by kernel_rfl) (by decide) (by decide)]
  rw [ref_skip 42 s ByteArray.empty 18 19 0 0 0 (by decide) (by kernel_rfl) (by decide) (by decide)]
  rw [ref_skip 41 s ByteArray.empty 19 20 0 0 0 (by decide) (by kernel_rfl) (by decide) (by decide)]
  rw [ref_skip 40 s ByteArray.empty 20 21 0 0 0 (by decide) (by kernel_rfl) (by decide) (by decide)]
  rw [ref_skip 39 s ByteArray.empty 21 22 0 0 0 (by decide) (by kernel_rfl) (by decide) (by decide)]
  rw [ref_skip 38 s ByteArray.empty 22 23 0 0 0 (by decide) (by kernel_rfl) (by decide) (by decide)]
  rw [ref_skip 37 s ByteArray.empty 23 24 0 0 0 (by decide) (by kernel_rfl) (by decide) (by decide)]
  rw [ref_skip 36 s ByteArray.empty 24 25 0 0 0 (by decide) (by kernel_rfl) (by decide) (by decide)]
  rw [ref_skip 35 s ByteArray.empty 25 26 0 0 0 (by decide) (by kernel_rfl) (by decide) (by decide)]
  rw [ref_skip 34 s ByteArray.empty 26 27 0 0 0 (by decide) (by kernel_rfl) (by decide) (by decide)]
  rw [ref_skip 33 s ByteArray.empty 27 28 0 0 0 (by decide) (by kernel_rfl) (by decide) (by decide)]
  rw [ref_skip 32 s ByteArray.empty 28 29 0 0 0 (by decide) (by kernel_rfl) (by decide) (by decide)]
  rw [ref_skip 31 s ByteArray.empty 29 30 0 0 0 (by decide) (by kernel_rfl) (by decide) (by decide)]
  rw [ref_skip 30 s ByteArray.empty 30 31 0 0 0 (by decide) (by kernel_rfl) (by decide) (by decide)]
  rw [ref_skip 29 s ByteArray.empty 31 32 0 0 0 (by decide) (by kernel_rfl) (by decide) (by decide)]
  rw [ref_step 28 s (⟨#[99, 111, 110, 115, 116]⟩ : ByteArray) 32 33 (0) (1) 1 (by decide) (by kernel_rfl) (by decide) (by decide)]
  rw [ref_step 27 s (⟨#[108, 111, 99, 97, 108]⟩ : ByteArray) 33 34 (0) (1) 2 (by decide) (by kernel_rfl) (by decide) (by decide)]
  rw [ref_step 26 s (⟨#[115, 101, 116]⟩ : ByteArray) 34 35 (1) (0) 2 (by decide) (by kernel_rfl) (by decide) (by decide)]
  rw [ref_step 25 s (⟨#[103, 108, 111, 98, 97, 108]⟩ : ByteArray) 35 36 (0) (1) 3 (by decide) (by kernel_rfl) (by decide) (by decide)]
  rw [ref_step 24 s (⟨#[115, 101, 116, 103, 108, 111, 98, 97, 108]⟩ : ByteArray) 36 37 (1) (0) 3 (by decide) (by kernel_rfl) (by decide) (by decide)]
  rw [ref_step 23 s (⟨#[108, 111, 97, 100]⟩ : ByteArray) 37 38 (1) (1) 4 (by decide) (by kernel_rfl) (by decide) (by decide)]
  rw [ref_step 22 s (⟨#[115, 116, 111, 114, 101]⟩ : ByteArray) 38 39 (2) (0) 4 (by decide) (by kernel_rfl) (by decide) (by decide)]
  rw [ref_step 21 s (⟨#[100, 117, 112]⟩ : ByteArray) 39 40 (1) (2) 0 (by decide) (by kernel_rfl) (by decide) (by decide)]
  rw [ref_step 20 s (⟨#[115, 119, 97, 112]⟩ : ByteArray) 40 41 (2) (2) 0 (by decide) (by kernel_rfl) (by decide) (by decide)]
  rw [ref_step 19 s (⟨#[112, 111, 112]⟩ : ByteArray) 41 42 (1) (0) 0 (by decide) (by kernel_rfl) (by decide) (by decide)]
  rw [ref_step 18 s (⟨#[110, 111, 112]⟩ : ByteArray) 42 43 (0) (0) 0 (by decide) (by kernel_rfl) (by decide) (by decide)]
  rw [ref_step 17 s (⟨#[106, 117, 109, 112]⟩ : ByteArray) 43 44 (0) (0) 5 (by decide) (by kernel_rfl) (by decide) (by decide)]
  rw [ref_step 16 s (⟨#[122, 101, 114, 111]⟩ : ByteArray) 44 45 (1) (0) 5 (by decide) (by kernel_rfl) (by decide) (by decide)]
  rw [ref_step 15 s (⟨#[99, 97, 108, 108]⟩ : ByteArray) 45 46 (-1) (-1) 6 (by decide) (by kernel_rfl) (by decide) (by decide)]
  rw [ref_step 14 s (⟨#[114, 101, 116, 117, 114, 110]⟩ : ByteArray) 46 47 (-1) (0) 0 (by decide) (by kernel_rfl) (by decide) (by decide)]
  rw [ref_step 13 s (⟨#[115, 101, 110, 100]⟩ : ByteArray) 47 48 (1) (0) 7 (by decide) (by kernel_rfl) (by decide) (by decide)]
  rw [ref_end]
  simp only [apply_ite some]
theorem byName_eq (s : ByteArray) : byName (if s.toList = (⟨#[97, 100, 100]⟩ : ByteArray).toList then 0 else if s.toList = (⟨#[115, 117, 98]⟩ : ByteArray).toList then 1 else if s.toList = (⟨#[109, 117, 108]⟩ : ByteArray).toList then 2 else if s.toList = (⟨#[100, 105, 118]⟩ : ByteArray).toList then 3 else if s.toList = (⟨#[114, 101, 109]⟩ : ByteArray).toList then 4 else if s.toList = (⟨#[97, 110, 100]⟩ : ByteArray).toList then 5 else if s.toList = (⟨#[111, 114]⟩ : ByteArray).toList then 6 else if s.toList = (⟨#[120, 111, 114]⟩ : ByteArray).toList then 7 else if s.toList = (⟨#[115, 104, 108]⟩ : ByteArray).toList then 8 else if s.toList = (⟨#[115, 104, 114]⟩ : ByteArray).toList then 9 else if s.toList = (⟨#[101, 113]⟩ : ByteArray).toList then 10 else if s.toList = (⟨#[110, 101]⟩ : ByteArray).toList then 11 else if s.toList = (⟨#[108, 116]⟩ : ByteArray).toList then 12 else if s.toList = (⟨#[108, 101]⟩ : ByteArray).toList then 13 else if s.toList = (⟨#[110, 101, 103]⟩ : ByteArray).toList then 14 else if s.toList = (⟨#[110, 111, 116]⟩ : ByteArray).toList then 15 else if s.toList = (⟨#[105, 110, 118]⟩ : ByteArray).toList then 16 else -1) (if s.toList = (⟨#[99, 111, 110, 115, 116]⟩ : ByteArray).toList then 0 else if s.toList = (⟨#[108, 111, 99, 97, 108]⟩ : ByteArray).toList then 1 else if s.toList = (⟨#[115, 101, 116]⟩ : ByteArray).toList then 2 else if s.toList = (⟨#[103, 108, 111, 98, 97, 108]⟩ : ByteArray).toList then 3 else if s.toList = (⟨#[115, 101, 116, 103, 108, 111, 98, 97, 108]⟩ : ByteArray).toList then 4 else if s.toList = (⟨#[108, 111, 97, 100]⟩ : ByteArray).toList then 5 else if s.toList = (⟨#[115, 116, 111, 114, 101]⟩ : ByteArray).toList then 6 else if s.toList = (⟨#[100, 117, 112]⟩ : ByteArray).toList then 7 else if s.toList = (⟨#[115, 119, 97, 112]⟩ : ByteArray).toList then 8 else if s.toList = (⟨#[112, 111, 112]⟩ : ByteArray).toList then 9 else if s.toList = (⟨#[110, 111, 112]⟩ : ByteArray).toList then 10 else if s.toList = (⟨#[106, 117, 109, 112]⟩ : ByteArray).toList then 11 else if s.toList = (⟨#[122, 101, 114, 111]⟩ : ByteArray).toList then 12 else if s.toList = (⟨#[99, 97, 108, 108]⟩ : ByteArray).toList then 13 else if s.toList = (⟨#[114, 101, 116, 117, 114, 110]⟩ : ByteArray).toList then 14 else if s.toList = (⟨#[115, 101, 110, 100]⟩ : ByteArray).toList then 15 else -1) = (if s.toList = (⟨#[97, 100, 100]⟩ : ByteArray).toList then (1, true) else if s.toList = (⟨#[115, 117, 98]⟩ : ByteArray).toList then (2, true) else if s.toList = (⟨#[109, 117, 108]⟩ : ByteArray).toList then (3, true) else if s.toList = (⟨#[100, 105, 118]⟩ : ByteArray).toList then (4, true) else if s.toList = (⟨#[114, 101, 109]⟩ : ByteArray).toList then (5, true) else if s.toList = (⟨#[97, 110, 100]⟩ : ByteArray).toList then (6, true) else if s.toList = (⟨#[111, 114]⟩ : ByteArray).toList then (7, true) else if s.toList = (⟨#[120, 111, 114]⟩ : ByteArray).toList then (8, true) else if s.toList = (⟨#[115, 104, 108]⟩ : ByteArray).toList then (9, true) else if s.toList = (⟨#[115, 104, 114]⟩ : ByteArray).toList then (10, true) else if s.toList = (⟨#[101, 113]⟩ : ByteArray).toList then (11, true) else if s.toList = (⟨#[110, 101]⟩ : ByteArray).toList then (12, true) else if s.toList = (⟨#[108, 116]⟩ : ByteArray).toList then (13, true) else if s.toList = (⟨#[108, 101]⟩ : ByteArray).toList then (14, true) else if s.toList = (⟨#[110, 101, 103]⟩ : ByteArray).toList then (15, true) else if s.toList = (⟨#[110, 111, 116]⟩ : ByteArray).toList then (16, true) else if s.toList = (⟨#[105, 110, 118]⟩ : ByteArray).toList then (17, true) else if s.toList = (⟨#[99, 111, 110, 115, 116]⟩ : ByteArray).toList then (32, true) else if s.toList = (⟨#[108, 111, 99, 97, 108]⟩ : ByteArray).toList then (33, true) else if s.toList = (⟨#[115, 101, 116]⟩ : ByteArray).toList then (34, true) else if s.toList = (⟨#[103, 108, 111, 98, 97, 108]⟩ : ByteArray).toList then (35, true) else if s.toList = (⟨#[115, 101, 116, 103, 108, 111, 98, 97, 108]⟩ : ByteArray).toList then (36, true) else if s.toList = (⟨#[108, 111, 97, 100]⟩ : ByteArray).toList then (37, true) else if s.toList = (⟨#[115, 116, 111, 114, 101]⟩ : ByteArray).toList then (38, true) else if s.toList = (⟨#[100, 117, 112]⟩ : ByteArray).toList then (39, true) else if s.toList = (⟨#[115, 119, 97, 112]⟩ : ByteArray).toList then (40, true) else if s.toList = (⟨#[112, 111, 112]⟩ : ByteArray).toList then (41, true) else if s.toList = (⟨#[110, 111, 112]⟩ : ByteArray).toList then (42, true) else if s.toList = (⟨#[106, 117, 109, 112]⟩ : ByteArray).toList then (43, true) else if s.toList = (⟨#[122, 101, 114, 111]⟩ : ByteArray).toList then (44, true) else if s.toList = (⟨#[99, 97, 108, 108]⟩ : ByteArray).toList then (45, true) else if s.toList = (⟨#[114, 101, 116, 117, 114, 110]⟩ : ByteArray).toList then (46, true) else if s.toList = (⟨#[115, 101, 110, 100]⟩ : ByteArray).toList then (47, true) else (0, false)) := by
  by_cases h0 : s.toList = (⟨#[97, 100, 100]⟩ : ByteArray).toList
  · rw [h0]; kernel_rfl
  by_cases h1 : s.toList = (⟨#[115, 117, 98]⟩ : ByteArray).toList
  · rw [h1]; kernel_rfl
  by_cases h2 : s.toList = (⟨#[109, 117, 108]⟩ : ByteArray).toList
  · rw [h2]; kernel_rfl
  by_cases h3 : s.toList = (⟨#[100, 105, 118]⟩ : ByteArray).toList
  · rw [h3]; kernel_rfl
  by_cases h4 : s.toList = (⟨#[114, 101, 109]⟩ : ByteArray).toList
  · rw [h4]; kernel_rfl
  by_cases h5 : s.toList = (⟨#[97, 110, 100]⟩ : ByteArray).toList
  · rw [h5]; kernel_rfl
  by_cases h6 : s.toList = (⟨#[111, 114]⟩ : ByteArray).toList
  · rw [h6]; kernel_rfl
  by_cases h7 : s.toList = (⟨#[120, 111, 114]⟩ : ByteArray).toList
  · rw [h7]; kernel_rfl
  by_cases h8 : s.toList = (⟨#[115, 104, 108]⟩ : ByteArray).toList
  · rw [h8]; kernel_rfl
  by_cases h9 : s.toList = (⟨#[115, 104, 114]⟩ : ByteArray).toList
  · rw [h9]; kernel_rfl
  by_cases h10 : s.toList = (⟨#[101, 113]⟩ : ByteArray).toList
  · rw [h10]; kernel_rfl
  by_cases h11 : s.toList = (⟨#[110, 101]⟩ : ByteArray).toList
  · rw [h11]; kernel_rfl
  by_cases h12 : s.toList = (⟨#[108, 116]⟩ : ByteArray).toList
  · rw [h12]; kernel_rfl
  by_cases h13 : s.toList = (⟨#[108, 101]⟩ : ByteArray).toList
  · rw [h13]; kernel_rfl
  by_cases h14 : s.toList = (⟨#[110, 101, 103]⟩ : ByteArray).toList
  · rw [h14]; kernel_rfl
  by_cases h15 : s.toList = (⟨#[110, 111, 116]⟩ : ByteArray).toList
  · rw [h15]; kernel_rfl
  by_cases h16 : s.toList = (⟨#[105, 110, 118]⟩ : ByteArray).toList
  · rw [h16]; kernel_rfl
  by_cases h17 : s.toList = (⟨#[99, 111, 110, 115, 116]⟩ : ByteArray).toList
  · rw [h17]; kernel_rfl
  by_cases h18 : s.toList = (⟨#[108, 111, 99, 97, 108]⟩ : ByteArray).toList
  · rw [h18]; kernel_rfl
  by_cases h19 : s.toList = (⟨#[115, 101, 116]⟩ : ByteArray).toList
  · rw [h19]; kernel_rfl
  by_cases h20 : s.toList = (⟨#[103, 108, 111, 98, 97, 108]⟩ : ByteArray).toList
  · rw [h20]; kernel_rfl
  by_cases h21 : s.toList = (⟨#[115, 101, 116, 103, 108, 111, 98, 97, 108]⟩ : ByteArray).toList
  · rw [h21]; kernel_rfl
  by_cases h22 : s.toList = (⟨#[108, 111, 97, 100]⟩ : ByteArray).toList
  · rw [h22]; kernel_rfl
  by_cases h23 : s.toList = (⟨#[115, 116, 111, 114, 101]⟩ : ByteArray).toList
  · rw [h23]; kernel_rfl
  by_cases h24 : s.toList = (⟨#[100, 117, 112]⟩ : ByteArray).toList
  · rw [h24]; kernel_rfl
  by_cases h25 : s.toList = (⟨#[115, 119, 97, 112]⟩ : ByteArray).toList
  · rw [h25]; kernel_rfl
  by_cases h26 : s.toList = (⟨#[112, 111, 112]⟩ : ByteArray).toList
  · rw [h26]; kernel_rfl
  by_cases h27 : s.toList = (⟨#[110, 111, 112]⟩ : ByteArray).toList
  · rw [h27]; kernel_rfl
  by_cases h28 : s.toList = (⟨#[106, 117, 109, 112]⟩ : ByteArray).toList
  · rw [h28]; kernel_rfl
  by_cases h29 : s.toList = (⟨#[122, 101, 114, 111]⟩ : ByteArray).toList
  · rw [h29]; kernel_rfl
  by_cases h30 : s.toList = (⟨#[99, 97, 108, 108]⟩ : ByteArray).toList
  · rw [h30]; kernel_rfl
  by_cases h31 : s.toList = (⟨#[114, 101, 116, 117, 114, 110]⟩ : ByteArray).toList
  · rw [h31]; kernel_rfl
  by_cases h32 : s.toList = (⟨#[115, 101, 110, 100]⟩ : ByteArray).toList
  · rw [h32]; kernel_rfl
  simp only [h0, h1, h2, h3, h4, h5, h6, h7, h8, h9, h10, h11, h12, h13, h14, h15, h16, h17, h18, h19, h20, h21, h22, h23, h24, h25, h26, h27, h28, h29, h30, h31, h32, if_false]
  kernel_rfl
theorem byName_all (s : ByteArray) : ∃ r1 r2, slices_Index_string_string.f 60 opL s = some r1 ∧ slices_Index_string_string.f 60 inL s = some r2 ∧ louverref10_ByName.f 60 s = some (byName r1 r2) :=
  ⟨_, _, indexO s, indexI s, by rw [refByName, byName_eq]⟩
/-- The document's table agrees with names, operands, which instructions may be. -/
def rowOk (op : Int) : Bool := match louverref10_Table.f 3 op with
  | some (nm, _, _, kd, ok) => decide (nm.data = (nameOf op).data) && (ok == validOp op) && (operandOp op == (ok && decide (0 < kd))) && ((ok && kd == 1) == (op == 32)) && decide (0 ≤ kd)
  | none => false
theorem row_small : (List.range 48).all (fun n => rowOk (n : Int)) = true := by kernel_rfl
theorem table_far (op : Int) (h : op < 1 ∨ 47 < op) : louverref10_Table.f 3 op = some (ByteArray.empty, 0, 0, 0, false) := by
  unfold louverref10_Table.f
  by_cases h1 : op ≥ 1
  · rw [if_pos h1, decide_eq_false (show ¬ op ≤ 17 by omega)]
    unfold louverref10_Table.j0
    simp only [show ¬ op = 32 by omega, show ¬ op = 33 by omega, show ¬ op = 34 by omega, show ¬ op = 35 by omega, show ¬ op = 36 by omega, show ¬ op = 37 by omega, show ¬ op = 38 by omega, show ¬ op = 39 by omega, show ¬ op = 40 by omega, show ¬ op = 41 by omega, show ¬ op = 42 by omega, show ¬ op = 43 by omega, show ¬ op = 44 by omega, show ¬ op = 45 by omega, show ¬ op = 46 by omega, show ¬ op = 47 by omega, if_false, Bool.false_eq_true]
    rfl
  · rw [if_neg h1]
    unfold louverref10_Table.j0
    simp only [show ¬ op = 32 by omega, show ¬ op = 33 by omega, show ¬ op = 34 by omega, show ¬ op = 35 by omega, show ¬ op = 36 by omega, show ¬ op = 37 by omega, show ¬ op = 38 by omega, show ¬ op = 39 by omega, show ¬ op = 40 by omega, show ¬ op = 41 by omega, show ¬ op = 42 by omega, show ¬ op = 43 by omega, show ¬ op = 44 by omega, show ¬ op = 45 by omega, show ¬ op = 46 by omega, show ¬ op = 47 by omega, if_false, Bool.false_eq_true]
    rfl
theorem table_all (op : Int) : ∃ p q kd, louverref10_Table.f 3 op = some (nameOf op, p, q, kd, validOp op) ∧ operandOp op = (validOp op && decide (0 < kd)) ∧ (validOp op = true → (kd = 1 ↔ op = 32)) ∧ 0 ≤ kd := by
  by_cases h : op < 1 ∨ 47 < op
  · refine ⟨0, 0, 0, ?_, ?_, ?_, by decide⟩
    · rw [table_far op h, show nameOf op = ByteArray.empty by unfold nameOf; rw [if_neg (by omega), if_neg (by omega)], show validOp op = false by unfold validOp; exact decide_eq_false (by omega)]
    · rw [show validOp op = false by unfold validOp; exact decide_eq_false (by omega), show operandOp op = false by unfold operandOp; exact decide_eq_false (by omega)]
      rfl
    · intro hv
      rw [show validOp op = false by unfold validOp; exact decide_eq_false (by omega)] at hv
      cases hv
  · obtain ⟨n, rfl⟩ : ∃ n : Nat, op = (n : Int) := ⟨op.toNat, by omega⟩
    have hr := List.all_eq_true.mp row_small n (List.mem_range.mpr (by omega))
    unfold rowOk at hr
    cases hT : louverref10_Table.f 3 (n : Int) with
    | none => rw [hT] at hr; cases hr
    | some v =>
      obtain ⟨nm, p, q, kd, ok⟩ := v
      rw [hT] at hr
      simp only [Bool.and_eq_true, decide_eq_true_eq] at hr
      obtain ⟨⟨⟨⟨h1, h2⟩, h3⟩, h4⟩, h5⟩ := hr
      have h1 : nm = nameOf (n : Int) := by
        cases nm
        cases hq : nameOf (n : Int)
        rw [hq] at h1
        simp only at h1
        rw [h1]
      have h2 : ok = validOp (n : Int) := eq_of_beq h2
      have h3 := eq_of_beq h3
      have h4 := eq_of_beq h4
      refine ⟨p, q, kd, by rw [h1, h2], by rw [h3, h2], fun hv => ?_, h5⟩
      rw [h2, hv, Bool.true_and] at h4
      constructor
      · intro e
        rw [e] at h4
        exact eq_of_beq h4.symm
      · intro e
        rw [e] at h4
        exact eq_of_beq h4
theorem refMay_f (op a : Int) : louverref10_May.f 3 op a = some (mayOf op a) := by
  obtain ⟨p, q, kd, hT, ho, h32, h0⟩ := table_all op
  unfold louverref10_May.f mayOf
  rw [hT, Option.bind_some, ho]
  by_cases hv : validOp op = true
  · have e32 := h32 hv
    rw [hv]
    by_cases hk : kd = 0
    · subst hk
      simp
      by_cases ha : a = 0 <;> simp [ha]
    · have hk2 : 0 < kd := by omega
      by_cases h1 : kd = 1
      · have := e32.mp h1
        simp [h1, this]
      · have : ¬ op = 32 := fun e => h1 (e32.mpr e)
        simp [hk, h1, hk2, this]
  · have hv2 : validOp op = false := by simpa using hv
    rw [hv2]
    simp
end Go.Proofs.YtgpdaihfjnihhaaDoor.PJ
