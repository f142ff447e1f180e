/- OpsSigns without a program: what slices.Index finds in the signs of an arity is what the document's loop finds. -/
import Derived.Test.YtblhmmhhjkjcgaaDoorHandOpsSigns
namespace Go.Proofs.YtblhmmhhjkjcgaaDoor.PJ
open Go.RowKit Go.Proofs.YtblhmmhhjkjcgaaDoorW.PrintWords Go.Proofs.YtblhmmhhjkjcgaaDoorW.PrintLast Go.Proofs.YtblhmmhhjkjcgaaDoorW.PrintMore
set_option linter.unusedSimpArgs false

theorem idx_step (k : Nat) (l : List ByteArray) (s g : ByteArray) (n i j : Int) (hi : i < n) (h0 : 0 ≤ i) (hl : i < (l.length : Int)) (hg : rdOf ByteArray.empty l i = g) (hj : i + 1 = j) (hb : i ≤ 1000) :
    slices_Index_string_string.l0 (k + 1) l s n i = if s.toList = g.toList then some i else slices_Index_string_string.l0 k l s n j := by
  rw [slices_Index_string_string.l0, if_pos hi, if_pos h0, if_pos hl, hg, show wrap64 (i + 1) = j by unfold wrap64; omega]
theorem idx_end (k : Nat) (l : List ByteArray) (s : ByteArray) (n i : Int) (hi : ¬ i < n) : slices_Index_string_string.l0 (k + 1) l s n i = some (-1) := by
  rw [slices_Index_string_string.l0, if_neg hi]
theorem ref_step (k : Nat) (s g : ByteArray) (ar a x y : Int) (hx : x ≤ 17) (hA : louverref02_Arity.f k x = some a) (hS : louverref02_Sign.f x = some g) (hy : x + 1 = y) (hb : 0 ≤ x) :
    louverref02_BySign.l0 (k + 1) s ar x = if a = ar then (if s.toList = g.toList then some (x, true) else louverref02_BySign.l0 k s ar y) else louverref02_BySign.l0 k s ar y := by
  rw [louverref02_BySign.l0, if_pos hx, hA, Option.bind_some, hS, Option.bind_some, show wrap64 (x + 1) = y by unfold wrap64; omega]
  by_cases ha : a = ar
  · rw [if_pos ha, if_pos ha]
    by_cases h : g.toList = s.toList
    · rw [if_pos h, if_pos h.symm]
    · rw [if_neg h, if_neg (fun e => h e.symm)]
  · rw [if_neg ha, if_neg ha]
theorem ref_end (k : Nat) (s : ByteArray) (ar : Int) : louverref02_BySign.l0 (k + 1) s ar 18 = some (0, false) := by
  rw [louverref02_BySign.l0, if_neg (by decide)]
theorem index1 (s : ByteArray) : slices_Index_string_string.f 60 signs1 s = some (if s.toList = (⟨#[45]⟩ : ByteArray).toList then 0 else if s.toList = (⟨#[33]⟩ : ByteArray).toList then 1 else if s.toList = (⟨#[126]⟩ : ByteArray).toList then 2 else -1) := by
  show slices_Index_string_string.l0 60 signs1 s 3 0 = _
  rw [idx_step 59 signs1 s (⟨#[45]⟩ : ByteArray) 3 0 1 (by decide) (by decide) (by decide) rfl (by decide) (by decide)]
  rw [idx_step 58 signs1 s (⟨#[33]⟩ : ByteArray) 3 1 2 (by decide) (by decide) (by decide) rfl (by decide) (by decide)]
  rw [idx_step 57 signs1 s (⟨#[126]⟩ : ByteArray) 3 2 3 (by decide) (by decide) (by decide) rfl (by decide) (by decide)]
  rw [idx_end 56 signs1 s 3 3 (by decide)]
  simp only [apply_ite some]
theorem index2 (s : ByteArray) : slices_Index_string_string.f 60 signs2 s = some (if s.toList = (⟨#[43]⟩ : ByteArray).toList then 0 else if s.toList = (⟨#[45]⟩ : ByteArray).toList then 1 else if s.toList = (⟨#[42]⟩ : ByteArray).toList then 2 else if s.toList = (⟨#[47]⟩ : ByteArray).toList then 3 else if s.toList = (⟨#[37]⟩ : ByteArray).toList then 4 else if s.toList = (⟨#[38]⟩ : ByteArray).toList then 5 else if s.toList = (⟨#[124]⟩ : ByteArray).toList then 6 else if s.toList = (⟨#[94]⟩ : ByteArray).toList then 7 else if s.toList = (⟨#[60, 60]⟩ : ByteArray).toList then 8 else if s.toList = (⟨#[62, 62]⟩ : ByteArray).toList then 9 else if s.toList = (⟨#[61, 61]⟩ : ByteArray).toList then 10 else if s.toList = (⟨#[33, 61]⟩ : ByteArray).toList then 11 else if s.toList = (⟨#[60]⟩ : ByteArray).toList then 12 else if s.toList = (⟨#[60, 61]⟩ : ByteArray).toList then 13 else -1) := by
  show slices_Index_string_string.l0 60 signs2 s 14 0 = _
  rw [idx_step 59 signs2 s (⟨#[43]⟩ : ByteArray) 14 0 1 (by decide) (by decide) (by decide) rfl (by decide) (by decide)]
  rw [idx_step 58 signs2 s (⟨#[45]⟩ : ByteArray) 14 1 2 (by decide) (by decide) (by decide) rfl (by decide) (by decide)]
  rw [idx_step 57 signs2 s (⟨#[42]⟩ : ByteArray) 14 2 3 (by decide) (by decide) (by decide) rfl (by decide) (by decide)]
  rw [idx_step 56 signs2 s (⟨#[47]⟩ : ByteArray) 14 3 4 (by decide) (by decide) (by decide) rfl (by decide) (by decide)]
  rw [idx_step 55 signs2 s (⟨#[37]⟩ : ByteArray) 14 4 5 (by decide) (by decide) (by decide) rfl (by decide) (by decide)]
  rw [idx_step 54 signs2 s (⟨#[38]⟩ : ByteArray) 14 5 6 (by decide) (by decide) (by decide) rfl (by decide) (by decide)]
  rw [idx_step 53 signs2 s (⟨#[124]⟩ : ByteArray) 14 6 7 (by decide) (by decide) (by decide) rfl (by decide) (by decide)]
  rw [idx_step 52 signs2 s (⟨#[94]⟩ : ByteArray) 14 7 8 (by decide) (by decide) (by decide) rfl (by decide) (by decide)]
  rw [idx_step 51 signs2 s (⟨#[60, 60]⟩ : ByteArray) 14 8 9 (by decide) (by decide) (by decide) rfl (by decide) (by decide)]
  rw [idx_step 50 signs2 s (⟨#[62, 62]⟩ : ByteArray) 14 9 10 (by decide) (by decide) (by decide) rfl (by decide) (by decide)]
  rw [idx_step 49 signs2 s (⟨#[61, 61]⟩ : ByteArray) 14 10 11 (by decide) (by decide) (by decide) rfl (by decide) (by decide)]
  rw [idx_step 48 signs2 s (⟨#[33, 61]⟩ : ByteArray) 14 11 12 (by decide) (by decide) (by decide) rfl (by decide) (by decide)]
  rw [idx_step 47 signs2 s (⟨#[60]⟩ : ByteArray) 14 12 13 (by decide) (by decide) (by decide) rfl (by decide) (by decide)]
  rw [idx_step 46 signs2 s (⟨#[60, 61]⟩ : ByteArray) 14 13 14 (by decide) (by decide) (by decide) rfl (by decide) (by decide)]
  rw [idx_end 45 signs2 s 14 14 (by decide)]
  simp only [apply_ite some]
theorem ref1 (s : ByteArray) : louverref02_BySign.f 60 s 1 = some (if s.toList = (⟨#[45]⟩ : ByteArray).toList then (15, true) else if s.toList = (⟨#[33]⟩ : ByteArray).toList then (16, true) else if s.toList = (⟨#[126]⟩ : ByteArray).toList then (17, true) else (0, false)) := by
  show louverref02_BySign.l0 60 s 1 1 = _
  rw [ref_step 59 s (⟨#[43]⟩ : ByteArray) 1 2 1 2 (by decide) rfl rfl (by decide) (by decide), if_neg (show ¬ (2 : Int) = 1 by decide)]
  rw [ref_step 58 s (⟨#[45]⟩ : ByteArray) 1 2 2 3 (by decide) rfl rfl (by decide) (by decide), if_neg (show ¬ (2 : Int) = 1 by decide)]
  rw [ref_step 57 s (⟨#[42]⟩ : ByteArray) 1 2 3 4 (by decide) rfl rfl (by decide) (by decide), if_neg (show ¬ (2 : Int) = 1 by decide)]
  rw [ref_step 56 s (⟨#[47]⟩ : ByteArray) 1 2 4 5 (by decide) rfl rfl (by decide) (by decide), if_neg (show ¬ (2 : Int) = 1 by decide)]
  rw [ref_step 55 s (⟨#[37]⟩ : ByteArray) 1 2 5 6 (by decide) rfl rfl (by decide) (by decide), if_neg (show ¬ (2 : Int) = 1 by decide)]
  rw [ref_step 54 s (⟨#[38]⟩ : ByteArray) 1 2 6 7 (by decide) rfl rfl (by decide) (by decide), if_neg (show ¬ (2 : Int) = 1 by decide)]
  rw [ref_step 53 s (⟨#[124]⟩ : ByteArray) 1 2 7 8 (by decide) rfl rfl (by decide) (by decide), if_neg (show ¬ (2 : Int) = 1 by decide)]
  rw [ref_step 52 s (⟨#[94]⟩ : ByteArray) 1 2 8 9 (by decide) rfl rfl (by decide) (by decide), if_neg (show ¬ (2 : Int) = 1 by decide)]
  rw [ref_step 51 s (⟨#[60, 60]⟩ : ByteArray) 1 2 9 10 (by decide) rfl rfl (by decide) (by decide), if_neg (show ¬ (2 : Int) = 1 by decide)]
  rw [ref_step 50 s (⟨#[62, 62]⟩ : ByteArray) 1 2 10 11 (by decide) rfl rfl (by decide) (by decide), if_neg (show ¬ (2 : Int) = 1 by decide)]
  rw [ref_step 49 s (⟨#[61, 61]⟩ : ByteArray) 1 2 11 12 (by decide) rfl rfl (by decide) (by decide), if_neg (show ¬ (2 : Int) = 1 by decide)]
  rw [ref_step 48 s (⟨#[33, 61]⟩ : ByteArray) 1 2 12 13 (by decide) rfl rfl (by decide) (by decide), if_neg (show ¬ (2 : Int) = 1 by decide)]
  rw [ref_step 47 s (⟨#[60]⟩ : ByteArray) 1 2 13 14 (by decide) rfl rfl (by decide) (by decide), if_neg (show ¬ (2 : Int) = 1 by decide)]
  rw [ref_step 46 s (⟨#[60, 61]⟩ : ByteArray) 1 2 14 15 (by decide) rfl rfl (by decide) (by decide), if_neg (show ¬ (2 : Int) = 1 by decide)]
  rw [ref_step 45 s (⟨#[45]⟩ : ByteArray) 1 1 15 16 (by decide) rfl rfl (by decide) (by decide), if_pos (show (1 : Int) = 1 from rfl)]
  rw [ref_step 44 s (⟨#[33]⟩ : ByteArray) 1 1 16 17 (by decide) rfl rfl (by decide) (by decide), if_pos (show (1 : Int) = 1 from rfl)]
  rw [ref_step 43 s (⟨#[126]⟩ : ByteArray) 1 1 17 18 (by decide) rfl rfl (by decide) (by decide), if_pos (show (1 : Int) = 1 from rfl)]
  rw [ref_end]
  simp only [apply_ite some]
theorem ref2 (s : ByteArray) : louverref02_BySign.f 60 s 2 = some (if s.toList = (⟨#[43]⟩ : ByteArray).toList then (1, true) else if s.toList = (⟨#[45]⟩ : ByteArray).toList then (2, true) else if s.toList = (⟨#[42]⟩ : ByteArray).toList then (3, true) else if s.toList = (⟨#[47]⟩ : ByteArray).toList then (4, true) else if s.toList = (⟨#[37]⟩ : ByteArray).toList then (5, true) else if s.toList = (⟨#[38]⟩ : ByteArray).toList then (6, true) else if s.toList = (⟨#[124]⟩ : ByteArray).toList then (7, true) else if s.toList = (⟨#[94]⟩ : ByteArray).toList then (8, true) else if s.toList = (⟨#[60, 60]⟩ : ByteArray).toList then (9, true) else if s.toList = (⟨#[62, 62]⟩ : ByteArray).toList then (10, true) else if s.toList = (⟨#[61, 61]⟩ : ByteArray).toList then (11, true) else if s.toList = (⟨#[33, 61]⟩ : ByteArray).toList then (12, true) else if s.toList = (⟨#[60]⟩ : ByteArray).toList then (13, true) else if s.toList = (⟨#[60, 61]⟩ : ByteArray).toList then (14, true) else (0, false)) := by
  show louverref02_BySign.l0 60 s 2 1 = _
  rw [ref_step 59 s (⟨#[43]⟩ : ByteArray) 2 2 1 2 (by decide) rfl rfl (by decide) (by decide), if_pos (show (2 : Int) = 2 from rfl)]
  rw [ref_step 58 s (⟨#[45]⟩ : ByteArray) 2 2 2 3 (by decide) rfl rfl (by decide) (by decide), if_pos (show (2 : Int) = 2 from rfl)]
  rw [ref_step 57 s (⟨#[42]⟩ : ByteArray) 2 2 3 4 (by decide) rfl rfl (by decide) (by decide), if_pos (show (2 : Int) = 2 from rfl)]
  rw [ref_step 56 s (⟨#[47]⟩ : ByteArray) 2 2 4 5 (by decide) rfl rfl (by decide) (by decide), if_pos (show (2 : Int) = 2 from rfl)]
  rw [ref_step 55 s (⟨#[37]⟩ : ByteArray) 2 2 5 6 (by decide) rfl rfl (by decide) (by decide), if_pos (show (2 : Int) = 2 from rfl)]
  rw [ref_step 54 s (⟨#[38]⟩ : ByteArray) 2 2 6 7 (by decide) rfl rfl (by decide) (by decide), if_pos (show (2 : Int) = 2 from rfl)]
  rw [ref_step 53 s (⟨#[124]⟩ : ByteArray) 2 2 7 8 (by decide) rfl rfl (by decide) (by decide), if_pos (show (2 : Int) = 2 from rfl)]
  rw [ref_step 52 s (⟨#[94]⟩ : ByteArray) 2 2 8 9 (by decide) rfl rfl (by decide) (by decide), if_pos (show (2 : Int) = 2 from rfl)]
  rw [ref_step 51 s (⟨#[60, 60]⟩ : ByteArray) 2 2 9 10 (by decide) rfl rfl (by decide) (by decide), if_pos (show (2 : Int) = 2 from rfl)]
  rw [ref_step 50 s (⟨#[62, 62]⟩ : ByteArray) 2 2 10 11 (by decide) rfl rfl (by decide) (by decide), if_pos (show (2 : Int) = 2 from rfl)]
  rw [ref_step 49 s (⟨#[61, 61]⟩ : ByteArray) 2 2 11 12 (by decide) rfl rfl (by decide) (by decide), if_pos (show (2 : Int) = 2 from rfl)]
  rw [ref_step 48 s (⟨#[33, 61]⟩ : ByteArray) 2 2 12 13 (by decide) rfl rfl (by decide) (by decide), if_pos (show (2 : Int) = 2 from rfl)]
  rw [ref_step 47 s (⟨#[60]⟩ : ByteArray) 2 2 13 14 (by decide) rfl rfl (by decide) (by decide), if_pos (show (2 : Int) = 2 from rfl)]
  rw [ref_step 46 s (⟨#[60, 61]⟩ : ByteArray) 2 2 14 15 (by decide) rfl rfl (by decide) (by decide), if_pos (show (2 : Int) = 2 from rfl)]
  rw [ref_step 45 s (⟨#[45]⟩ : ByteArray) 2 1 15 16 (by decide) rfl rfl (by decide) (by decide), if_neg (show ¬ (1 : Int) = 2 by decide)]
  rw [ref_step 44 s (⟨#[33]⟩ : ByteArray) 2 1 16 17 (by decide) rfl rfl (by decide) (by decide), if_neg (show ¬ (1 : Int) = 2 by decide)]
  rw [ref_step 43 s (⟨#[126]⟩ : ByteArray) 2 1 17 18 (by decide) rfl rfl (by decide) (by decide), if_neg (show ¬ (1 : Int) = 2 by decide)]
  rw [ref_end]
  simp only [apply_ite some]
theorem ref0 (s : ByteArray) (ar : Int) (h1 : ar ≠ 1) (h2 : ar ≠ 2) : louverref02_BySign.f 60 s ar = some (0, false) := by
  show louverref02_BySign.l0 60 s ar 1 = _
  rw [ref_step 59 s (⟨#[43]⟩ : ByteArray) ar 2 1 2 (by decide) rfl rfl (by decide) (by decide), if_neg (Ne.symm h2)]
  rw [ref_step 58 s (⟨#[45]⟩ : ByteArray) ar 2 2 3 (by decide) rfl rfl (by decide) (by decide), if_neg (Ne.symm h2)]
  rw [ref_step 57 s (⟨#[42]⟩ : ByteArray) ar 2 3 4 (by decide) rfl rfl (by decide) (by decide), if_neg (Ne.symm h2)]
  rw [ref_step 56 s (⟨#[47]⟩ : ByteArray) ar 2 4 5 (by decide) rfl rfl (by decide) (by decide), if_neg (Ne.symm h2)]
  rw [ref_step 55 s (⟨#[37]⟩ : ByteArray) ar 2 5 6 (by decide) rfl rfl (by decide) (by decide), if_neg (Ne.symm h2)]
  rw [ref_step 54 s (⟨#[38]⟩ : ByteArray) ar 2 6 7 (by decide) rfl rfl (by decide) (by decide), if_neg (Ne.symm h2)]
  rw [ref_step 53 s (⟨#[124]⟩ : ByteArray) ar 2 7 8 (by decide) rfl rfl (by decide) (by decide), if_neg (Ne.symm h2)]
  rw [ref_step 52 s (⟨#[94]⟩ : ByteArray) ar 2 8 9 (by decide) rfl rfl (by decide) (by decide), if_neg (Ne.symm h2)]
  rw [ref_step 51 s (⟨#[60, 60]⟩ : ByteArray) ar 2 9 10 (by decide) rfl rfl (by decide) (by decide), if_neg (Ne.symm h2)]
  rw [ref_step 50 s (⟨#[62, 62]⟩ : ByteArray) ar 2 10 11 (by decide) rfl rfl (by decide) (by decide), if_neg (Ne.symm h2)]
  rw [ref_step 49 s (⟨#[61, 61]⟩ : ByteArray) ar 2 11 12 (by decide) rfl rfl (by decide) (by decide), if_neg (Ne.symm h2)]
  rw [ref_step 48 s (⟨#[33, 61]⟩ : ByteArray) ar 2 12 13 (by decide) rfl rfl (by decide) (by decide), if_neg (Ne.symm h2)]
  rw [ref_step 47 s (⟨#[60]⟩ : ByteArray) ar 2 13 14 (by decide) rfl rfl (by decide) (by decide), if_neg (Ne.symm h2)]
  rw [ref_step 46 s (⟨#[60, 61]⟩ : ByteArray) ar 2 14 15 (by decide) rfl rfl (by decide) (by decide), if_neg (Ne.symm h2)]
  rw [ref_step 45 s (⟨#[45]⟩ : ByteArray) ar 1 15 16 (by decide) rfl rfl (by decide) (by decide), if_neg (Ne.symm h1)]
  rw [ref_step 44 s (⟨#[33]⟩ : ByteArray) ar 1 16 17 (by decide) rfl rfl (by decide) (by decide), if_neg (Ne.symm h1)]
  rw [ref_step 43 s (⟨#[126]⟩ : ByteArray) ar 1 17 18 (by decide) rfl rfl (by decide) (by decide), if_neg (Ne.symm h1)]
  rw [ref_end]
theorem rng1 (s : ByteArray) : -1 ≤ (if s.toList = (⟨#[45]⟩ : ByteArray).toList then 0 else if s.toList = (⟨#[33]⟩ : ByteArray).toList then 1 else if s.toList = (⟨#[126]⟩ : ByteArray).toList then 2 else -1 : Int) ∧ (if s.toList = (⟨#[45]⟩ : ByteArray).toList then 0 else if s.toList = (⟨#[33]⟩ : ByteArray).toList then 1 else if s.toList = (⟨#[126]⟩ : ByteArray).toList then 2 else -1 : Int) ≤ 3 := by
  repeat' split
  all_goals omega
theorem rng2 (s : ByteArray) : -1 ≤ (if s.toList = (⟨#[43]⟩ : ByteArray).toList then 0 else if s.toList = (⟨#[45]⟩ : ByteArray).toList then 1 else if s.toList = (⟨#[42]⟩ : ByteArray).toList then 2 else if s.toList = (⟨#[47]⟩ : ByteArray).toList then 3 else if s.toList = (⟨#[37]⟩ : ByteArray).toList then 4 else if s.toList = (⟨#[38]⟩ : ByteArray).toList then 5 else if s.toList = (⟨#[124]⟩ : ByteArray).toList then 6 else if s.toList = (⟨#[94]⟩ : ByteArray).toList then 7 else if s.toList = (⟨#[60, 60]⟩ : ByteArray).toList then 8 else if s.toList = (⟨#[62, 62]⟩ : ByteArray).toList then 9 else if s.toList = (⟨#[61, 61]⟩ : ByteArray).toList then 10 else if s.toList = (⟨#[33, 61]⟩ : ByteArray).toList then 11 else if s.toList = (⟨#[60]⟩ : ByteArray).toList then 12 else if s.toList = (⟨#[60, 61]⟩ : ByteArray).toList then 13 else -1 : Int) ∧ (if s.toList = (⟨#[43]⟩ : ByteArray).toList then 0 else if s.toList = (⟨#[45]⟩ : ByteArray).toList then 1 else if s.toList = (⟨#[42]⟩ : ByteArray).toList then 2 else if s.toList = (⟨#[47]⟩ : ByteArray).toList then 3 else if s.toList = (⟨#[37]⟩ : ByteArray).toList then 4 else if s.toList = (⟨#[38]⟩ : ByteArray).toList then 5 else if s.toList = (⟨#[124]⟩ : ByteArray).toList then 6 else if s.toList = (⟨#[94]⟩ : ByteArray).toList then 7 else if s.toList = (⟨#[60, 60]⟩ : ByteArray).toList then 8 else if s.toList = (⟨#[62, 62]⟩ : ByteArray).toList then 9 else if s.toList = (⟨#[61, 61]⟩ : ByteArray).toList then 10 else if s.toList = (⟨#[33, 61]⟩ : ByteArray).toList then 11 else if s.toList = (⟨#[60]⟩ : ByteArray).toList then 12 else if s.toList = (⟨#[60, 61]⟩ : ByteArray).toList then 13 else -1 : Int) ≤ 14 := by
  repeat' split
  all_goals omega
def g1 (r : Int) : Int × Bool := if r < 0 then (0, false) else (wrap64 (wrap64 (14 + r) + 1), true)
def g2 (r : Int) : Int × Bool := if r < 0 then (0, false) else (wrap64 (wrap64 r + 1), true)
theorem g1_at (r x : Int) (h : 0 ≤ r ∧ r ≤ 100) (hx : 14 + r + 1 = x) : g1 r = (x, true) := by
  unfold g1
  rw [if_neg (by omega)]
  congr 1
  unfold wrap64
  omega
theorem g2_at (r x : Int) (h : 0 ≤ r ∧ r ≤ 100) (hx : r + 1 = x) : g2 r = (x, true) := by
  unfold g2
  rw [if_neg (by omega)]
  congr 1
  unfold wrap64
  omega
theorem bySign_all (s : ByteArray) (ar : Int) : ∃ r1 r2, slices_Index_string_string.f 60 signs1 s = some r1 ∧ slices_Index_string_string.f 60 signs2 s = some r2 ∧ (-1 ≤ r1 ∧ r1 ≤ 3) ∧ (-1 ≤ r2 ∧ r2 ≤ 14) ∧ louverref02_BySign.f 60 s ar = some (bySign r1 r2 ar) := by
  by_cases h1 : ar = 1
  · subst h1
    refine ⟨_, _, index1 s, index2 s, rng1 s, rng2 s, ?_⟩
    rw [ref1, show ∀ r1 r2, bySign r1 r2 1 = g1 r1 from fun r1 r2 => by unfold bySign g1; rw [if_pos rfl]]
    simp only [apply_ite g1, g1_at 0 15 (by decide) (by decide), g1_at 1 16 (by decide) (by decide), g1_at 2 17 (by decide) (by decide), show g1 (-1) = (0, false) from rfl]
  · by_cases h2 : ar = 2
    · subst h2
      refine ⟨_, _, index1 s, index2 s, rng1 s, rng2 s, ?_⟩
      rw [ref2, show ∀ r1 r2, bySign r1 r2 2 = g2 r2 from fun r1 r2 => by unfold bySign g2; rw [if_neg (by decide), if_pos rfl]]
      simp only [apply_ite g2, g2_at 0 1 (by decide) (by decide), g2_at 1 2 (by decide) (by decide), g2_at 2 3 (by decide) (by decide), g2_at 3 4 (by decide) (by decide), g2_at 4 5 (by decide) (by decide), g2_at 5 6 (by decide) (by decide), g2_at 6 7 (by decide) (by decide), g2_at 7 8 (by decide) (by decide), g2_at 8 9 (by decide) (by decide), g2_at 9 10 (by decide) (by decide), g2_at 10 11 (by decide) (by decide), g2_at 11 12 (by decide) (by decide), g2_at 12 13 (by decide) (by decide), g2_at 13 14 (by decide) (by decide), show g2 (-1) = (0, false) from rfl]
    · refine ⟨_, _, index1 s, index2 s, rng1 s, rng2 s, ?_⟩
      rw [ref0 s ar h1 h2]
      unfold bySign
      rw [if_neg h1, if_neg h2]
theorem refSign_f (op : Int) : louverref02_Sign.f op = some (signOf op) := by
  by_cases h : op < 1 ∨ 17 < op
  · unfold louverref02_Sign.f signOf
    rw [Option.bind_some, if_pos h]
    by_cases h1 : op < 1
    · rw [if_pos h1]
    · rw [if_neg h1, if_pos (by omega)]
  · have : op = 1 ∨ op = 2 ∨ op = 3 ∨ op = 4 ∨ op = 5 ∨ op = 6 ∨ op = 7 ∨ op = 8 ∨ op = 9 ∨ op = 10 ∨ op = 11 ∨ op = 12 ∨ op = 13 ∨ op = 14 ∨ op = 15 ∨ op = 16 ∨ op = 17 := by omega
    rcases this with rfl | rfl | rfl | rfl | rfl | rfl | rfl | rfl | rfl | rfl | rfl | rfl | rfl | rfl | rfl | rfl | rfl <;> rfl
theorem arity_all (op : Int) : ∃ a, ops_Arity.f 60 op = some a ∧ louverref02_Arity.f 60 op = some a ∧ (a = 0 ↔ op < 1 ∨ 17 < op) := by
  refine ⟨if 1 ≤ op ∧ op ≤ 14 then 2 else if 15 ≤ op ∧ op ≤ 17 then 1 else 0, ?_, ?_, ?_⟩
  · unfold ops_Arity.f ops_Arity.j0
    by_cases h1 : op ≥ 1 <;> by_cases h2 : op ≤ 14 <;> by_cases h3 : op ≥ 15 <;> by_cases h4 : op ≤ 17 <;> simp [h1, h2, h3, h4] <;> omega
  · unfold louverref02_Arity.f louverref02_Arity.j0
    by_cases h1 : op ≥ 1 <;> by_cases h2 : op ≤ 14 <;> by_cases h3 : op ≥ 15 <;> by_cases h4 : op ≤ 17 <;> simp [h1, h2, h3, h4] <;> omega
  · by_cases h1 : 1 ≤ op ∧ op ≤ 14
    · rw [if_pos h1]
      omega
    · rw [if_neg h1]
      by_cases h2 : 15 ≤ op ∧ op ≤ 17
      · rw [if_pos h2]
        omega
      · rw [if_neg h2]
        omega
end Go.Proofs.YtblhmmhhjkjcgaaDoor.PJ
