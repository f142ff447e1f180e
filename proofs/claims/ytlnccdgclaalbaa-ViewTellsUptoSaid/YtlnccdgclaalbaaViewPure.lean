/- What package view computes, in plain lists: sameness, fit, looking alike; their laws. -/
import Derived.Test.YtlnccdgclaalbaaPJx0
import Derived.Test.YtlnccdgclaalbaaPJx5
import Derived.Test.YtlnccdgclaalbaaPJx6
import Derived.Test.YtlnccdgclaalbaaPJx7
import Derived.Test.YtlnccdgclaalbaaHandSeen
import Derived.Test.YtlnccdgclaalbaaB64
namespace Go.Proofs.Ytlnccdgclaalbaa.PJ
open Go.RowKit Go.Proofs.YtlnccdgclaalbaaW.PrintWords Go.Proofs.YtlnccdgclaalbaaW.PrintLast Go.Proofs.YtlnccdgclaalbaaW.PrintMore
set_option linter.unusedVariables false
set_option linter.unusedSimpArgs false
theorem rd_get {l : List Int} {i : Nat} (h : i < l.length) : rd l (i : Int) = l[i] := by simp [rd, List.getD_eq_getElem?_getD, h]
theorem rdL_get {l : List (List Int)} {i : Nat} (h : i < l.length) : rd_L3 l (i : Int) = l[i] := by simp [rd_L3, List.getD_eq_getElem?_getD, h]
theorem wrap_succ {i n : Nat} (h : i < n) (hn : n ≤ 9223372036854775807) : wrap64 ((i : Int) + 1) = ((i + 1 : Nat) : Int) := by unfold wrap64; omega
theorem drop_dec {α : Type} [DecidableEq α] {x y : List α} {i : Nat} (h1 : i < x.length) (h2 : i < y.length) : decide (x.drop i = y.drop i) = (decide (x[i] = y[i]) && decide (x.drop (i + 1) = y.drop (i + 1))) := by
  have e1 := List.getElem_cons_drop h1
  have e2 := List.getElem_cons_drop h2
  by_cases c : x[i] = y[i]
  · by_cases d : x.drop (i + 1) = y.drop (i + 1)
    · have : x.drop i = y.drop i := by rw [← e1, ← e2, c, d]
      rw [decide_eq_true this, decide_eq_true c, decide_eq_true d]
      rfl
    · have : x.drop i ≠ y.drop i := fun e => by
        rw [← e1, ← e2] at e
        exact d (List.cons.inj e).2
      rw [decide_eq_false this, decide_eq_false d]
      simp
  · have : x.drop i ≠ y.drop i := fun e => by
      rw [← e1, ← e2] at e
      exact c (List.cons.inj e).1
    rw [decide_eq_false this, decide_eq_false c]
    rfl
/-! louverkit.Int64s, Rows, Memory -/
theorem int64s_l0 (x y : List Int) (hl : x.length = y.length) (hm : x.length ≤ 9223372036854775807) : ∀ d i k, i + d = x.length → d < k → louverkit_Int64s.l0 k x y (i : Int) = some (decide (x.drop i = y.drop i)) := by
  intro d
  induction d with
  | zero =>
    intro i k hi hk
    obtain ⟨m, rfl⟩ : ∃ m, k = m + 1 := ⟨k - 1, by omega⟩
    rw [louverkit_Int64s.l0, if_neg (by omega), List.drop_eq_nil_of_le (by omega), List.drop_eq_nil_of_le (by omega)]
    simp
  | succ d ih =>
    intro i k hi hk
    obtain ⟨m, rfl⟩ : ∃ m, k = m + 1 := ⟨k - 1, by omega⟩
    have h1 : i < x.length := by omega
    have h2 : i < y.length := by omega
    rw [louverkit_Int64s.l0, if_pos (by omega), if_pos (by omega), if_pos (by omega), rd_get h1, rd_get h2, drop_dec h1 h2, wrap_succ h1 hm, ih (i + 1) m (by omega) (by omega)]
    by_cases c : x[i] = y[i]
    · rw [if_pos c]
      simp [c]
    · rw [if_neg c]
      simp [c]
theorem int64s_f (x y : List Int) (hm : x.length ≤ 9223372036854775807) (k : Nat) (hk : x.length < k) : louverkit_Int64s.f k x y = some (decide (x = y)) := by
  unfold louverkit_Int64s.f
  by_cases c : x.length = y.length
  · have h := int64s_l0 x y c hm x.length 0 k (by omega) hk
    rw [show ((0 : Nat) : Int) = 0 from rfl] at h
    rw [if_pos (by omega), h]
    simp
  · rw [if_neg (by omega)]
    have : x ≠ y := fun e => c (by rw [e])
    simp [this]
theorem rows_l0 (x y : List (List Int)) (B : Nat) (hB : ∀ r ∈ x, r.length ≤ B) (hB2 : B ≤ 9223372036854775807) (hl : x.length = y.length) (hm : x.length ≤ 9223372036854775807) : ∀ d i k, i + d = x.length → d + B + 1 < k → louverkit_Rows.l0 k x y (i : Int) = some (decide (x.drop i = y.drop i)) := by
  intro d
  induction d with
  | zero =>
    intro i k hi hk
    obtain ⟨m, rfl⟩ : ∃ m, k = m + 1 := ⟨k - 1, by omega⟩
    rw [louverkit_Rows.l0, if_neg (by omega), List.drop_eq_nil_of_le (by omega), List.drop_eq_nil_of_le (by omega)]
    simp
  | succ d ih =>
    intro i k hi hk
    obtain ⟨m, rfl⟩ : ∃ m, k = m + 1 := ⟨k - 1, by omega⟩
    have h1 : i < x.length := by omega
    have h2 : i < y.length := by omega
    have h3 := hB x[i] (List.getElem_mem h1)
    rw [louverkit_Rows.l0, if_pos (by omega), if_pos (by omega), if_pos (by omega), rdL_get h1, rdL_get h2, int64s_f _ _ (by omega) m (by omega), Option.bind_some, drop_dec h1 h2, wrap_succ h1 hm, ih (i + 1) m (by omega) (by omega)]
    by_cases c : x[i] = y[i]
    · simp [c]
    · simp [c]
theorem rows_f (x y : List (List Int)) (B : Nat) (hB : ∀ r ∈ x, r.length ≤ B) (hB2 : B ≤ 9223372036854775807) (hm : x.length ≤ 9223372036854775807) (k : Nat) (hk : x.length + B + 1 < k) : louverkit_Rows.f k x y = some (decide (x = y)) := by
  unfold louverkit_Rows.f
  by_cases c : x.length = y.length
  · have h := rows_l0 x y B hB hB2 c hm x.length 0 k (by omega) hk
    rw [show ((0 : Nat) : Int) = 0 from rfl] at h
    rw [if_pos (by omega), h]
    simp
  · rw [if_neg (by omega)]
    have : x ≠ y := fun e => c (by rw [e])
    simp [this]
/-- Two memories are the same. -/
def sameB (g1 : List Int) (r1 : List (List Int)) (g2 : List Int) (r2 : List (List Int)) : Bool := decide (g1 = g2 ∧ r1 = r2)
theorem sameB_refl (g : List Int) (r : List (List Int)) : sameB g r g r = true := by simp [sameB]
/-- Sizes of a memory: its rows are below B. -/
structure Sized (B : Nat) (g : List Int) (r : List (List Int)) : Prop where
  g : g.length ≤ B
  n : r.length ≤ B
  n2 : r.length ≤ 11728124029610
  r : ∀ x ∈ r, x.length ≤ B
theorem memory_f (B : Nat) (hB : B ≤ 9223372036854775807) {g1 : List Int} {r1 : List (List Int)} (g2 : List Int) (r2 : List (List Int)) (h : Sized B g1 r1) (k : Nat) (hk : B + B + 1 < k) : louverkit_Memory.f k g1 r1 g2 r2 = some (sameB g1 r1 g2 r2) := by
  have h1 := h.g
  have h2 := h.n
  unfold louverkit_Memory.f
  rw [int64s_f g1 g2 (by omega) k (by omega), rows_f r1 r2 B h.r hB (by omega) k (by omega), Option.bind_some, Option.bind_some]
  unfold sameB
  by_cases c : g1 = g2
  · simp [c]
  · simp [c]
/-! view.Same -/
theorem eq50_l0 (x y : List Int) (hl : x.length = y.length) (hm : x.length ≤ 9223372036854775807) : ∀ d i k, i + d = x.length → d < k → slices_EqualFunc_int64_int64_int64_int64_50.l0 k y x (x.length : Int) (i : Int) = some (decide (x.drop i = y.drop i)) := by
  intro d
  induction d with
  | zero =>
    intro i k hi hk
    obtain ⟨m, rfl⟩ : ∃ m, k = m + 1 := ⟨k - 1, by omega⟩
    rw [slices_EqualFunc_int64_int64_int64_int64_50.l0, if_neg (by omega), List.drop_eq_nil_of_le (by omega), List.drop_eq_nil_of_le (by omega)]
    simp
  | succ d ih =>
    intro i k hi hk
    obtain ⟨m, rfl⟩ : ∃ m, k = m + 1 := ⟨k - 1, by omega⟩
    have h1 : i < x.length := by omega
    have h2 : i < y.length := by omega
    rw [slices_EqualFunc_int64_int64_int64_int64_50.l0, if_pos (by omega), if_pos (by omega), if_pos (by omega), if_pos (by omega), rd_get h1, rd_get h2, view_equal.f, Option.bind_some, drop_dec h1 h2, wrap_succ h1 hm, ih (i + 1) m (by omega) (by omega)]
    by_cases c : x[i] = y[i]
    · simp [c]
    · simp [c]
theorem rows50_f (x y : List Int) (hm : x.length ≤ 9223372036854775807) (k : Nat) (hk : x.length < k) : view_rows_int64_50.f k x y = some (decide (x = y)) := by
  unfold view_rows_int64_50.f slices_EqualFunc_int64_int64_int64_int64_50.f
  by_cases c : x.length = y.length
  · have h := eq50_l0 x y c hm x.length 0 k (by omega) hk
    rw [show ((0 : Nat) : Int) = 0 from rfl] at h
    rw [if_pos (by omega), h]
    simp
  · rw [if_neg (by omega)]
    have : x ≠ y := fun e => c (by rw [e])
    simp [this]
theorem eq52_l0 (x y : List (List Int)) (B : Nat) (hB : ∀ r ∈ x, r.length ≤ B) (hB2 : B ≤ 9223372036854775807) (hl : x.length = y.length) (hm : x.length ≤ 9223372036854775807) : ∀ d i k, i + d = x.length → d + B + 1 < k → slices_EqualFunc_int64_int64_int64_int64_52.l0 k y x (x.length : Int) (i : Int) = some (decide (x.drop i = y.drop i)) := by
  intro d
  induction d with
  | zero =>
    intro i k hi hk
    obtain ⟨m, rfl⟩ : ∃ m, k = m + 1 := ⟨k - 1, by omega⟩
    rw [slices_EqualFunc_int64_int64_int64_int64_52.l0, if_neg (by omega), List.drop_eq_nil_of_le (by omega), List.drop_eq_nil_of_le (by omega)]
    simp
  | succ d ih =>
    intro i k hi hk
    obtain ⟨m, rfl⟩ : ∃ m, k = m + 1 := ⟨k - 1, by omega⟩
    have h1 : i < x.length := by omega
    have h2 : i < y.length := by omega
    have h3 := hB x[i] (List.getElem_mem h1)
    rw [slices_EqualFunc_int64_int64_int64_int64_52.l0, if_pos (by omega), if_pos (by omega), if_pos (by omega), if_pos (by omega), rdL_get h1, rdL_get h2, rows50_f _ _ (by omega) m (by omega), Option.bind_some, drop_dec h1 h2, wrap_succ h1 hm, ih (i + 1) m (by omega) (by omega)]
    by_cases c : x[i] = y[i]
    · simp [c]
    · simp [c]
theorem same_f (B : Nat) (hB : B ≤ 9223372036854775807) {g1 : List Int} {r1 : List (List Int)} (g2 : List Int) (r2 : List (List Int)) (h : Sized B g1 r1) (k : Nat) (hk : B + B + 1 < k) : view_Same.f k g1 r1 g2 r2 = some (sameB g1 r1 g2 r2) := by
  have h1 := h.g
  have h2 := h.n
  have h3 : view_rows_int64_52.f k r1 r2 = some (decide (r1 = r2)) := by
    unfold view_rows_int64_52.f slices_EqualFunc_int64_int64_int64_int64_52.f
    by_cases c : r1.length = r2.length
    · have h := eq52_l0 r1 r2 B h.r hB c (by omega) r1.length 0 k (by omega) (by omega)
      rw [show ((0 : Nat) : Int) = 0 from rfl] at h
      rw [if_pos (by omega), h]
      simp
    · rw [if_neg (by omega)]
      have : r1 ≠ r2 := fun e => c (by rw [e])
      simp [this]
  unfold view_Same.f
  rw [rows50_f g1 g2 (by omega) k (by omega), h3, Option.bind_some, Option.bind_some]
  unfold sameB
  by_cases c : g1 = g2
  · simp [c]
  · simp [c]
/-! view.Alike -/
def alikeB (gs : List Int) (arr : List S57) (l : Int) (g1 : List Int) (r1 : List (List Int)) (g2 : List Int) (r2 : List (List Int)) : Bool := fitsB gs arr g1 r1 && (fitsB gs arr g2 r2 && sameB (seenG l gs g1) (seenR l arr r1) (seenG l gs g2) (seenR l arr r2))
def seenM (gs : List Int) (arr : List S57) (l : Int) (g : List Int) (r : List (List Int)) : List Int × List (List Int) := if fitsB gs arr g r = true then (seenG l gs g, seenR l arr r) else ([], [])
theorem seen_f (B : Nat) (hB : B ≤ 17592186044415) (gs : List Int) (arr : List S57) (l2 : List Int) (l3 : List S48) {g : List Int} {r : List (List Int)} (l : Int) (h : Sized B g r) : view_Seen.f gs arr l2 l3 g r l = some (seenM gs arr l g r) := by
  have h1 := h.g
  have h2 := h.n
  have h3 := h.n2
  unfold view_Seen.f seenM
  rw [if_pos ⟨by omega, by omega, fun x hx => by have := h.r x hx; omega⟩]
  split <;> rfl
theorem fitsB_parts {gs : List Int} {arr : List S57} {g : List Int} {r : List (List Int)} (h : fitsB gs arr g r = true) : g.length = gs.length ∧ arr.length = r.length ∧ arr.map (fun a => a.f0) = r.map (fun x => (x.length : Int)) := by
  unfold fitsB at h
  simp only [Bool.and_eq_true, decide_eq_true_eq] at h
  exact ⟨h.1, by simpa using congrArg List.length h.2, h.2⟩
theorem sized_seen {B : Nat} {gs : List Int} {arr : List S57} {g : List Int} {r : List (List Int)} (l : Int) (h : Sized B g r) : Sized B (seenG l gs g) (seenR l arr r) := by
  refine ⟨?_, ?_, ?_, fun x hx => ?_⟩
  · have := h.g
    simp [seenG]
    omega
  · have := h.n
    simp [seenR]
    omega
  · have := h.n2
    simp [seenR]
    omega
  · obtain ⟨j, hj⟩ := List.mem_iff_getElem?.mp hx
    simp only [seenR, List.getElem?_zipWith] at hj
    split at hj
    · rename_i a b ha hb
      injection hj with hj
      subst hj
      rw [blot_length]
      exact h.r _ (List.mem_iff_getElem?.mpr ⟨j, hb⟩)
    · cases hj
theorem alike_f (B : Nat) (hB : B ≤ 17592186044415) (gs : List Int) (arr : List S57) (l2 : List Int) (l3 : List S48) (l : Int) {g1 : List Int} {r1 : List (List Int)} {g2 : List Int} {r2 : List (List Int)} (h1 : Sized B g1 r1) (h2 : Sized B g2 r2) (ha : arr.length ≤ 9223372036854775807) (k : Nat) (hk : arr.length < k) (hk2 : B + B + 1 < k) :
    view_Alike.f k gs arr l2 l3 l g1 r1 g2 r2 = some (alikeB gs arr l g1 r1 g2 r2) := by
  unfold view_Alike.f alikeB
  rw [fits_f gs arr l2 l3 g1 r1 ha k hk, Option.bind_some]
  by_cases c1 : fitsB gs arr g1 r1 = true
  · rw [if_pos c1, fits_f gs arr l2 l3 g2 r2 ha k hk, Option.bind_some]
    by_cases c2 : fitsB gs arr g2 r2 = true
    · rw [if_pos c2, seen_f B hB gs arr l2 l3 l h1, seen_f B hB gs arr l2 l3 l h2, Option.bind_some, Option.bind_some]
      unfold seenM
      rw [if_pos c1, if_pos c2, same_f B (by omega) _ _ (sized_seen l h1) k hk2, c1, c2]
      rfl
    · rw [if_neg c2]
      simp [c1, c2]
  · rw [if_neg c1]
    simp [c1]
/-! the laws of looking alike -/
section
variable {gs : List Int} {arr : List S57} {l m : Int} {g1 g2 g3 : List Int} {r1 r2 r3 : List (List Int)}
end
/-! words -/
end Go.Proofs.Ytlnccdgclaalbaa.PJ
