/- The sums of bytes: image.Sum's and the document's letters (no program). -/
import Derived.Test.YtgpdaihfjnihhaaDoorQPJx0
import Derived.Test.YtgpdaihfjnihhaaDoorQPJx3
import Derived.Test.YtgpdaihfjnihhaaDoorQPA
import Derived.Test.YtgpdaihfjnihhaaDoorQImageLaw
namespace Go.Proofs.YtgpdaihfjnihhaaDoor.PJ
open Go.RowKit Go.Proofs.YtgpdaihfjnihhaaDoorW.PrintWords Go.Proofs.YtgpdaihfjnihhaaDoorW.PrintLast Go.Proofs.YtgpdaihfjnihhaaDoorW.PrintMore Go.Proofs.YtgpdaihfjnihhaaDoor.LebPure Go.Proofs.YtgpdaihfjnihhaaDoor.LebForm Go.Proofs.YtgpdaihfjnihhaaDoor.B64
set_option linter.unusedVariables false
set_option linter.unusedSimpArgs false
theorem wrap_at {i n : Nat} (h : i < n) (hn : n ≤ 9223372036854775807) : wrap64 ((i : Int) + 1) = ((i + 1 : Nat) : Int) := by unfold wrap64; omega
theorem byte_wrap {x : Int} (h : 0 ≤ x ∧ x ≤ 255) : IntKind.u64.wrap x = x := u64_small h.1 (by omega)
theorem sum_l1 (ls : List (List Int)) (x9 x10 : Int) (l : List Int) (hb : Bts l) (hl : l.length ≤ 9223372036854775807) (R : Int) (F : Nat) : ∀ d i (n : Int) k, i + d = l.length → F + d < k →
  (∀ k, F ≤ k → image_Sum.l0 k ((l.drop i).foldl step1 n) ls x9 (wrap64 (x10 + 1)) = some R) → image_Sum.l1 k n ls x9 x10 l (l.length : Int) (i : Int) = some R := by
 intro d
 induction d with
 | zero =>
  intro i n k hi hk h
  obtain ⟨m, rfl⟩ : ∃ m, k = m + 1 := ⟨k - 1, by omega⟩
  rw [image_Sum.l1, if_neg (by omega)]
  have := h m (by omega)
  rwa [List.drop_of_length_le (by omega)] at this
 | succ d ih =>
  intro i n k hi hk h
  obtain ⟨m, rfl⟩ : ∃ m, k = m + 1 := ⟨k - 1, by omega⟩
  have p1 : i < l.length := by omega
  rw [image_Sum.l1, if_pos (by omega), if_pos (by omega), if_pos (by omega), rd_get p1, byte_wrap (hb.get p1), wrap_at p1 hl]
  refine ih (i + 1) _ m (by omega) (by omega) (fun k hk => ?_)
  have := h k hk
  rwa [List.drop_eq_getElem_cons p1, List.foldl_cons] at this
theorem sum_l0 (ls : List (List Int)) (hb : ∀ l ∈ ls, Bts l) (hm : ls.length ≤ 9223372036854775807) (hl : ∀ l ∈ ls, l.length ≤ 9223372036854775807) : ∀ d i (n : Int), i + d = ls.length →
  ∃ K, ∀ k, K ≤ k → image_Sum.l0 k n ls (ls.length : Int) (i : Int) = some ((ls.drop i).flatten.foldl step1 n) := by
 intro d
 induction d with
 | zero =>
  intro i n hi
  refine ⟨1, fun k hk => ?_⟩
  obtain ⟨m, rfl⟩ : ∃ m, k = m + 1 := ⟨k - 1, by omega⟩
  rw [image_Sum.l0, if_neg (by omega), List.drop_of_length_le (by omega)]
  rfl
 | succ d ih =>
  intro i n hi
  have p1 : i < ls.length := by omega
  obtain ⟨K, hK⟩ := ih (i + 1) (ls[i].foldl step1 n) (by omega)
  refine ⟨K + ls[i].length + 2, fun k hk => ?_⟩
  obtain ⟨m, rfl⟩ : ∃ m, k = m + 1 := ⟨k - 1, by omega⟩
  have e0 : rd_L1 ls (i : Int) = ls[i] := by simp [rd_L1, List.getD_eq_getElem?_getD, p1]
  rw [image_Sum.l0, if_pos (by omega), if_pos (by omega), if_pos (by omega), e0]
  refine sum_l1 ls _ _ ls[i] (hb _ (List.getElem_mem p1)) (hl _ (List.getElem_mem p1)) _ K ls[i].length 0 n m (by omega) (by omega) (fun k hk => ?_)
  rw [List.drop_zero, wrap_at p1 hm, hK k hk, List.drop_eq_getElem_cons p1, List.flatten_cons, List.foldl_append]
theorem imgSum_f (ls : List (List Int)) (hb : ∀ l ∈ ls, Bts l) (hm : ls.length ≤ 9223372036854775807) (hl : ∀ l ∈ ls, l.length ≤ 9223372036854775807) : ∃ K, ∀ k, K ≤ k → image_Sum.f k ls = some (sumL ls.flatten) := by
 obtain ⟨K, hK⟩ := sum_l0 ls hb hm hl ls.length 0 14695981039346656037 (by omega)
 exact ⟨K, fun k hk => hK k hk⟩
theorem refSum_l0 (l : List Int) (hb : Bts l) (hl : l.length ≤ 9223372036854775807) : ∀ d i (n : Int) k, i + d = l.length → d < k → louverref12_Sum.l0 k l n (i : Int) = some ((l.drop i).foldl step1 n) := by
 intro d
 induction d with
 | zero =>
  intro i n k hi hk
  obtain ⟨m, rfl⟩ : ∃ m, k = m + 1 := ⟨k - 1, by omega⟩
  rw [louverref12_Sum.l0, if_neg (by omega), List.drop_of_length_le (by omega)]
  rfl
 | succ d ih =>
  intro i n k hi hk
  obtain ⟨m, rfl⟩ : ∃ m, k = m + 1 := ⟨k - 1, by omega⟩
  have p1 : i < l.length := by omega
  rw [louverref12_Sum.l0, if_pos (by omega), if_pos (by omega), rd_get p1, byte_wrap (hb.get p1), wrap_at p1 hl, List.drop_eq_getElem_cons p1, List.foldl_cons]
  exact ih (i + 1) _ m (by omega) (by omega)
theorem refSum_f (l : List Int) (hb : Bts l) (hl : l.length ≤ 9223372036854775807) (k : Nat) (hk : l.length < k) : louverref12_Sum.f k l = some (sumL l) := refSum_l0 l hb hl l.length 0 _ k (by omega) hk
end Go.Proofs.YtgpdaihfjnihhaaDoor.PJ
