/- Images: there and back, and what a turned byte does (no program). -/
import Derived.Test.YtgpdaihfjnihhaaDoorPJx0
import Derived.Test.YtgpdaihfjnihhaaDoorImagePure
import Derived.Test.YtgpdaihfjnihhaaDoorLebAll
namespace Go.Proofs.YtgpdaihfjnihhaaDoor.PJ
open Go.RowKit Go.Proofs.YtgpdaihfjnihhaaDoorW.PrintWords Go.Proofs.YtgpdaihfjnihhaaDoorW.PrintLast Go.Proofs.YtgpdaihfjnihhaaDoorW.PrintMore Go.Proofs.YtgpdaihfjnihhaaDoor.LebPure Go.Proofs.YtgpdaihfjnihhaaDoor.LebForm Go.Proofs.YtgpdaihfjnihhaaDoor.B64
set_option linter.unusedVariables false
set_option linter.unusedSimpArgs false
/-! ### the sum -/
theorem eightL_bts (n : Int) : Bts (eightL n) := by
  intro x hx
  simp only [eightL, List.mem_map] at hx
  obtain ⟨i, _, rfl⟩ := hx
  omega

/-! ### there and back -/
theorem writeM_ok {gs : List Int} {arr : List S38} {chs : List Int} {fns : List S41} {b : List Int} (h : writeM gs arr chs fns = (b, 0)) :
    badM arr fns = false ∧ (fullM gs arr chs fns).length + 8 ≤ 262144 ∧ b = fullM gs arr chs fns ++ eightL (sumL (fullM gs arr chs fns)) := by
  unfold writeM at h
  split at h
  · exact absurd (congrArg Prod.snd h) (show (1 : Int) ≠ 0 by decide)
  · rename_i h1
    split at h
    · exact absurd (congrArg Prod.snd h) (show (3 : Int) ≠ 0 by decide)
    · rename_i h2
      exact ⟨by simpa using h1, by omega, (congrArg Prod.fst h).symm⟩
theorem body_of (m : ModL) : (fullM m.1 m.2.1 m.2.2.1 m.2.2.2).drop 4 = (cMod m.1 m.2.1 m.2.2.1 m.2.2.2).flatten := by
  unfold fullM
  exact List.drop_left' rfl
theorem write_read {m : ModL} (hm : okMod m) {b : List Int} (h : writeM m.1 m.2.1 m.2.2.1 m.2.2.2 = (b, 0)) : readM b = (m, 0) := by
  obtain ⟨_, h2, rfl⟩ := writeM_ok h
  obtain ⟨F, hF⟩ : ∃ F, fullM m.1 m.2.1 m.2.2.1 m.2.2.2 = F := ⟨_, rfl⟩
  have hb := body_of m
  rw [hF] at h2 hb ⊢
  have h4 : 4 ≤ F.length := by rw [← hF]; unfold fullM; rw [List.length_append]; show 4 ≤ 4 + _; omega
  have ht : F.take 4 = magicL := by rw [← hF]; unfold fullM; exact List.take_left' rfl
  have hl : (F ++ eightL (sumL F)).length = F.length + 8 := by rw [List.length_append, eightL_length]
  have h8 : (F ++ eightL (sumL F)).length - 8 = F.length := by omega
  unfold readM
  rw [if_neg (by omega), if_neg (by
    rw [not_or]
    refine ⟨by omega, ?_⟩
    rw [List.take_append_of_le_length h4, ht]
    simp), h8, List.drop_left, List.take_left, if_neg (by simp), hb]
  have := rdMod_put hm []
  rw [List.append_nil] at this
  rw [this]
theorem readM_ok {data : List Int} {m : ModL} (h : readM data = (m, 0)) : data.length ≤ 262144 ∧ 12 ≤ data.length ∧ data.take 4 = magicL ∧ data.drop (data.length - 8) = eightL (sumL (data.take (data.length - 8))) ∧ rdMod ((data.take (data.length - 8)).drop 4) = some (m, []) := by
  unfold readM at h
  split at h
  · exact absurd (congrArg Prod.snd h) (show (3 : Int) ≠ 0 by decide)
  · rename_i h1
    split at h
    · exact absurd (congrArg Prod.snd h) (show (120 : Int) ≠ 0 by decide)
    · rename_i h2
      rw [not_or, Classical.not_not] at h2
      split at h
      · exact absurd (congrArg Prod.snd h) (show (121 : Int) ≠ 0 by decide)
      · rename_i h3
        rw [Classical.not_not] at h3
        refine ⟨by omega, by omega, h2.2, h3, ?_⟩
        split at h
        · rename_i m' he
          rw [he, show m' = m from congrArg Prod.fst h]
        · exact absurd (congrArg Prod.snd h) (show (120 : Int) ≠ 0 by decide)
theorem readM_none {data : List Int} : (readM data).2 ≠ 0 → (readM data).1 = ([], [], [], []) := by
  intro h
  unfold readM at h ⊢
  split
  · rfl
  · rename_i h1
    rw [if_neg h1] at h
    split
    · rfl
    · rename_i h2
      rw [if_neg h2] at h
      split
      · rfl
      · rename_i h3
        rw [if_neg h3] at h
        split
        · rename_i m he
          rw [he] at h
          exact absurd rfl h
        · rfl
theorem read_full {data : List Int} {m : ModL} (hb : Bts data) (h : readM data = (m, 0)) : okMod m ∧ data.take (data.length - 8) = fullM m.1 m.2.1 m.2.2.1 m.2.2.2 := by
  obtain ⟨h1, h2, h3, h4, h5⟩ := readM_ok h
  have hl : ((data.take (data.length - 8)).drop 4).length ≤ 1000000 := by rw [List.length_drop, List.length_take]; omega
  obtain ⟨o, e⟩ := rdMod_back (Bts.drop (Bts.take hb _) _) hl h5
  rw [List.append_nil] at e
  refine ⟨o, ?_⟩
  unfold fullM
  rw [← e, ← h3]
  have : (data.take (data.length - 8)).take 4 = data.take 4 := by rw [List.take_take, Nat.min_eq_left (by omega)]
  rw [← this, List.take_append_drop]
theorem okMod_bad {m : ModL} (h : okMod m) : badM m.2.1 m.2.2.2 = false := by
  obtain ⟨_, ⟨_, h1⟩, _, ⟨_, h2⟩⟩ := h
  unfold badM
  rw [Bool.or_eq_false_iff]
  constructor
  · rw [List.any_eq_false]
    intro x hx
    have := (h1 x hx).1.1
    simp only [badA, decide_eq_true_eq]
    omega
  · rw [List.any_eq_false]
    intro x hx
    obtain ⟨_, _, _, a, b, _, c⟩ := h2 x hx
    have a1 := a.1
    have b1 := b.1
    simp only [badF, Bool.or_eq_true, decide_eq_true_eq, List.any_eq_true, not_or]
    refine ⟨by omega, by omega, ?_⟩
    rintro ⟨i, hi, hbi⟩
    rw [badI, (c i hi).1] at hbi
    cases hbi
theorem read_write {data : List Int} {m : ModL} (hb : Bts data) (h : readM data = (m, 0)) : writeM m.1 m.2.1 m.2.2.1 m.2.2.2 = (data, 0) := by
  obtain ⟨h1, h2, h3, h4, h5⟩ := readM_ok h
  obtain ⟨o, e⟩ := read_full hb h
  have hl : (fullM m.1 m.2.1 m.2.2.1 m.2.2.2).length = data.length - 8 := by rw [← e, List.length_take]; omega
  unfold writeM
  rw [okMod_bad o, if_neg (by decide), if_neg (by omega), ← e, ← h4, List.take_append_drop]

/-! ### what comes in: a module whose numbers are of their kinds -/
def wfMod (m : ModL) : Prop := okLs m.1 ∧ (m.2.1.length ≤ 9223372036854775807 ∧ ∀ x ∈ m.2.1, x.f0 ≤ 9223372036854775807 ∧ okU x.f1) ∧ okLs m.2.2.1 ∧ (m.2.2.2.length ≤ 9223372036854775807 ∧ ∀ x ∈ m.2.2.2, okU x.f0 ∧ okLs x.f1 ∧ okLs x.f2 ∧ x.f3 ≤ 9223372036854775807 ∧ x.f4 ≤ 9223372036854775807 ∧ x.f5.length ≤ 9223372036854775807 ∧ ∀ i ∈ x.f5, -9223372036854775808 ≤ i.f1 ∧ i.f1 ≤ 9223372036854775807)
theorem okMod_of {m : ModL} (h : wfMod m) (hb : badM m.2.1 m.2.2.2 = false) : okMod m := by
  obtain ⟨h1, ⟨h2, h3⟩, h4, ⟨h5, h6⟩⟩ := h
  unfold badM at hb
  rw [Bool.or_eq_false_iff, List.any_eq_false, List.any_eq_false] at hb
  refine ⟨h1, ⟨h2, fun x hx => ?_⟩, h4, ⟨h5, fun x hx => ?_⟩⟩
  · have := hb.1 x hx
    simp only [badA, decide_eq_true_eq] at this
    exact ⟨⟨by omega, (h3 x hx).1⟩, (h3 x hx).2⟩
  · have hx2 := hb.2 x hx
    simp only [badF, Bool.or_eq_true, decide_eq_true_eq, List.any_eq_true, not_or, not_exists, not_and] at hx2
    obtain ⟨a, b, c, d, e, f, g⟩ := h6 x hx
    refine ⟨a, b, c, ⟨by omega, d⟩, ⟨by omega, e⟩, f, fun i hi => ⟨?_, g i hi⟩⟩
    have := hx2.2.2 i hi
    simpa [badI] using this

/-! ### turned, one less, one more -/
end Go.Proofs.YtgpdaihfjnihhaaDoor.PJ
