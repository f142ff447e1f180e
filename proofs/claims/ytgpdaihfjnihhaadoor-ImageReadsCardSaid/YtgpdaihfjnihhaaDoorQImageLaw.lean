/- Images: there and back, and what a turned byte does (no program). -/
import Derived.Test.YtgpdaihfjnihhaaDoorQPJx0
import Derived.Test.YtgpdaihfjnihhaaDoorQImagePure
import Derived.Test.YtgpdaihfjnihhaaDoorQLebAll
namespace Go.Proofs.YtgpdaihfjnihhaaDoor.PJ
open Go.RowKit Go.Proofs.YtgpdaihfjnihhaaDoorW.PrintWords Go.Proofs.YtgpdaihfjnihhaaDoorW.PrintLast Go.Proofs.YtgpdaihfjnihhaaDoorW.PrintMore Go.Proofs.YtgpdaihfjnihhaaDoor.LebPure Go.Proofs.YtgpdaihfjnihhaaDoor.LebForm Go.Proofs.YtgpdaihfjnihhaaDoor.B64
set_option linter.unusedVariables false
set_option linter.unusedSimpArgs false
theorem eightL_bts (n : Int) : Bts (eightL n) := by
 intro x hx
 simp only [eightL, List.mem_map] at hx
 obtain ⟨i, _, rfl⟩ := hx
 omega
theorem readM_ok {data : List Int} {m : ModL} (h : readM data = (m, 0)) : data.length ≤ 262144 ∧ 12 ≤ data.length ∧ data.take 4 = magicL ∧ data.drop (data.length - 8) = eightL (sumL (data.take (data.length - 8))) ∧ rdMod ((data.take (data.length - 8)).drop 4) = some (m, []) := by
 unfold readM at h
 split at h
 ·
  exact absurd (congrArg Prod.snd h) (show (3 : Int) ≠ 0 by decide)
 ·
  rename_i h1
  split at h
  ·
   exact absurd (congrArg Prod.snd h) (show (120 : Int) ≠ 0 by decide)
  ·
   rename_i h2
   rw [not_or, Classical.not_not] at h2
   split at h
   ·
    exact absurd (congrArg Prod.snd h) (show (121 : Int) ≠ 0 by decide)
   ·
    rename_i h3
    rw [Classical.not_not] at h3
    refine ⟨by omega, by omega, h2.2, h3, ?_⟩
    split at h
    ·
     rename_i m' he
     rw [he, show m' = m from congrArg Prod.fst h]
    ·
     exact absurd (congrArg Prod.snd h) (show (120 : Int) ≠ 0 by decide)
theorem readM_none {data : List Int} : (readM data).2 ≠ 0 → (readM data).1 = ([], [], [], []) := by
 intro h
 unfold readM at h ⊢
 split
 ·
  rfl
 ·
  rename_i h1
  rw [if_neg h1] at h
  split
  ·
   rfl
  ·
   rename_i h2
   rw [if_neg h2] at h
   split
   ·
    rfl
   ·
    rename_i h3
    rw [if_neg h3] at h
    split
    ·
     rename_i m he
     rw [he] at h
     exact absurd rfl h
    ·
     rfl
theorem read_full {data : List Int} {m : ModL} (hb : Bts data) (h : readM data = (m, 0)) : okMod m ∧ data.take (data.length - 8) = fullM m.1 m.2.1 m.2.2.1 m.2.2.2 := by
 obtain ⟨h1, h2, h3, h4, h5⟩ := readM_ok h
 have hl : ((data.take (data.length - 8)).drop 4).length ≤ 1000000 := by rw [List.length_drop, List.length_take]; omega
 obtain ⟨o, e⟩ := rdMod_back (Bts.drop (Bts.take hb _) _) hl h5
 rw [List.append_nil] at e
 refine ⟨o, ?_⟩
 unfold fullM
 rw [← e, ← h3]
 have : (data.take (data.length - 8)).take 4 = data.take 4 := by rw [List.take_take, Nat.min_eq_left (by omega)]
 rw [← this, List.take_append_drop]
end Go.Proofs.YtgpdaihfjnihhaaDoor.PJ
