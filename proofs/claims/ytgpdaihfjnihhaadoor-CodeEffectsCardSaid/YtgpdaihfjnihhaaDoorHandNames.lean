/- code.names: strings.Fields at its two constant strings; code.Name, code.ByName by hand. -/
import Derived.Test.YtgpdaihfjnihhaaDoorPJx0
import Derived.Test.YtgpdaihfjnihhaaDoorLaysFields
import Derived.WalkKit
namespace Go.Proofs.YtgpdaihfjnihhaaDoor.PJ
open Go.RowKit Go.Proofs.YtgpdaihfjnihhaaDoorW.PrintWords Go.Proofs.YtgpdaihfjnihhaaDoorW.PrintLast Go.Proofs.YtgpdaihfjnihhaaDoorW.PrintMore
set_option linter.unusedSimpArgs false
set_option linter.unusedVariables false

def opText : ByteArray := ⟨#[97, 100, 100, 32, 115, 117, 98, 32, 109, 117, 108, 32, 100, 105, 118, 32, 114, 101, 109, 32, 97, 110, 100, 32, 111, 114, 32, 120, 111, 114, 32, 115, 104, 108, 32, 115, 104, 114, 32, 101, 113, 32, 110, 101, 32, 108, 116, 32, 108, 101, 32, 110, 101, 103, 32, 110, 111, 116, 32, 105, 110, 118]⟩
def inText : ByteArray := ⟨#[99, 111, 110, 115, 116, 32, 108, 111, 99, 97, 108, 32, 115, 101, 116, 32, 103, 108, 111, 98, 97, 108, 32, 115, 101, 116, 103, 108, 111, 98, 97, 108, 32, 108, 111, 97, 100, 32, 115, 116, 111, 114, 101, 32, 100, 117, 112, 32, 115, 119, 97, 112, 32, 112, 111, 112, 32, 110, 111, 112, 32, 106, 117, 109, 112, 32, 122, 101, 114, 111, 32, 99, 97, 108, 108, 32, 114, 101, 116, 117, 114, 110, 32, 115, 101, 110, 100]⟩
def opL : List ByteArray := [⟨#[97, 100, 100]⟩, ⟨#[115, 117, 98]⟩, ⟨#[109, 117, 108]⟩, ⟨#[100, 105, 118]⟩, ⟨#[114, 101, 109]⟩, ⟨#[97, 110, 100]⟩, ⟨#[111, 114]⟩, ⟨#[120, 111, 114]⟩, ⟨#[115, 104, 108]⟩, ⟨#[115, 104, 114]⟩, ⟨#[101, 113]⟩, ⟨#[110, 101]⟩, ⟨#[108, 116]⟩, ⟨#[108, 101]⟩, ⟨#[110, 101, 103]⟩, ⟨#[110, 111, 116]⟩, ⟨#[105, 110, 118]⟩]
def inL : List ByteArray := [⟨#[99, 111, 110, 115, 116]⟩, ⟨#[108, 111, 99, 97, 108]⟩, ⟨#[115, 101, 116]⟩, ⟨#[103, 108, 111, 98, 97, 108]⟩, ⟨#[115, 101, 116, 103, 108, 111, 98, 97, 108]⟩, ⟨#[108, 111, 97, 100]⟩, ⟨#[115, 116, 111, 114, 101]⟩, ⟨#[100, 117, 112]⟩, ⟨#[115, 119, 97, 112]⟩, ⟨#[112, 111, 112]⟩, ⟨#[110, 111, 112]⟩, ⟨#[106, 117, 109, 112]⟩, ⟨#[122, 101, 114, 111]⟩, ⟨#[99, 97, 108, 108]⟩, ⟨#[114, 101, 116, 117, 114, 110]⟩, ⟨#[115, 101, 110, 100]⟩]
theorem tab_below {w w1 : World} (h : Lib.TabIs Tryd.prog w "strings.asciiSpace" .u8 Lib.asciiSpaceTab) (hb : Below w.heap.size w w1) : Lib.TabIs Tryd.prog w1 "strings.asciiSpace" .u8 Lib.asciiSpaceTab := by
  have hg := Tryd.laysFields.m0
  unfold Lib.TabIs World.var? at h ⊢
  rw [hg] at h ⊢
  simp only [Option.bind_some] at h ⊢
  have hlt : Tryd.laysFields_ren.g 0 < w.heap.size := by
    by_cases hl : Tryd.laysFields_ren.g 0 < w.heap.size
    · exact hl
    · rw [Array.getElem?_eq_none (by omega)] at h
      cases h
  rw [hb.block _ hlt]
  exact h
/-- strings.Fields at a text of ASCII: a new row of the words. -/
theorem fields_at (s : ByteArray) (l : List ByteArray) (n : Nat) (hn : l.length = n) (hn0 : n ≤ 1000) (hs : s.size < 4294967281) (ha : ∀ b ∈ s.data.toList, b.toNat < 128) (hf : (Lib.fields s.data.toList).map (fun x => Value.string ⟨x.toArray⟩) = l.map Value.string) (hl : (Lib.fields s.data.toList).length = n)
    (w : World) (ht : Lib.TabIs Tryd.prog w "strings.asciiSpace" .u8 Lib.asciiSpaceTab) :
    Calls Tryd.prog 115 #[.string s] w fun e w' => ∃ g, e = .returned (.slice (some ⟨g, 0, none⟩) n n) ∧ (∀ i x, l[i]? = some x → w'.cell? ⟨g, i, none⟩ = some (.string x)) ∧ Kd.C Kd.string w' (some ⟨g, 0, none⟩) n l ∧ Below w.heap.size w w' := by
  have h := @Any.strings_Fields_laid _ _ Tryd.laysFields s w hs (fun j b hb => ha b (List.mem_of_getElem? hb)) ht
  rw [hf, hl] at h
  refine h.mono ?_
  rintro e w1 ⟨rfl, rfl⟩
  refine ⟨_, rfl, fun i x hx => ?_, ?_, below_alloc (Below.refl _ _) _⟩
  · unfold World.cell?
    rw [heap_alloc_new]
    simp [hx]
  · have hR : Kd.R Kd.string 9 (w.alloc (.cells (l.map Value.string).toArray 9)) w.heap.size (fun _ => True) (.slice (some ⟨w.heap.size, 0, none⟩) l.length l.length) l :=
      Kd.R_of_own ⟨by simp [encs], .inr ⟨w.heap.size, l.length, (l.map Value.string).toArray, rfl, Nat.le_refl _, heap_alloc_new w _, Nat.le_refl _, by simp only [maxLen]; omega, by simp, by simp [encs, List.take_of_length_le]⟩⟩ (fun _ _ => trivial)
    have := (Kd.R_reads' hR).2.2
    rw [hn] at this
    exact this
set_option maxHeartbeats 8000000 in
set_option maxRecDepth 100000 in
theorem names_calls (w : World) (ht : Lib.TabIs Tryd.prog w "strings.asciiSpace" .u8 Lib.asciiSpaceTab) :
    Calls Tryd.prog 79 #[] w fun e w' => ∃ g1 g2, e = .returned (.tuple #[.slice (some ⟨g1, 0, none⟩) 17 17, .slice (some ⟨g2, 0, none⟩) 16 16]) ∧ (∀ i x, opL[i]? = some x → w'.cell? ⟨g1, i, none⟩ = some (.string x)) ∧ (∀ i x, inL[i]? = some x → w'.cell? ⟨g2, i, none⟩ = some (.string x)) ∧
      Kd.C Kd.string w' (some ⟨g1, 0, none⟩) 17 opL ∧ Kd.C Kd.string w' (some ⟨g2, 0, none⟩) 16 inL ∧ Below w.heap.size w w' := by
  have HT := Aside0.mk ht
  clear ht
  go_enter Tryd.func79, Tryd.ntmps79
  go_wp2_with fail
  refine (fields_at opText opL 17 rfl (by decide) (by decide) (by decide) rfl rfl _ HT.out).mono ?_
  rintro e w1 ⟨g1, rfl, hc1, hC1, hb⟩
  have HC1 := Aside0.mk hC1
  have HE1 := Aside0.mk hc1
  have HB := Aside0.mk hb
  clear hC1 hc1 hb
  go_wp2_with fail
  refine (fields_at inText inL 16 rfl (by decide) (by decide) (by decide) rfl rfl _ (tab_below HT.out HB.out)).mono ?_
  rintro e w2 ⟨g2, rfl, hc2, hC2, hb⟩
  have HC2 := Aside0.mk hC2
  have HE2 := Aside0.mk hc2
  have HB2 := Aside0.mk hb
  clear hC2 hc2 hb
  go_wp2_with fail
  go_ret2
  exact ⟨_, _, rfl, fun i x hx => (HB2.out.cell (World.block_lt_of_cell? w1 _ (HE1.out i x hx))).trans (HE1.out i x hx), HE2.out, Kd.C_below HC1.out HB2.out, HC2.out, below_step HB.out HB2.out⟩
end Go.Proofs.YtgpdaihfjnihhaaDoor.PJ
