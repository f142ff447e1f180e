/- ops.signs: strings.Fields at its constant string. -/
import Derived.Test.YtblhmmhhjkjcgaaDoorPJx
import Derived.Test.YtblhmmhhjkjcgaaDoorRows
import Derived.Test.YtblhmmhhjkjcgaaDoorLaysFields
import Derived.WalkKit
namespace Go.Proofs.YtblhmmhhjkjcgaaDoor.PJ
open Go.RowKit Go.Proofs.YtblhmmhhjkjcgaaDoorW.PrintWords Go.Proofs.YtblhmmhhjkjcgaaDoorW.PrintLast Go.Proofs.YtblhmmhhjkjcgaaDoorW.PrintMore

def signText : ByteArray := ⟨#[43, 32, 45, 32, 42, 32, 47, 32, 37, 32, 38, 32, 124, 32, 94, 32, 60, 60, 32, 62, 62, 32, 61, 61, 32, 33, 61, 32, 60, 32, 60, 61, 32, 45, 32, 33, 32, 126]⟩
def signL : List ByteArray := [⟨#[43]⟩, ⟨#[45]⟩, ⟨#[42]⟩, ⟨#[47]⟩, ⟨#[37]⟩, ⟨#[38]⟩, ⟨#[124]⟩, ⟨#[94]⟩, ⟨#[60, 60]⟩, ⟨#[62, 62]⟩, ⟨#[61, 61]⟩, ⟨#[33, 61]⟩, ⟨#[60]⟩, ⟨#[60, 61]⟩, ⟨#[45]⟩, ⟨#[33]⟩, ⟨#[126]⟩]
theorem fields_signs : (Lib.fields signText.data.toList).map (fun l => Value.string ⟨l.toArray⟩) = signL.map Value.string := by rfl
theorem fieldsN : (Lib.fields signText.data.toList).length = 17 := by rfl
theorem ascii_signs : ∀ (j : Nat) (b : UInt8), signText.data.toList[j]? = some b → b.toNat < 128 := fun j b hb => (show ∀ b ∈ signText.data.toList, b.toNat < 128 by decide) b (List.mem_of_getElem? hb)
theorem fields_calls (w : World) (ht : Lib.TabIs Tryd.prog w "strings.asciiSpace" .u8 Lib.asciiSpaceTab) :
    Calls Tryd.prog 19 #[.string signText] w fun e w' => e = .returned (.slice (some ⟨w.heap.size, 0, none⟩) 17 17) ∧ w' = w.alloc (.cells (signL.map Value.string).toArray 9) := by
  have h := @Any.strings_Fields_laid _ _ Tryd.laysFields signText w (by decide) ascii_signs ht
  rw [fields_signs, fieldsN] at h
  exact h

set_option maxHeartbeats 8000000 in
set_option maxRecDepth 100000 in
theorem ops_signs.calls (w : World) (ht : Lib.TabIs Tryd.prog w "strings.asciiSpace" .u8 Lib.asciiSpaceTab) :
    Calls Tryd.prog 15 #[] w fun e w' => e = .returned (.slice (some ⟨w.heap.size, 0, none⟩) 17 17) ∧ w' = w.alloc (.cells (signL.map Value.string).toArray 9) := by
  have HT := Aside0.mk ht
  clear ht
  go_enter Tryd.func15, Tryd.ntmps15
  go_wp2_with fail
  refine (fields_calls w HT.out).mono ?_
  rintro e w1 ⟨rfl, rfl⟩
  go_wp2_with fail
  go_ret
  exact ⟨rfl, rfl⟩

/-- The row of signs as one's own row. -/
theorem signs_R (w : World) : Kd.R Kd.string 9 (w.alloc (.cells (signL.map Value.string).toArray 9)) w.heap.size (fun k => w.heap.size ≤ k) (.slice (some ⟨w.heap.size, 0, none⟩) signL.length 17) signL := by
  refine Kd.R_of_own ⟨rfl, .inr ⟨w.heap.size, 17, (signL.map Value.string).toArray, rfl, Nat.le_refl _, heap_alloc_new w _, by decide, by decide, rfl, rfl⟩⟩ (fun k hk => ?_)
  simp [Value.ownBlock] at hk
  omega
theorem signs_C (w : World) : Kd.C Kd.string (w.alloc (.cells (signL.map Value.string).toArray 9)) (some ⟨w.heap.size, 0, none⟩) signL.length signL := (Kd.R_reads' (signs_R w)).2.2
theorem signs_below (w : World) : Below w.heap.size w (w.alloc (.cells (signL.map Value.string).toArray 9)) := below_alloc (Below.refl _ _) _
theorem tab_below {w w1 : World} (h : Lib.TabIs Tryd.prog w "strings.asciiSpace" .u8 Lib.asciiSpaceTab) (hb : Below w.heap.size w w1) : Lib.TabIs Tryd.prog w1 "strings.asciiSpace" .u8 Lib.asciiSpaceTab := by
  have hg := Tryd.laysFields.m0
  unfold Lib.TabIs World.var? at h ⊢
  rw [hg] at h ⊢
  simp only [Option.bind_some] at h ⊢
  have hlt : Tryd.laysFields_ren.g 0 < w.heap.size := by
    by_cases hl : Tryd.laysFields_ren.g 0 < w.heap.size
    · exact hl
    · rw [Array.getElem?_eq_none (by omega)] at h
      cases h
  rw [hb.block _ hlt]
  exact h
/-- What a call of signs leaves, said of any world behind it. -/
theorem signs_calls (w : World) (ht : Lib.TabIs Tryd.prog w "strings.asciiSpace" .u8 Lib.asciiSpaceTab) :
    Calls Tryd.prog 15 #[] w fun e w' => ∃ g, e = .returned (.slice (some ⟨g, 0, none⟩) 17 17) ∧ (∀ i, i < 17 → w'.cell? ⟨g, i, none⟩ = some (.string (signL.getD i ⟨#[]⟩))) ∧ Kd.C Kd.string w' (some ⟨g, 0, none⟩) 17 signL ∧ Below w.heap.size w w' := by
  refine (ops_signs.calls w ht).mono ?_
  rintro e w1 ⟨rfl, rfl⟩
  refine ⟨_, rfl, fun i hi => ?_, signs_C w, signs_below w⟩
  have h17 : (signL.map Value.string).toArray.size = 17 := rfl
  unfold World.cell?
  rw [heap_alloc_new]
  have : i = 0 ∨ i = 1 ∨ i = 2 ∨ i = 3 ∨ i = 4 ∨ i = 5 ∨ i = 6 ∨ i = 7 ∨ i = 8 ∨ i = 9 ∨ i = 10 ∨ i = 11 ∨ i = 12 ∨ i = 13 ∨ i = 14 ∨ i = 15 ∨ i = 16 := by omega
  rcases this with rfl | rfl | rfl | rfl | rfl | rfl | rfl | rfl | rfl | rfl | rfl | rfl | rfl | rfl | rfl | rfl | rfl <;> rfl

/-- The sign of an operation, as the document's table has it. -/
def signOf (op : Int) : ByteArray := if op < 1 ∨ 17 < op then ⟨#[]⟩ else signL.getD (op - 1).toNat ⟨#[]⟩
set_option maxHeartbeats 8000000 in
set_option maxRecDepth 100000 in
theorem ops_Sign.calls (k : Nat) (op ar : Int) (w : World) (ht : Lib.TabIs Tryd.prog w "strings.asciiSpace" .u8 Lib.asciiSpaceTab) (ha : ops_Arity.f k op = some ar) (hz : ar = 0 ↔ op < 1 ∨ 17 < op) :
    Calls Tryd.prog 9 #[.int .i64 op] w fun e w' => e = .returned (.string (signOf op)) ∧ Below w.heap.size w w' := by
  have HT := Aside0.mk ht
  have HA := Aside0.mk ha
  clear ht ha
  by_cases h0 : ar = 0
  · have b0 : (ar == 0) = true := beq_iff_eq.mpr h0
    have e0 : signOf op = ⟨#[]⟩ := if_pos (hz.mp h0)
    clear hz h0
    go_enter Tryd.func9, Tryd.ntmps9
    go_wp2_with fail
    refine (ops_Arity.calls k op ar _ HA.out).mono ?_
    rintro e w1 ⟨rfl, ⟨nd, rfl⟩⟩
    go_wp2_with fail
    go_ret
    exact ⟨by rw [e0]; rfl, pw_below_drewN (Below.refl _ _) _⟩
  · have b0 : (ar == 0) = false := beq_eq_false_iff_ne.mpr h0
    have h1 : 1 ≤ op ∧ op ≤ 17 := by
      have := fun h => h0 (hz.mpr h)
      omega
    have e0 : signOf op = signL.getD (op - 1).toNat ⟨#[]⟩ := if_neg (by omega)
    clear hz h0
    have hw : wrap64 (op - 1) = op - 1 := by unfold wrap64; omega
    go_enter Tryd.func9, Tryd.ntmps9
    go_wp2_with fail
    refine (ops_Arity.calls k op ar _ HA.out).mono ?_
    rintro e w1 ⟨rfl, ⟨nd, rfl⟩⟩
    go_wp2_with fail
    refine (signs_calls _ (tab_below HT.out (pw_below_drewN (Below.refl _ _) _))).mono ?_
    rintro e w1 ⟨g, rfl, hcell, _, hb⟩
    have hc := hcell (op.toNat - 1) (by omega)
    have e1 : signL.getD (op.toNat - 1) ⟨#[]⟩ = signOf op := by rw [e0, show (op - 1).toNat = op.toNat - 1 by omega]
    rw [e1] at hc
    have HB := Aside0.mk (below_step (pw_below_drewN (Below.refl _ _) _) hb)
    clear hcell e1 hb e0
    go_wp2_with fail
    go_ret
    exact ⟨rfl, HB.out⟩
end Go.Proofs.YtblhmmhhjkjcgaaDoor.PJ
