/- Texts of this claim, joined: QLaysFields, QHandNames, QHandTab. -/
import Derived.Test.YtgpdaihfjnihhaaDoorRows
import Derived.Ground.NamesProg
import Derived.Shelf.Strings.SplitShaped
import Derived.Test.YtgpdaihfjnihhaaDoorQPJx0
import Derived.WalkKit
import Derived.LaidMore
import Derived.Stop.Joined
import Derived.Stop.LaidErr
import Derived.Lib.LaidTab
namespace Go.Proofs
open Go.Shelf
def Tryd.laysFields_ren : Go.Shelf.Ren := ⟨fun | 157 => 115 | 229 => 128 | 199 => 129 | 261 => 131 | 311 => 132 | 312 => 133 | n => n, fun | 9 => 9 | 31 => 121 | 3 => 3 | 5 => 5 | 4 => 4 | 119 => 168 | 0 => 0 | 40 => 170 | 152 => 171 | 21 => 21 | 154 => 173 | 51 => 174 | 141 => 176 | 196 => 180 | 193 => 177 | 198 => 183 | 49 => 181 | 194 => 178 | 201 => 186 | 226 => 188 | 46 => 126 | 227 => 189 | n => n, fun | 0 => 0 | 6 => 1 | n => n⟩
theorem Tryd.laysFields : Go.Proofs.LaysM.n157 Tryd.prog Tryd.laysFields_ren where
 mixed := by kernel_rfl
 f157 := Tryd.func115.trans (congrArg some (by kernel_rfl))
 f199 := Tryd.func129.trans (congrArg some (by kernel_rfl))
 f229 := Tryd.func128.trans (congrArg some (by kernel_rfl))
 f261 := Tryd.func131.trans (congrArg some (by kernel_rfl))
 f311 := Tryd.func132.trans (congrArg some (by kernel_rfl))
 f312 := Tryd.func133.trans (congrArg some (by kernel_rfl))
 t0 := Tryd.underlying0
 a0 := Tryd.isAgg0
 z0 := Tryd.sizeOf0
 v0 := Tryd.zeroValue0
 t3 := Tryd.underlying3
 a3 := Tryd.isAgg3
 z3 := Tryd.sizeOf3
 v3 := Tryd.zeroValue3
 t4 := Tryd.underlying4
 a4 := Tryd.isAgg4
 z4 := Tryd.sizeOf4
 v4 := Tryd.zeroValue4
 t5 := Tryd.underlying5
 a5 := Tryd.isAgg5
 z5 := Tryd.sizeOf5
 v5 := Tryd.zeroValue5
 t9 := Tryd.underlying9
 a9 := Tryd.isAgg9
 z9 := Tryd.sizeOf9
 v9 := Tryd.zeroValue9
 t21 := Tryd.underlying21
 a21 := Tryd.isAgg21
 z21 := Tryd.sizeOf21
 v21 := Tryd.zeroValue21
 t31 := Tryd.underlying121
 a31 := Tryd.isAgg121
 z31 := Tryd.sizeOf121
 v31 := Tryd.zeroValue121
 t40 := Tryd.underlying170
 a40 := Tryd.isAgg170
 z40 := Tryd.sizeOf170
 v40 := Tryd.zeroValue170
 t46 := Tryd.underlying126
 a46 := Tryd.isAgg126
 z46 := Tryd.sizeOf126
 v46 := Tryd.zeroValue126
 t49 := Tryd.underlying181
 a49 := Tryd.isAgg181
 z49 := Tryd.sizeOf181
 v49 := Tryd.zeroValue181
 t51 := Tryd.underlying174
 a51 := Tryd.isAgg174
 z51 := Tryd.sizeOf174
 v51 := Tryd.zeroValue174
 t119 := Tryd.underlying168
 a119 := Tryd.isAgg168
 z119 := Tryd.sizeOf168
 t141 := Tryd.underlying176
 a141 := Tryd.isAgg176
 z141 := Tryd.sizeOf176
 v141 := Tryd.zeroValue176
 t152 := Tryd.underlying171
 a152 := Tryd.isAgg171
 z152 := Tryd.sizeOf171
 v152 := Tryd.zeroValue171
 t154 := Tryd.underlying173
 a154 := Tryd.isAgg173
 z154 := Tryd.sizeOf173
 v154 := Tryd.zeroValue173
 t193 := Tryd.underlying177
 a193 := Tryd.isAgg177
 z193 := Tryd.sizeOf177
 v193 := Tryd.zeroValue177
 t194 := Tryd.underlying178
 a194 := Tryd.isAgg178
 z194 := Tryd.sizeOf178
 v194 := Tryd.zeroValue178
 t196 := Tryd.underlying180
 a196 := Tryd.isAgg180
 z196 := Tryd.sizeOf180
 v196 := Tryd.zeroValue180
 t198 := Tryd.underlying183
 a198 := Tryd.isAgg183
 z198 := Tryd.sizeOf183
 v198 := Tryd.zeroValue183
 t201 := Tryd.underlying186
 a201 := Tryd.isAgg186
 z201 := Tryd.sizeOf186
 v201 := Tryd.zeroValue186
 t226 := Tryd.underlying188
 a226 := Tryd.isAgg188
 z226 := Tryd.sizeOf188
 v226 := Tryd.zeroValue188
 t227 := Tryd.underlying189
 a227 := Tryd.isAgg189
 z227 := Tryd.sizeOf189
 v227 := Tryd.zeroValue189
 g0 := by kernel_rfl
 g6 := by kernel_rfl
 i0 := by kernel_rfl
 i3 := by kernel_rfl
 i4 := by kernel_rfl
 i5 := by kernel_rfl
 i9 := by kernel_rfl
 i21 := by kernel_rfl
 i31 := by kernel_rfl
 i40 := by kernel_rfl
 i46 := by kernel_rfl
 i49 := by kernel_rfl
 i51 := by kernel_rfl
 i141 := by kernel_rfl
 i152 := by kernel_rfl
 i154 := by kernel_rfl
 i193 := by kernel_rfl
 i194 := by kernel_rfl
 i196 := by kernel_rfl
 i198 := by kernel_rfl
 i201 := by kernel_rfl
 i226 := by kernel_rfl
 i227 := by kernel_rfl
 m0 := by kernel_rfl
 m6 := by kernel_rfl
end Go.Proofs

namespace Go.Proofs.YtgpdaihfjnihhaaDoor.PJ
open Go.RowKit Go.Proofs.YtgpdaihfjnihhaaDoorW.PrintWords Go.Proofs.YtgpdaihfjnihhaaDoorW.PrintLast Go.Proofs.YtgpdaihfjnihhaaDoorW.PrintMore
set_option linter.unusedSimpArgs false
set_option linter.unusedVariables false
def opText : ByteArray := ⟨#[97, 100, 100, 32, 115, 117, 98, 32, 109, 117, 108, 32, 100, 105, 118, 32, 114, 101, 109, 32, 97, 110, 100, 32, 111, 114, 32, 120, 111, 114, 32, 115, 104, 108, 32, 115, 104, 114, 32, 101, 113, 32, 110, 101, 32, 108, 116, 32, 108, 101, 32, 110, 101, 103, 32, 110, 111, 116, 32, 105, 110, 118]⟩
def inText : ByteArray := ⟨#[99, 111, 110, 115, 116, 32, 108, 111, 99, 97, 108, 32, 115, 101, 116, 32, 103, 108, 111, 98, 97, 108, 32, 115, 101, 116, 103, 108, 111, 98, 97, 108, 32, 108, 111, 97, 100, 32, 115, 116, 111, 114, 101, 32, 100, 117, 112, 32, 115, 119, 97, 112, 32, 112, 111, 112, 32, 110, 111, 112, 32, 106, 117, 109, 112, 32, 122, 101, 114, 111, 32, 99, 97, 108, 108, 32, 114, 101, 116, 117, 114, 110, 32, 115, 101, 110, 100]⟩
def opL : List ByteArray := [⟨#[97, 100, 100]⟩, ⟨#[115, 117, 98]⟩, ⟨#[109, 117, 108]⟩, ⟨#[100, 105, 118]⟩, ⟨#[114, 101, 109]⟩, ⟨#[97, 110, 100]⟩, ⟨#[111, 114]⟩, ⟨#[120, 111, 114]⟩, ⟨#[115, 104, 108]⟩, ⟨#[115, 104, 114]⟩, ⟨#[101, 113]⟩, ⟨#[110, 101]⟩, ⟨#[108, 116]⟩, ⟨#[108, 101]⟩, ⟨#[110, 101, 103]⟩, ⟨#[110, 111, 116]⟩, ⟨#[105, 110, 118]⟩]
def inL : List ByteArray := [⟨#[99, 111, 110, 115, 116]⟩, ⟨#[108, 111, 99, 97, 108]⟩, ⟨#[115, 101, 116]⟩, ⟨#[103, 108, 111, 98, 97, 108]⟩, ⟨#[115, 101, 116, 103, 108, 111, 98, 97, 108]⟩, ⟨#[108, 111, 97, 100]⟩, ⟨#[115, 116, 111, 114, 101]⟩, ⟨#[100, 117, 112]⟩, ⟨#[115, 119, 97, 112]⟩, ⟨#[112, 111, 112]⟩, ⟨#[110, 111, 112]⟩, ⟨#[106, 117, 109, 112]⟩, ⟨#[122, 101, 114, 111]⟩, ⟨#[99, 97, 108, 108]⟩, ⟨#[114, 101, 116, 117, 114, 110]⟩, ⟨#[115, 101, 110, 100]⟩]
theorem tab_below {w w1 : World} (h : Lib.TabIs Tryd.prog w "strings.asciiSpace" .u8 Lib.asciiSpaceTab) (hb : Below w.heap.size w w1) : Lib.TabIs Tryd.prog w1 "strings.asciiSpace" .u8 Lib.asciiSpaceTab := by
 have hg := Tryd.laysFields.m0
 unfold Lib.TabIs World.var? at h ⊢
 rw [hg] at h ⊢
 simp only [Option.bind_some] at h ⊢
 have hlt : Tryd.laysFields_ren.g 0 < w.heap.size := by
  by_cases hl : Tryd.laysFields_ren.g 0 < w.heap.size
  ·
   exact hl
  ·
   rw [Array.getElem?_eq_none (by omega)] at h
   cases h
 rw [hb.block _ hlt]
 exact h
theorem fields_at (s : ByteArray) (l : List ByteArray) (n : Nat) (hn : l.length = n) (hn0 : n ≤ 1000) (hs : s.size < 4294967281) (ha : ∀ b ∈ s.data.toList, b.toNat < 128) (hf : (Lib.fields s.data.toList).map (fun x => Value.string ⟨x.toArray⟩) = l.map Value.string) (hl : (Lib.fields s.data.toList).length = n)
  (w : World) (ht : Lib.TabIs Tryd.prog w "strings.asciiSpace" .u8 Lib.asciiSpaceTab) :
  Calls Tryd.prog 115 #[.string s] w fun e w' => ∃ g, e = .returned (.slice (some ⟨g, 0, none⟩) n n) ∧ (∀ i x, l[i]? = some x → w'.cell? ⟨g, i, none⟩ = some (.string x)) ∧ Kd.C Kd.string w' (some ⟨g, 0, none⟩) n l ∧ Below w.heap.size w w' := by
 have h := @Any.strings_Fields_laid _ _ Tryd.laysFields s w hs (fun j b hb => ha b (List.mem_of_getElem? hb)) ht
 rw [hf, hl] at h
 refine h.mono ?_
 rintro e w1 ⟨rfl, rfl⟩
 refine ⟨_, rfl, fun i x hx => ?_, ?_, below_alloc (Below.refl _ _) _⟩
 ·
  unfold World.cell?
  rw [heap_alloc_new]
  simp [hx]
 ·
  have hR : Kd.R Kd.string 9 (w.alloc (.cells (l.map Value.string).toArray 9)) w.heap.size (fun _ => True) (.slice (some ⟨w.heap.size, 0, none⟩) l.length l.length) l :=
   Kd.R_of_own ⟨by simp [encs], .inr ⟨w.heap.size, l.length, (l.map Value.string).toArray, rfl, Nat.le_refl _, heap_alloc_new w _, Nat.le_refl _, by simp only [maxLen]; omega, by simp, by simp [encs, List.take_of_length_le]⟩⟩ (fun _ _ => trivial)
  have := (Kd.R_reads' hR).2.2
  rw [hn] at this
  exact this
set_option maxHeartbeats 8000000 in
set_option maxRecDepth 100000 in
theorem names_calls (w : World) (ht : Lib.TabIs Tryd.prog w "strings.asciiSpace" .u8 Lib.asciiSpaceTab) :
  Calls Tryd.prog 79 #[] w fun e w' => ∃ g1 g2, e = .returned (.tuple #[.slice (some ⟨g1, 0, none⟩) 17 17, .slice (some ⟨g2, 0, none⟩) 16 16]) ∧ (∀ i x, opL[i]? = some x → w'.cell? ⟨g1, i, none⟩ = some (.string x)) ∧ (∀ i x, inL[i]? = some x → w'.cell? ⟨g2, i, none⟩ = some (.string x)) ∧
   Kd.C Kd.string w' (some ⟨g1, 0, none⟩) 17 opL ∧ Kd.C Kd.string w' (some ⟨g2, 0, none⟩) 16 inL ∧ Below w.heap.size w w' := by
 have HT := Aside0.mk ht
 clear ht
 go_enter Tryd.func79, Tryd.ntmps79
 go_wp2_with fail
 refine (fields_at opText opL 17 rfl (by decide) (by decide) (by decide) rfl rfl _ HT.out).mono ?_
 rintro e w1 ⟨g1, rfl, hc1, hC1, hb⟩
 have HC1 := Aside0.mk hC1
 have HE1 := Aside0.mk hc1
 have HB := Aside0.mk hb
 clear hC1 hc1 hb
 go_wp2_with fail
 refine (fields_at inText inL 16 rfl (by decide) (by decide) (by decide) rfl rfl _ (tab_below HT.out HB.out)).mono ?_
 rintro e w2 ⟨g2, rfl, hc2, hC2, hb⟩
 have HC2 := Aside0.mk hC2
 have HE2 := Aside0.mk hc2
 have HB2 := Aside0.mk hb
 clear hC2 hc2 hb
 go_wp2_with fail
 go_ret2
 exact ⟨_, _, rfl, fun i x hx => (HB2.out.cell (World.block_lt_of_cell? w1 _ (HE1.out i x hx))).trans (HE1.out i x hx), HE2.out, Kd.C_below HC1.out HB2.out, HC2.out, below_step HB.out HB2.out⟩
end Go.Proofs.YtgpdaihfjnihhaaDoor.PJ

namespace Go.Proofs.YtgpdaihfjnihhaaDoor.PJ
open Go.RowKit Go.Proofs.YtgpdaihfjnihhaaDoorW.PrintWords Go.Proofs.YtgpdaihfjnihhaaDoorW.PrintLast Go.Proofs.YtgpdaihfjnihhaaDoorW.PrintMore
theorem asciiData : (Rows.laid_strings_asciiSpace : DataW Unit) = Lib.tabData .u8 Lib.asciiSpaceTab := by kernel_rfl
theorem tab_of_laid {W : World} (h : laidMetH Tryd.prog [("unicode.White_Space", Rows.laid_unicode_White_Space), ("strings.asciiSpace", Rows.laid_strings_asciiSpace)] W) : Lib.TabIs Tryd.prog W "strings.asciiSpace" .u8 Lib.asciiSpaceTab := by
 rw [MakeChecks.laidMetH_plain _ _ _ (by kernel_rfl), asciiData] at h
 exact Lib.tabIs_of_head (g := Tryd.laysFields_ren.g 0) Tryd.laysFields.m0 rfl Tryd.underlying168 Tryd.underlying5 (by kernel_rfl) (by kernel_rfl) (laidMet.tail h)
end Go.Proofs.YtgpdaihfjnihhaaDoor.PJ
