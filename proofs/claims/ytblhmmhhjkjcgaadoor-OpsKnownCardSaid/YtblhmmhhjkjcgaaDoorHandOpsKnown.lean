/- The walk of the law OpsKnown. -/
import Derived.Test.YtblhmmhhjkjcgaaDoorWalkOpsSigns
namespace Go.Proofs.YtblhmmhhjkjcgaaDoor.PJ
open Go.RowKit Go.Proofs.YtblhmmhhjkjcgaaDoorW.PrintWords Go.Proofs.YtblhmmhhjkjcgaaDoorW.PrintLast Go.Proofs.YtblhmmhhjkjcgaaDoorW.PrintMore
set_option linter.unusedSimpArgs false
set_option linter.unusedVariables false
/-- A row that a literal has laid. -/
theorem lit_C (W : World) (xs : List Int) (h : xs.length ≤ 1000) : Kd.C (Kd.int .i64) (W.alloc (.cells (xs.map (Value.int .i64)).toArray 2)) (some ⟨W.heap.size, 0, none⟩) xs.length xs := by
  have hR : Kd.R (Kd.int .i64) 2 (W.alloc (.cells (xs.map (Value.int .i64)).toArray 2)) W.heap.size (fun _ => True) (.slice (some ⟨W.heap.size, 0, none⟩) xs.length xs.length) xs :=
    Kd.R_of_own ⟨by simp [encs], .inr ⟨W.heap.size, xs.length, (xs.map (Value.int .i64)).toArray, rfl, Nat.le_refl _, heap_alloc_new W _, Nat.le_refl _, by simp only [maxLen]; omega, by simp, by simp [encs, List.take_of_length_le]⟩⟩ (fun _ _ => trivial)
  exact (Kd.R_reads' hR).2.2
set_option maxHeartbeats 8000000 in
set_option maxRecDepth 100000 in
theorem opsKnown.calls (w : World) (ht : Lib.TabIs Tryd.prog w "strings.asciiSpace" .u8 Lib.asciiSpaceTab) :
    Calls Tryd.prog 4 #[] w fun e w' => e = .returned (.bool true) ∧ Below w.heap.size w w' := by
  have HT := Aside0.mk ht
  clear ht
  go_enter Tryd.func4, Tryd.ntmps4
  go_wp2_with fail
  refine (louverlaw02_awake.calls 60 true _ (OpsBits.awake 58)).mono ?_
  rintro e w1 ⟨rfl, ⟨nd, rfl⟩⟩
  go_wp2_with fail
  refine (louverlaw02_bin.calls 60 (4) (7) (0) (0) _ (by kernel_rfl)).mono ?_
  rintro e w1 ⟨rfl, ⟨nd, rfl⟩⟩
  go_wp2_with fail
  refine (louverlaw02_bin.calls 60 (5) (7) (0) (0) _ (by kernel_rfl)).mono ?_
  rintro e w1 ⟨rfl, ⟨nd, rfl⟩⟩
  go_wp2_with fail
  refine (louverlaw02_bin.calls 60 (4) ((-9223372036854775808)) (-1) ((-9223372036854775808)) _ (by kernel_rfl)).mono ?_
  rintro e w1 ⟨rfl, ⟨nd, rfl⟩⟩
  go_wp2_with fail
  refine (louverlaw02_bin.calls 60 (5) ((-9223372036854775808)) (-1) (0) _ (by kernel_rfl)).mono ?_
  rintro e w1 ⟨rfl, ⟨nd, rfl⟩⟩
  go_wp2_with fail
  refine (louverlaw02_bin.calls 60 (1) (9223372036854775807) (1) ((-9223372036854775808)) _ (by kernel_rfl)).mono ?_
  rintro e w1 ⟨rfl, ⟨nd, rfl⟩⟩
  go_wp2_with fail
  refine (louverlaw02_bin.calls 60 (9) (1) (64) (1) _ (by kernel_rfl)).mono ?_
  rintro e w1 ⟨rfl, ⟨nd, rfl⟩⟩
  go_wp2_with fail
  refine (louverlaw02_bin.calls 60 (9) (1) (-1) ((-9223372036854775808)) _ (by kernel_rfl)).mono ?_
  rintro e w1 ⟨rfl, ⟨nd, rfl⟩⟩
  go_wp2_with fail
  refine (louverlaw02_bin.calls 60 (14) (3) (3) (1) _ (by kernel_rfl)).mono ?_
  rintro e w1 ⟨rfl, ⟨nd, rfl⟩⟩
  go_wp2_with fail
  refine (louverlaw02_bin.calls 60 (13) (3) (3) (0) _ (by kernel_rfl)).mono ?_
  rintro e w1 ⟨rfl, ⟨nd, rfl⟩⟩
  go_wp2_with fail
  refine (louverlaw02_un.calls (16) (5) (0) _ (by kernel_rfl)).mono ?_
  rintro e w1 ⟨rfl, ⟨nd, rfl⟩⟩
  go_wp2_with fail
  refine (louverlaw02_un.calls (15) ((-9223372036854775808)) ((-9223372036854775808)) _ (by kernel_rfl)).mono ?_
  rintro e w1 ⟨rfl, ⟨nd, rfl⟩⟩
  go_wp2_with fail
  have hL1 := fun (W : World) (g : Nat) (hg : W.heap.size = g) => hg ▸ lit_C W [9, 2, 3] (by decide)
  refine (ops_Fold.calls 60 2 (some ⟨w.heap.size, 0, none⟩) 3 [9, 2, 3] 4 true _ (hL1 _ _ ?hg) (by decide) (by kernel_rfl)).mono ?_
  case hg => simp
  clear hL1
  rintro e w2 ⟨rfl, ⟨n2, rfl⟩⟩
  go_wp2_with fail
  refine (ops_Fold.calls 60 2 none 0 [] 0 false _ (Kd.C_nil _ _) (Nat.le_refl _) (by kernel_rfl)).mono ?_
  rintro e w2 ⟨rfl, ⟨n2, rfl⟩⟩
  go_wp2_with fail
  have hL2 := fun (W : World) (g : Nat) (hg : W.heap.size = g) => hg ▸ lit_C W [1] (by decide)
  refine (ops_Fold.calls 60 15 (some ⟨w.heap.size + 1, 0, none⟩) 1 [1] 0 false _ (hL2 _ _ ?hg) (by decide) (by kernel_rfl)).mono ?_
  case hg => simp
  clear hL2
  rintro e w2 ⟨rfl, ⟨n3, rfl⟩⟩
  generalize hw3 : World.drewN _ n3 = w3
  have HB := Aside0.mk (show Below w.heap.size w w3 by rw [← hw3]; (repeat (first | exact Below.refl _ _ | apply pw_below_drewN | apply below_alloc)))
  clear hw3
  go_wp2_with fail
  refine (ops_BySign.calls 60 ⟨#[45]⟩ 1 0 1 _ (tab_below HT.out HB.out) (by kernel_rfl) (by kernel_rfl) (by decide) (by decide)).mono ?_
  rintro e w4 ⟨rfl, hb⟩
  rw [show bySign 0 1 1 = (15, true) by kernel_rfl]
  replace HB := Aside0.mk (below_step HB.out hb)
  clear hb
  go_wp2_with fail
  refine (ops_BySign.calls 60 ⟨#[45]⟩ 2 0 1 _ (tab_below HT.out HB.out) (by kernel_rfl) (by kernel_rfl) (by decide) (by decide)).mono ?_
  rintro e w4 ⟨rfl, hb⟩
  rw [show bySign 0 1 2 = (2, true) by kernel_rfl]
  replace HB := Aside0.mk (below_step HB.out hb)
  clear hb
  go_wp2_with fail
  refine (ops_BySign.calls 60 ⟨#[45]⟩ 0 0 1 _ (tab_below HT.out HB.out) (by kernel_rfl) (by kernel_rfl) (by decide) (by decide)).mono ?_
  rintro e w4 ⟨rfl, hb⟩
  rw [show bySign 0 1 0 = (0, false) by kernel_rfl]
  replace HB := Aside0.mk (below_step HB.out hb)
  clear hb
  go_wp2_with fail
  refine (louverlaw02_un.calls 1 1 77 _ (by kernel_rfl)).mono ?_
  rintro e w5 ⟨rfl, ⟨n4, rfl⟩⟩
  go_wp2_with fail
  refine (louverlaw02_bin.calls 60 15 1 2 77 _ (by kernel_rfl)).mono ?_
  rintro e w5 ⟨rfl, ⟨n5, rfl⟩⟩
  go_wp2_with fail
  refine (louverlaw02_bin.calls 60 18 1 2 77 _ (by kernel_rfl)).mono ?_
  rintro e w5 ⟨rfl, ⟨n6, rfl⟩⟩
  go_wp2_with fail
  replace HB := Aside0.mk (pw_below_drewN HB.out (n4 + n5 + n6))
  refine (ops_Sign.calls 60 9 2 _ (tab_below HT.out HB.out) (by kernel_rfl) (by decide)).mono ?_
  rintro e w6 ⟨rfl, hb⟩
  rw [show signOf 9 = ⟨#[60, 60]⟩ by kernel_rfl]
  replace HB := Aside0.mk (below_step HB.out hb)
  clear hb
  go_wp2_with fail
  refine (ops_Sign.calls 60 0 0 _ (tab_below HT.out HB.out) (by kernel_rfl) (by decide)).mono ?_
  rintro e w6 ⟨rfl, hb⟩
  rw [show signOf 0 = ⟨#[]⟩ by kernel_rfl]
  replace HB := Aside0.mk (below_step HB.out hb)
  clear hb
  go_wp2_with fail
  refine (ops_Arity.calls 60 14 2 _ (by kernel_rfl)).mono ?_
  rintro e w5 ⟨rfl, ⟨n7, rfl⟩⟩
  go_wp2_with fail
  refine (ops_Arity.calls 60 18 0 _ (by kernel_rfl)).mono ?_
  rintro e w5 ⟨rfl, ⟨n8, rfl⟩⟩
  go_wp2_with fail
  go_ret
  exact ⟨rfl, pw_below_drewN HB.out _⟩
end Go.Proofs.YtblhmmhhjkjcgaaDoor.PJ
