/- The law's own small functions over package code: put, got, effect, awake. -/
import Derived.Test.YtgpdaihfjnihhaaDoorPJx0
import Derived.Test.YtgpdaihfjnihhaaDoorPJx2
import Derived.Test.YtgpdaihfjnihhaaDoorPJx5
import Derived.Test.YtgpdaihfjnihhaaDoorPJx6
import Derived.Test.YtgpdaihfjnihhaaDoorPJx8
import Derived.Test.YtgpdaihfjnihhaaDoorHandCode5
namespace Go.Proofs.YtgpdaihfjnihhaaDoor.PJ
open Go.RowKit Go.Proofs.YtgpdaihfjnihhaaDoorW.PrintWords Go.Proofs.YtgpdaihfjnihhaaDoorW.PrintLast Go.Proofs.YtgpdaihfjnihhaaDoorW.PrintMore
set_option linter.unusedSimpArgs false
set_option linter.unusedVariables false
/-- What code.Put puts: the premises of its contract, together. -/
def PutIs (k : Nat) (op a : Int) (r : List Int) : Prop :=
  (mayOf op a = false → r = []) ∧ (mayOf op a = true → op = 32 → leb_PutSigned.f k [op % 256] a = some r) ∧ (mayOf op a = true → op ≠ 32 → operandOp op = true → leb_Put.f k [op % 256] (IntKind.u64.wrap a) = some r) ∧ (mayOf op a = true → operandOp op = false → r = [op % 256])
theorem lit_C (W : World) (xs : List Int) (g : Nat) (hg : W.heap.size = g) (h : xs.length ≤ 1000) : Kd.C (Kd.int .u8) (W.alloc (.cells (xs.map (Value.int .u8)).toArray 5)) (some ⟨g, 0, none⟩) xs.length xs := (Kd.R_reads' (lit_R W xs g hg h W.heap.size (Nat.le_refl _))).2.2
set_option maxHeartbeats 8000000 in
set_option maxRecDepth 100000 in
theorem law_put.calls (k : Nat) (op a : Int) (A2 : Option Addr) (c2 : Nat) (l2 r : List Int) (b : Bool) (w : World) (ht : Lib.TabIs Tryd.prog w "strings.asciiSpace" .u8 Lib.asciiSpaceTab) (hr2 : Kd.C (Kd.int .u8) w A2 l2.length l2) (hc2 : l2.length ≤ c2) (hp : PutIs k op a r) (hb : louverkit_Bytes.f k r l2 = some b) :
    Calls Tryd.prog 39 #[.int .i64 op, .int .i64 a, .slice A2 l2.length c2] w fun e w' => e = .returned (.bool b) ∧ Below w.heap.size w w' := by
  have HT := Aside0.mk ht
  have HR2 := Aside0.mk hr2
  have HC2 := Aside0.mk hc2
  have HP := Aside0.mk hp
  have HH := Aside0.mk hb
  clear ht hr2 hc2 hp hb
  go_enter Tryd.func39, Tryd.ntmps39
  go_wp2_with fail
  refine (code_Put.callsC k op a r _ HT.out HP.out.1 HP.out.2.1 HP.out.2.2.1 HP.out.2.2.2).mono ?_
  rintro e w1 ⟨v, rfl, hC, hb⟩
  obtain ⟨A, rfl, hA⟩ := hC.reads
  have HA := Aside0.mk hA
  have HB := Aside0.mk hb
  clear hC hA hb
  go_wp2_with fail
  refine (louverkit_Bytes.calls k A _ r A2 c2 l2 b _ HA.out (Nat.le_refl _) (Kd.C_below HR2.out HB.out) HC2.out HH.out).mono ?_
  rintro e w2 ⟨rfl, ⟨nd, rfl⟩⟩
  go_wp2_with fail
  go_ret
  exact ⟨rfl, pw_below_drewN HB.out _⟩
set_option maxHeartbeats 8000000 in
set_option maxRecDepth 100000 in
theorem law_got.calls (k : Nat) (A0 : Option Addr) (c0 : Nat) (l0 : List Int) (U S : Int × Int × Int) (op a n e : Int) (w : World) (ht : Lib.TabIs Tryd.prog w "strings.asciiSpace" .u8 Lib.asciiSpaceTab) (hr0 : Kd.C (Kd.int .u8) w A0 l0.length l0) (hc0 : l0.length ≤ c0) (hbt : ∀ x ∈ l0, 0 ≤ x ∧ x ≤ 255)
    (h1 : leb_Get.f k l0.tail = some U) (h2 : leb_GetSigned.f k l0.tail = some S) (h3 : codeGet l0 U S = (op, a, n, e)) :
    Calls Tryd.prog 40 #[.slice A0 l0.length c0] w fun x w' => x = .returned (.agg #[.int .i64 op, .int .i64 n, .int .i64 e]) ∧ Below w.heap.size w w' := by
  have HT := Aside0.mk ht
  have HR0 := Aside0.mk hr0
  have HC0 := Aside0.mk hc0
  have HBT := Aside0.mk hbt
  have H1 := Aside0.mk h1
  have H2 := Aside0.mk h2
  have H3 := Aside0.mk h3
  clear ht hr0 hc0 hbt h1 h2 h3
  have HG := Aside0.mk (heap_alloc_new w (.cells #[.int .i64 0, .int .i64 0, .int .i64 0] 71))
  go_enter Tryd.func40, Tryd.ntmps40
  go_wp2_with fail
  refine (code_Get.calls k A0 c0 l0 U S _ (tab_below HT.out (below_alloc (Below.refl _ _) _)) (Kd.C_below HR0.out (below_alloc (Below.refl _ _) _)) HC0.out HBT.out H1.out H2.out).mono ?_
  rintro x w1 ⟨rfl, hb⟩
  rw [H3.out]
  have HG1 := Aside0.mk (blk_below HG.out hb)
  have HB := Aside0.mk (below_step (below_alloc (Below.refl _ _) _) hb)
  clear hb
  have HG2 := Aside0.mk (blk_alloc HG1.out (.cells #[.int .i64 op, .int .i64 a] 44))
  have c0 := blk_cell HG2.out 0
  have c1 := blk_cell HG2.out 1
  have c2 := blk_cell HG2.out 2
  have f0 := blk_frozen HG2.out 0
  have f1 := blk_frozen HG2.out 1
  have f2 := blk_frozen HG2.out 2
  go_wp2
  refine bodyPost_ret (results_cell_row rfl _ _ w.heap.size 71 #[.int .i64 op, .int .i64 n, .int .i64 e] (0, 0) _ rfl (blk_put (blk_put (blk_put HG2.out 0 _ rfl) 1 _ rfl) 2 _ rfl) Tryd.underlying71 rfl (by kernel_rfl)) rfl ?_
  exact ⟨rfl, below_set (below_set (below_set (below_alloc HB.out _) (Nat.le_refl _)) (Nat.le_refl _)) (Nat.le_refl _)⟩
def givenL3 : List S41 := [⟨0, [0], [0, 0], 1, 0, [⟨0, 0⟩, ⟨0, 0⟩, ⟨0, 0⟩]⟩, ⟨0, [], [0], 0, 0, []⟩]
set_option maxHeartbeats 8000000 in
set_option maxRecDepth 100000 in
theorem law_effect.calls (f op a x y : Int) (ok : Bool) (w : World) (ht : Lib.TabIs Tryd.prog w "strings.asciiSpace" .u8 Lib.asciiSpaceTab) (h : effectOf op a f 1 1 0 givenL3 = (x, y, ok)) :
    Calls Tryd.prog 41 #[.int .i64 f, .int .i64 op, .int .i64 a] w fun e w' => e = .returned (.agg #[.int .i64 (if ok then x else wrap64 (9 + x)), .int .i64 (if ok then y else wrap64 (9 + y))]) ∧ Below w.heap.size w w' := by
  have HT := Aside0.mk ht
  have HE := Aside0.mk h
  clear ht h
  have HG := Aside0.mk (heap_alloc_new w (.cells #[.int .i64 0, .int .i64 0] 73))
  have HB0 := Aside0.mk (below_alloc (Below.refl w.heap.size w) (.cells #[.int .i64 0, .int .i64 0] 73))
  cases ok with
  | true =>
    go_enter Tryd.func41, Tryd.ntmps41
    go_wp2_with fail
    refine (louverlaw10_given.calls [0] [⟨1, 0⟩] [] givenL3 _ (by kernel_rfl)).mono ?_
    rintro e w1 ⟨v0, v1, v2, v3, rfl, g0, g1, g2, g3, hb⟩
    obtain ⟨A0, c0, rfl⟩ := Kd.R_slice g0
    obtain ⟨A1, c1, rfl⟩ := Kd.R_slice g1
    obtain ⟨A2, c2, rfl⟩ := Kd.R_slice g2
    obtain ⟨A3, c3, rfl⟩ := Kd.N_slice g3
    have HC3 := Aside0.mk (Kd.N_reads' g3).2.2
    have HG1 := Aside0.mk (blk_below HG.out hb)
    have HB := Aside0.mk (below_step HB0.out hb)
    clear g0 g1 g2 g3 hb
    go_wp2_with fail
    refine (code_Effect.calls A0 c0 1 A1 c1 1 A2 c2 0 A3 c3 givenL3 f op a _ (tab_below HT.out HB.out) HC3.out).mono ?_
    rintro e w2 ⟨rfl, hb⟩
    rw [HE.out]
    obtain ⟨c0, c1, f0, f1⟩ := facts2 (blk_below HG1.out hb)
    have HG2 := Aside0.mk (blk_below HG1.out hb)
    have HB2 := Aside0.mk (below_step HB.out hb)
    clear hb
    go_wp2
    refine bodyPost_ret (results_cell_row rfl _ _ w.heap.size 73 #[.int .i64 x, .int .i64 y] (0, 0) _ rfl (put2 HG2.out _ _) Tryd.underlying73 rfl (by kernel_rfl)) rfl ?_
    exact ⟨rfl, below_set (below_set HB2.out (Nat.le_refl _)) (Nat.le_refl _)⟩
  | false =>
    go_enter Tryd.func41, Tryd.ntmps41
    go_wp2_with fail
    refine (louverlaw10_given.calls [0] [⟨1, 0⟩] [] givenL3 _ (by kernel_rfl)).mono ?_
    rintro e w1 ⟨v0, v1, v2, v3, rfl, g0, g1, g2, g3, hb⟩
    obtain ⟨A0, c0, rfl⟩ := Kd.R_slice g0
    obtain ⟨A1, c1, rfl⟩ := Kd.R_slice g1
    obtain ⟨A2, c2, rfl⟩ := Kd.R_slice g2
    obtain ⟨A3, c3, rfl⟩ := Kd.N_slice g3
    have HC3 := Aside0.mk (Kd.N_reads' g3).2.2
    have HG1 := Aside0.mk (blk_below HG.out hb)
    have HB := Aside0.mk (below_step HB0.out hb)
    clear g0 g1 g2 g3 hb
    go_wp2_with fail
    refine (code_Effect.calls A0 c0 1 A1 c1 1 A2 c2 0 A3 c3 givenL3 f op a _ (tab_below HT.out HB.out) HC3.out).mono ?_
    rintro e w2 ⟨rfl, hb⟩
    rw [HE.out]
    obtain ⟨c0, c1, f0, f1⟩ := facts2 (blk_below HG1.out hb)
    have HG2 := Aside0.mk (blk_below HG1.out hb)
    have HB2 := Aside0.mk (below_step HB.out hb)
    clear hb
    go_wp2
    refine bodyPost_ret (results_cell_row rfl _ _ w.heap.size 73 #[.int .i64 (wrap64 (9 + x)), .int .i64 (wrap64 (9 + y))] (0, 0) _ rfl (put2 HG2.out _ _) Tryd.underlying73 rfl (by kernel_rfl)) rfl ?_
    exact ⟨rfl, below_set (below_set HB2.out (Nat.le_refl _)) (Nat.le_refl _)⟩
set_option maxHeartbeats 8000000 in
set_option maxRecDepth 100000 in
theorem code_awake.calls (w : World) (ht : Lib.TabIs Tryd.prog w "strings.asciiSpace" .u8 Lib.asciiSpaceTab) :
    Calls Tryd.prog 28 #[] w fun e w' => e = .returned (.bool true) ∧ Below w.heap.size w w' := by
  have e1 : ∀ W : World, (Op.equalIn 10000 73 (.agg #[.int .i64 1, .int .i64 2]) (.agg #[.int .i64 1, .int .i64 2])).run Tryd.prog W = .ok true W := fun W => by kernel_rfl
  have e2 : ∀ W : World, (Op.equalIn 10000 71 (.agg #[.int .i64 32, .int .i64 2, .int .i64 0]) (.agg #[.int .i64 32, .int .i64 2, .int .i64 0])).run Tryd.prog W = .ok true W := fun W => by kernel_rfl
  have HT := Aside0.mk ht
  clear ht
  go_enter Tryd.func28, Tryd.ntmps28
  go_wp2_with fail
  refine (law_put.calls 60 32 (-1) _ 2 [32, 127] [32, 127] true _ (tab_below HT.out (below_alloc (Below.refl _ _) _)) (lit_C _ [32, 127] _ rfl (by decide)) (by decide) ⟨fun h => absurd h (by decide), fun _ _ => by kernel_rfl, fun _ h => absurd rfl h, fun _ h => absurd h (by decide)⟩ (by kernel_rfl)).mono ?_
  rintro e w1 ⟨rfl, hb⟩
  have HB := Aside0.mk (below_step (below_alloc (Below.refl _ _) _) hb)
  clear hb
  go_wp2_with fail
  refine (law_put.calls 60 33 200 _ 3 [33, 200, 1] [33, 200, 1] true _ (tab_below HT.out (below_alloc HB.out _)) (lit_C _ [33, 200, 1] _ rfl (by decide)) (by decide) ⟨fun h => absurd h (by decide), fun _ h => absurd h (by decide), fun _ _ _ => by kernel_rfl, fun _ h => absurd h (by decide)⟩ (by kernel_rfl)).mono ?_
  rintro e w2 ⟨rfl, hb⟩
  replace HB := Aside0.mk (below_step (below_alloc HB.out _) hb)
  clear hb
  go_wp2_with fail
  refine (law_effect.calls 0 45 0 1 2 true _ (tab_below HT.out HB.out) (by kernel_rfl)).mono ?_
  rintro e w3 ⟨rfl, hb⟩
  replace HB := Aside0.mk (below_step HB.out hb)
  clear hb
  go_wp2_with fail
  refine (law_got.calls 60 _ 3 [32, 127, 5] (127, 1, 0) (-1, 1, 0) 32 (-1) 2 0 _ (tab_below HT.out (below_alloc HB.out _)) (lit_C _ [32, 127, 5] _ rfl (by decide)) (by decide) (by decide) (by kernel_rfl) (by kernel_rfl) (by kernel_rfl)).mono ?_
  rintro e w4 ⟨rfl, hb⟩
  replace HB := Aside0.mk (below_step (below_alloc HB.out _) hb)
  clear hb
  go_wp2_with fail
  go_ret
  exact ⟨rfl, HB.out⟩
end Go.Proofs.YtgpdaihfjnihhaaDoor.PJ
