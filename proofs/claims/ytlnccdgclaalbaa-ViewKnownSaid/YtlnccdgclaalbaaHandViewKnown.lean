/- The walk of the law ViewKnown. -/
import Derived.Test.YtlnccdgclaalbaaPJx0
import Derived.Test.YtlnccdgclaalbaaPJx7
import Derived.Test.YtlnccdgclaalbaaHandViewTop
import Derived.Test.YtlnccdgclaalbaaPJx10
namespace Go.Proofs.Ytlnccdgclaalbaa.PJ
open Go.RowKit Go.Proofs.YtlnccdgclaalbaaW.PrintWords Go.Proofs.YtlnccdgclaalbaaW.PrintLast Go.Proofs.YtlnccdgclaalbaaW.PrintMore
set_option linter.unusedSimpArgs false
set_option linter.unusedVariables false
theorem C_lits {k : IntKind} {W : World} {g t : Nat} {l : List Int} (h : W.heap[g]? = some (.cells (nums k l).toArray t (0, 0))) (hm : l.length ≤ 9223372036854775807) : Kd.C (Kd.int k) W (some ⟨g, 0, none⟩) l.length l := by
  refine ⟨rfl, hm, fun _ => ⟨_, rfl, fun j p hj => ⟨[.int k p], rfl, rfl, fun i u hu => ?_⟩⟩⟩
  match i, hu with
  | 0, hu =>
    obtain rfl : Value.int k p = u := by simpa using hu
    show W.cell? ((⟨g, 0, none⟩ : Addr).add (j * 1 + 0)) = _
    rw [add_plain, Nat.mul_one, Nat.add_zero]
    refine (blk_cell h j).trans ?_
    simp [nums, hj]
  | i + 1, hu => simp at hu
theorem facts6 {w : World} {g t : Nat} {a b c d e f : Value} (h : w.heap[g]? = some (.cells #[a, b, c, d, e, f] t (0, 0))) : (w.cell? ⟨g, 0, none⟩ = some a ∧ w.cell? ⟨g, 1, none⟩ = some b ∧ w.cell? ⟨g, 2, none⟩ = some c ∧ w.cell? ⟨g, 3, none⟩ = some d ∧ w.cell? ⟨g, 4, none⟩ = some e ∧ w.cell? ⟨g, 5, none⟩ = some f) ∧ True :=
  ⟨⟨blk_cell h 0, blk_cell h 1, blk_cell h 2, blk_cell h 3, blk_cell h 4, blk_cell h 5⟩, trivial⟩
def arr4 : List S57 := [⟨2, 2⟩, ⟨257, 0⟩, ⟨-1, 0⟩, ⟨256, 0⟩]
def rows4 : List (List Int) := [List.replicate 2 0, [], [], List.replicate 256 0]
theorem rows4_eq : arr4.map zrow = rows4 := rfl
theorem lit3_C {W : World} {g t : Nat} (h : W.heap[g]? = some (.cells #[.int .i64 257, .int .u64 0, .int .i64 (-1), .int .u64 0, .int .i64 256, .int .u64 0] t (0, 0))) : Kd.C k57 W (some ⟨g, 0, none⟩) 3 [⟨257, 0⟩, ⟨-1, 0⟩, ⟨256, 0⟩] := by
  refine ⟨rfl, by decide, fun _ => ⟨_, rfl, fun j p hj => ?_⟩⟩
  have key : ∀ (a b : Int) (o : Nat), W.cell? ⟨g, o, none⟩ = some (.int .i64 a) → W.cell? ⟨g, o + 1, none⟩ = some (.int .u64 b) → ∃ c, c.length = 2 ∧ k57.K W ⟨a, b⟩ c ∧ ∀ i u, c[i]? = some u → W.cell? ((⟨g, 0, none⟩ : Addr).add (o + i)) = some u := by
    intro a b o h0 h1
    refine ⟨[.int .i64 a, .int .u64 b], rfl, ⟨[.int .i64 a], [.int .u64 b], rfl, rfl, rfl⟩, fun i u hu => ?_⟩
    rw [add_plain]
    match i, hu with
    | 0, hu =>
      obtain rfl : Value.int .i64 a = u := by simpa using hu
      exact h0
    | 1, hu =>
      obtain rfl : Value.int .u64 b = u := by simpa using hu
      exact h1
    | i + 2, hu => simp at hu
  match j, hj with
  | 0, hj =>
    obtain rfl : (⟨257, 0⟩ : S57) = p := by simpa using hj
    exact key _ _ 0 (blk_cell h 0) (blk_cell h 1)
  | 1, hj =>
    obtain rfl : (⟨-1, 0⟩ : S57) = p := by simpa using hj
    exact key _ _ 2 (blk_cell h 2) (blk_cell h 3)
  | 2, hj =>
    obtain rfl : (⟨256, 0⟩ : S57) = p := by simpa using hj
    exact key _ _ 4 (blk_cell h 4) (blk_cell h 5)
  | j + 3, hj => simp at hj
set_option maxRecDepth 100000 in
theorem vk1 : sameB (seenM [0, 1] [(⟨2, 2⟩ : S57)] 2 [5, 6] [[7, 8]]).1 (seenM [0, 1] [(⟨2, 2⟩ : S57)] 2 [5, 6] [[7, 8]]).2 [5, 0] [[7, 8]] = true := by kernel_rfl
set_option maxRecDepth 100000 in
theorem vk2 : sameB (seenM [0, 1] [(⟨2, 2⟩ : S57)] 0 [5, 6] [[7, 8]]).1 (seenM [0, 1] [(⟨2, 2⟩ : S57)] 0 [5, 6] [[7, 8]]).2 [5, 0] [[0, 0]] = true := by kernel_rfl
set_option maxRecDepth 100000 in
theorem vk3 : fitsB [0, 1] [(⟨2, 2⟩ : S57)] [0, 0] [[0, 0]] = true := by kernel_rfl
set_option maxRecDepth 100000 in
theorem vk4 : fitsB [0, 1] [(⟨2, 2⟩ : S57)] [1, 2] [] = false := by kernel_rfl
set_option maxRecDepth 100000 in
theorem vk5 : view_Args.f 20 0 [0, 1] [2] 0 0 [] 0 [1, 2] [1, 3] = some true := by kernel_rfl
set_option maxRecDepth 100000 in
theorem vk6 : view_Args.f 20 0 [0, 1] [2] 0 0 [] 0 [1, 2] [2, 2] = some false := by kernel_rfl
set_option maxRecDepth 100000 in
theorem vk7 : view_Args.f 20 0 [0, 1] [2] 0 0 [] 0 [1] [1] = some false := by kernel_rfl
set_option maxRecDepth 100000 in
theorem vk8 : view_Results.f 20 0 [0, 1] [2] 0 0 [] 1 [1] [2] = some true := by kernel_rfl
set_option maxRecDepth 100000 in
theorem vk9 : view_Results.f 20 0 [0, 1] [2] 0 0 [] 2 [1] [2] = some false := by kernel_rfl
set_option maxRecDepth 100000 in
theorem vk10 : fitsB [0, 1] arr4 (List.replicate [(0 : Int), 1].length 0) rows4 = false := by kernel_rfl
set_option maxHeartbeats 16000000 in
set_option maxRecDepth 100000 in
theorem viewKnown.calls (w : World) : Calls Try.prog 6 #[] w fun e w' => e = .returned (.bool true) ∧ Below w.heap.size w w' := by
  have HB := Aside0.mk (Below.refl w.heap.size w)
  go_enter Try.func6, Try.ntmps6
  go_wp2_with fail
  refine (louverlaw20_given.calls [0, 1] [⟨2, 2⟩] [] [] _ rfl).mono ?_
  rintro e w1 ⟨v0, v1, v2, v3, rfl, h0, h1, h2, h3, hb⟩
  replace HB := Aside0.mk (below_step HB.out hb)
  clear hb
  replace h3 := Kd.S_R h3
  obtain ⟨A0, c0, rfl⟩ := Kd.R_slice h0
  obtain ⟨A1, c1, rfl⟩ := Kd.R_slice h1
  obtain ⟨A2, c2, rfl⟩ := Kd.R_slice h2
  obtain ⟨A3, c3, rfl⟩ := Kd.R_slice h3
  have HR0 := Aside0.mk h0
  have HR1 := Aside0.mk h1
  have HR2 := Aside0.mk h2
  have HR3 := Aside0.mk h3
  clear h0 h1 h2 h3
  obtain ⟨wb, hwb⟩ : ∃ W, (((((w1.alloc (.cells #[.slice A0 2 c0, .slice A1 1 c1, .slice A2 0 c2, .slice A3 0 c3] 26)).alloc (.cells #[.int .u64 0, .int .u64 1] 32)).alloc (.cells #[.int .u64 2] 32)).alloc (.cells #[.int .u64 0, .slice (some ⟨w1.heap.size + 1, 0, none⟩) 2 2, .slice (some ⟨w1.heap.size + 1 + 1, 0, none⟩) 1 1, .int .i64 0, .int .i64 0, .slice none 0 0] 48)).alloc (.cells #[.int .i64 257, .int .u64 0, .int .i64 (-1), .int .u64 0, .int .i64 256, .int .u64 0] 57)) = W := ⟨_, rfl⟩
  have hba := below_alloc (below_alloc (below_alloc (below_alloc (below_alloc (Below.refl w1.heap.size w1) (.cells #[.slice A0 2 c0, .slice A1 1 c1, .slice A2 0 c2, .slice A3 0 c3] 26)) (.cells #[.int .u64 0, .int .u64 1] 32)) (.cells #[.int .u64 2] 32)) (.cells #[.int .u64 0, .slice (some ⟨w1.heap.size + 1, 0, none⟩) 2 2, .slice (some ⟨w1.heap.size + 1 + 1, 0, none⟩) 1 1, .int .i64 0, .int .i64 0, .slice none 0 0] 48)) (.cells #[.int .i64 257, .int .u64 0, .int .i64 (-1), .int .u64 0, .int .i64 256, .int .u64 0] 57)
  have G0 : (w1.alloc (.cells #[.slice A0 2 c0, .slice A1 1 c1, .slice A2 0 c2, .slice A3 0 c3] 26)).heap[w1.heap.size + 0]? = some (.cells #[.slice A0 2 c0, .slice A1 1 c1, .slice A2 0 c2, .slice A3 0 c3] 26 (0, 0)) := by
    have := heap_alloc_new w1 (.cells #[.slice A0 2 c0, .slice A1 1 c1, .slice A2 0 c2, .slice A3 0 c3] 26)
    simpa using this
  replace G0 := blk_alloc (blk_alloc (blk_alloc (blk_alloc (G0) (.cells #[.int .u64 0, .int .u64 1] 32)) (.cells #[.int .u64 2] 32)) (.cells #[.int .u64 0, .slice (some ⟨w1.heap.size + 1, 0, none⟩) 2 2, .slice (some ⟨w1.heap.size + 1 + 1, 0, none⟩) 1 1, .int .i64 0, .int .i64 0, .slice none 0 0] 48)) (.cells #[.int .i64 257, .int .u64 0, .int .i64 (-1), .int .u64 0, .int .i64 256, .int .u64 0] 57)
  rw [hwb] at G0
  have G1 : ((w1.alloc (.cells #[.slice A0 2 c0, .slice A1 1 c1, .slice A2 0 c2, .slice A3 0 c3] 26)).alloc (.cells #[.int .u64 0, .int .u64 1] 32)).heap[w1.heap.size + 1]? = some (.cells #[.int .u64 0, .int .u64 1] 32 (0, 0)) := by
    have := heap_alloc_new (w1.alloc (.cells #[.slice A0 2 c0, .slice A1 1 c1, .slice A2 0 c2, .slice A3 0 c3] 26)) (.cells #[.int .u64 0, .int .u64 1] 32)
    simpa using this
  replace G1 := blk_alloc (blk_alloc (blk_alloc (G1) (.cells #[.int .u64 2] 32)) (.cells #[.int .u64 0, .slice (some ⟨w1.heap.size + 1, 0, none⟩) 2 2, .slice (some ⟨w1.heap.size + 1 + 1, 0, none⟩) 1 1, .int .i64 0, .int .i64 0, .slice none 0 0] 48)) (.cells #[.int .i64 257, .int .u64 0, .int .i64 (-1), .int .u64 0, .int .i64 256, .int .u64 0] 57)
  rw [hwb] at G1
  have G2 : (((w1.alloc (.cells #[.slice A0 2 c0, .slice A1 1 c1, .slice A2 0 c2, .slice A3 0 c3] 26)).alloc (.cells #[.int .u64 0, .int .u64 1] 32)).alloc (.cells #[.int .u64 2] 32)).heap[w1.heap.size + 2]? = some (.cells #[.int .u64 2] 32 (0, 0)) := by
    have := heap_alloc_new ((w1.alloc (.cells #[.slice A0 2 c0, .slice A1 1 c1, .slice A2 0 c2, .slice A3 0 c3] 26)).alloc (.cells #[.int .u64 0, .int .u64 1] 32)) (.cells #[.int .u64 2] 32)
    simpa using this
  replace G2 := blk_alloc (blk_alloc (G2) (.cells #[.int .u64 0, .slice (some ⟨w1.heap.size + 1, 0, none⟩) 2 2, .slice (some ⟨w1.heap.size + 1 + 1, 0, none⟩) 1 1, .int .i64 0, .int .i64 0, .slice none 0 0] 48)) (.cells #[.int .i64 257, .int .u64 0, .int .i64 (-1), .int .u64 0, .int .i64 256, .int .u64 0] 57)
  rw [hwb] at G2
  have G3 : ((((w1.alloc (.cells #[.slice A0 2 c0, .slice A1 1 c1, .slice A2 0 c2, .slice A3 0 c3] 26)).alloc (.cells #[.int .u64 0, .int .u64 1] 32)).alloc (.cells #[.int .u64 2] 32)).alloc (.cells #[.int .u64 0, .slice (some ⟨w1.heap.size + 1, 0, none⟩) 2 2, .slice (some ⟨w1.heap.size + 1 + 1, 0, none⟩) 1 1, .int .i64 0, .int .i64 0, .slice none 0 0] 48)).heap[w1.heap.size + 3]? = some (.cells #[.int .u64 0, .slice (some ⟨w1.heap.size + 1, 0, none⟩) 2 2, .slice (some ⟨w1.heap.size + 1 + 1, 0, none⟩) 1 1, .int .i64 0, .int .i64 0, .slice none 0 0] 48 (0, 0)) := by
    have := heap_alloc_new (((w1.alloc (.cells #[.slice A0 2 c0, .slice A1 1 c1, .slice A2 0 c2, .slice A3 0 c3] 26)).alloc (.cells #[.int .u64 0, .int .u64 1] 32)).alloc (.cells #[.int .u64 2] 32)) (.cells #[.int .u64 0, .slice (some ⟨w1.heap.size + 1, 0, none⟩) 2 2, .slice (some ⟨w1.heap.size + 1 + 1, 0, none⟩) 1 1, .int .i64 0, .int .i64 0, .slice none 0 0] 48)
    simpa using this
  replace G3 := blk_alloc (G3) (.cells #[.int .i64 257, .int .u64 0, .int .i64 (-1), .int .u64 0, .int .i64 256, .int .u64 0] 57)
  rw [hwb] at G3
  have G4 : (((((w1.alloc (.cells #[.slice A0 2 c0, .slice A1 1 c1, .slice A2 0 c2, .slice A3 0 c3] 26)).alloc (.cells #[.int .u64 0, .int .u64 1] 32)).alloc (.cells #[.int .u64 2] 32)).alloc (.cells #[.int .u64 0, .slice (some ⟨w1.heap.size + 1, 0, none⟩) 2 2, .slice (some ⟨w1.heap.size + 1 + 1, 0, none⟩) 1 1, .int .i64 0, .int .i64 0, .slice none 0 0] 48)).alloc (.cells #[.int .i64 257, .int .u64 0, .int .i64 (-1), .int .u64 0, .int .i64 256, .int .u64 0] 57)).heap[w1.heap.size + 4]? = some (.cells #[.int .i64 257, .int .u64 0, .int .i64 (-1), .int .u64 0, .int .i64 256, .int .u64 0] 57 (0, 0)) := by
    have := heap_alloc_new ((((w1.alloc (.cells #[.slice A0 2 c0, .slice A1 1 c1, .slice A2 0 c2, .slice A3 0 c3] 26)).alloc (.cells #[.int .u64 0, .int .u64 1] 32)).alloc (.cells #[.int .u64 2] 32)).alloc (.cells #[.int .u64 0, .slice (some ⟨w1.heap.size + 1, 0, none⟩) 2 2, .slice (some ⟨w1.heap.size + 1 + 1, 0, none⟩) 1 1, .int .i64 0, .int .i64 0, .slice none 0 0] 48)) (.cells #[.int .i64 257, .int .u64 0, .int .i64 (-1), .int .u64 0, .int .i64 256, .int .u64 0] 57)
    simpa using this
  replace G4 := G4
  rw [hwb] at G4
  rw [hwb] at hba
  simp only [Nat.add_zero] at G0
  have N0 : ∀ k : Nat, w1.heap.size ≤ k → some k ≠ (Value.slice A1 1 c1).ownBlock := fun k hk he => by have := Kd.R_lt HR1.out k he.symm; omega
  have HW := Aside0.mk hwb
  have HBA := Aside0.mk hba
  have HN := Aside0.mk N0
  clear hwb hba N0
  have HG0 := Aside0.mk G0
  clear G0
  have HG1 := Aside0.mk G1
  clear G1
  have HG2 := Aside0.mk G2
  clear G2
  have HG3 := Aside0.mk G3
  clear G3
  have HG4 := Aside0.mk G4
  clear G4
  have hsz : w1.heap.size + 4 < wb.heap.size := blk_lt HG4.out
  have HSZ := Aside0.mk hsz
  have HSB := Aside0.mk (below_size HB.out)
  clear hsz
  have q0 := blk_cell (heap_alloc_new w1 (.cells #[.slice A0 2 c0, .slice A1 1 c1, .slice A2 0 c2, .slice A3 0 c3] 26)) 1
  go_wp2_with (first | ((with_reducible refine gate_builtin (b := .append) (xs := #[.tmp 9, .tmp 13]) rfl ?_); at_builtin; rw [HW.out]; refine Kd.R_append_rows k57 (w0 := w) w.heap.size rfl (.tmp 9) (.tmp 13) 23 57 (.agg #[.int .i64 0, .int .u64 0]) 16 rfl Try.underlying23 info57 rfl (by decide) (by omega) (.slice A1 1 c1) [(⟨2, 2⟩ : S57)] [⟨257, 0⟩, ⟨-1, 0⟩, ⟨256, 0⟩] _ _ _ (fun _ => True) (fun _ => False) rfl rfl ?aO ?aR (fun _ _ h => h) (fun _ h => h.elim) (fun _ _ => trivial) ?aB ?aS ?aL ?_; (case aO => exact Kd.R_below HR1.out HBA.out); (case aR => exact lit3_C HG4.out); (case aB => exact below_step HB.out HBA.out); (case aS => have := below_size HB.out; have := below_size HBA.out; omega); (case aL => simp); intro v14 w2 ho hb hg hat; have HA := Aside0.mk ho; clear HB; have HB := Aside0.mk hb; replace HG0 := Aside0.mk ((hg.block _ (by have := HSZ.out; omega) (HN.out _ (by omega))).trans HG0.out); replace HG1 := Aside0.mk ((hg.block _ (by have := HSZ.out; omega) (HN.out _ (by omega))).trans HG1.out); replace HG2 := Aside0.mk ((hg.block _ (by have := HSZ.out; omega) (HN.out _ (by omega))).trans HG2.out); replace HG3 := Aside0.mk ((hg.block _ (by have := HSZ.out; omega) (HN.out _ (by omega))).trans HG3.out); replace HR0 := Aside0.mk (Kd.R_over (Kd.R_below HR0.out HBA.out) (Kd.R_below HR1.out HBA.out) (by decide) hg); replace HR2 := Aside0.mk (Kd.R_over (Kd.R_below HR2.out HBA.out) (Kd.R_below HR1.out HBA.out) (by decide) hg); replace HR3 := Aside0.mk (Kd.R_over (Kd.R_below HR3.out HBA.out) (Kd.R_below HR1.out HBA.out) (by decide) hg); clear ho hb hg hat HR1 HBA HG4 HN HW; obtain ⟨B1, e1, rfl⟩ := Kd.R_slice HA.out; obtain ⟨m0, m1, m2, m3⟩ := (show _ ∧ _ ∧ _ ∧ _ from ⟨blk_cell HG0.out 0, blk_cell HG0.out 1, blk_cell HG0.out 2, blk_cell HG0.out 3⟩); have y1 := blk_frozen HG0.out 1))
  have HBs := Aside0.mk (below_set (j := 1) (v := (.slice B1 4 e1)) HB.out (show w.heap.size ≤ w1.heap.size by have := HSZ.out; have := HSB.out; omega))
  have hP := blk_put HG0.out 1 (.slice B1 4 e1) rfl
  have hF1 := blk_far (p := ⟨w1.heap.size, 1, none⟩) HG1.out (show w1.heap.size + 1 ≠ w1.heap.size by omega) (.slice B1 4 e1)
  have hF2 := blk_far (p := ⟨w1.heap.size, 1, none⟩) HG2.out (show w1.heap.size + 2 ≠ w1.heap.size by omega) (.slice B1 4 e1)
  have hF3 := blk_far (p := ⟨w1.heap.size, 1, none⟩) HG3.out (show w1.heap.size + 3 ≠ w1.heap.size by omega) (.slice B1 4 e1)
  have hr0 := Kd.R_set HR0.out HG0.out (by decide) 1 (.slice B1 4 e1)
  have hr2 := Kd.R_set HR2.out HG0.out (by decide) 1 (.slice B1 4 e1)
  have hr3 := Kd.R_set HR3.out HG0.out (by decide) 1 (.slice B1 4 e1)
  have hr1 := Kd.R_set HA.out HG0.out (by decide) 1 (.slice B1 4 e1)
  obtain ⟨ws, hws⟩ : ∃ W, w2.setCell ⟨w1.heap.size, 1, none⟩ (.slice B1 4 e1) = W := ⟨_, rfl⟩
  rw [hws] at HBs hP hF1 hF2 hF3 hr0 hr1 hr2 hr3 ⊢
  clear hws m0 m1 m2 m3 y1 q0
  have HM := Aside0.mk (show ModR ws (.agg #[.slice A0 2 c0, .slice B1 4 e1, .slice A2 0 c2, .slice A3 0 c3]) [0, 1] arr4 [] [] from ⟨A0, c0, B1, e1, A2, c2, A3, c3, rfl, (Kd.R_reads' hr0).2.2, (Kd.R_reads' hr0).2.1, (Kd.R_reads' hr1).2.2, (Kd.R_reads' hr1).2.1, (Kd.R_reads' hr2).2.2, (Kd.R_reads' hr2).2.1, (Kd.R_reads' hr3).2.2, (Kd.R_reads' hr3).2.1⟩)
  clear HB HG0 HG1 HG2 HG3 HR0 HR2 HR3 HA hr0 hr1 hr2 hr3
  have HB := HBs
  have HG0 := Aside0.mk hP
  have HG1 := Aside0.mk hF1
  have HG2 := Aside0.mk hF2
  have HG3 := Aside0.mk hF3
  clear HBs hP hF1 hF2 hF3
  refine (zeroC HM.out (by decide)).mono ?_
  rintro e w3 ⟨vz, rfl, HZ_, hb⟩
  replace HM := Aside0.mk (HM.out.below hb)
  replace HG0 := Aside0.mk (blk_below HG0.out hb)
  replace HG1 := Aside0.mk (blk_below HG1.out hb)
  replace HG2 := Aside0.mk (blk_below HG2.out hb)
  replace HG3 := Aside0.mk (blk_below HG3.out hb)
  replace HB := Aside0.mk (below_step HB.out hb)
  clear hb
  have HZ := Aside0.mk HZ_
  clear HZ_
  rw [rows4_eq] at HZ
  obtain ⟨Z0, z0, Z1, z1, rfl, hz⟩ := HZ.out
  clear HZ
  rw [show rows4.length = 4 from rfl]
  have HZ := Aside0.mk (show MemR w3 (.agg #[.slice Z0 2 z0, .slice Z1 4 z1]) (List.replicate [(0 : Int), 1].length 0) rows4 from ⟨Z0, z0, Z1, z1, rfl, hz⟩)
  clear hz
  have HGz := Aside0.mk (heap_alloc_new w3 (.cells #[.slice Z0 2 z0, .slice Z1 4 z1] 30))
  have hb := below_alloc (Below.refl w3.heap.size w3) (.cells #[.slice Z0 2 z0, .slice Z1 4 z1] 30)
  go_wp2_with fail
  obtain ⟨q, hq⟩ : ∃ q, w3.heap.size = q := ⟨_, rfl⟩
  obtain ⟨w4, hw_⟩ : ∃ W, w3.alloc (.cells #[.slice Z0 2 z0, .slice Z1 4 z1] 30) = W := ⟨_, rfl⟩
  rw [hw_] at HGz hb ⊢
  rw [hq] at HGz ⊢
  clear hw_
  replace HM := Aside0.mk (HM.out.below hb)
  replace HG0 := Aside0.mk (blk_below HG0.out hb)
  replace HG1 := Aside0.mk (blk_below HG1.out hb)
  replace HG2 := Aside0.mk (blk_below HG2.out hb)
  replace HG3 := Aside0.mk (blk_below HG3.out hb)
  replace HZ := Aside0.mk (HZ.out.below hb)
  replace HB := Aside0.mk (below_step HB.out hb)
  clear hb
  clear hq
  obtain ⟨m0, m1, m2, m3⟩ := (show _ ∧ _ ∧ _ ∧ _ from ⟨blk_cell HG0.out 0, blk_cell HG0.out 1, blk_cell HG0.out 2, blk_cell HG0.out 3⟩)
  obtain ⟨⟨x0, x1, x2, x3, x4, x5⟩, _⟩ := facts6 HG3.out
  obtain ⟨⟨k0, k1⟩, _, _⟩ := blk2 HGz.out
  refine (awakeC _).mono ?_
  rintro e w5 ⟨rfl, hb⟩
  clear m0 m1 m2 m3 x0 x1 x2 x3 x4 x5 k0 k1
  replace HM := Aside0.mk (HM.out.below hb)
  replace HG0 := Aside0.mk (blk_below HG0.out hb)
  replace HG1 := Aside0.mk (blk_below HG1.out hb)
  replace HG2 := Aside0.mk (blk_below HG2.out hb)
  replace HG3 := Aside0.mk (blk_below HG3.out hb)
  replace HZ := Aside0.mk (HZ.out.below hb)
  replace HGz := Aside0.mk (blk_below HGz.out hb)
  replace HB := Aside0.mk (below_step HB.out hb)
  clear hb
  obtain ⟨m0, m1, m2, m3⟩ := (show _ ∧ _ ∧ _ ∧ _ from ⟨blk_cell HG0.out 0, blk_cell HG0.out 1, blk_cell HG0.out 2, blk_cell HG0.out 3⟩)
  obtain ⟨⟨x0, x1, x2, x3, x4, x5⟩, _⟩ := facts6 HG3.out
  obtain ⟨⟨k0, k1⟩, _, _⟩ := blk2 HGz.out
  go_wp2_with fail
  refine (memC 5 0 7 8 _).mono ?_
  rintro e w6 ⟨xv, rfl, X1_, hb⟩
  clear m0 m1 m2 m3 x0 x1 x2 x3 x4 x5 k0 k1
  replace HM := Aside0.mk (HM.out.below hb)
  replace HG0 := Aside0.mk (blk_below HG0.out hb)
  replace HG1 := Aside0.mk (blk_below HG1.out hb)
  replace HG2 := Aside0.mk (blk_below HG2.out hb)
  replace HG3 := Aside0.mk (blk_below HG3.out hb)
  replace HZ := Aside0.mk (HZ.out.below hb)
  replace HGz := Aside0.mk (blk_below HGz.out hb)
  replace HB := Aside0.mk (below_step HB.out hb)
  clear hb
  have X1 := Aside0.mk X1_
  clear X1_
  obtain ⟨m0, m1, m2, m3⟩ := (show _ ∧ _ ∧ _ ∧ _ from ⟨blk_cell HG0.out 0, blk_cell HG0.out 1, blk_cell HG0.out 2, blk_cell HG0.out 3⟩)
  obtain ⟨⟨x0, x1, x2, x3, x4, x5⟩, _⟩ := facts6 HG3.out
  obtain ⟨⟨k0, k1⟩, _, _⟩ := blk2 HGz.out
  go_wp2_with fail
  refine (seenLawC 2 _ X1.out).mono ?_
  rintro e w7 ⟨rfl, hb⟩
  clear m0 m1 m2 m3 x0 x1 x2 x3 x4 x5 k0 k1
  replace HM := Aside0.mk (HM.out.below hb)
  replace HG0 := Aside0.mk (blk_below HG0.out hb)
  replace HG1 := Aside0.mk (blk_below HG1.out hb)
  replace HG2 := Aside0.mk (blk_below HG2.out hb)
  replace HG3 := Aside0.mk (blk_below HG3.out hb)
  replace HZ := Aside0.mk (HZ.out.below hb)
  replace HGz := Aside0.mk (blk_below HGz.out hb)
  replace X1 := Aside0.mk (X1.out.below hb)
  replace HB := Aside0.mk (below_step HB.out hb)
  clear hb
  rw [vk1]
  obtain ⟨m0, m1, m2, m3⟩ := (show _ ∧ _ ∧ _ ∧ _ from ⟨blk_cell HG0.out 0, blk_cell HG0.out 1, blk_cell HG0.out 2, blk_cell HG0.out 3⟩)
  obtain ⟨⟨x0, x1, x2, x3, x4, x5⟩, _⟩ := facts6 HG3.out
  obtain ⟨⟨k0, k1⟩, _, _⟩ := blk2 HGz.out
  go_wp2_with fail
  clear X1
  refine (memC 5 0 0 0 _).mono ?_
  rintro e w8 ⟨xv, rfl, X1_, hb⟩
  clear m0 m1 m2 m3 x0 x1 x2 x3 x4 x5 k0 k1
  replace HM := Aside0.mk (HM.out.below hb)
  replace HG0 := Aside0.mk (blk_below HG0.out hb)
  replace HG1 := Aside0.mk (blk_below HG1.out hb)
  replace HG2 := Aside0.mk (blk_below HG2.out hb)
  replace HG3 := Aside0.mk (blk_below HG3.out hb)
  replace HZ := Aside0.mk (HZ.out.below hb)
  replace HGz := Aside0.mk (blk_below HGz.out hb)
  replace HB := Aside0.mk (below_step HB.out hb)
  clear hb
  have X1 := Aside0.mk X1_
  clear X1_
  obtain ⟨m0, m1, m2, m3⟩ := (show _ ∧ _ ∧ _ ∧ _ from ⟨blk_cell HG0.out 0, blk_cell HG0.out 1, blk_cell HG0.out 2, blk_cell HG0.out 3⟩)
  obtain ⟨⟨x0, x1, x2, x3, x4, x5⟩, _⟩ := facts6 HG3.out
  obtain ⟨⟨k0, k1⟩, _, _⟩ := blk2 HGz.out
  go_wp2_with fail
  refine (seenLawC 0 _ X1.out).mono ?_
  rintro e w9 ⟨rfl, hb⟩
  clear m0 m1 m2 m3 x0 x1 x2 x3 x4 x5 k0 k1
  replace HM := Aside0.mk (HM.out.below hb)
  replace HG0 := Aside0.mk (blk_below HG0.out hb)
  replace HG1 := Aside0.mk (blk_below HG1.out hb)
  replace HG2 := Aside0.mk (blk_below HG2.out hb)
  replace HG3 := Aside0.mk (blk_below HG3.out hb)
  replace HZ := Aside0.mk (HZ.out.below hb)
  replace HGz := Aside0.mk (blk_below HGz.out hb)
  replace X1 := Aside0.mk (X1.out.below hb)
  replace HB := Aside0.mk (below_step HB.out hb)
  clear hb
  rw [vk2]
  obtain ⟨m0, m1, m2, m3⟩ := (show _ ∧ _ ∧ _ ∧ _ from ⟨blk_cell HG0.out 0, blk_cell HG0.out 1, blk_cell HG0.out 2, blk_cell HG0.out 3⟩)
  obtain ⟨⟨x0, x1, x2, x3, x4, x5⟩, _⟩ := facts6 HG3.out
  obtain ⟨⟨k0, k1⟩, _, _⟩ := blk2 HGz.out
  go_wp2_with fail
  clear X1
  refine (givenC _).mono ?_
  rintro e w10 ⟨mv, rfl, M1_, hb⟩
  clear m0 m1 m2 m3 x0 x1 x2 x3 x4 x5 k0 k1
  replace HM := Aside0.mk (HM.out.below hb)
  replace HG0 := Aside0.mk (blk_below HG0.out hb)
  replace HG1 := Aside0.mk (blk_below HG1.out hb)
  replace HG2 := Aside0.mk (blk_below HG2.out hb)
  replace HG3 := Aside0.mk (blk_below HG3.out hb)
  replace HZ := Aside0.mk (HZ.out.below hb)
  replace HGz := Aside0.mk (blk_below HGz.out hb)
  replace HB := Aside0.mk (below_step HB.out hb)
  clear hb
  have M1 := Aside0.mk M1_
  clear M1_
  obtain ⟨m0, m1, m2, m3⟩ := (show _ ∧ _ ∧ _ ∧ _ from ⟨blk_cell HG0.out 0, blk_cell HG0.out 1, blk_cell HG0.out 2, blk_cell HG0.out 3⟩)
  obtain ⟨⟨x0, x1, x2, x3, x4, x5⟩, _⟩ := facts6 HG3.out
  obtain ⟨⟨k0, k1⟩, _, _⟩ := blk2 HGz.out
  go_wp2_with fail
  refine (memC 0 0 0 0 _).mono ?_
  rintro e w11 ⟨xv, rfl, X1_, hb⟩
  clear m0 m1 m2 m3 x0 x1 x2 x3 x4 x5 k0 k1
  replace HM := Aside0.mk (HM.out.below hb)
  replace HG0 := Aside0.mk (blk_below HG0.out hb)
  replace HG1 := Aside0.mk (blk_below HG1.out hb)
  replace HG2 := Aside0.mk (blk_below HG2.out hb)
  replace HG3 := Aside0.mk (blk_below HG3.out hb)
  replace HZ := Aside0.mk (HZ.out.below hb)
  replace HGz := Aside0.mk (blk_below HGz.out hb)
  replace M1 := Aside0.mk (M1.out.below hb)
  replace HB := Aside0.mk (below_step HB.out hb)
  clear hb
  have X1 := Aside0.mk X1_
  clear X1_
  obtain ⟨m0, m1, m2, m3⟩ := (show _ ∧ _ ∧ _ ∧ _ from ⟨blk_cell HG0.out 0, blk_cell HG0.out 1, blk_cell HG0.out 2, blk_cell HG0.out 3⟩)
  obtain ⟨⟨x0, x1, x2, x3, x4, x5⟩, _⟩ := facts6 HG3.out
  obtain ⟨⟨k0, k1⟩, _, _⟩ := blk2 HGz.out
  go_wp2_with fail
  refine (fitsC M1.out X1.out).mono ?_
  rintro e w12 ⟨rfl, hb⟩
  clear m0 m1 m2 m3 x0 x1 x2 x3 x4 x5 k0 k1
  replace HM := Aside0.mk (HM.out.below hb)
  replace HG0 := Aside0.mk (blk_below HG0.out hb)
  replace HG1 := Aside0.mk (blk_below HG1.out hb)
  replace HG2 := Aside0.mk (blk_below HG2.out hb)
  replace HG3 := Aside0.mk (blk_below HG3.out hb)
  replace HZ := Aside0.mk (HZ.out.below hb)
  replace HGz := Aside0.mk (blk_below HGz.out hb)
  replace M1 := Aside0.mk (M1.out.below hb)
  replace X1 := Aside0.mk (X1.out.below hb)
  replace HB := Aside0.mk (below_step HB.out hb)
  clear hb
  rw [vk3]
  obtain ⟨m0, m1, m2, m3⟩ := (show _ ∧ _ ∧ _ ∧ _ from ⟨blk_cell HG0.out 0, blk_cell HG0.out 1, blk_cell HG0.out 2, blk_cell HG0.out 3⟩)
  obtain ⟨⟨x0, x1, x2, x3, x4, x5⟩, _⟩ := facts6 HG3.out
  obtain ⟨⟨k0, k1⟩, _, _⟩ := blk2 HGz.out
  go_wp2_with fail
  clear X1
  clear M1
  refine (givenC _).mono ?_
  rintro e w13 ⟨mv, rfl, M1_, hb⟩
  clear m0 m1 m2 m3 x0 x1 x2 x3 x4 x5 k0 k1
  replace HM := Aside0.mk (HM.out.below hb)
  replace HG0 := Aside0.mk (blk_below HG0.out hb)
  replace HG1 := Aside0.mk (blk_below HG1.out hb)
  replace HG2 := Aside0.mk (blk_below HG2.out hb)
  replace HG3 := Aside0.mk (blk_below HG3.out hb)
  replace HZ := Aside0.mk (HZ.out.below hb)
  replace HGz := Aside0.mk (blk_below HGz.out hb)
  replace HB := Aside0.mk (below_step HB.out hb)
  clear hb
  have M1 := Aside0.mk M1_
  clear M1_
  obtain ⟨m0, m1, m2, m3⟩ := (show _ ∧ _ ∧ _ ∧ _ from ⟨blk_cell HG0.out 0, blk_cell HG0.out 1, blk_cell HG0.out 2, blk_cell HG0.out 3⟩)
  obtain ⟨⟨x0, x1, x2, x3, x4, x5⟩, _⟩ := facts6 HG3.out
  obtain ⟨⟨k0, k1⟩, _, _⟩ := blk2 HGz.out
  go_wp2_with fail
  have hb := below_alloc (Below.refl w13.heap.size w13) (.cells #[.int .i64 1, .int .i64 2] 2)
  have HL0_ : (w13.alloc (.cells #[.int .i64 1, .int .i64 2] 2)).heap[w13.heap.size + 0]? = some (.cells #[.int .i64 1, .int .i64 2] 2 (0, 0)) := by
    have := heap_alloc_new w13 (.cells #[.int .i64 1, .int .i64 2] 2)
    simpa using this
  replace HL0_ := HL0_
  obtain ⟨w14, hw14⟩ : ∃ W, (w13.alloc (.cells #[.int .i64 1, .int .i64 2] 2)) = W := ⟨_, rfl⟩
  rw [hw14] at hb ⊢
  rw [hw14] at HL0_
  simp only [Nat.add_zero] at HL0_
  clear hw14
  replace HM := Aside0.mk (HM.out.below hb)
  replace HG0 := Aside0.mk (blk_below HG0.out hb)
  replace HG1 := Aside0.mk (blk_below HG1.out hb)
  replace HG2 := Aside0.mk (blk_below HG2.out hb)
  replace HG3 := Aside0.mk (blk_below HG3.out hb)
  replace HZ := Aside0.mk (HZ.out.below hb)
  replace HGz := Aside0.mk (blk_below HGz.out hb)
  replace M1 := Aside0.mk (M1.out.below hb)
  replace HB := Aside0.mk (below_step HB.out hb)
  clear hb
  refine (fitsC M1.out (show MemR _ (.agg #[.slice (some ⟨w13.heap.size, 0, none⟩) 2 2, .slice none 0 0]) [1, 2] [] from ⟨_, _, _, _, rfl, (C_lits (l := [1, 2]) (show w14.heap[w13.heap.size]? = _ from HL0_) (by decide)), by decide, Kd.C_nil _ _, by decide⟩)).mono ?_
  rintro e w15 ⟨rfl, hb⟩
  clear m0 m1 m2 m3 x0 x1 x2 x3 x4 x5 k0 k1
  replace HM := Aside0.mk (HM.out.below hb)
  replace HG0 := Aside0.mk (blk_below HG0.out hb)
  replace HG1 := Aside0.mk (blk_below HG1.out hb)
  replace HG2 := Aside0.mk (blk_below HG2.out hb)
  replace HG3 := Aside0.mk (blk_below HG3.out hb)
  replace HZ := Aside0.mk (HZ.out.below hb)
  replace HGz := Aside0.mk (blk_below HGz.out hb)
  replace M1 := Aside0.mk (M1.out.below hb)
  replace HB := Aside0.mk (below_step HB.out hb)
  clear hb
  rw [vk4]
  obtain ⟨m0, m1, m2, m3⟩ := (show _ ∧ _ ∧ _ ∧ _ from ⟨blk_cell HG0.out 0, blk_cell HG0.out 1, blk_cell HG0.out 2, blk_cell HG0.out 3⟩)
  obtain ⟨⟨x0, x1, x2, x3, x4, x5⟩, _⟩ := facts6 HG3.out
  obtain ⟨⟨k0, k1⟩, _, _⟩ := blk2 HGz.out
  go_wp2_with fail
  clear M1
  clear HL0_
  have hb := below_alloc (below_alloc (Below.refl w15.heap.size w15) (.cells #[.int .i64 1, .int .i64 2] 2)) (.cells #[.int .i64 1, .int .i64 3] 2)
  have HL0_ : (w15.alloc (.cells #[.int .i64 1, .int .i64 2] 2)).heap[w15.heap.size + 0]? = some (.cells #[.int .i64 1, .int .i64 2] 2 (0, 0)) := by
    have := heap_alloc_new w15 (.cells #[.int .i64 1, .int .i64 2] 2)
    simpa using this
  replace HL0_ := blk_alloc (HL0_) (.cells #[.int .i64 1, .int .i64 3] 2)
  have HL1_ : ((w15.alloc (.cells #[.int .i64 1, .int .i64 2] 2)).alloc (.cells #[.int .i64 1, .int .i64 3] 2)).heap[w15.heap.size + 1]? = some (.cells #[.int .i64 1, .int .i64 3] 2 (0, 0)) := by
    have := heap_alloc_new (w15.alloc (.cells #[.int .i64 1, .int .i64 2] 2)) (.cells #[.int .i64 1, .int .i64 3] 2)
    simpa using this
  replace HL1_ := HL1_
  obtain ⟨w16, hw16⟩ : ∃ W, ((w15.alloc (.cells #[.int .i64 1, .int .i64 2] 2)).alloc (.cells #[.int .i64 1, .int .i64 3] 2)) = W := ⟨_, rfl⟩
  rw [hw16] at hb ⊢
  rw [hw16] at HL0_
  rw [hw16] at HL1_
  simp only [Nat.add_zero] at HL0_
  clear hw16
  replace HM := Aside0.mk (HM.out.below hb)
  replace HG0 := Aside0.mk (blk_below HG0.out hb)
  replace HG1 := Aside0.mk (blk_below HG1.out hb)
  replace HG2 := Aside0.mk (blk_below HG2.out hb)
  replace HG3 := Aside0.mk (blk_below HG3.out hb)
  replace HZ := Aside0.mk (HZ.out.below hb)
  replace HGz := Aside0.mk (blk_below HGz.out hb)
  replace HB := Aside0.mk (below_step HB.out hb)
  clear hb
  refine (view_Args.calls 20 0 (some ⟨w1.heap.size + 1, 0, none⟩) 2 [0, 1] (some ⟨w1.heap.size + 2, 0, none⟩) 1 [2] 0 0 none 0 [] 0 (some ⟨w15.heap.size, 0, none⟩) 2 [1, 2] (some ⟨w15.heap.size + 1, 0, none⟩) 2 [1, 3] _ _ (C_lits (l := [0, 1]) HG1.out (by decide)) (by decide) (C_lits (l := [2]) HG2.out (by decide)) (by decide) (Kd.C_nil _ _) (by decide) (C_lits (l := [1, 2]) (show w16.heap[w15.heap.size]? = _ from HL0_) (by decide)) (by decide) (C_lits (l := [1, 3]) (show w16.heap[w15.heap.size + 1]? = _ from HL1_) (by decide)) (by decide) vk5).mono ?_
  rintro e w17 ⟨rfl, hb⟩
  clear m0 m1 m2 m3 x0 x1 x2 x3 x4 x5 k0 k1
  replace HM := Aside0.mk (HM.out.below hb)
  replace HG0 := Aside0.mk (blk_below HG0.out hb)
  replace HG1 := Aside0.mk (blk_below HG1.out hb)
  replace HG2 := Aside0.mk (blk_below HG2.out hb)
  replace HG3 := Aside0.mk (blk_below HG3.out hb)
  replace HZ := Aside0.mk (HZ.out.below hb)
  replace HGz := Aside0.mk (blk_below HGz.out hb)
  replace HB := Aside0.mk (below_step HB.out hb)
  clear hb
  obtain ⟨m0, m1, m2, m3⟩ := (show _ ∧ _ ∧ _ ∧ _ from ⟨blk_cell HG0.out 0, blk_cell HG0.out 1, blk_cell HG0.out 2, blk_cell HG0.out 3⟩)
  obtain ⟨⟨x0, x1, x2, x3, x4, x5⟩, _⟩ := facts6 HG3.out
  obtain ⟨⟨k0, k1⟩, _, _⟩ := blk2 HGz.out
  go_wp2_with fail
  clear HL0_ HL1_
  have hb := below_alloc (below_alloc (Below.refl w17.heap.size w17) (.cells #[.int .i64 1, .int .i64 2] 2)) (.cells #[.int .i64 2, .int .i64 2] 2)
  have HL0_ : (w17.alloc (.cells #[.int .i64 1, .int .i64 2] 2)).heap[w17.heap.size + 0]? = some (.cells #[.int .i64 1, .int .i64 2] 2 (0, 0)) := by
    have := heap_alloc_new w17 (.cells #[.int .i64 1, .int .i64 2] 2)
    simpa using this
  replace HL0_ := blk_alloc (HL0_) (.cells #[.int .i64 2, .int .i64 2] 2)
  have HL1_ : ((w17.alloc (.cells #[.int .i64 1, .int .i64 2] 2)).alloc (.cells #[.int .i64 2, .int .i64 2] 2)).heap[w17.heap.size + 1]? = some (.cells #[.int .i64 2, .int .i64 2] 2 (0, 0)) := by
    have := heap_alloc_new (w17.alloc (.cells #[.int .i64 1, .int .i64 2] 2)) (.cells #[.int .i64 2, .int .i64 2] 2)
    simpa using this
  replace HL1_ := HL1_
  obtain ⟨w18, hw18⟩ : ∃ W, ((w17.alloc (.cells #[.int .i64 1, .int .i64 2] 2)).alloc (.cells #[.int .i64 2, .int .i64 2] 2)) = W := ⟨_, rfl⟩
  rw [hw18] at hb ⊢
  rw [hw18] at HL0_
  rw [hw18] at HL1_
  simp only [Nat.add_zero] at HL0_
  clear hw18
  replace HM := Aside0.mk (HM.out.below hb)
  replace HG0 := Aside0.mk (blk_below HG0.out hb)
  replace HG1 := Aside0.mk (blk_below HG1.out hb)
  replace HG2 := Aside0.mk (blk_below HG2.out hb)
  replace HG3 := Aside0.mk (blk_below HG3.out hb)
  replace HZ := Aside0.mk (HZ.out.below hb)
  replace HGz := Aside0.mk (blk_below HGz.out hb)
  replace HB := Aside0.mk (below_step HB.out hb)
  clear hb
  refine (view_Args.calls 20 0 (some ⟨w1.heap.size + 1, 0, none⟩) 2 [0, 1] (some ⟨w1.heap.size + 2, 0, none⟩) 1 [2] 0 0 none 0 [] 0 (some ⟨w17.heap.size, 0, none⟩) 2 [1, 2] (some ⟨w17.heap.size + 1, 0, none⟩) 2 [2, 2] _ _ (C_lits (l := [0, 1]) HG1.out (by decide)) (by decide) (C_lits (l := [2]) HG2.out (by decide)) (by decide) (Kd.C_nil _ _) (by decide) (C_lits (l := [1, 2]) (show w18.heap[w17.heap.size]? = _ from HL0_) (by decide)) (by decide) (C_lits (l := [2, 2]) (show w18.heap[w17.heap.size + 1]? = _ from HL1_) (by decide)) (by decide) vk6).mono ?_
  rintro e w19 ⟨rfl, hb⟩
  clear m0 m1 m2 m3 x0 x1 x2 x3 x4 x5 k0 k1
  replace HM := Aside0.mk (HM.out.below hb)
  replace HG0 := Aside0.mk (blk_below HG0.out hb)
  replace HG1 := Aside0.mk (blk_below HG1.out hb)
  replace HG2 := Aside0.mk (blk_below HG2.out hb)
  replace HG3 := Aside0.mk (blk_below HG3.out hb)
  replace HZ := Aside0.mk (HZ.out.below hb)
  replace HGz := Aside0.mk (blk_below HGz.out hb)
  replace HB := Aside0.mk (below_step HB.out hb)
  clear hb
  obtain ⟨m0, m1, m2, m3⟩ := (show _ ∧ _ ∧ _ ∧ _ from ⟨blk_cell HG0.out 0, blk_cell HG0.out 1, blk_cell HG0.out 2, blk_cell HG0.out 3⟩)
  obtain ⟨⟨x0, x1, x2, x3, x4, x5⟩, _⟩ := facts6 HG3.out
  obtain ⟨⟨k0, k1⟩, _, _⟩ := blk2 HGz.out
  go_wp2_with fail
  clear HL0_ HL1_
  have hb := below_alloc (below_alloc (Below.refl w19.heap.size w19) (.cells #[.int .i64 1] 2)) (.cells #[.int .i64 1] 2)
  have HL0_ : (w19.alloc (.cells #[.int .i64 1] 2)).heap[w19.heap.size + 0]? = some (.cells #[.int .i64 1] 2 (0, 0)) := by
    have := heap_alloc_new w19 (.cells #[.int .i64 1] 2)
    simpa using this
  replace HL0_ := blk_alloc (HL0_) (.cells #[.int .i64 1] 2)
  have HL1_ : ((w19.alloc (.cells #[.int .i64 1] 2)).alloc (.cells #[.int .i64 1] 2)).heap[w19.heap.size + 1]? = some (.cells #[.int .i64 1] 2 (0, 0)) := by
    have := heap_alloc_new (w19.alloc (.cells #[.int .i64 1] 2)) (.cells #[.int .i64 1] 2)
    simpa using this
  replace HL1_ := HL1_
  obtain ⟨w20, hw20⟩ : ∃ W, ((w19.alloc (.cells #[.int .i64 1] 2)).alloc (.cells #[.int .i64 1] 2)) = W := ⟨_, rfl⟩
  rw [hw20] at hb ⊢
  rw [hw20] at HL0_
  rw [hw20] at HL1_
  simp only [Nat.add_zero] at HL0_
  clear hw20
  replace HM := Aside0.mk (HM.out.below hb)
  replace HG0 := Aside0.mk (blk_below HG0.out hb)
  replace HG1 := Aside0.mk (blk_below HG1.out hb)
  replace HG2 := Aside0.mk (blk_below HG2.out hb)
  replace HG3 := Aside0.mk (blk_below HG3.out hb)
  replace HZ := Aside0.mk (HZ.out.below hb)
  replace HGz := Aside0.mk (blk_below HGz.out hb)
  replace HB := Aside0.mk (below_step HB.out hb)
  clear hb
  refine (view_Args.calls 20 0 (some ⟨w1.heap.size + 1, 0, none⟩) 2 [0, 1] (some ⟨w1.heap.size + 2, 0, none⟩) 1 [2] 0 0 none 0 [] 0 (some ⟨w19.heap.size, 0, none⟩) 1 [1] (some ⟨w19.heap.size + 1, 0, none⟩) 1 [1] _ _ (C_lits (l := [0, 1]) HG1.out (by decide)) (by decide) (C_lits (l := [2]) HG2.out (by decide)) (by decide) (Kd.C_nil _ _) (by decide) (C_lits (l := [1]) (show w20.heap[w19.heap.size]? = _ from HL0_) (by decide)) (by decide) (C_lits (l := [1]) (show w20.heap[w19.heap.size + 1]? = _ from HL1_) (by decide)) (by decide) vk7).mono ?_
  rintro e w21 ⟨rfl, hb⟩
  clear m0 m1 m2 m3 x0 x1 x2 x3 x4 x5 k0 k1
  replace HM := Aside0.mk (HM.out.below hb)
  replace HG0 := Aside0.mk (blk_below HG0.out hb)
  replace HG1 := Aside0.mk (blk_below HG1.out hb)
  replace HG2 := Aside0.mk (blk_below HG2.out hb)
  replace HG3 := Aside0.mk (blk_below HG3.out hb)
  replace HZ := Aside0.mk (HZ.out.below hb)
  replace HGz := Aside0.mk (blk_below HGz.out hb)
  replace HB := Aside0.mk (below_step HB.out hb)
  clear hb
  obtain ⟨m0, m1, m2, m3⟩ := (show _ ∧ _ ∧ _ ∧ _ from ⟨blk_cell HG0.out 0, blk_cell HG0.out 1, blk_cell HG0.out 2, blk_cell HG0.out 3⟩)
  obtain ⟨⟨x0, x1, x2, x3, x4, x5⟩, _⟩ := facts6 HG3.out
  obtain ⟨⟨k0, k1⟩, _, _⟩ := blk2 HGz.out
  go_wp2_with fail
  clear HL0_ HL1_
  have hb := below_alloc (below_alloc (Below.refl w21.heap.size w21) (.cells #[.int .i64 1] 2)) (.cells #[.int .i64 2] 2)
  have HL0_ : (w21.alloc (.cells #[.int .i64 1] 2)).heap[w21.heap.size + 0]? = some (.cells #[.int .i64 1] 2 (0, 0)) := by
    have := heap_alloc_new w21 (.cells #[.int .i64 1] 2)
    simpa using this
  replace HL0_ := blk_alloc (HL0_) (.cells #[.int .i64 2] 2)
  have HL1_ : ((w21.alloc (.cells #[.int .i64 1] 2)).alloc (.cells #[.int .i64 2] 2)).heap[w21.heap.size + 1]? = some (.cells #[.int .i64 2] 2 (0, 0)) := by
    have := heap_alloc_new (w21.alloc (.cells #[.int .i64 1] 2)) (.cells #[.int .i64 2] 2)
    simpa using this
  replace HL1_ := HL1_
  obtain ⟨w22, hw22⟩ : ∃ W, ((w21.alloc (.cells #[.int .i64 1] 2)).alloc (.cells #[.int .i64 2] 2)) = W := ⟨_, rfl⟩
  rw [hw22] at hb ⊢
  rw [hw22] at HL0_
  rw [hw22] at HL1_
  simp only [Nat.add_zero] at HL0_
  clear hw22
  replace HM := Aside0.mk (HM.out.below hb)
  replace HG0 := Aside0.mk (blk_below HG0.out hb)
  replace HG1 := Aside0.mk (blk_below HG1.out hb)
  replace HG2 := Aside0.mk (blk_below HG2.out hb)
  replace HG3 := Aside0.mk (blk_below HG3.out hb)
  replace HZ := Aside0.mk (HZ.out.below hb)
  replace HGz := Aside0.mk (blk_below HGz.out hb)
  replace HB := Aside0.mk (below_step HB.out hb)
  clear hb
  refine (view_Results.calls 20 0 (some ⟨w1.heap.size + 1, 0, none⟩) 2 [0, 1] (some ⟨w1.heap.size + 2, 0, none⟩) 1 [2] 0 0 none 0 [] 1 (some ⟨w21.heap.size, 0, none⟩) 1 [1] (some ⟨w21.heap.size + 1, 0, none⟩) 1 [2] _ _ (C_lits (l := [0, 1]) HG1.out (by decide)) (by decide) (C_lits (l := [2]) HG2.out (by decide)) (by decide) (Kd.C_nil _ _) (by decide) (C_lits (l := [1]) (show w22.heap[w21.heap.size]? = _ from HL0_) (by decide)) (by decide) (C_lits (l := [2]) (show w22.heap[w21.heap.size + 1]? = _ from HL1_) (by decide)) (by decide) vk8).mono ?_
  rintro e w23 ⟨rfl, hb⟩
  clear m0 m1 m2 m3 x0 x1 x2 x3 x4 x5 k0 k1
  replace HM := Aside0.mk (HM.out.below hb)
  replace HG0 := Aside0.mk (blk_below HG0.out hb)
  replace HG1 := Aside0.mk (blk_below HG1.out hb)
  replace HG2 := Aside0.mk (blk_below HG2.out hb)
  replace HG3 := Aside0.mk (blk_below HG3.out hb)
  replace HZ := Aside0.mk (HZ.out.below hb)
  replace HGz := Aside0.mk (blk_below HGz.out hb)
  replace HB := Aside0.mk (below_step HB.out hb)
  clear hb
  obtain ⟨m0, m1, m2, m3⟩ := (show _ ∧ _ ∧ _ ∧ _ from ⟨blk_cell HG0.out 0, blk_cell HG0.out 1, blk_cell HG0.out 2, blk_cell HG0.out 3⟩)
  obtain ⟨⟨x0, x1, x2, x3, x4, x5⟩, _⟩ := facts6 HG3.out
  obtain ⟨⟨k0, k1⟩, _, _⟩ := blk2 HGz.out
  go_wp2_with fail
  clear HL0_ HL1_
  have hb := below_alloc (below_alloc (Below.refl w23.heap.size w23) (.cells #[.int .i64 1] 2)) (.cells #[.int .i64 2] 2)
  have HL0_ : (w23.alloc (.cells #[.int .i64 1] 2)).heap[w23.heap.size + 0]? = some (.cells #[.int .i64 1] 2 (0, 0)) := by
    have := heap_alloc_new w23 (.cells #[.int .i64 1] 2)
    simpa using this
  replace HL0_ := blk_alloc (HL0_) (.cells #[.int .i64 2] 2)
  have HL1_ : ((w23.alloc (.cells #[.int .i64 1] 2)).alloc (.cells #[.int .i64 2] 2)).heap[w23.heap.size + 1]? = some (.cells #[.int .i64 2] 2 (0, 0)) := by
    have := heap_alloc_new (w23.alloc (.cells #[.int .i64 1] 2)) (.cells #[.int .i64 2] 2)
    simpa using this
  replace HL1_ := HL1_
  obtain ⟨w24, hw24⟩ : ∃ W, ((w23.alloc (.cells #[.int .i64 1] 2)).alloc (.cells #[.int .i64 2] 2)) = W := ⟨_, rfl⟩
  rw [hw24] at hb ⊢
  rw [hw24] at HL0_
  rw [hw24] at HL1_
  simp only [Nat.add_zero] at HL0_
  clear hw24
  replace HM := Aside0.mk (HM.out.below hb)
  replace HG0 := Aside0.mk (blk_below HG0.out hb)
  replace HG1 := Aside0.mk (blk_below HG1.out hb)
  replace HG2 := Aside0.mk (blk_below HG2.out hb)
  replace HG3 := Aside0.mk (blk_below HG3.out hb)
  replace HZ := Aside0.mk (HZ.out.below hb)
  replace HGz := Aside0.mk (blk_below HGz.out hb)
  replace HB := Aside0.mk (below_step HB.out hb)
  clear hb
  refine (view_Results.calls 20 0 (some ⟨w1.heap.size + 1, 0, none⟩) 2 [0, 1] (some ⟨w1.heap.size + 2, 0, none⟩) 1 [2] 0 0 none 0 [] 2 (some ⟨w23.heap.size, 0, none⟩) 1 [1] (some ⟨w23.heap.size + 1, 0, none⟩) 1 [2] _ _ (C_lits (l := [0, 1]) HG1.out (by decide)) (by decide) (C_lits (l := [2]) HG2.out (by decide)) (by decide) (Kd.C_nil _ _) (by decide) (C_lits (l := [1]) (show w24.heap[w23.heap.size]? = _ from HL0_) (by decide)) (by decide) (C_lits (l := [2]) (show w24.heap[w23.heap.size + 1]? = _ from HL1_) (by decide)) (by decide) vk9).mono ?_
  rintro e w25 ⟨rfl, hb⟩
  clear m0 m1 m2 m3 x0 x1 x2 x3 x4 x5 k0 k1
  replace HM := Aside0.mk (HM.out.below hb)
  replace HG0 := Aside0.mk (blk_below HG0.out hb)
  replace HG1 := Aside0.mk (blk_below HG1.out hb)
  replace HG2 := Aside0.mk (blk_below HG2.out hb)
  replace HG3 := Aside0.mk (blk_below HG3.out hb)
  replace HZ := Aside0.mk (HZ.out.below hb)
  replace HGz := Aside0.mk (blk_below HGz.out hb)
  replace HB := Aside0.mk (below_step HB.out hb)
  clear hb
  clear HL0_ HL1_
  obtain ⟨m0, m1, m2, m3⟩ := (show _ ∧ _ ∧ _ ∧ _ from ⟨blk_cell HG0.out 0, blk_cell HG0.out 1, blk_cell HG0.out 2, blk_cell HG0.out 3⟩)
  obtain ⟨⟨x0, x1, x2, x3, x4, x5⟩, _⟩ := facts6 HG3.out
  obtain ⟨⟨k0, k1⟩, _, _⟩ := blk2 HGz.out
  obtain ⟨Z0', z0', Z1', z1', ez, hz0, hz1, hz2, hz3⟩ := HZ.out
  injection ez with ez
  have ez1 : Value.slice Z1 4 z1 = Value.slice Z1' 4 z1' := Option.some.inj (congrArg (fun (x : Array Value) => x[1]?) ez)
  injection ez1 with e1_ _ e2_
  subst e1_ e2_
  clear ez hz0 hz1 hz3
  obtain ⟨ad, cs, rfl, _, ⟨Y1, y1, rfl, _, _⟩, hy1⟩ := Kd.C_get hz2 [] (1 : Int) (by decide) (by decide)
  obtain ⟨ad2, cs, he2, _, ⟨Y2, y2, rfl, _, _⟩, hy2⟩ := Kd.C_get hz2 [] (2 : Int) (by decide) (by decide)
  injection he2 with he2
  subst he2
  obtain ⟨ad3, cs, he3, _, ⟨Y3, y3, rfl, _, _⟩, hy3⟩ := Kd.C_get hz2 [] (3 : Int) (by decide) (by decide)
  injection he3 with he3
  subst he3
  have r1 : w25.cell? ⟨ad.block, ad.off + 1, none⟩ = some (.slice Y1 0 y1) := hy1 0 _ rfl
  have r2 : w25.cell? ⟨ad.block, ad.off + 2, none⟩ = some (.slice Y2 0 y2) := hy2 0 _ rfl
  have r3 : w25.cell? ⟨ad.block, ad.off + 3, none⟩ = some (.slice Y3 256 y3) := hy3 0 _ rfl
  clear hy1 hy2 hy3 hz2
  go_wp2_with fail
  refine (fitsC HM.out HZ.out).mono ?_
  rintro e wz ⟨rfl, hb⟩
  rw [vk10]
  replace HB := Aside0.mk (below_step HB.out hb)
  go_wp2
  go_ret
  exact ⟨rfl, HB.out⟩
end Go.Proofs.Ytlnccdgclaalbaa.PJ
