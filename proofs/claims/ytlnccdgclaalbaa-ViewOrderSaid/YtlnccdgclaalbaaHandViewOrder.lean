/- The walk of the law ViewOrder. -/
import Derived.Test.YtlnccdgclaalbaaPJx0
import Derived.Test.YtlnccdgclaalbaaHandViewTop
namespace Go.Proofs.Ytlnccdgclaalbaa.PJ
open Go.RowKit Go.Proofs.YtlnccdgclaalbaaW.PrintWords Go.Proofs.YtlnccdgclaalbaaW.PrintLast Go.Proofs.YtlnccdgclaalbaaW.PrintMore
set_option linter.unusedSimpArgs false
set_option linter.unusedVariables false
theorem blk4 {w : World} {g t : Nat} {x y z u : Value} (h : w.heap[g]? = some (.cells #[x, y, z, u] t (0, 0))) : w.cell? ⟨g, 0, none⟩ = some x ∧ w.cell? ⟨g, 1, none⟩ = some y ∧ w.cell? ⟨g, 2, none⟩ = some z ∧ w.cell? ⟨g, 3, none⟩ = some u := ⟨blk_cell h 0, blk_cell h 1, blk_cell h 2, blk_cell h 3⟩
set_option maxHeartbeats 16000000 in
set_option maxRecDepth 100000 in
theorem viewOrder.no1 (A0 A1 A2 A3 : Option Addr) (c0 c1 c2 c3 : Nat) (gs : List Int) (arr : List S57) (l2 : List Int) (l3 : List S48) (P1 Q1 : Option Addr) (p1 q1 : Nat) (g1 : List Int) (r1 : List (List Int)) (P2 Q2 : Option Addr) (p2 q2 : Nat) (g2 : List Int) (r2 : List (List Int)) (P3 Q3 : Option Addr) (p3 q3 : Nat) (g3 : List Int) (r3 : List (List Int)) (l less : Int) (w : World) (hm : ModR w (.agg #[.slice A0 gs.length c0, .slice A1 arr.length c1, .slice A2 l2.length c2, .slice A3 l3.length c3]) gs arr l2 l3) (h1 : MemR w (.agg #[.slice P1 g1.length p1, .slice Q1 r1.length q1]) g1 r1) (h2 : MemR w (.agg #[.slice P2 g2.length p2, .slice Q2 r2.length q2]) g2 r2) (h3 : MemR w (.agg #[.slice P3 g3.length p3, .slice Q3 r3.length q3]) g3 r3) (B : Nat) (hB : B ≤ 17592186044415) (s1 : Sized B g1 r1) (s2 : Sized B g2 r2) (s3 : Sized B g3 r3) (f1 : fitsB gs arr g1 r1 = false) :
    Calls Try.prog 4 #[.agg #[.slice A0 gs.length c0, .slice A1 arr.length c1, .slice A2 l2.length c2, .slice A3 l3.length c3], .int .u64 l, .int .u64 less, .agg #[.slice P1 g1.length p1, .slice Q1 r1.length q1], .agg #[.slice P2 g2.length p2, .slice Q2 r2.length q2], .agg #[.slice P3 g3.length p3, .slice Q3 r3.length q3]] w fun e w' => e = .returned (.bool true) ∧ Below w.heap.size w w' := by
  have Zhm := Aside0.mk hm
  have Zh1 := Aside0.mk h1
  have Zh2 := Aside0.mk h2
  have Zh3 := Aside0.mk h3
  have ZhB := Aside0.mk hB
  have Zs1 := Aside0.mk s1
  have Zs2 := Aside0.mk s2
  have Zs3 := Aside0.mk s3
  have Zf1 := Aside0.mk f1
  clear hm h1 h2 h3 hB s1 s2 s3 f1
  have HB := Aside0.mk (below_alloc (below_alloc (below_alloc (below_alloc (Below.refl w.heap.size w) (.cells #[.slice A0 gs.length c0, .slice A1 arr.length c1, .slice A2 l2.length c2, .slice A3 l3.length c3] 26)) (.cells #[.slice P1 g1.length p1, .slice Q1 r1.length q1] 30)) (.cells #[.slice P2 g2.length p2, .slice Q2 r2.length q2] 30)) (.cells #[.slice P3 g3.length p3, .slice Q3 r3.length q3] 30))
  have G0_ : (w.alloc (.cells #[.slice A0 gs.length c0, .slice A1 arr.length c1, .slice A2 l2.length c2, .slice A3 l3.length c3] 26)).heap[w.heap.size + 0]? = some (.cells #[.slice A0 gs.length c0, .slice A1 arr.length c1, .slice A2 l2.length c2, .slice A3 l3.length c3] 26 (0, 0)) := by
    have := heap_alloc_new w (.cells #[.slice A0 gs.length c0, .slice A1 arr.length c1, .slice A2 l2.length c2, .slice A3 l3.length c3] 26)
    simpa using this
  have HG0 := Aside0.mk (blk_alloc (blk_alloc (blk_alloc (G0_) (.cells #[.slice P1 g1.length p1, .slice Q1 r1.length q1] 30)) (.cells #[.slice P2 g2.length p2, .slice Q2 r2.length q2] 30)) (.cells #[.slice P3 g3.length p3, .slice Q3 r3.length q3] 30))
  clear G0_
  have G1_ : ((w.alloc (.cells #[.slice A0 gs.length c0, .slice A1 arr.length c1, .slice A2 l2.length c2, .slice A3 l3.length c3] 26)).alloc (.cells #[.slice P1 g1.length p1, .slice Q1 r1.length q1] 30)).heap[w.heap.size + 1]? = some (.cells #[.slice P1 g1.length p1, .slice Q1 r1.length q1] 30 (0, 0)) := by
    have := heap_alloc_new (w.alloc (.cells #[.slice A0 gs.length c0, .slice A1 arr.length c1, .slice A2 l2.length c2, .slice A3 l3.length c3] 26)) (.cells #[.slice P1 g1.length p1, .slice Q1 r1.length q1] 30)
    simpa using this
  have HG1 := Aside0.mk (blk_alloc (blk_alloc (G1_) (.cells #[.slice P2 g2.length p2, .slice Q2 r2.length q2] 30)) (.cells #[.slice P3 g3.length p3, .slice Q3 r3.length q3] 30))
  clear G1_
  have G2_ : (((w.alloc (.cells #[.slice A0 gs.length c0, .slice A1 arr.length c1, .slice A2 l2.length c2, .slice A3 l3.length c3] 26)).alloc (.cells #[.slice P1 g1.length p1, .slice Q1 r1.length q1] 30)).alloc (.cells #[.slice P2 g2.length p2, .slice Q2 r2.length q2] 30)).heap[w.heap.size + 2]? = some (.cells #[.slice P2 g2.length p2, .slice Q2 r2.length q2] 30 (0, 0)) := by
    have := heap_alloc_new ((w.alloc (.cells #[.slice A0 gs.length c0, .slice A1 arr.length c1, .slice A2 l2.length c2, .slice A3 l3.length c3] 26)).alloc (.cells #[.slice P1 g1.length p1, .slice Q1 r1.length q1] 30)) (.cells #[.slice P2 g2.length p2, .slice Q2 r2.length q2] 30)
    simpa using this
  have HG2 := Aside0.mk (blk_alloc (G2_) (.cells #[.slice P3 g3.length p3, .slice Q3 r3.length q3] 30))
  clear G2_
  have G3_ : ((((w.alloc (.cells #[.slice A0 gs.length c0, .slice A1 arr.length c1, .slice A2 l2.length c2, .slice A3 l3.length c3] 26)).alloc (.cells #[.slice P1 g1.length p1, .slice Q1 r1.length q1] 30)).alloc (.cells #[.slice P2 g2.length p2, .slice Q2 r2.length q2] 30)).alloc (.cells #[.slice P3 g3.length p3, .slice Q3 r3.length q3] 30)).heap[w.heap.size + 3]? = some (.cells #[.slice P3 g3.length p3, .slice Q3 r3.length q3] 30 (0, 0)) := by
    have := heap_alloc_new (((w.alloc (.cells #[.slice A0 gs.length c0, .slice A1 arr.length c1, .slice A2 l2.length c2, .slice A3 l3.length c3] 26)).alloc (.cells #[.slice P1 g1.length p1, .slice Q1 r1.length q1] 30)).alloc (.cells #[.slice P2 g2.length p2, .slice Q2 r2.length q2] 30)) (.cells #[.slice P3 g3.length p3, .slice Q3 r3.length q3] 30)
    simpa using this
  have HG3 := Aside0.mk (G3_)
  clear G3_
  simp only [Nat.add_zero] at HG0
  obtain ⟨m0, m1, m2, m3⟩ := blk4 HG0.out
  obtain ⟨⟨a0, a1⟩, _, _⟩ := blk2 HG1.out
  obtain ⟨⟨b0, b1⟩, _, _⟩ := blk2 HG2.out
  obtain ⟨⟨c0_, c1_⟩, _, _⟩ := blk2 HG3.out
  go_enter Try.func4, Try.ntmps4
  go_wp2_with fail
  refine (fitsC (Zhm.out.below HB.out) (Zh1.out.below HB.out)).mono ?_
  rintro e v1 ⟨rfl, hb⟩
  rw [Zf1.out]
  clear m0 m1 m2 m3 a0 a1 b0 b1 c0_ c1_
  replace HG0 := Aside0.mk (blk_below HG0.out hb)
  replace HG1 := Aside0.mk (blk_below HG1.out hb)
  replace HG2 := Aside0.mk (blk_below HG2.out hb)
  replace HG3 := Aside0.mk (blk_below HG3.out hb)
  replace HB := Aside0.mk (below_step HB.out hb)
  clear hb
  obtain ⟨m0, m1, m2, m3⟩ := blk4 HG0.out
  obtain ⟨⟨a0, a1⟩, _, _⟩ := blk2 HG1.out
  obtain ⟨⟨b0, b1⟩, _, _⟩ := blk2 HG2.out
  obtain ⟨⟨c0_, c1_⟩, _, _⟩ := blk2 HG3.out
  go_wp2_with fail
  refine (awakeC _).mono ?_
  rintro e v2 ⟨rfl, hb⟩
  clear m0 m1 m2 m3 a0 a1 b0 b1 c0_ c1_
  replace HG0 := Aside0.mk (blk_below HG0.out hb)
  replace HG1 := Aside0.mk (blk_below HG1.out hb)
  replace HG2 := Aside0.mk (blk_below HG2.out hb)
  replace HG3 := Aside0.mk (blk_below HG3.out hb)
  replace HB := Aside0.mk (below_step HB.out hb)
  clear hb
  obtain ⟨m0, m1, m2, m3⟩ := blk4 HG0.out
  obtain ⟨⟨a0, a1⟩, _, _⟩ := blk2 HG1.out
  obtain ⟨⟨b0, b1⟩, _, _⟩ := blk2 HG2.out
  obtain ⟨⟨c0_, c1_⟩, _, _⟩ := blk2 HG3.out
  go_wp2_with fail
  refine (fitsC (Zhm.out.below HB.out) (Zh1.out.below HB.out)).mono ?_
  rintro e v3 ⟨rfl, hb⟩
  rw [Zf1.out]
  clear m0 m1 m2 m3 a0 a1 b0 b1 c0_ c1_
  replace HG0 := Aside0.mk (blk_below HG0.out hb)
  replace HG1 := Aside0.mk (blk_below HG1.out hb)
  replace HG2 := Aside0.mk (blk_below HG2.out hb)
  replace HG3 := Aside0.mk (blk_below HG3.out hb)
  replace HB := Aside0.mk (below_step HB.out hb)
  clear hb
  obtain ⟨m0, m1, m2, m3⟩ := blk4 HG0.out
  obtain ⟨⟨a0, a1⟩, _, _⟩ := blk2 HG1.out
  obtain ⟨⟨b0, b1⟩, _, _⟩ := blk2 HG2.out
  obtain ⟨⟨c0_, c1_⟩, _, _⟩ := blk2 HG3.out
  go_wp2_with fail
  refine (alikeC (Zhm.out.below HB.out) (Zh1.out.below HB.out) (Zh1.out.below HB.out) l B ZhB.out Zs1.out Zs1.out).mono ?_
  rintro e v4 ⟨rfl, hb⟩
  rw [alikeB_no Zf1.out]
  clear m0 m1 m2 m3 a0 a1 b0 b1 c0_ c1_
  replace HG0 := Aside0.mk (blk_below HG0.out hb)
  replace HG1 := Aside0.mk (blk_below HG1.out hb)
  replace HG2 := Aside0.mk (blk_below HG2.out hb)
  replace HG3 := Aside0.mk (blk_below HG3.out hb)
  replace HB := Aside0.mk (below_step HB.out hb)
  clear hb
  obtain ⟨m0, m1, m2, m3⟩ := blk4 HG0.out
  obtain ⟨⟨a0, a1⟩, _, _⟩ := blk2 HG1.out
  obtain ⟨⟨b0, b1⟩, _, _⟩ := blk2 HG2.out
  obtain ⟨⟨c0_, c1_⟩, _, _⟩ := blk2 HG3.out
  go_wp2
  go_ret
  exact ⟨rfl, HB.out⟩
set_option maxHeartbeats 16000000 in
set_option maxRecDepth 100000 in
theorem viewOrder.no2 (A0 A1 A2 A3 : Option Addr) (c0 c1 c2 c3 : Nat) (gs : List Int) (arr : List S57) (l2 : List Int) (l3 : List S48) (P1 Q1 : Option Addr) (p1 q1 : Nat) (g1 : List Int) (r1 : List (List Int)) (P2 Q2 : Option Addr) (p2 q2 : Nat) (g2 : List Int) (r2 : List (List Int)) (P3 Q3 : Option Addr) (p3 q3 : Nat) (g3 : List Int) (r3 : List (List Int)) (l less : Int) (w : World) (hm : ModR w (.agg #[.slice A0 gs.length c0, .slice A1 arr.length c1, .slice A2 l2.length c2, .slice A3 l3.length c3]) gs arr l2 l3) (h1 : MemR w (.agg #[.slice P1 g1.length p1, .slice Q1 r1.length q1]) g1 r1) (h2 : MemR w (.agg #[.slice P2 g2.length p2, .slice Q2 r2.length q2]) g2 r2) (h3 : MemR w (.agg #[.slice P3 g3.length p3, .slice Q3 r3.length q3]) g3 r3) (B : Nat) (hB : B ≤ 17592186044415) (s1 : Sized B g1 r1) (s2 : Sized B g2 r2) (s3 : Sized B g3 r3) (f1 : fitsB gs arr g1 r1 = true) (f2 : fitsB gs arr g2 r2 = false) :
    Calls Try.prog 4 #[.agg #[.slice A0 gs.length c0, .slice A1 arr.length c1, .slice A2 l2.length c2, .slice A3 l3.length c3], .int .u64 l, .int .u64 less, .agg #[.slice P1 g1.length p1, .slice Q1 r1.length q1], .agg #[.slice P2 g2.length p2, .slice Q2 r2.length q2], .agg #[.slice P3 g3.length p3, .slice Q3 r3.length q3]] w fun e w' => e = .returned (.bool true) ∧ Below w.heap.size w w' := by
  have Zhm := Aside0.mk hm
  have Zh1 := Aside0.mk h1
  have Zh2 := Aside0.mk h2
  have Zh3 := Aside0.mk h3
  have ZhB := Aside0.mk hB
  have Zs1 := Aside0.mk s1
  have Zs2 := Aside0.mk s2
  have Zs3 := Aside0.mk s3
  have Zf1 := Aside0.mk f1
  have Zf2 := Aside0.mk f2
  clear hm h1 h2 h3 hB s1 s2 s3 f1 f2
  have HB := Aside0.mk (below_alloc (below_alloc (below_alloc (below_alloc (Below.refl w.heap.size w) (.cells #[.slice A0 gs.length c0, .slice A1 arr.length c1, .slice A2 l2.length c2, .slice A3 l3.length c3] 26)) (.cells #[.slice P1 g1.length p1, .slice Q1 r1.length q1] 30)) (.cells #[.slice P2 g2.length p2, .slice Q2 r2.length q2] 30)) (.cells #[.slice P3 g3.length p3, .slice Q3 r3.length q3] 30))
  have G0_ : (w.alloc (.cells #[.slice A0 gs.length c0, .slice A1 arr.length c1, .slice A2 l2.length c2, .slice A3 l3.length c3] 26)).heap[w.heap.size + 0]? = some (.cells #[.slice A0 gs.length c0, .slice A1 arr.length c1, .slice A2 l2.length c2, .slice A3 l3.length c3] 26 (0, 0)) := by
    have := heap_alloc_new w (.cells #[.slice A0 gs.length c0, .slice A1 arr.length c1, .slice A2 l2.length c2, .slice A3 l3.length c3] 26)
    simpa using this
  have HG0 := Aside0.mk (blk_alloc (blk_alloc (blk_alloc (G0_) (.cells #[.slice P1 g1.length p1, .slice Q1 r1.length q1] 30)) (.cells #[.slice P2 g2.length p2, .slice Q2 r2.length q2] 30)) (.cells #[.slice P3 g3.length p3, .slice Q3 r3.length q3] 30))
  clear G0_
  have G1_ : ((w.alloc (.cells #[.slice A0 gs.length c0, .slice A1 arr.length c1, .slice A2 l2.length c2, .slice A3 l3.length c3] 26)).alloc (.cells #[.slice P1 g1.length p1, .slice Q1 r1.length q1] 30)).heap[w.heap.size + 1]? = some (.cells #[.slice P1 g1.length p1, .slice Q1 r1.length q1] 30 (0, 0)) := by
    have := heap_alloc_new (w.alloc (.cells #[.slice A0 gs.length c0, .slice A1 arr.length c1, .slice A2 l2.length c2, .slice A3 l3.length c3] 26)) (.cells #[.slice P1 g1.length p1, .slice Q1 r1.length q1] 30)
    simpa using this
  have HG1 := Aside0.mk (blk_alloc (blk_alloc (G1_) (.cells #[.slice P2 g2.length p2, .slice Q2 r2.length q2] 30)) (.cells #[.slice P3 g3.length p3, .slice Q3 r3.length q3] 30))
  clear G1_
  have G2_ : (((w.alloc (.cells #[.slice A0 gs.length c0, .slice A1 arr.length c1, .slice A2 l2.length c2, .slice A3 l3.length c3] 26)).alloc (.cells #[.slice P1 g1.length p1, .slice Q1 r1.length q1] 30)).alloc (.cells #[.slice P2 g2.length p2, .slice Q2 r2.length q2] 30)).heap[w.heap.size + 2]? = some (.cells #[.slice P2 g2.length p2, .slice Q2 r2.length q2] 30 (0, 0)) := by
    have := heap_alloc_new ((w.alloc (.cells #[.slice A0 gs.length c0, .slice A1 arr.length c1, .slice A2 l2.length c2, .slice A3 l3.length c3] 26)).alloc (.cells #[.slice P1 g1.length p1, .slice Q1 r1.length q1] 30)) (.cells #[.slice P2 g2.length p2, .slice Q2 r2.length q2] 30)
    simpa using this
  have HG2 := Aside0.mk (blk_alloc (G2_) (.cells #[.slice P3 g3.length p3, .slice Q3 r3.length q3] 30))
  clear G2_
  have G3_ : ((((w.alloc (.cells #[.slice A0 gs.length c0, .slice A1 arr.length c1, .slice A2 l2.length c2, .slice A3 l3.length c3] 26)).alloc (.cells #[.slice P1 g1.length p1, .slice Q1 r1.length q1] 30)).alloc (.cells #[.slice P2 g2.length p2, .slice Q2 r2.length q2] 30)).alloc (.cells #[.slice P3 g3.length p3, .slice Q3 r3.length q3] 30)).heap[w.heap.size + 3]? = some (.cells #[.slice P3 g3.length p3, .slice Q3 r3.length q3] 30 (0, 0)) := by
    have := heap_alloc_new (((w.alloc (.cells #[.slice A0 gs.length c0, .slice A1 arr.length c1, .slice A2 l2.length c2, .slice A3 l3.length c3] 26)).alloc (.cells #[.slice P1 g1.length p1, .slice Q1 r1.length q1] 30)).alloc (.cells #[.slice P2 g2.length p2, .slice Q2 r2.length q2] 30)) (.cells #[.slice P3 g3.length p3, .slice Q3 r3.length q3] 30)
    simpa using this
  have HG3 := Aside0.mk (G3_)
  clear G3_
  simp only [Nat.add_zero] at HG0
  obtain ⟨m0, m1, m2, m3⟩ := blk4 HG0.out
  obtain ⟨⟨a0, a1⟩, _, _⟩ := blk2 HG1.out
  obtain ⟨⟨b0, b1⟩, _, _⟩ := blk2 HG2.out
  obtain ⟨⟨c0_, c1_⟩, _, _⟩ := blk2 HG3.out
  go_enter Try.func4, Try.ntmps4
  go_wp2_with fail
  refine (fitsC (Zhm.out.below HB.out) (Zh1.out.below HB.out)).mono ?_
  rintro e v5 ⟨rfl, hb⟩
  rw [Zf1.out]
  clear m0 m1 m2 m3 a0 a1 b0 b1 c0_ c1_
  replace HG0 := Aside0.mk (blk_below HG0.out hb)
  replace HG1 := Aside0.mk (blk_below HG1.out hb)
  replace HG2 := Aside0.mk (blk_below HG2.out hb)
  replace HG3 := Aside0.mk (blk_below HG3.out hb)
  replace HB := Aside0.mk (below_step HB.out hb)
  clear hb
  obtain ⟨m0, m1, m2, m3⟩ := blk4 HG0.out
  obtain ⟨⟨a0, a1⟩, _, _⟩ := blk2 HG1.out
  obtain ⟨⟨b0, b1⟩, _, _⟩ := blk2 HG2.out
  obtain ⟨⟨c0_, c1_⟩, _, _⟩ := blk2 HG3.out
  go_wp2_with fail
  refine (fitsC (Zhm.out.below HB.out) (Zh2.out.below HB.out)).mono ?_
  rintro e v6 ⟨rfl, hb⟩
  rw [Zf2.out]
  clear m0 m1 m2 m3 a0 a1 b0 b1 c0_ c1_
  replace HG0 := Aside0.mk (blk_below HG0.out hb)
  replace HG1 := Aside0.mk (blk_below HG1.out hb)
  replace HG2 := Aside0.mk (blk_below HG2.out hb)
  replace HG3 := Aside0.mk (blk_below HG3.out hb)
  replace HB := Aside0.mk (below_step HB.out hb)
  clear hb
  obtain ⟨m0, m1, m2, m3⟩ := blk4 HG0.out
  obtain ⟨⟨a0, a1⟩, _, _⟩ := blk2 HG1.out
  obtain ⟨⟨b0, b1⟩, _, _⟩ := blk2 HG2.out
  obtain ⟨⟨c0_, c1_⟩, _, _⟩ := blk2 HG3.out
  go_wp2_with fail
  refine (awakeC _).mono ?_
  rintro e v7 ⟨rfl, hb⟩
  clear m0 m1 m2 m3 a0 a1 b0 b1 c0_ c1_
  replace HG0 := Aside0.mk (blk_below HG0.out hb)
  replace HG1 := Aside0.mk (blk_below HG1.out hb)
  replace HG2 := Aside0.mk (blk_below HG2.out hb)
  replace HG3 := Aside0.mk (blk_below HG3.out hb)
  replace HB := Aside0.mk (below_step HB.out hb)
  clear hb
  obtain ⟨m0, m1, m2, m3⟩ := blk4 HG0.out
  obtain ⟨⟨a0, a1⟩, _, _⟩ := blk2 HG1.out
  obtain ⟨⟨b0, b1⟩, _, _⟩ := blk2 HG2.out
  obtain ⟨⟨c0_, c1_⟩, _, _⟩ := blk2 HG3.out
  go_wp2_with fail
  refine (fitsC (Zhm.out.below HB.out) (Zh1.out.below HB.out)).mono ?_
  rintro e v8 ⟨rfl, hb⟩
  rw [Zf1.out]
  clear m0 m1 m2 m3 a0 a1 b0 b1 c0_ c1_
  replace HG0 := Aside0.mk (blk_below HG0.out hb)
  replace HG1 := Aside0.mk (blk_below HG1.out hb)
  replace HG2 := Aside0.mk (blk_below HG2.out hb)
  replace HG3 := Aside0.mk (blk_below HG3.out hb)
  replace HB := Aside0.mk (below_step HB.out hb)
  clear hb
  obtain ⟨m0, m1, m2, m3⟩ := blk4 HG0.out
  obtain ⟨⟨a0, a1⟩, _, _⟩ := blk2 HG1.out
  obtain ⟨⟨b0, b1⟩, _, _⟩ := blk2 HG2.out
  obtain ⟨⟨c0_, c1_⟩, _, _⟩ := blk2 HG3.out
  go_wp2
  go_ret
  exact ⟨rfl, HB.out⟩
set_option maxHeartbeats 16000000 in
set_option maxRecDepth 100000 in
theorem viewOrder.no3 (A0 A1 A2 A3 : Option Addr) (c0 c1 c2 c3 : Nat) (gs : List Int) (arr : List S57) (l2 : List Int) (l3 : List S48) (P1 Q1 : Option Addr) (p1 q1 : Nat) (g1 : List Int) (r1 : List (List Int)) (P2 Q2 : Option Addr) (p2 q2 : Nat) (g2 : List Int) (r2 : List (List Int)) (P3 Q3 : Option Addr) (p3 q3 : Nat) (g3 : List Int) (r3 : List (List Int)) (l less : Int) (w : World) (hm : ModR w (.agg #[.slice A0 gs.length c0, .slice A1 arr.length c1, .slice A2 l2.length c2, .slice A3 l3.length c3]) gs arr l2 l3) (h1 : MemR w (.agg #[.slice P1 g1.length p1, .slice Q1 r1.length q1]) g1 r1) (h2 : MemR w (.agg #[.slice P2 g2.length p2, .slice Q2 r2.length q2]) g2 r2) (h3 : MemR w (.agg #[.slice P3 g3.length p3, .slice Q3 r3.length q3]) g3 r3) (B : Nat) (hB : B ≤ 17592186044415) (s1 : Sized B g1 r1) (s2 : Sized B g2 r2) (s3 : Sized B g3 r3) (f1 : fitsB gs arr g1 r1 = true) (f2 : fitsB gs arr g2 r2 = true) (f3 : fitsB gs arr g3 r3 = false) :
    Calls Try.prog 4 #[.agg #[.slice A0 gs.length c0, .slice A1 arr.length c1, .slice A2 l2.length c2, .slice A3 l3.length c3], .int .u64 l, .int .u64 less, .agg #[.slice P1 g1.length p1, .slice Q1 r1.length q1], .agg #[.slice P2 g2.length p2, .slice Q2 r2.length q2], .agg #[.slice P3 g3.length p3, .slice Q3 r3.length q3]] w fun e w' => e = .returned (.bool true) ∧ Below w.heap.size w w' := by
  have Zhm := Aside0.mk hm
  have Zh1 := Aside0.mk h1
  have Zh2 := Aside0.mk h2
  have Zh3 := Aside0.mk h3
  have ZhB := Aside0.mk hB
  have Zs1 := Aside0.mk s1
  have Zs2 := Aside0.mk s2
  have Zs3 := Aside0.mk s3
  have Zf1 := Aside0.mk f1
  have Zf2 := Aside0.mk f2
  have Zf3 := Aside0.mk f3
  clear hm h1 h2 h3 hB s1 s2 s3 f1 f2 f3
  have HB := Aside0.mk (below_alloc (below_alloc (below_alloc (below_alloc (Below.refl w.heap.size w) (.cells #[.slice A0 gs.length c0, .slice A1 arr.length c1, .slice A2 l2.length c2, .slice A3 l3.length c3] 26)) (.cells #[.slice P1 g1.length p1, .slice Q1 r1.length q1] 30)) (.cells #[.slice P2 g2.length p2, .slice Q2 r2.length q2] 30)) (.cells #[.slice P3 g3.length p3, .slice Q3 r3.length q3] 30))
  have G0_ : (w.alloc (.cells #[.slice A0 gs.length c0, .slice A1 arr.length c1, .slice A2 l2.length c2, .slice A3 l3.length c3] 26)).heap[w.heap.size + 0]? = some (.cells #[.slice A0 gs.length c0, .slice A1 arr.length c1, .slice A2 l2.length c2, .slice A3 l3.length c3] 26 (0, 0)) := by
    have := heap_alloc_new w (.cells #[.slice A0 gs.length c0, .slice A1 arr.length c1, .slice A2 l2.length c2, .slice A3 l3.length c3] 26)
    simpa using this
  have HG0 := Aside0.mk (blk_alloc (blk_alloc (blk_alloc (G0_) (.cells #[.slice P1 g1.length p1, .slice Q1 r1.length q1] 30)) (.cells #[.slice P2 g2.length p2, .slice Q2 r2.length q2] 30)) (.cells #[.slice P3 g3.length p3, .slice Q3 r3.length q3] 30))
  clear G0_
  have G1_ : ((w.alloc (.cells #[.slice A0 gs.length c0, .slice A1 arr.length c1, .slice A2 l2.length c2, .slice A3 l3.length c3] 26)).alloc (.cells #[.slice P1 g1.length p1, .slice Q1 r1.length q1] 30)).heap[w.heap.size + 1]? = some (.cells #[.slice P1 g1.length p1, .slice Q1 r1.length q1] 30 (0, 0)) := by
    have := heap_alloc_new (w.alloc (.cells #[.slice A0 gs.length c0, .slice A1 arr.length c1, .slice A2 l2.length c2, .slice A3 l3.length c3] 26)) (.cells #[.slice P1 g1.length p1, .slice Q1 r1.length q1] 30)
    simpa using this
  have HG1 := Aside0.mk (blk_alloc (blk_alloc (G1_) (.cells #[.slice P2 g2.length p2, .slice Q2 r2.length q2] 30)) (.cells #[.slice P3 g3.length p3, .slice Q3 r3.length q3] 30))
  clear G1_
  have G2_ : (((w.alloc (.cells #[.slice A0 gs.length c0, .slice A1 arr.length c1, .slice A2 l2.length c2, .slice A3 l3.length c3] 26)).alloc (.cells #[.slice P1 g1.length p1, .slice Q1 r1.length q1] 30)).alloc (.cells #[.slice P2 g2.length p2, .slice Q2 r2.length q2] 30)).heap[w.heap.size + 2]? = some (.cells #[.slice P2 g2.length p2, .slice Q2 r2.length q2] 30 (0, 0)) := by
    have := heap_alloc_new ((w.alloc (.cells #[.slice A0 gs.length c0, .slice A1 arr.length c1, .slice A2 l2.length c2, .slice A3 l3.length c3] 26)).alloc (.cells #[.slice P1 g1.length p1, .slice Q1 r1.length q1] 30)) (.cells #[.slice P2 g2.length p2, .slice Q2 r2.length q2] 30)
    simpa using this
  have HG2 := Aside0.mk (blk_alloc (G2_) (.cells #[.slice P3 g3.length p3, .slice Q3 r3.length q3] 30))
  clear G2_
  have G3_ : ((((w.alloc (.cells #[.slice A0 gs.length c0, .slice A1 arr.length c1, .slice A2 l2.length c2, .slice A3 l3.length c3] 26)).alloc (.cells #[.slice P1 g1.length p1, .slice Q1 r1.length q1] 30)).alloc (.cells #[.slice P2 g2.length p2, .slice Q2 r2.length q2] 30)).alloc (.cells #[.slice P3 g3.length p3, .slice Q3 r3.length q3] 30)).heap[w.heap.size + 3]? = some (.cells #[.slice P3 g3.length p3, .slice Q3 r3.length q3] 30 (0, 0)) := by
    have := heap_alloc_new (((w.alloc (.cells #[.slice A0 gs.length c0, .slice A1 arr.length c1, .slice A2 l2.length c2, .slice A3 l3.length c3] 26)).alloc (.cells #[.slice P1 g1.length p1, .slice Q1 r1.length q1] 30)).alloc (.cells #[.slice P2 g2.length p2, .slice Q2 r2.length q2] 30)) (.cells #[.slice P3 g3.length p3, .slice Q3 r3.length q3] 30)
    simpa using this
  have HG3 := Aside0.mk (G3_)
  clear G3_
  simp only [Nat.add_zero] at HG0
  obtain ⟨m0, m1, m2, m3⟩ := blk4 HG0.out
  obtain ⟨⟨a0, a1⟩, _, _⟩ := blk2 HG1.out
  obtain ⟨⟨b0, b1⟩, _, _⟩ := blk2 HG2.out
  obtain ⟨⟨c0_, c1_⟩, _, _⟩ := blk2 HG3.out
  go_enter Try.func4, Try.ntmps4
  go_wp2_with fail
  refine (fitsC (Zhm.out.below HB.out) (Zh1.out.below HB.out)).mono ?_
  rintro e v9 ⟨rfl, hb⟩
  rw [Zf1.out]
  clear m0 m1 m2 m3 a0 a1 b0 b1 c0_ c1_
  replace HG0 := Aside0.mk (blk_below HG0.out hb)
  replace HG1 := Aside0.mk (blk_below HG1.out hb)
  replace HG2 := Aside0.mk (blk_below HG2.out hb)
  replace HG3 := Aside0.mk (blk_below HG3.out hb)
  replace HB := Aside0.mk (below_step HB.out hb)
  clear hb
  obtain ⟨m0, m1, m2, m3⟩ := blk4 HG0.out
  obtain ⟨⟨a0, a1⟩, _, _⟩ := blk2 HG1.out
  obtain ⟨⟨b0, b1⟩, _, _⟩ := blk2 HG2.out
  obtain ⟨⟨c0_, c1_⟩, _, _⟩ := blk2 HG3.out
  go_wp2_with fail
  refine (fitsC (Zhm.out.below HB.out) (Zh2.out.below HB.out)).mono ?_
  rintro e v10 ⟨rfl, hb⟩
  rw [Zf2.out]
  clear m0 m1 m2 m3 a0 a1 b0 b1 c0_ c1_
  replace HG0 := Aside0.mk (blk_below HG0.out hb)
  replace HG1 := Aside0.mk (blk_below HG1.out hb)
  replace HG2 := Aside0.mk (blk_below HG2.out hb)
  replace HG3 := Aside0.mk (blk_below HG3.out hb)
  replace HB := Aside0.mk (below_step HB.out hb)
  clear hb
  obtain ⟨m0, m1, m2, m3⟩ := blk4 HG0.out
  obtain ⟨⟨a0, a1⟩, _, _⟩ := blk2 HG1.out
  obtain ⟨⟨b0, b1⟩, _, _⟩ := blk2 HG2.out
  obtain ⟨⟨c0_, c1_⟩, _, _⟩ := blk2 HG3.out
  go_wp2_with fail
  refine (fitsC (Zhm.out.below HB.out) (Zh3.out.below HB.out)).mono ?_
  rintro e v11 ⟨rfl, hb⟩
  rw [Zf3.out]
  clear m0 m1 m2 m3 a0 a1 b0 b1 c0_ c1_
  replace HG0 := Aside0.mk (blk_below HG0.out hb)
  replace HG1 := Aside0.mk (blk_below HG1.out hb)
  replace HG2 := Aside0.mk (blk_below HG2.out hb)
  replace HG3 := Aside0.mk (blk_below HG3.out hb)
  replace HB := Aside0.mk (below_step HB.out hb)
  clear hb
  obtain ⟨m0, m1, m2, m3⟩ := blk4 HG0.out
  obtain ⟨⟨a0, a1⟩, _, _⟩ := blk2 HG1.out
  obtain ⟨⟨b0, b1⟩, _, _⟩ := blk2 HG2.out
  obtain ⟨⟨c0_, c1_⟩, _, _⟩ := blk2 HG3.out
  go_wp2_with fail
  refine (awakeC _).mono ?_
  rintro e v12 ⟨rfl, hb⟩
  clear m0 m1 m2 m3 a0 a1 b0 b1 c0_ c1_
  replace HG0 := Aside0.mk (blk_below HG0.out hb)
  replace HG1 := Aside0.mk (blk_below HG1.out hb)
  replace HG2 := Aside0.mk (blk_below HG2.out hb)
  replace HG3 := Aside0.mk (blk_below HG3.out hb)
  replace HB := Aside0.mk (below_step HB.out hb)
  clear hb
  obtain ⟨m0, m1, m2, m3⟩ := blk4 HG0.out
  obtain ⟨⟨a0, a1⟩, _, _⟩ := blk2 HG1.out
  obtain ⟨⟨b0, b1⟩, _, _⟩ := blk2 HG2.out
  obtain ⟨⟨c0_, c1_⟩, _, _⟩ := blk2 HG3.out
  go_wp2_with fail
  refine (fitsC (Zhm.out.below HB.out) (Zh1.out.below HB.out)).mono ?_
  rintro e v13 ⟨rfl, hb⟩
  rw [Zf1.out]
  clear m0 m1 m2 m3 a0 a1 b0 b1 c0_ c1_
  replace HG0 := Aside0.mk (blk_below HG0.out hb)
  replace HG1 := Aside0.mk (blk_below HG1.out hb)
  replace HG2 := Aside0.mk (blk_below HG2.out hb)
  replace HG3 := Aside0.mk (blk_below HG3.out hb)
  replace HB := Aside0.mk (below_step HB.out hb)
  clear hb
  obtain ⟨m0, m1, m2, m3⟩ := blk4 HG0.out
  obtain ⟨⟨a0, a1⟩, _, _⟩ := blk2 HG1.out
  obtain ⟨⟨b0, b1⟩, _, _⟩ := blk2 HG2.out
  obtain ⟨⟨c0_, c1_⟩, _, _⟩ := blk2 HG3.out
  go_wp2
  go_ret
  exact ⟨rfl, HB.out⟩
set_option maxHeartbeats 16000000 in
set_option maxRecDepth 100000 in
theorem viewOrder.yes0 (A0 A1 A2 A3 : Option Addr) (c0 c1 c2 c3 : Nat) (gs : List Int) (arr : List S57) (l2 : List Int) (l3 : List S48) (P1 Q1 : Option Addr) (p1 q1 : Nat) (g1 : List Int) (r1 : List (List Int)) (P2 Q2 : Option Addr) (p2 q2 : Nat) (g2 : List Int) (r2 : List (List Int)) (P3 Q3 : Option Addr) (p3 q3 : Nat) (g3 : List Int) (r3 : List (List Int)) (l less : Int) (w : World) (hm : ModR w (.agg #[.slice A0 gs.length c0, .slice A1 arr.length c1, .slice A2 l2.length c2, .slice A3 l3.length c3]) gs arr l2 l3) (h1 : MemR w (.agg #[.slice P1 g1.length p1, .slice Q1 r1.length q1]) g1 r1) (h2 : MemR w (.agg #[.slice P2 g2.length p2, .slice Q2 r2.length q2]) g2 r2) (h3 : MemR w (.agg #[.slice P3 g3.length p3, .slice Q3 r3.length q3]) g3 r3) (B : Nat) (hB : B ≤ 17592186044415) (s1 : Sized B g1 r1) (s2 : Sized B g2 r2) (s3 : Sized B g3 r3) (f1 : fitsB gs arr g1 r1 = true) (f2 : fitsB gs arr g2 r2 = true) (f3 : fitsB gs arr g3 r3 = true) (wg : ∀ a ∈ gs, (Lit.int .u64 a).wf = true) (wa : ∀ a ∈ arr, (Lit.int .u64 a.f1).wf = true) (wl : (Lit.int .u64 l).wf = true) (wm : (Lit.int .u64 less).wf = true) (ab : alikeB gs arr l g1 r1 g2 r2 = false) :
    Calls Try.prog 4 #[.agg #[.slice A0 gs.length c0, .slice A1 arr.length c1, .slice A2 l2.length c2, .slice A3 l3.length c3], .int .u64 l, .int .u64 less, .agg #[.slice P1 g1.length p1, .slice Q1 r1.length q1], .agg #[.slice P2 g2.length p2, .slice Q2 r2.length q2], .agg #[.slice P3 g3.length p3, .slice Q3 r3.length q3]] w fun e w' => e = .returned (.bool true) ∧ Below w.heap.size w w' := by
  have Zhm := Aside0.mk hm
  have Zh1 := Aside0.mk h1
  have Zh2 := Aside0.mk h2
  have Zh3 := Aside0.mk h3
  have ZhB := Aside0.mk hB
  have Zs1 := Aside0.mk s1
  have Zs2 := Aside0.mk s2
  have Zs3 := Aside0.mk s3
  have Zf1 := Aside0.mk f1
  have Zf2 := Aside0.mk f2
  have Zf3 := Aside0.mk f3
  have Zwg := Aside0.mk wg
  have Zwa := Aside0.mk wa
  have Zwl := Aside0.mk wl
  have Zwm := Aside0.mk wm
  have Zab := Aside0.mk ab
  clear hm h1 h2 h3 hB s1 s2 s3 f1 f2 f3 wg wa wl wm ab
  have HB := Aside0.mk (below_alloc (below_alloc (below_alloc (below_alloc (Below.refl w.heap.size w) (.cells #[.slice A0 gs.length c0, .slice A1 arr.length c1, .slice A2 l2.length c2, .slice A3 l3.length c3] 26)) (.cells #[.slice P1 g1.length p1, .slice Q1 r1.length q1] 30)) (.cells #[.slice P2 g2.length p2, .slice Q2 r2.length q2] 30)) (.cells #[.slice P3 g3.length p3, .slice Q3 r3.length q3] 30))
  have G0_ : (w.alloc (.cells #[.slice A0 gs.length c0, .slice A1 arr.length c1, .slice A2 l2.length c2, .slice A3 l3.length c3] 26)).heap[w.heap.size + 0]? = some (.cells #[.slice A0 gs.length c0, .slice A1 arr.length c1, .slice A2 l2.length c2, .slice A3 l3.length c3] 26 (0, 0)) := by
    have := heap_alloc_new w (.cells #[.slice A0 gs.length c0, .slice A1 arr.length c1, .slice A2 l2.length c2, .slice A3 l3.length c3] 26)
    simpa using this
  have HG0 := Aside0.mk (blk_alloc (blk_alloc (blk_alloc (G0_) (.cells #[.slice P1 g1.length p1, .slice Q1 r1.length q1] 30)) (.cells #[.slice P2 g2.length p2, .slice Q2 r2.length q2] 30)) (.cells #[.slice P3 g3.length p3, .slice Q3 r3.length q3] 30))
  clear G0_
  have G1_ : ((w.alloc (.cells #[.slice A0 gs.length c0, .slice A1 arr.length c1, .slice A2 l2.length c2, .slice A3 l3.length c3] 26)).alloc (.cells #[.slice P1 g1.length p1, .slice Q1 r1.length q1] 30)).heap[w.heap.size + 1]? = some (.cells #[.slice P1 g1.length p1, .slice Q1 r1.length q1] 30 (0, 0)) := by
    have := heap_alloc_new (w.alloc (.cells #[.slice A0 gs.length c0, .slice A1 arr.length c1, .slice A2 l2.length c2, .slice A3 l3.length c3] 26)) (.cells #[.slice P1 g1.length p1, .slice Q1 r1.length q1] 30)
    simpa using this
  have HG1 := Aside0.mk (blk_alloc (blk_alloc (G1_) (.cells #[.slice P2 g2.length p2, .slice Q2 r2.length q2] 30)) (.cells #[.slice P3 g3.length p3, .slice Q3 r3.length q3] 30))
  clear G1_
  have G2_ : (((w.alloc (.cells #[.slice A0 gs.length c0, .slice A1 arr.length c1, .slice A2 l2.length c2, .slice A3 l3.length c3] 26)).alloc (.cells #[.slice P1 g1.length p1, .slice Q1 r1.length q1] 30)).alloc (.cells #[.slice P2 g2.length p2, .slice Q2 r2.length q2] 30)).heap[w.heap.size + 2]? = some (.cells #[.slice P2 g2.length p2, .slice Q2 r2.length q2] 30 (0, 0)) := by
    have := heap_alloc_new ((w.alloc (.cells #[.slice A0 gs.length c0, .slice A1 arr.length c1, .slice A2 l2.length c2, .slice A3 l3.length c3] 26)).alloc (.cells #[.slice P1 g1.length p1, .slice Q1 r1.length q1] 30)) (.cells #[.slice P2 g2.length p2, .slice Q2 r2.length q2] 30)
    simpa using this
  have HG2 := Aside0.mk (blk_alloc (G2_) (.cells #[.slice P3 g3.length p3, .slice Q3 r3.length q3] 30))
  clear G2_
  have G3_ : ((((w.alloc (.cells #[.slice A0 gs.length c0, .slice A1 arr.length c1, .slice A2 l2.length c2, .slice A3 l3.length c3] 26)).alloc (.cells #[.slice P1 g1.length p1, .slice Q1 r1.length q1] 30)).alloc (.cells #[.slice P2 g2.length p2, .slice Q2 r2.length q2] 30)).alloc (.cells #[.slice P3 g3.length p3, .slice Q3 r3.length q3] 30)).heap[w.heap.size + 3]? = some (.cells #[.slice P3 g3.length p3, .slice Q3 r3.length q3] 30 (0, 0)) := by
    have := heap_alloc_new (((w.alloc (.cells #[.slice A0 gs.length c0, .slice A1 arr.length c1, .slice A2 l2.length c2, .slice A3 l3.length c3] 26)).alloc (.cells #[.slice P1 g1.length p1, .slice Q1 r1.length q1] 30)).alloc (.cells #[.slice P2 g2.length p2, .slice Q2 r2.length q2] 30)) (.cells #[.slice P3 g3.length p3, .slice Q3 r3.length q3] 30)
    simpa using this
  have HG3 := Aside0.mk (G3_)
  clear G3_
  simp only [Nat.add_zero] at HG0
  obtain ⟨m0, m1, m2, m3⟩ := blk4 HG0.out
  obtain ⟨⟨a0, a1⟩, _, _⟩ := blk2 HG1.out
  obtain ⟨⟨b0, b1⟩, _, _⟩ := blk2 HG2.out
  obtain ⟨⟨c0_, c1_⟩, _, _⟩ := blk2 HG3.out
  go_enter Try.func4, Try.ntmps4
  go_wp2_with fail
  refine (fitsC (Zhm.out.below HB.out) (Zh1.out.below HB.out)).mono ?_
  rintro e v14 ⟨rfl, hb⟩
  rw [Zf1.out]
  clear m0 m1 m2 m3 a0 a1 b0 b1 c0_ c1_
  replace HG0 := Aside0.mk (blk_below HG0.out hb)
  replace HG1 := Aside0.mk (blk_below HG1.out hb)
  replace HG2 := Aside0.mk (blk_below HG2.out hb)
  replace HG3 := Aside0.mk (blk_below HG3.out hb)
  replace HB := Aside0.mk (below_step HB.out hb)
  clear hb
  obtain ⟨m0, m1, m2, m3⟩ := blk4 HG0.out
  obtain ⟨⟨a0, a1⟩, _, _⟩ := blk2 HG1.out
  obtain ⟨⟨b0, b1⟩, _, _⟩ := blk2 HG2.out
  obtain ⟨⟨c0_, c1_⟩, _, _⟩ := blk2 HG3.out
  go_wp2_with fail
  refine (fitsC (Zhm.out.below HB.out) (Zh2.out.below HB.out)).mono ?_
  rintro e v15 ⟨rfl, hb⟩
  rw [Zf2.out]
  clear m0 m1 m2 m3 a0 a1 b0 b1 c0_ c1_
  replace HG0 := Aside0.mk (blk_below HG0.out hb)
  replace HG1 := Aside0.mk (blk_below HG1.out hb)
  replace HG2 := Aside0.mk (blk_below HG2.out hb)
  replace HG3 := Aside0.mk (blk_below HG3.out hb)
  replace HB := Aside0.mk (below_step HB.out hb)
  clear hb
  obtain ⟨m0, m1, m2, m3⟩ := blk4 HG0.out
  obtain ⟨⟨a0, a1⟩, _, _⟩ := blk2 HG1.out
  obtain ⟨⟨b0, b1⟩, _, _⟩ := blk2 HG2.out
  obtain ⟨⟨c0_, c1_⟩, _, _⟩ := blk2 HG3.out
  go_wp2_with fail
  refine (fitsC (Zhm.out.below HB.out) (Zh3.out.below HB.out)).mono ?_
  rintro e v16 ⟨rfl, hb⟩
  rw [Zf3.out]
  clear m0 m1 m2 m3 a0 a1 b0 b1 c0_ c1_
  replace HG0 := Aside0.mk (blk_below HG0.out hb)
  replace HG1 := Aside0.mk (blk_below HG1.out hb)
  replace HG2 := Aside0.mk (blk_below HG2.out hb)
  replace HG3 := Aside0.mk (blk_below HG3.out hb)
  replace HB := Aside0.mk (below_step HB.out hb)
  clear hb
  obtain ⟨m0, m1, m2, m3⟩ := blk4 HG0.out
  obtain ⟨⟨a0, a1⟩, _, _⟩ := blk2 HG1.out
  obtain ⟨⟨b0, b1⟩, _, _⟩ := blk2 HG2.out
  obtain ⟨⟨c0_, c1_⟩, _, _⟩ := blk2 HG3.out
  go_wp2_with fail
  refine (awakeC _).mono ?_
  rintro e v17 ⟨rfl, hb⟩
  clear m0 m1 m2 m3 a0 a1 b0 b1 c0_ c1_
  replace HG0 := Aside0.mk (blk_below HG0.out hb)
  replace HG1 := Aside0.mk (blk_below HG1.out hb)
  replace HG2 := Aside0.mk (blk_below HG2.out hb)
  replace HG3 := Aside0.mk (blk_below HG3.out hb)
  replace HB := Aside0.mk (below_step HB.out hb)
  clear hb
  obtain ⟨m0, m1, m2, m3⟩ := blk4 HG0.out
  obtain ⟨⟨a0, a1⟩, _, _⟩ := blk2 HG1.out
  obtain ⟨⟨b0, b1⟩, _, _⟩ := blk2 HG2.out
  obtain ⟨⟨c0_, c1_⟩, _, _⟩ := blk2 HG3.out
  go_wp2_with fail
  refine (alikeC (Zhm.out.below HB.out) (Zh1.out.below HB.out) (Zh2.out.below HB.out) l B ZhB.out Zs1.out Zs2.out).mono ?_
  rintro e v18 ⟨rfl, hb⟩
  rw [Zab.out]
  clear m0 m1 m2 m3 a0 a1 b0 b1 c0_ c1_
  replace HG0 := Aside0.mk (blk_below HG0.out hb)
  replace HG1 := Aside0.mk (blk_below HG1.out hb)
  replace HG2 := Aside0.mk (blk_below HG2.out hb)
  replace HG3 := Aside0.mk (blk_below HG3.out hb)
  replace HB := Aside0.mk (below_step HB.out hb)
  clear hb
  obtain ⟨m0, m1, m2, m3⟩ := blk4 HG0.out
  obtain ⟨⟨a0, a1⟩, _, _⟩ := blk2 HG1.out
  obtain ⟨⟨b0, b1⟩, _, _⟩ := blk2 HG2.out
  obtain ⟨⟨c0_, c1_⟩, _, _⟩ := blk2 HG3.out
  go_wp2_with fail
  refine (alikeC (Zhm.out.below HB.out) (Zh1.out.below HB.out) (Zh1.out.below HB.out) l B ZhB.out Zs1.out Zs1.out).mono ?_
  rintro e v19 ⟨rfl, hb⟩
  rw [alikeB_refl Zf1.out]
  clear m0 m1 m2 m3 a0 a1 b0 b1 c0_ c1_
  replace HG0 := Aside0.mk (blk_below HG0.out hb)
  replace HG1 := Aside0.mk (blk_below HG1.out hb)
  replace HG2 := Aside0.mk (blk_below HG2.out hb)
  replace HG3 := Aside0.mk (blk_below HG3.out hb)
  replace HB := Aside0.mk (below_step HB.out hb)
  clear hb
  obtain ⟨m0, m1, m2, m3⟩ := blk4 HG0.out
  obtain ⟨⟨a0, a1⟩, _, _⟩ := blk2 HG1.out
  obtain ⟨⟨b0, b1⟩, _, _⟩ := blk2 HG2.out
  obtain ⟨⟨c0_, c1_⟩, _, _⟩ := blk2 HG3.out
  go_wp2_with fail
  refine (alikeC (Zhm.out.below HB.out) (Zh2.out.below HB.out) (Zh1.out.below HB.out) l B ZhB.out Zs2.out Zs1.out).mono ?_
  rintro e v20 ⟨rfl, hb⟩
  rw [alikeB_comm Zf1.out Zf2.out, Zab.out]
  clear m0 m1 m2 m3 a0 a1 b0 b1 c0_ c1_
  replace HG0 := Aside0.mk (blk_below HG0.out hb)
  replace HG1 := Aside0.mk (blk_below HG1.out hb)
  replace HG2 := Aside0.mk (blk_below HG2.out hb)
  replace HG3 := Aside0.mk (blk_below HG3.out hb)
  replace HB := Aside0.mk (below_step HB.out hb)
  clear hb
  obtain ⟨m0, m1, m2, m3⟩ := blk4 HG0.out
  obtain ⟨⟨a0, a1⟩, _, _⟩ := blk2 HG1.out
  obtain ⟨⟨b0, b1⟩, _, _⟩ := blk2 HG2.out
  obtain ⟨⟨c0_, c1_⟩, _, _⟩ := blk2 HG3.out
  go_wp2_with fail
  refine (seenC (Zhm.out.below HB.out) (Zh1.out.below HB.out) l B ZhB.out Zs1.out).mono ?_
  rintro e u1 ⟨v, rfl, hs, hb⟩
  rw [show seenM gs arr l g1 r1 = (seenG l gs g1, seenR l arr r1) from if_pos Zf1.out] at hs
  simp only at hs
  obtain ⟨sg, hsg⟩ : ∃ s, seenG l gs g1 = s := ⟨_, rfl⟩
  obtain ⟨sr, hsr⟩ : ∃ s, seenR l arr r1 = s := ⟨_, rfl⟩
  rw [hsg, hsr] at hs
  obtain ⟨S0, d0, S1, d1, rfl, k0, k1, k2, k3⟩ := hs
  clear m0 m1 m2 m3 a0 a1 b0 b1 c0_ c1_
  replace HG0 := Aside0.mk (blk_below HG0.out hb)
  replace HG1 := Aside0.mk (blk_below HG1.out hb)
  replace HG2 := Aside0.mk (blk_below HG2.out hb)
  replace HG3 := Aside0.mk (blk_below HG3.out hb)
  replace HB := Aside0.mk (below_step HB.out hb)
  clear hb
  have HS := Aside0.mk (show MemR u1 (.agg #[.slice S0 sg.length d0, .slice S1 sr.length d1]) sg sr from ⟨S0, d0, S1, d1, rfl, k0, k1, k2, k3⟩)
  clear k0 k1 k2 k3
  obtain ⟨m0, m1, m2, m3⟩ := blk4 HG0.out
  obtain ⟨⟨a0, a1⟩, _, _⟩ := blk2 HG1.out
  obtain ⟨⟨b0, b1⟩, _, _⟩ := blk2 HG2.out
  obtain ⟨⟨c0_, c1_⟩, _, _⟩ := blk2 HG3.out
  have hgs := heap_alloc_new u1 (.cells #[.slice S0 sg.length d0, .slice S1 sr.length d1] 30)
  have hba := below_alloc (Below.refl u1.heap.size u1) (.cells #[.slice S0 sg.length d0, .slice S1 sr.length d1] 30)
  have HSG := Aside0.mk (show sg = seenG l gs g1 from hsg.symm)
  have HSR := Aside0.mk (show sr = seenR l arr r1 from hsr.symm)
  clear hsg hsr
  go_wp2_with fail
  obtain ⟨q, hq⟩ : ∃ q, u1.heap.size = q := ⟨_, rfl⟩
  obtain ⟨u2, hu2⟩ : ∃ W, u1.alloc (.cells #[.slice S0 sg.length d0, .slice S1 sr.length d1] 30) = W := ⟨_, rfl⟩
  rw [hu2] at hgs hba ⊢
  clear m0 m1 m2 m3 a0 a1 b0 b1 c0_ c1_
  replace HG0 := Aside0.mk (blk_below HG0.out hba)
  replace HG1 := Aside0.mk (blk_below HG1.out hba)
  replace HG2 := Aside0.mk (blk_below HG2.out hba)
  replace HG3 := Aside0.mk (blk_below HG3.out hba)
  replace HS := Aside0.mk (HS.out.below hba)
  replace HB := Aside0.mk (below_step HB.out hba)
  clear hba
  rw [hq] at hgs ⊢
  have HGs := Aside0.mk hgs
  clear hgs hu2 hq
  obtain ⟨m0, m1, m2, m3⟩ := blk4 HG0.out
  obtain ⟨⟨a0, a1⟩, _, _⟩ := blk2 HG1.out
  obtain ⟨⟨b0, b1⟩, _, _⟩ := blk2 HG2.out
  obtain ⟨⟨c0_, c1_⟩, _, _⟩ := blk2 HG3.out
  obtain ⟨⟨e0, e1⟩, _, _⟩ := blk2 HGs.out
  obtain ⟨sm, hsm⟩ : ∃ b, sameB g1 r1 g2 r2 = b := ⟨_, rfl⟩
  have ZSM := Aside0.mk hsm
  clear hsm
  refine start_ (n := 45) (S := fun w' => w'.cell? ⟨w.heap.size, 0, none⟩ = some (.slice A0 gs.length c0) ∧ w'.cell? ⟨w.heap.size, 1, none⟩ = some (.slice A1 arr.length c1) ∧ w'.cell? ⟨w.heap.size, 2, none⟩ = some (.slice A2 l2.length c2) ∧ w'.cell? ⟨w.heap.size, 3, none⟩ = some (.slice A3 l3.length c3) ∧ w'.cell? ⟨w.heap.size + 1, 0, none⟩ = some (.slice P1 g1.length p1) ∧ w'.cell? ⟨w.heap.size + 1, 1, none⟩ = some (.slice Q1 r1.length q1) ∧ w'.cell? ⟨w.heap.size + 2, 0, none⟩ = some (.slice P2 g2.length p2) ∧ w'.cell? ⟨w.heap.size + 2, 1, none⟩ = some (.slice Q2 r2.length q2) ∧ w'.cell? ⟨q, 0, none⟩ = some (.slice S0 sg.length d0) ∧ w'.cell? ⟨q, 1, none⟩ = some (.slice S1 sr.length d1)) (ds := []) #[false, false, false, false, false, false, false, false, false, false, false, false, false, false, false, false, false, false, false, false, false, false, false, false, false, false, false, false, false, false, false, false, false, false, false, false, false, false, false, false, false, false, false, false, false] (by kernel_rfl) rfl rfl ⟨m0, m1, m2, m3, a0, a1, b0, b1, e0, e1⟩ (fun hHeld => ?_)
  refine pure_ (i := 1) (N := some 106) (v := ?_) (a' := ?_) #[false, true, false, false, false, false, false, false, false, false, false, false, false, false, false, false, false, false, false, false, false, false, false, false, false, false, false, false, false, false, false, false, false, false, false, false, false, false, false, false, false, false, false, false, false] rfl rfl (by kernel_rfl) (fun _ _ _ h => h) (Or.inl ⟨by rfl, ?_⟩) ?_ ?_
  rotate_left
  · intro w'
    go_simp
    with_reducible rfl
  rotate_left
  · simp only [Act.put, List.setIfInBounds_toArray, List.set_cons_zero, List.set_cons_succ, i64_w, i32_w]
    rfl
  refine take_ (i := 0) (N := some 105) (v := ?_) (a' := ?_) #[true, true, false, false, false, false, false, false, false, false, false, false, false, false, false, false, false, false, false, false, false, false, false, false, false, false, false, false, false, false, false, false, false, false, false, false, false, false, false, false, false, false, false, false, false] rfl rfl (by kernel_rfl) (fun _ _ _ h => h) (Or.inl ⟨by rfl, ?_⟩) hHeld ?_ ?_
  rotate_left
  · rintro w' ⟨s0, s1, s2, s3, s4, s5, s6, s7, s8, s9⟩
    go_simp
    with_reducible rfl
  rotate_left
  · simp only [Act.put, List.setIfInBounds_toArray, List.set_cons_zero, List.set_cons_succ, i64_w, i32_w]
    rfl
  refine take_ (i := 2) (N := some 107) (v := ?_) (a' := ?_) #[true, true, true, false, false, false, false, false, false, false, false, false, false, false, false, false, false, false, false, false, false, false, false, false, false, false, false, false, false, false, false, false, false, false, false, false, false, false, false, false, false, false, false, false, false] rfl rfl (by kernel_rfl) (fun _ _ _ h => h) (Or.inl ⟨by rfl, ?_⟩) hHeld ?_ ?_
  rotate_left
  · rintro w' ⟨s0, s1, s2, s3, s4, s5, s6, s7, s8, s9⟩
    go_simp
    with_reducible rfl
  rotate_left
  · simp only [Act.put, List.setIfInBounds_toArray, List.set_cons_zero, List.set_cons_succ, i64_w, i32_w]
    rfl
  refine take_ (i := 3) (N := some 108) (v := ?_) (a' := ?_) #[true, true, true, true, false, false, false, false, false, false, false, false, false, false, false, false, false, false, false, false, false, false, false, false, false, false, false, false, false, false, false, false, false, false, false, false, false, false, false, false, false, false, false, false, false] rfl rfl (by kernel_rfl) (fun _ _ _ h => h) (Or.inl ⟨by rfl, ?_⟩) hHeld ?_ ?_
  rotate_left
  · rintro w' ⟨s0, s1, s2, s3, s4, s5, s6, s7, s8, s9⟩
    go_simp
    with_reducible rfl
  rotate_left
  · simp only [Act.put, List.setIfInBounds_toArray, List.set_cons_zero, List.set_cons_succ, i64_w, i32_w]
    rfl
  refine take_ (i := 5) (N := some 110) (v := ?_) (a' := ?_) #[true, true, true, true, false, true, false, false, false, false, false, false, false, false, false, false, false, false, false, false, false, false, false, false, false, false, false, false, false, false, false, false, false, false, false, false, false, false, false, false, false, false, false, false, false] rfl rfl (by kernel_rfl) (fun _ _ _ h => h) (Or.inl ⟨by rfl, ?_⟩) hHeld ?_ ?_
  rotate_left
  · rintro w' ⟨s0, s1, s2, s3, s4, s5, s6, s7, s8, s9⟩
    go_simp
    with_reducible rfl
  rotate_left
  · simp only [Act.put, List.setIfInBounds_toArray, List.set_cons_zero, List.set_cons_succ, i64_w, i32_w]
    rfl
  refine take_ (i := 6) (N := some 111) (v := ?_) (a' := ?_) #[true, true, true, true, false, true, true, false, false, false, false, false, false, false, false, false, false, false, false, false, false, false, false, false, false, false, false, false, false, false, false, false, false, false, false, false, false, false, false, false, false, false, false, false, false] rfl rfl (by kernel_rfl) (fun _ _ _ h => h) (Or.inl ⟨by rfl, ?_⟩) hHeld ?_ ?_
  rotate_left
  · rintro w' ⟨s0, s1, s2, s3, s4, s5, s6, s7, s8, s9⟩
    go_simp
    with_reducible rfl
  rotate_left
  · simp only [Act.put, List.setIfInBounds_toArray, List.set_cons_zero, List.set_cons_succ, i64_w, i32_w]
    rfl
  refine one_ (i := 4) (N := some 109) #[true, true, true, true, true, true, true, false, false, false, false, false, false, false, false, false, false, false, false, false, false, false, false, false, false, false, false, false, false, false, false, false, false, false, false, false, false, false, false, false, false, false, false, false, false] rfl rfl (by kernel_rfl) (by decide) (fun K hK => ?_)
  refine goes_ Try.func21 (by kernel_rfl) rfl #[.agg #[.slice A0 gs.length c0, .slice A1 arr.length c1, .slice A2 l2.length c2, .slice A3 l3.length c3], .int .u64 18446744073709551615, .agg #[.slice P1 g1.length p1, .slice Q1 r1.length q1], .agg #[.slice P2 g2.length p2, .slice Q2 r2.length q2]] (by rfl) rfl rfl (by simp only [List.map_toArray, List.map_cons, List.map_nil]; rfl) ?_
  with_reducible refine (alikeC (Zhm.out.below (show Below w.heap.size w u2.drew from below_drew1 HB.out)) (Zh1.out.below (show Below w.heap.size w u2.drew from below_drew1 HB.out)) (Zh2.out.below (show Below w.heap.size w u2.drew from below_drew1 HB.out)) 18446744073709551615 B ZhB.out Zs1.out Zs2.out).mono ?_
  rintro e t1 ⟨rfl, hb⟩
  refine ⟨_, rfl, ?_⟩
  replace hb : Below u2.heap.size u2 _ := ⟨hb.os, hb.tape, hb.output, hb.size, hb.block⟩
  replace HS := Aside0.mk (HS.out.below hb)
  rw [alikeB_all Zf1.out Zf2.out (fun a ha => wi_all a (Zwg.out a ha)) (fun a ha => wi_all a.f1 (Zwa.out a ha)), ZSM.out]
  replace HB := Aside0.mk (below_step HB.out hb)
  refine hK.out _ _ ⟨(pw_cell_below hb hHeld.1), (pw_cell_below hb hHeld.2.1), (pw_cell_below hb hHeld.2.2.1), (pw_cell_below hb hHeld.2.2.2.1), (pw_cell_below hb hHeld.2.2.2.2.1), (pw_cell_below hb hHeld.2.2.2.2.2.1), (pw_cell_below hb hHeld.2.2.2.2.2.2.1), (pw_cell_below hb hHeld.2.2.2.2.2.2.2.1), (pw_cell_below hb hHeld.2.2.2.2.2.2.2.2.1), (pw_cell_below hb hHeld.2.2.2.2.2.2.2.2.2)⟩ (fun hHeld => ?_)
  clear hK K
  refine norm_ (a' := ?_) ?_ ?_
  rotate_left
  · show Act.put _ (some 109) _ = _
    simp only [Act.put, List.setIfInBounds_toArray, List.set_cons_zero, List.set_cons_succ, i64_w, i32_w]
    rfl
  refine one_ (i := 7) (N := some 112) #[true, true, true, true, true, true, true, true, false, false, false, false, false, false, false, false, false, false, false, false, false, false, false, false, false, false, false, false, false, false, false, false, false, false, false, false, false, false, false, false, false, false, false, false, false] rfl rfl (by kernel_rfl) (by decide) (fun K hK => ?_)
  refine goes_ Try.func22 (by kernel_rfl) rfl #[.agg #[.slice P1 g1.length p1, .slice Q1 r1.length q1], .agg #[.slice P2 g2.length p2, .slice Q2 r2.length q2]] (by rfl) rfl rfl (by simp only [List.map_toArray, List.map_cons, List.map_nil]; rfl) ?_
  with_reducible refine (sameC (Zh1.out.below HB.out) (Zh2.out.below HB.out) B (by have := ZhB.out; omega) Zs1.out).mono ?_
  rintro e t2 ⟨rfl, hb⟩
  refine ⟨_, rfl, ?_⟩
  replace HS := Aside0.mk (HS.out.below hb)
  rw [ZSM.out]
  replace HB := Aside0.mk (below_step HB.out hb)
  refine hK.out _ _ ⟨(pw_cell_below hb hHeld.1), (pw_cell_below hb hHeld.2.1), (pw_cell_below hb hHeld.2.2.1), (pw_cell_below hb hHeld.2.2.2.1), (pw_cell_below hb hHeld.2.2.2.2.1), (pw_cell_below hb hHeld.2.2.2.2.2.1), (pw_cell_below hb hHeld.2.2.2.2.2.2.1), (pw_cell_below hb hHeld.2.2.2.2.2.2.2.1), (pw_cell_below hb hHeld.2.2.2.2.2.2.2.2.1), (pw_cell_below hb hHeld.2.2.2.2.2.2.2.2.2)⟩ (fun hHeld => ?_)
  clear hK K
  refine norm_ (a' := ?_) ?_ ?_
  rotate_left
  · show Act.put _ (some 112) _ = _
    simp only [Act.put, List.setIfInBounds_toArray, List.set_cons_zero, List.set_cons_succ, i64_w, i32_w]
    rfl
  refine pure_ (i := 8) (N := some 113) (v := ?_) (a' := ?_) #[true, true, true, true, true, true, true, true, true, false, false, false, false, false, false, false, false, false, false, false, false, false, false, false, false, false, false, false, false, false, false, false, false, false, false, false, false, false, false, false, false, false, false, false, false] rfl rfl (by kernel_rfl) (fun _ _ _ h => h) (Or.inl ⟨by rfl, ?_⟩) ?_ ?_
  rotate_left
  · intro w'
    go_simp
    with_reducible rfl
  rotate_left
  · simp only [Act.put, List.setIfInBounds_toArray, List.set_cons_zero, List.set_cons_succ, i64_w, i32_w]
    rfl
  refine pure_ (i := 9) (N := some 114) (v := ?_) (a' := ?_) #[true, true, true, true, true, true, true, true, true, true, false, false, false, false, false, false, false, false, false, false, false, false, false, false, false, false, false, false, false, false, false, false, false, false, false, false, false, false, false, false, false, false, false, false, false] rfl rfl (by kernel_rfl) (fun _ _ _ h => h) (Or.inl ⟨by rfl, ?_⟩) ?_ ?_
  rotate_left
  · intro w'
    go_simp
    with_reducible rfl
  rotate_left
  · simp only [Act.put, List.setIfInBounds_toArray, List.set_cons_zero, List.set_cons_succ, i64_w, i32_w]
    rfl
  refine pure_ (i := 11) (N := some 116) (v := ?_) (a' := ?_) #[true, true, true, true, true, true, true, true, true, true, false, true, false, false, false, false, false, false, false, false, false, false, false, false, false, false, false, false, false, false, false, false, false, false, false, false, false, false, false, false, false, false, false, false, false] rfl rfl (by kernel_rfl) (fun _ _ _ h => h) (Or.inl ⟨by rfl, ?_⟩) ?_ ?_
  rotate_left
  · intro w'
    go_simp
    with_reducible rfl
  rotate_left
  · simp only [Act.put, List.setIfInBounds_toArray, List.set_cons_zero, List.set_cons_succ, i64_w, i32_w]
    rfl
  refine take_ (i := 10) (N := some 115) (v := ?_) (a' := ?_) #[true, true, true, true, true, true, true, true, true, true, true, true, false, false, false, false, false, false, false, false, false, false, false, false, false, false, false, false, false, false, false, false, false, false, false, false, false, false, false, false, false, false, false, false, false] rfl rfl (by kernel_rfl) (fun _ _ _ h => h) (Or.inl ⟨by rfl, ?_⟩) hHeld ?_ ?_
  rotate_left
  · rintro w' ⟨s0, s1, s2, s3, s4, s5, s6, s7, s8, s9⟩
    go_simp
    with_reducible rfl
  rotate_left
  · simp only [Act.put, List.setIfInBounds_toArray, List.set_cons_zero, List.set_cons_succ, i64_w, i32_w]
    rfl
  refine take_ (i := 12) (N := some 117) (v := ?_) (a' := ?_) #[true, true, true, true, true, true, true, true, true, true, true, true, true, false, false, false, false, false, false, false, false, false, false, false, false, false, false, false, false, false, false, false, false, false, false, false, false, false, false, false, false, false, false, false, false] rfl rfl (by kernel_rfl) (fun _ _ _ h => h) (Or.inl ⟨by rfl, ?_⟩) hHeld ?_ ?_
  rotate_left
  · rintro w' ⟨s0, s1, s2, s3, s4, s5, s6, s7, s8, s9⟩
    go_simp
    with_reducible rfl
  rotate_left
  · simp only [Act.put, List.setIfInBounds_toArray, List.set_cons_zero, List.set_cons_succ, i64_w, i32_w]
    rfl
  refine take_ (i := 13) (N := some 118) (v := ?_) (a' := ?_) #[true, true, true, true, true, true, true, true, true, true, true, true, true, true, false, false, false, false, false, false, false, false, false, false, false, false, false, false, false, false, false, false, false, false, false, false, false, false, false, false, false, false, false, false, false] rfl rfl (by kernel_rfl) (fun _ _ _ h => h) (Or.inl ⟨by rfl, ?_⟩) hHeld ?_ ?_
  rotate_left
  · rintro w' ⟨s0, s1, s2, s3, s4, s5, s6, s7, s8, s9⟩
    go_simp
    with_reducible rfl
  rotate_left
  · simp only [Act.put, List.setIfInBounds_toArray, List.set_cons_zero, List.set_cons_succ, i64_w, i32_w]
    rfl
  refine one_ (i := 14) (N := some 119) #[true, true, true, true, true, true, true, true, true, true, true, true, true, true, true, false, false, false, false, false, false, false, false, false, false, false, false, false, false, false, false, false, false, false, false, false, false, false, false, false, false, false, false, false, false] rfl rfl (by kernel_rfl) (by decide) (fun K hK => ?_)
  refine goes_ Try.func21 (by kernel_rfl) rfl #[.agg #[.slice A0 gs.length c0, .slice A1 arr.length c1, .slice A2 l2.length c2, .slice A3 l3.length c3], .int .u64 l, .agg #[.slice P1 g1.length p1, .slice Q1 r1.length q1], .agg #[.slice S0 sg.length d0, .slice S1 sr.length d1]] (by rfl) rfl rfl (by simp only [List.map_toArray, List.map_cons, List.map_nil]; rfl) ?_
  with_reducible refine (alikeC (Zhm.out.below HB.out) (Zh1.out.below HB.out) HS.out l B ZhB.out Zs1.out (by rw [HSG.out, HSR.out]; exact sized_seen l Zs1.out)).mono ?_
  rintro e t3 ⟨rfl, hb⟩
  refine ⟨_, rfl, ?_⟩
  replace HS := Aside0.mk (HS.out.below hb)
  rw [show alikeB gs arr l g1 r1 sg sr = true by rw [HSG.out, HSR.out]; exact alikeB_seen Zf1.out]
  replace HB := Aside0.mk (below_step HB.out hb)
  refine hK.out _ _ ⟨(pw_cell_below hb hHeld.1), (pw_cell_below hb hHeld.2.1), (pw_cell_below hb hHeld.2.2.1), (pw_cell_below hb hHeld.2.2.2.1), (pw_cell_below hb hHeld.2.2.2.2.1), (pw_cell_below hb hHeld.2.2.2.2.2.1), (pw_cell_below hb hHeld.2.2.2.2.2.2.1), (pw_cell_below hb hHeld.2.2.2.2.2.2.2.1), (pw_cell_below hb hHeld.2.2.2.2.2.2.2.2.1), (pw_cell_below hb hHeld.2.2.2.2.2.2.2.2.2)⟩ (fun hHeld => ?_)
  clear hK K
  refine norm_ (a' := ?_) ?_ ?_
  rotate_left
  · show Act.put _ (some 119) _ = _
    simp only [Act.put, List.setIfInBounds_toArray, List.set_cons_zero, List.set_cons_succ, i64_w, i32_w]
    rfl
  refine pure_ (i := 15) (N := some 120) (v := ?_) (a' := ?_) #[true, true, true, true, true, true, true, true, true, true, true, true, true, true, true, true, false, false, false, false, false, false, false, false, false, false, false, false, false, false, false, false, false, false, false, false, false, false, false, false, false, false, false, false, false] rfl rfl (by kernel_rfl) (fun _ _ _ h => h) (Or.inl ⟨by rfl, ?_⟩) ?_ ?_
  rotate_left
  · intro w'
    go_simp
    with_reducible rfl
  rotate_left
  · simp only [Act.put, List.setIfInBounds_toArray, List.set_cons_zero, List.set_cons_succ, i64_w, i32_w]
    rfl
  refine pure_ (i := 16) (N := some 121) (v := ?_) (a' := ?_) #[true, true, true, true, true, true, true, true, true, true, true, true, true, true, true, true, true, false, false, false, false, false, false, false, false, false, false, false, false, false, false, false, false, false, false, false, false, false, false, false, false, false, false, false, false] rfl rfl (by kernel_rfl) (fun _ _ _ h => h) (Or.inl ⟨by rfl, ?_⟩) ?_ ?_
  rotate_left
  · intro w'
    go_simp
    with_reducible rfl
  rotate_left
  · simp only [Act.put, List.setIfInBounds_toArray, List.set_cons_zero, List.set_cons_succ, i64_w, i32_w]
    rfl
  refine pure_ (i := 19) (N := some 124) (v := ?_) (a' := ?_) #[true, true, true, true, true, true, true, true, true, true, true, true, true, true, true, true, true, false, false, true, false, false, false, false, false, false, false, false, false, false, false, false, false, false, false, false, false, false, false, false, false, false, false, false, false] rfl rfl (by kernel_rfl) (fun _ _ _ h => h) (Or.inl ⟨by rfl, ?_⟩) ?_ ?_
  rotate_left
  · intro w'
    go_simp
    with_reducible rfl
  rotate_left
  · simp only [Act.put, List.setIfInBounds_toArray, List.set_cons_zero, List.set_cons_succ, i64_w, i32_w]
    rfl
  refine take_ (i := 17) (N := some 122) (v := ?_) (a' := ?_) #[true, true, true, true, true, true, true, true, true, true, true, true, true, true, true, true, true, true, false, true, false, false, false, false, false, false, false, false, false, false, false, false, false, false, false, false, false, false, false, false, false, false, false, false, false] rfl rfl (by kernel_rfl) (fun _ _ _ h => h) (Or.inl ⟨by rfl, ?_⟩) hHeld ?_ ?_
  rotate_left
  · rintro w' ⟨s0, s1, s2, s3, s4, s5, s6, s7, s8, s9⟩
    go_simp
    with_reducible rfl
  rotate_left
  · simp only [Act.put, List.setIfInBounds_toArray, List.set_cons_zero, List.set_cons_succ, i64_w, i32_w]
    rfl
  refine take_ (i := 18) (N := some 123) (v := ?_) (a' := ?_) #[true, true, true, true, true, true, true, true, true, true, true, true, true, true, true, true, true, true, true, true, false, false, false, false, false, false, false, false, false, false, false, false, false, false, false, false, false, false, false, false, false, false, false, false, false] rfl rfl (by kernel_rfl) (fun _ _ _ h => h) (Or.inl ⟨by rfl, ?_⟩) hHeld ?_ ?_
  rotate_left
  · rintro w' ⟨s0, s1, s2, s3, s4, s5, s6, s7, s8, s9⟩
    go_simp
    with_reducible rfl
  rotate_left
  · simp only [Act.put, List.setIfInBounds_toArray, List.set_cons_zero, List.set_cons_succ, i64_w, i32_w]
    rfl
  refine take_ (i := 21) (N := some 126) (v := ?_) (a' := ?_) #[true, true, true, true, true, true, true, true, true, true, true, true, true, true, true, true, true, true, true, true, false, true, false, false, false, false, false, false, false, false, false, false, false, false, false, false, false, false, false, false, false, false, false, false, false] rfl rfl (by kernel_rfl) (fun _ _ _ h => h) (Or.inl ⟨by rfl, ?_⟩) hHeld ?_ ?_
  rotate_left
  · rintro w' ⟨s0, s1, s2, s3, s4, s5, s6, s7, s8, s9⟩
    go_simp
    with_reducible rfl
  rotate_left
  · simp only [Act.put, List.setIfInBounds_toArray, List.set_cons_zero, List.set_cons_succ, i64_w, i32_w]
    rfl
  refine one_ (i := 20) (N := some 125) #[true, true, true, true, true, true, true, true, true, true, true, true, true, true, true, true, true, true, true, true, true, true, false, false, false, false, false, false, false, false, false, false, false, false, false, false, false, false, false, false, false, false, false, false, false] rfl rfl (by kernel_rfl) (by decide) (fun K hK => ?_)
  refine goes_ Try.func11 (by kernel_rfl) rfl #[.agg #[.slice A0 gs.length c0, .slice A1 arr.length c1, .slice A2 l2.length c2, .slice A3 l3.length c3], .agg #[.slice S0 sg.length d0, .slice S1 sr.length d1], .int .u64 l] (by rfl) rfl rfl (by simp only [List.map_toArray, List.map_cons, List.map_nil]; rfl) ?_
  with_reducible refine (seenC (Zhm.out.below HB.out) HS.out l B ZhB.out (by rw [HSG.out, HSR.out]; exact sized_seen l Zs1.out)).mono ?_
  rintro e t4 ⟨v4, rfl, hs4, hb⟩
  refine ⟨_, rfl, ?_⟩
  replace HS := Aside0.mk (HS.out.below hb)
  rw [show seenM gs arr l sg sr = (sg, sr) by rw [HSG.out, HSR.out]; unfold seenM; rw [if_pos (fitsB_seen l Zf1.out), seenG_seenG gs g1 (fun _ _ h => h), seenR_seenR arr r1 (fun _ _ h => h)]] at hs4
  simp only at hs4
  obtain ⟨Y0, y0, Y1, y1, rfl, n0, n1, n2, n3⟩ := hs4
  have HY := Aside0.mk (show MemR t4 (.agg #[.slice Y0 sg.length y0, .slice Y1 sr.length y1]) sg sr from ⟨Y0, y0, Y1, y1, rfl, n0, n1, n2, n3⟩)
  clear n0 n1 n2 n3
  replace HB := Aside0.mk (below_step HB.out hb)
  refine hK.out _ _ ⟨(pw_cell_below hb hHeld.1), (pw_cell_below hb hHeld.2.1), (pw_cell_below hb hHeld.2.2.1), (pw_cell_below hb hHeld.2.2.2.1), (pw_cell_below hb hHeld.2.2.2.2.1), (pw_cell_below hb hHeld.2.2.2.2.2.1), (pw_cell_below hb hHeld.2.2.2.2.2.2.1), (pw_cell_below hb hHeld.2.2.2.2.2.2.2.1), (pw_cell_below hb hHeld.2.2.2.2.2.2.2.2.1), (pw_cell_below hb hHeld.2.2.2.2.2.2.2.2.2)⟩ (fun hHeld => ?_)
  clear hK K
  refine norm_ (a' := ?_) ?_ ?_
  rotate_left
  · show Act.put _ (some 125) _ = _
    simp only [Act.put, List.setIfInBounds_toArray, List.set_cons_zero, List.set_cons_succ, i64_w, i32_w]
    rfl
  refine one_ (i := 22) (N := some 127) #[true, true, true, true, true, true, true, true, true, true, true, true, true, true, true, true, true, true, true, true, true, true, true, false, false, false, false, false, false, false, false, false, false, false, false, false, false, false, false, false, false, false, false, false, false] rfl rfl (by kernel_rfl) (by decide) (fun K hK => ?_)
  refine goes_ Try.func16 (by kernel_rfl) rfl #[.agg #[.slice Y0 sg.length y0, .slice Y1 sr.length y1], .agg #[.slice S0 sg.length d0, .slice S1 sr.length d1]] (by rfl) rfl rfl (by simp only [List.map_toArray, List.map_cons, List.map_nil]; rfl) ?_
  with_reducible refine (memoryC HY.out HS.out B (by have := ZhB.out; omega) (by rw [HSG.out, HSR.out]; exact sized_seen l Zs1.out)).mono ?_
  rintro e t5 ⟨rfl, hb⟩
  refine ⟨_, rfl, ?_⟩
  replace HS := Aside0.mk (HS.out.below hb)
  clear HY
  rw [sameB_refl]
  replace HB := Aside0.mk (below_step HB.out hb)
  refine hK.out _ _ ⟨(pw_cell_below hb hHeld.1), (pw_cell_below hb hHeld.2.1), (pw_cell_below hb hHeld.2.2.1), (pw_cell_below hb hHeld.2.2.2.1), (pw_cell_below hb hHeld.2.2.2.2.1), (pw_cell_below hb hHeld.2.2.2.2.2.1), (pw_cell_below hb hHeld.2.2.2.2.2.2.1), (pw_cell_below hb hHeld.2.2.2.2.2.2.2.1), (pw_cell_below hb hHeld.2.2.2.2.2.2.2.2.1), (pw_cell_below hb hHeld.2.2.2.2.2.2.2.2.2)⟩ (fun hHeld => ?_)
  clear hK K
  refine norm_ (a' := ?_) ?_ ?_
  rotate_left
  · show Act.put _ (some 127) _ = _
    simp only [Act.put, List.setIfInBounds_toArray, List.set_cons_zero, List.set_cons_succ, i64_w, i32_w]
    rfl
  refine pure_ (i := 23) (N := some 128) (v := ?_) (a' := ?_) #[true, true, true, true, true, true, true, true, true, true, true, true, true, true, true, true, true, true, true, true, true, true, true, true, false, false, false, false, false, false, false, false, false, false, false, false, false, false, false, false, false, false, false, false, false] rfl rfl (by kernel_rfl) (fun _ _ _ h => h) (Or.inl ⟨by rfl, ?_⟩) ?_ ?_
  rotate_left
  · intro w'
    go_simp
    with_reducible rfl
  rotate_left
  · simp only [Act.put, List.setIfInBounds_toArray, List.set_cons_zero, List.set_cons_succ, i64_w, i32_w]
    rfl
  refine pure_ (i := 24) (N := some 129) (v := ?_) (a' := ?_) #[true, true, true, true, true, true, true, true, true, true, true, true, true, true, true, true, true, true, true, true, true, true, true, true, true, false, false, false, false, false, false, false, false, false, false, false, false, false, false, false, false, false, false, false, false] rfl rfl (by kernel_rfl) (fun _ _ _ h => h) (Or.inl ⟨by rfl, ?_⟩) ?_ ?_
  rotate_left
  · intro w'
    go_simp
    with_reducible rfl
  rotate_left
  · simp only [Act.put, List.setIfInBounds_toArray, List.set_cons_zero, List.set_cons_succ, i64_w, i32_w]
    rfl
  refine take_ (i := 25) (N := some 130) (v := ?_) (a' := ?_) #[true, true, true, true, true, true, true, true, true, true, true, true, true, true, true, true, true, true, true, true, true, true, true, true, true, true, false, false, false, false, false, false, false, false, false, false, false, false, false, false, false, false, false, false, false] rfl rfl (by kernel_rfl) (fun _ _ _ h => h) (Or.inl ⟨by rfl, ?_⟩) hHeld ?_ ?_
  rotate_left
  · rintro w' ⟨s0, s1, s2, s3, s4, s5, s6, s7, s8, s9⟩
    go_simp
    with_reducible rfl
  rotate_left
  · simp only [Act.put, List.setIfInBounds_toArray, List.set_cons_zero, List.set_cons_succ, i64_w, i32_w]
    rfl
  refine take_ (i := 26) (N := some 131) (v := ?_) (a' := ?_) #[true, true, true, true, true, true, true, true, true, true, true, true, true, true, true, true, true, true, true, true, true, true, true, true, true, true, true, false, false, false, false, false, false, false, false, false, false, false, false, false, false, false, false, false, false] rfl rfl (by kernel_rfl) (fun _ _ _ h => h) (Or.inl ⟨by rfl, ?_⟩) hHeld ?_ ?_
  rotate_left
  · rintro w' ⟨s0, s1, s2, s3, s4, s5, s6, s7, s8, s9⟩
    go_simp
    with_reducible rfl
  rotate_left
  · simp only [Act.put, List.setIfInBounds_toArray, List.set_cons_zero, List.set_cons_succ, i64_w, i32_w]
    rfl
  refine one_ (i := 27) (N := some 132) #[true, true, true, true, true, true, true, true, true, true, true, true, true, true, true, true, true, true, true, true, true, true, true, true, true, true, true, true, false, false, false, false, false, false, false, false, false, false, false, false, false, false, false, false, false] rfl rfl (by kernel_rfl) (by decide) (fun K hK => ?_)
  refine goes_ Try.func10 (by kernel_rfl) rfl #[.agg #[.slice P1 g1.length p1, .slice Q1 r1.length q1]] (by rfl) rfl rfl (by simp only [List.map_toArray, List.map_cons, List.map_nil]; rfl) ?_
  with_reducible refine (copyC (Zh1.out.below HB.out) B ZhB.out Zs1.out).mono ?_
  rintro e t6 ⟨v6, rfl, hs6, hb⟩
  refine ⟨_, rfl, ?_⟩
  replace HS := Aside0.mk (HS.out.below hb)
  obtain ⟨Y0, y0, Y1, y1, rfl, n0, n1, n2, n3⟩ := hs6
  have HY := Aside0.mk (show MemR t6 (.agg #[.slice Y0 g1.length y0, .slice Y1 r1.length y1]) g1 r1 from ⟨Y0, y0, Y1, y1, rfl, n0, n1, n2, n3⟩)
  clear n0 n1 n2 n3
  replace HB := Aside0.mk (below_step HB.out hb)
  refine hK.out _ _ ⟨(pw_cell_below hb hHeld.1), (pw_cell_below hb hHeld.2.1), (pw_cell_below hb hHeld.2.2.1), (pw_cell_below hb hHeld.2.2.2.1), (pw_cell_below hb hHeld.2.2.2.2.1), (pw_cell_below hb hHeld.2.2.2.2.2.1), (pw_cell_below hb hHeld.2.2.2.2.2.2.1), (pw_cell_below hb hHeld.2.2.2.2.2.2.2.1), (pw_cell_below hb hHeld.2.2.2.2.2.2.2.2.1), (pw_cell_below hb hHeld.2.2.2.2.2.2.2.2.2)⟩ (fun hHeld => ?_)
  clear hK K
  refine norm_ (a' := ?_) ?_ ?_
  rotate_left
  · show Act.put _ (some 132) _ = _
    simp only [Act.put, List.setIfInBounds_toArray, List.set_cons_zero, List.set_cons_succ, i64_w, i32_w]
    rfl
  refine one_ (i := 28) (N := some 133) #[true, true, true, true, true, true, true, true, true, true, true, true, true, true, true, true, true, true, true, true, true, true, true, true, true, true, true, true, true, false, false, false, false, false, false, false, false, false, false, false, false, false, false, false, false] rfl rfl (by kernel_rfl) (by decide) (fun K hK => ?_)
  refine goes_ Try.func22 (by kernel_rfl) rfl #[.agg #[.slice P1 g1.length p1, .slice Q1 r1.length q1], .agg #[.slice Y0 g1.length y0, .slice Y1 r1.length y1]] (by rfl) rfl rfl (by simp only [List.map_toArray, List.map_cons, List.map_nil]; rfl) ?_
  with_reducible refine (sameC (Zh1.out.below HB.out) HY.out B (by have := ZhB.out; omega) Zs1.out).mono ?_
  rintro e t7 ⟨rfl, hb⟩
  refine ⟨_, rfl, ?_⟩
  replace HS := Aside0.mk (HS.out.below hb)
  clear HY
  rw [sameB_refl]
  replace HB := Aside0.mk (below_step HB.out hb)
  refine hK.out _ _ ⟨(pw_cell_below hb hHeld.1), (pw_cell_below hb hHeld.2.1), (pw_cell_below hb hHeld.2.2.1), (pw_cell_below hb hHeld.2.2.2.1), (pw_cell_below hb hHeld.2.2.2.2.1), (pw_cell_below hb hHeld.2.2.2.2.2.1), (pw_cell_below hb hHeld.2.2.2.2.2.2.1), (pw_cell_below hb hHeld.2.2.2.2.2.2.2.1), (pw_cell_below hb hHeld.2.2.2.2.2.2.2.2.1), (pw_cell_below hb hHeld.2.2.2.2.2.2.2.2.2)⟩ (fun hHeld => ?_)
  clear hK K
  refine norm_ (a' := ?_) ?_ ?_
  rotate_left
  · show Act.put _ (some 133) _ = _
    simp only [Act.put, List.setIfInBounds_toArray, List.set_cons_zero, List.set_cons_succ, i64_w, i32_w]
    rfl
  refine pure_ (i := 29) (N := some 134) (v := ?_) (a' := ?_) #[true, true, true, true, true, true, true, true, true, true, true, true, true, true, true, true, true, true, true, true, true, true, true, true, true, true, true, true, true, true, false, false, false, false, false, false, false, false, false, false, false, false, false, false, false] rfl rfl (by kernel_rfl) (fun _ _ _ h => h) (Or.inl ⟨by rfl, ?_⟩) ?_ ?_
  rotate_left
  · intro w'
    go_simp
    with_reducible rfl
  rotate_left
  · simp only [Act.put, List.setIfInBounds_toArray, List.set_cons_zero, List.set_cons_succ, i64_w, i32_w]
    rfl
  refine pure_ (i := 30) (N := some 135) (v := ?_) (a' := ?_) #[true, true, true, true, true, true, true, true, true, true, true, true, true, true, true, true, true, true, true, true, true, true, true, true, true, true, true, true, true, true, true, false, false, false, false, false, false, false, false, false, false, false, false, false, false] rfl rfl (by kernel_rfl) (fun _ _ _ h => h) (Or.inl ⟨by rfl, ?_⟩) ?_ ?_
  rotate_left
  · intro w'
    go_simp
    with_reducible rfl
  rotate_left
  · simp only [Act.put, List.setIfInBounds_toArray, List.set_cons_zero, List.set_cons_succ, i64_w, i32_w]
    rfl
  refine pure_ (i := 32) (N := some 137) (v := ?_) (a' := ?_) #[true, true, true, true, true, true, true, true, true, true, true, true, true, true, true, true, true, true, true, true, true, true, true, true, true, true, true, true, true, true, true, false, true, false, false, false, false, false, false, false, false, false, false, false, false] rfl rfl (by kernel_rfl) (fun _ _ _ h => h) (Or.inl ⟨by rfl, ?_⟩) ?_ ?_
  rotate_left
  · intro w'
    go_simp
    with_reducible rfl
  rotate_left
  · simp only [Act.put, List.setIfInBounds_toArray, List.set_cons_zero, List.set_cons_succ, i64_w, i32_w]
    rfl
  refine pure_ (i := 39) (N := some 144) (v := ?_) (a' := ?_) #[true, true, true, true, true, true, true, true, true, true, true, true, true, true, true, true, true, true, true, true, true, true, true, true, true, true, true, true, true, true, true, false, true, false, false, false, false, false, false, true, false, false, false, false, false] rfl rfl (by kernel_rfl) (fun _ _ _ h => h) (Or.inl ⟨by rfl, ?_⟩) ?_ ?_
  rotate_left
  · intro w'
    go_simp
    with_reducible rfl
  rotate_left
  · simp only [Act.put, List.setIfInBounds_toArray, List.set_cons_zero, List.set_cons_succ, i64_w, i32_w]
    rfl
  refine take_ (i := 31) (N := some 136) (v := ?_) (a' := ?_) #[true, true, true, true, true, true, true, true, true, true, true, true, true, true, true, true, true, true, true, true, true, true, true, true, true, true, true, true, true, true, true, true, true, false, false, false, false, false, false, true, false, false, false, false, false] rfl rfl (by kernel_rfl) (fun _ _ _ h => h) (Or.inl ⟨by rfl, ?_⟩) hHeld ?_ ?_
  rotate_left
  · rintro w' ⟨s0, s1, s2, s3, s4, s5, s6, s7, s8, s9⟩
    go_simp
    with_reducible rfl
  rotate_left
  · simp only [Act.put, List.setIfInBounds_toArray, List.set_cons_zero, List.set_cons_succ, i64_w, i32_w]
    rfl
  refine take_ (i := 33) (N := some 138) (v := ?_) (a' := ?_) #[true, true, true, true, true, true, true, true, true, true, true, true, true, true, true, true, true, true, true, true, true, true, true, true, true, true, true, true, true, true, true, true, true, true, false, false, false, false, false, true, false, false, false, false, false] rfl rfl (by kernel_rfl) (fun _ _ _ h => h) (Or.inl ⟨by rfl, ?_⟩) hHeld ?_ ?_
  rotate_left
  · rintro w' ⟨s0, s1, s2, s3, s4, s5, s6, s7, s8, s9⟩
    go_simp
    with_reducible rfl
  rotate_left
  · simp only [Act.put, List.setIfInBounds_toArray, List.set_cons_zero, List.set_cons_succ, i64_w, i32_w]
    rfl
  refine take_ (i := 34) (N := some 139) (v := ?_) (a' := ?_) #[true, true, true, true, true, true, true, true, true, true, true, true, true, true, true, true, true, true, true, true, true, true, true, true, true, true, true, true, true, true, true, true, true, true, true, false, false, false, false, true, false, false, false, false, false] rfl rfl (by kernel_rfl) (fun _ _ _ h => h) (Or.inl ⟨by rfl, ?_⟩) hHeld ?_ ?_
  rotate_left
  · rintro w' ⟨s0, s1, s2, s3, s4, s5, s6, s7, s8, s9⟩
    go_simp
    with_reducible rfl
  rotate_left
  · simp only [Act.put, List.setIfInBounds_toArray, List.set_cons_zero, List.set_cons_succ, i64_w, i32_w]
    rfl
  refine take_ (i := 36) (N := some 141) (v := ?_) (a' := ?_) #[true, true, true, true, true, true, true, true, true, true, true, true, true, true, true, true, true, true, true, true, true, true, true, true, true, true, true, true, true, true, true, true, true, true, true, false, true, false, false, true, false, false, false, false, false] rfl rfl (by kernel_rfl) (fun _ _ _ h => h) (Or.inl ⟨by rfl, ?_⟩) hHeld ?_ ?_
  rotate_left
  · rintro w' ⟨s0, s1, s2, s3, s4, s5, s6, s7, s8, s9⟩
    go_simp
    with_reducible rfl
  rotate_left
  · simp only [Act.put, List.setIfInBounds_toArray, List.set_cons_zero, List.set_cons_succ, i64_w, i32_w]
    rfl
  refine take_ (i := 37) (N := some 142) (v := ?_) (a' := ?_) #[true, true, true, true, true, true, true, true, true, true, true, true, true, true, true, true, true, true, true, true, true, true, true, true, true, true, true, true, true, true, true, true, true, true, true, false, true, true, false, true, false, false, false, false, false] rfl rfl (by kernel_rfl) (fun _ _ _ h => h) (Or.inl ⟨by rfl, ?_⟩) hHeld ?_ ?_
  rotate_left
  · rintro w' ⟨s0, s1, s2, s3, s4, s5, s6, s7, s8, s9⟩
    go_simp
    with_reducible rfl
  rotate_left
  · simp only [Act.put, List.setIfInBounds_toArray, List.set_cons_zero, List.set_cons_succ, i64_w, i32_w]
    rfl
  refine take_ (i := 38) (N := some 143) (v := ?_) (a' := ?_) #[true, true, true, true, true, true, true, true, true, true, true, true, true, true, true, true, true, true, true, true, true, true, true, true, true, true, true, true, true, true, true, true, true, true, true, false, true, true, true, true, false, false, false, false, false] rfl rfl (by kernel_rfl) (fun _ _ _ h => h) (Or.inl ⟨by rfl, ?_⟩) hHeld ?_ ?_
  rotate_left
  · rintro w' ⟨s0, s1, s2, s3, s4, s5, s6, s7, s8, s9⟩
    go_simp
    with_reducible rfl
  rotate_left
  · simp only [Act.put, List.setIfInBounds_toArray, List.set_cons_zero, List.set_cons_succ, i64_w, i32_w]
    rfl
  refine one_ (i := 35) (N := some 140) #[true, true, true, true, true, true, true, true, true, true, true, true, true, true, true, true, true, true, true, true, true, true, true, true, true, true, true, true, true, true, true, true, true, true, true, true, true, true, true, true, false, false, false, false, false] rfl rfl (by kernel_rfl) (by decide) (fun K hK => ?_)
  refine goes_ Try.func21 (by kernel_rfl) rfl #[.agg #[.slice A0 gs.length c0, .slice A1 arr.length c1, .slice A2 l2.length c2, .slice A3 l3.length c3], .int .u64 l, .agg #[.slice P1 g1.length p1, .slice Q1 r1.length q1], .agg #[.slice P2 g2.length p2, .slice Q2 r2.length q2]] (by rfl) rfl rfl (by simp only [List.map_toArray, List.map_cons, List.map_nil]; rfl) ?_
  with_reducible refine (alikeC (Zhm.out.below HB.out) (Zh1.out.below HB.out) (Zh2.out.below HB.out) l B ZhB.out Zs1.out Zs2.out).mono ?_
  rintro e t8 ⟨rfl, hb⟩
  refine ⟨_, rfl, ?_⟩
  replace HS := Aside0.mk (HS.out.below hb)
  rw [Zab.out]
  replace HB := Aside0.mk (below_step HB.out hb)
  refine hK.out _ _ ⟨(pw_cell_below hb hHeld.1), (pw_cell_below hb hHeld.2.1), (pw_cell_below hb hHeld.2.2.1), (pw_cell_below hb hHeld.2.2.2.1), (pw_cell_below hb hHeld.2.2.2.2.1), (pw_cell_below hb hHeld.2.2.2.2.2.1), (pw_cell_below hb hHeld.2.2.2.2.2.2.1), (pw_cell_below hb hHeld.2.2.2.2.2.2.2.1), (pw_cell_below hb hHeld.2.2.2.2.2.2.2.2.1), (pw_cell_below hb hHeld.2.2.2.2.2.2.2.2.2)⟩ (fun hHeld => ?_)
  clear hK K
  refine norm_ (a' := ?_) ?_ ?_
  rotate_left
  · show Act.put _ (some 140) _ = _
    simp only [Act.put, List.setIfInBounds_toArray, List.set_cons_zero, List.set_cons_succ, i64_w, i32_w]
    rfl
  refine one_ (i := 40) (N := some 145) #[true, true, true, true, true, true, true, true, true, true, true, true, true, true, true, true, true, true, true, true, true, true, true, true, true, true, true, true, true, true, true, true, true, true, true, true, true, true, true, true, true, false, false, false, false] rfl rfl (by kernel_rfl) (by decide) (fun K hK => ?_)
  refine goes_ Try.func11 (by kernel_rfl) rfl #[.agg #[.slice A0 gs.length c0, .slice A1 arr.length c1, .slice A2 l2.length c2, .slice A3 l3.length c3], .agg #[.slice P2 g2.length p2, .slice Q2 r2.length q2], .int .u64 l] (by rfl) rfl rfl (by simp only [List.map_toArray, List.map_cons, List.map_nil]; rfl) ?_
  with_reducible refine (seenC (Zhm.out.below HB.out) (Zh2.out.below HB.out) l B ZhB.out Zs2.out).mono ?_
  rintro e t9 ⟨v9, rfl, hs9, hb⟩
  refine ⟨_, rfl, ?_⟩
  replace HS := Aside0.mk (HS.out.below hb)
  rw [show seenM gs arr l g2 r2 = (seenG l gs g2, seenR l arr r2) from if_pos Zf2.out] at hs9
  simp only at hs9
  obtain ⟨Y0, y0, Y1, y1, rfl, n0, n1, n2, n3⟩ := hs9
  have HY := Aside0.mk (show MemR t9 (.agg #[.slice Y0 (seenG l gs g2).length y0, .slice Y1 (seenR l arr r2).length y1]) (seenG l gs g2) (seenR l arr r2) from ⟨Y0, y0, Y1, y1, rfl, n0, n1, n2, n3⟩)
  clear n0 n1 n2 n3
  replace HB := Aside0.mk (below_step HB.out hb)
  refine hK.out _ _ ⟨(pw_cell_below hb hHeld.1), (pw_cell_below hb hHeld.2.1), (pw_cell_below hb hHeld.2.2.1), (pw_cell_below hb hHeld.2.2.2.1), (pw_cell_below hb hHeld.2.2.2.2.1), (pw_cell_below hb hHeld.2.2.2.2.2.1), (pw_cell_below hb hHeld.2.2.2.2.2.2.1), (pw_cell_below hb hHeld.2.2.2.2.2.2.2.1), (pw_cell_below hb hHeld.2.2.2.2.2.2.2.2.1), (pw_cell_below hb hHeld.2.2.2.2.2.2.2.2.2)⟩ (fun hHeld => ?_)
  clear hK K
  refine norm_ (a' := ?_) ?_ ?_
  rotate_left
  · show Act.put _ (some 145) _ = _
    simp only [Act.put, List.setIfInBounds_toArray, List.set_cons_zero, List.set_cons_succ, i64_w, i32_w]
    rfl
  refine one_ (i := 41) (N := some 146) #[true, true, true, true, true, true, true, true, true, true, true, true, true, true, true, true, true, true, true, true, true, true, true, true, true, true, true, true, true, true, true, true, true, true, true, true, true, true, true, true, true, true, false, false, false] rfl rfl (by kernel_rfl) (by decide) (fun K hK => ?_)
  refine goes_ Try.func22 (by kernel_rfl) rfl #[.agg #[.slice S0 sg.length d0, .slice S1 sr.length d1], .agg #[.slice Y0 (seenG l gs g2).length y0, .slice Y1 (seenR l arr r2).length y1]] (by rfl) rfl rfl (by simp only [List.map_toArray, List.map_cons, List.map_nil]; rfl) ?_
  with_reducible refine (sameC HS.out HY.out B (by have := ZhB.out; omega) (by rw [HSG.out, HSR.out]; exact sized_seen l Zs1.out)).mono ?_
  rintro e t10 ⟨rfl, hb⟩
  refine ⟨_, rfl, ?_⟩
  replace HS := Aside0.mk (HS.out.below hb)
  clear HY
  rw [show sameB sg sr (seenG l gs g2) (seenR l arr r2) = alikeB gs arr l g1 r1 g2 r2 by rw [alikeB_fits Zf1.out Zf2.out, HSG.out, HSR.out], Zab.out]
  replace HB := Aside0.mk (below_step HB.out hb)
  refine hK.out _ _ ⟨(pw_cell_below hb hHeld.1), (pw_cell_below hb hHeld.2.1), (pw_cell_below hb hHeld.2.2.1), (pw_cell_below hb hHeld.2.2.2.1), (pw_cell_below hb hHeld.2.2.2.2.1), (pw_cell_below hb hHeld.2.2.2.2.2.1), (pw_cell_below hb hHeld.2.2.2.2.2.2.1), (pw_cell_below hb hHeld.2.2.2.2.2.2.2.1), (pw_cell_below hb hHeld.2.2.2.2.2.2.2.2.1), (pw_cell_below hb hHeld.2.2.2.2.2.2.2.2.2)⟩ (fun hHeld => ?_)
  clear hK K
  refine norm_ (a' := ?_) ?_ ?_
  rotate_left
  · show Act.put _ (some 146) _ = _
    simp only [Act.put, List.setIfInBounds_toArray, List.set_cons_zero, List.set_cons_succ, i64_w, i32_w]
    rfl
  refine pure_ (i := 42) (N := some 147) (v := ?_) (a' := ?_) #[true, true, true, true, true, true, true, true, true, true, true, true, true, true, true, true, true, true, true, true, true, true, true, true, true, true, true, true, true, true, true, true, true, true, true, true, true, true, true, true, true, true, true, false, false] rfl rfl (by kernel_rfl) (fun _ _ _ h => h) (Or.inl ⟨by rfl, ?_⟩) ?_ ?_
  rotate_left
  · intro w'
    go_simp
    with_reducible rfl
  rotate_left
  · simp only [Act.put, List.setIfInBounds_toArray, List.set_cons_zero, List.set_cons_succ, i64_w, i32_w]
    rfl
  refine pure_ (i := 43) (N := some 148) (v := ?_) (a' := ?_) #[true, true, true, true, true, true, true, true, true, true, true, true, true, true, true, true, true, true, true, true, true, true, true, true, true, true, true, true, true, true, true, true, true, true, true, true, true, true, true, true, true, true, true, true, false] rfl rfl (by kernel_rfl) (fun _ _ _ h => h) (Or.inl ⟨by rfl, ?_⟩) ?_ ?_
  rotate_left
  · intro w'
    go_simp
    with_reducible rfl
  rotate_left
  · simp only [Act.put, List.setIfInBounds_toArray, List.set_cons_zero, List.set_cons_succ, i64_w, i32_w]
    rfl
  refine pure_ (i := 44) (N := some 12) (v := ?_) (a' := ?_) #[true, true, true, true, true, true, true, true, true, true, true, true, true, true, true, true, true, true, true, true, true, true, true, true, true, true, true, true, true, true, true, true, true, true, true, true, true, true, true, true, true, true, true, true, true] rfl rfl (by kernel_rfl) (fun _ _ _ h => h) (Or.inl ⟨by rfl, ?_⟩) ?_ ?_
  rotate_left
  · intro w'
    go_simp
    with_reducible rfl
  rotate_left
  · simp only [Act.put, List.setIfInBounds_toArray, List.set_cons_zero, List.set_cons_succ, i64_w, i32_w]
    rfl
  refine done_ (by kernel_rfl) ?_
  go_wp2
  go_ret
  exact ⟨rfl, HB.out⟩
set_option maxHeartbeats 16000000 in
set_option maxRecDepth 100000 in
theorem viewOrder.yes1 (A0 A1 A2 A3 : Option Addr) (c0 c1 c2 c3 : Nat) (gs : List Int) (arr : List S57) (l2 : List Int) (l3 : List S48) (P1 Q1 : Option Addr) (p1 q1 : Nat) (g1 : List Int) (r1 : List (List Int)) (P2 Q2 : Option Addr) (p2 q2 : Nat) (g2 : List Int) (r2 : List (List Int)) (P3 Q3 : Option Addr) (p3 q3 : Nat) (g3 : List Int) (r3 : List (List Int)) (l less : Int) (w : World) (hm : ModR w (.agg #[.slice A0 gs.length c0, .slice A1 arr.length c1, .slice A2 l2.length c2, .slice A3 l3.length c3]) gs arr l2 l3) (h1 : MemR w (.agg #[.slice P1 g1.length p1, .slice Q1 r1.length q1]) g1 r1) (h2 : MemR w (.agg #[.slice P2 g2.length p2, .slice Q2 r2.length q2]) g2 r2) (h3 : MemR w (.agg #[.slice P3 g3.length p3, .slice Q3 r3.length q3]) g3 r3) (B : Nat) (hB : B ≤ 17592186044415) (s1 : Sized B g1 r1) (s2 : Sized B g2 r2) (s3 : Sized B g3 r3) (f1 : fitsB gs arr g1 r1 = true) (f2 : fitsB gs arr g2 r2 = true) (f3 : fitsB gs arr g3 r3 = true) (wg : ∀ a ∈ gs, (Lit.int .u64 a).wf = true) (wa : ∀ a ∈ arr, (Lit.int .u64 a.f1).wf = true) (wl : (Lit.int .u64 l).wf = true) (wm : (Lit.int .u64 less).wf = true) (ab : alikeB gs arr l g1 r1 g2 r2 = true) (bc : alikeB gs arr l g2 r2 g3 r3 = false) :
    Calls Try.prog 4 #[.agg #[.slice A0 gs.length c0, .slice A1 arr.length c1, .slice A2 l2.length c2, .slice A3 l3.length c3], .int .u64 l, .int .u64 less, .agg #[.slice P1 g1.length p1, .slice Q1 r1.length q1], .agg #[.slice P2 g2.length p2, .slice Q2 r2.length q2], .agg #[.slice P3 g3.length p3, .slice Q3 r3.length q3]] w fun e w' => e = .returned (.bool true) ∧ Below w.heap.size w w' := by
  have Zhm := Aside0.mk hm
  have Zh1 := Aside0.mk h1
  have Zh2 := Aside0.mk h2
  have Zh3 := Aside0.mk h3
  have ZhB := Aside0.mk hB
  have Zs1 := Aside0.mk s1
  have Zs2 := Aside0.mk s2
  have Zs3 := Aside0.mk s3
  have Zf1 := Aside0.mk f1
  have Zf2 := Aside0.mk f2
  have Zf3 := Aside0.mk f3
  have Zwg := Aside0.mk wg
  have Zwa := Aside0.mk wa
  have Zwl := Aside0.mk wl
  have Zwm := Aside0.mk wm
  have Zab := Aside0.mk ab
  have Zbc := Aside0.mk bc
  clear hm h1 h2 h3 hB s1 s2 s3 f1 f2 f3 wg wa wl wm ab bc
  have HB := Aside0.mk (below_alloc (below_alloc (below_alloc (below_alloc (Below.refl w.heap.size w) (.cells #[.slice A0 gs.length c0, .slice A1 arr.length c1, .slice A2 l2.length c2, .slice A3 l3.length c3] 26)) (.cells #[.slice P1 g1.length p1, .slice Q1 r1.length q1] 30)) (.cells #[.slice P2 g2.length p2, .slice Q2 r2.length q2] 30)) (.cells #[.slice P3 g3.length p3, .slice Q3 r3.length q3] 30))
  have G0_ : (w.alloc (.cells #[.slice A0 gs.length c0, .slice A1 arr.length c1, .slice A2 l2.length c2, .slice A3 l3.length c3] 26)).heap[w.heap.size + 0]? = some (.cells #[.slice A0 gs.length c0, .slice A1 arr.length c1, .slice A2 l2.length c2, .slice A3 l3.length c3] 26 (0, 0)) := by
    have := heap_alloc_new w (.cells #[.slice A0 gs.length c0, .slice A1 arr.length c1, .slice A2 l2.length c2, .slice A3 l3.length c3] 26)
    simpa using this
  have HG0 := Aside0.mk (blk_alloc (blk_alloc (blk_alloc (G0_) (.cells #[.slice P1 g1.length p1, .slice Q1 r1.length q1] 30)) (.cells #[.slice P2 g2.length p2, .slice Q2 r2.length q2] 30)) (.cells #[.slice P3 g3.length p3, .slice Q3 r3.length q3] 30))
  clear G0_
  have G1_ : ((w.alloc (.cells #[.slice A0 gs.length c0, .slice A1 arr.length c1, .slice A2 l2.length c2, .slice A3 l3.length c3] 26)).alloc (.cells #[.slice P1 g1.length p1, .slice Q1 r1.length q1] 30)).heap[w.heap.size + 1]? = some (.cells #[.slice P1 g1.length p1, .slice Q1 r1.length q1] 30 (0, 0)) := by
    have := heap_alloc_new (w.alloc (.cells #[.slice A0 gs.length c0, .slice A1 arr.length c1, .slice A2 l2.length c2, .slice A3 l3.length c3] 26)) (.cells #[.slice P1 g1.length p1, .slice Q1 r1.length q1] 30)
    simpa using this
  have HG1 := Aside0.mk (blk_alloc (blk_alloc (G1_) (.cells #[.slice P2 g2.length p2, .slice Q2 r2.length q2] 30)) (.cells #[.slice P3 g3.length p3, .slice Q3 r3.length q3] 30))
  clear G1_
  have G2_ : (((w.alloc (.cells #[.slice A0 gs.length c0, .slice A1 arr.length c1, .slice A2 l2.length c2, .slice A3 l3.length c3] 26)).alloc (.cells #[.slice P1 g1.length p1, .slice Q1 r1.length q1] 30)).alloc (.cells #[.slice P2 g2.length p2, .slice Q2 r2.length q2] 30)).heap[w.heap.size + 2]? = some (.cells #[.slice P2 g2.length p2, .slice Q2 r2.length q2] 30 (0, 0)) := by
    have := heap_alloc_new ((w.alloc (.cells #[.slice A0 gs.length c0, .slice A1 arr.length c1, .slice A2 l2.length c2, .slice A3 l3.length c3] 26)).alloc (.cells #[.slice P1 g1.length p1, .slice Q1 r1.length q1] 30)) (.cells #[.slice P2 g2.length p2, .slice Q2 r2.length q2] 30)
    simpa using this
  have HG2 := Aside0.mk (blk_alloc (G2_) (.cells #[.slice P3 g3.length p3, .slice Q3 r3.length q3] 30))
  clear G2_
  have G3_ : ((((w.alloc (.cells #[.slice A0 gs.length c0, .slice A1 arr.length c1, .slice A2 l2.length c2, .slice A3 l3.length c3] 26)).alloc (.cells #[.slice P1 g1.length p1, .slice Q1 r1.length q1] 30)).alloc (.cells #[.slice P2 g2.length p2, .slice Q2 r2.length q2] 30)).alloc (.cells #[.slice P3 g3.length p3, .slice Q3 r3.length q3] 30)).heap[w.heap.size + 3]? = some (.cells #[.slice P3 g3.length p3, .slice Q3 r3.length q3] 30 (0, 0)) := by
    have := heap_alloc_new (((w.alloc (.cells #[.slice A0 gs.length c0, .slice A1 arr.length c1, .slice A2 l2.length c2, .slice A3 l3.length c3] 26)).alloc (.cells #[.slice P1 g1.length p1, .slice Q1 r1.length q1] 30)).alloc (.cells #[.slice P2 g2.length p2, .slice Q2 r2.length q2] 30)) (.cells #[.slice P3 g3.length p3, .slice Q3 r3.length q3] 30)
    simpa using this
  have HG3 := Aside0.mk (G3_)
  clear G3_
  simp only [Nat.add_zero] at HG0
  obtain ⟨m0, m1, m2, m3⟩ := blk4 HG0.out
  obtain ⟨⟨a0, a1⟩, _, _⟩ := blk2 HG1.out
  obtain ⟨⟨b0, b1⟩, _, _⟩ := blk2 HG2.out
  obtain ⟨⟨c0_, c1_⟩, _, _⟩ := blk2 HG3.out
  go_enter Try.func4, Try.ntmps4
  go_wp2_with fail
  refine (fitsC (Zhm.out.below HB.out) (Zh1.out.below HB.out)).mono ?_
  rintro e v21 ⟨rfl, hb⟩
  rw [Zf1.out]
  clear m0 m1 m2 m3 a0 a1 b0 b1 c0_ c1_
  replace HG0 := Aside0.mk (blk_below HG0.out hb)
  replace HG1 := Aside0.mk (blk_below HG1.out hb)
  replace HG2 := Aside0.mk (blk_below HG2.out hb)
  replace HG3 := Aside0.mk (blk_below HG3.out hb)
  replace HB := Aside0.mk (below_step HB.out hb)
  clear hb
  obtain ⟨m0, m1, m2, m3⟩ := blk4 HG0.out
  obtain ⟨⟨a0, a1⟩, _, _⟩ := blk2 HG1.out
  obtain ⟨⟨b0, b1⟩, _, _⟩ := blk2 HG2.out
  obtain ⟨⟨c0_, c1_⟩, _, _⟩ := blk2 HG3.out
  go_wp2_with fail
  refine (fitsC (Zhm.out.below HB.out) (Zh2.out.below HB.out)).mono ?_
  rintro e v22 ⟨rfl, hb⟩
  rw [Zf2.out]
  clear m0 m1 m2 m3 a0 a1 b0 b1 c0_ c1_
  replace HG0 := Aside0.mk (blk_below HG0.out hb)
  replace HG1 := Aside0.mk (blk_below HG1.out hb)
  replace HG2 := Aside0.mk (blk_below HG2.out hb)
  replace HG3 := Aside0.mk (blk_below HG3.out hb)
  replace HB := Aside0.mk (below_step HB.out hb)
  clear hb
  obtain ⟨m0, m1, m2, m3⟩ := blk4 HG0.out
  obtain ⟨⟨a0, a1⟩, _, _⟩ := blk2 HG1.out
  obtain ⟨⟨b0, b1⟩, _, _⟩ := blk2 HG2.out
  obtain ⟨⟨c0_, c1_⟩, _, _⟩ := blk2 HG3.out
  go_wp2_with fail
  refine (fitsC (Zhm.out.below HB.out) (Zh3.out.below HB.out)).mono ?_
  rintro e v23 ⟨rfl, hb⟩
  rw [Zf3.out]
  clear m0 m1 m2 m3 a0 a1 b0 b1 c0_ c1_
  replace HG0 := Aside0.mk (blk_below HG0.out hb)
  replace HG1 := Aside0.mk (blk_below HG1.out hb)
  replace HG2 := Aside0.mk (blk_below HG2.out hb)
  replace HG3 := Aside0.mk (blk_below HG3.out hb)
  replace HB := Aside0.mk (below_step HB.out hb)
  clear hb
  obtain ⟨m0, m1, m2, m3⟩ := blk4 HG0.out
  obtain ⟨⟨a0, a1⟩, _, _⟩ := blk2 HG1.out
  obtain ⟨⟨b0, b1⟩, _, _⟩ := blk2 HG2.out
  obtain ⟨⟨c0_, c1_⟩, _, _⟩ := blk2 HG3.out
  go_wp2_with fail
  refine (awakeC _).mono ?_
  rintro e v24 ⟨rfl, hb⟩
  clear m0 m1 m2 m3 a0 a1 b0 b1 c0_ c1_
  replace HG0 := Aside0.mk (blk_below HG0.out hb)
  replace HG1 := Aside0.mk (blk_below HG1.out hb)
  replace HG2 := Aside0.mk (blk_below HG2.out hb)
  replace HG3 := Aside0.mk (blk_below HG3.out hb)
  replace HB := Aside0.mk (below_step HB.out hb)
  clear hb
  obtain ⟨m0, m1, m2, m3⟩ := blk4 HG0.out
  obtain ⟨⟨a0, a1⟩, _, _⟩ := blk2 HG1.out
  obtain ⟨⟨b0, b1⟩, _, _⟩ := blk2 HG2.out
  obtain ⟨⟨c0_, c1_⟩, _, _⟩ := blk2 HG3.out
  go_wp2_with fail
  refine (alikeC (Zhm.out.below HB.out) (Zh1.out.below HB.out) (Zh2.out.below HB.out) l B ZhB.out Zs1.out Zs2.out).mono ?_
  rintro e v25 ⟨rfl, hb⟩
  rw [Zab.out]
  clear m0 m1 m2 m3 a0 a1 b0 b1 c0_ c1_
  replace HG0 := Aside0.mk (blk_below HG0.out hb)
  replace HG1 := Aside0.mk (blk_below HG1.out hb)
  replace HG2 := Aside0.mk (blk_below HG2.out hb)
  replace HG3 := Aside0.mk (blk_below HG3.out hb)
  replace HB := Aside0.mk (below_step HB.out hb)
  clear hb
  obtain ⟨m0, m1, m2, m3⟩ := blk4 HG0.out
  obtain ⟨⟨a0, a1⟩, _, _⟩ := blk2 HG1.out
  obtain ⟨⟨b0, b1⟩, _, _⟩ := blk2 HG2.out
  obtain ⟨⟨c0_, c1_⟩, _, _⟩ := blk2 HG3.out
  go_wp2_with fail
  refine (alikeC (Zhm.out.below HB.out) (Zh1.out.below HB.out) (Zh1.out.below HB.out) l B ZhB.out Zs1.out Zs1.out).mono ?_
  rintro e v26 ⟨rfl, hb⟩
  rw [alikeB_refl Zf1.out]
  clear m0 m1 m2 m3 a0 a1 b0 b1 c0_ c1_
  replace HG0 := Aside0.mk (blk_below HG0.out hb)
  replace HG1 := Aside0.mk (blk_below HG1.out hb)
  replace HG2 := Aside0.mk (blk_below HG2.out hb)
  replace HG3 := Aside0.mk (blk_below HG3.out hb)
  replace HB := Aside0.mk (below_step HB.out hb)
  clear hb
  obtain ⟨m0, m1, m2, m3⟩ := blk4 HG0.out
  obtain ⟨⟨a0, a1⟩, _, _⟩ := blk2 HG1.out
  obtain ⟨⟨b0, b1⟩, _, _⟩ := blk2 HG2.out
  obtain ⟨⟨c0_, c1_⟩, _, _⟩ := blk2 HG3.out
  go_wp2_with fail
  refine (alikeC (Zhm.out.below HB.out) (Zh2.out.below HB.out) (Zh1.out.below HB.out) l B ZhB.out Zs2.out Zs1.out).mono ?_
  rintro e v27 ⟨rfl, hb⟩
  rw [alikeB_comm Zf1.out Zf2.out, Zab.out]
  clear m0 m1 m2 m3 a0 a1 b0 b1 c0_ c1_
  replace HG0 := Aside0.mk (blk_below HG0.out hb)
  replace HG1 := Aside0.mk (blk_below HG1.out hb)
  replace HG2 := Aside0.mk (blk_below HG2.out hb)
  replace HG3 := Aside0.mk (blk_below HG3.out hb)
  replace HB := Aside0.mk (below_step HB.out hb)
  clear hb
  obtain ⟨m0, m1, m2, m3⟩ := blk4 HG0.out
  obtain ⟨⟨a0, a1⟩, _, _⟩ := blk2 HG1.out
  obtain ⟨⟨b0, b1⟩, _, _⟩ := blk2 HG2.out
  obtain ⟨⟨c0_, c1_⟩, _, _⟩ := blk2 HG3.out
  go_wp2_with fail
  refine (alikeC (Zhm.out.below HB.out) (Zh2.out.below HB.out) (Zh3.out.below HB.out) l B ZhB.out Zs2.out Zs3.out).mono ?_
  rintro e v28 ⟨rfl, hb⟩
  rw [Zbc.out]
  clear m0 m1 m2 m3 a0 a1 b0 b1 c0_ c1_
  replace HG0 := Aside0.mk (blk_below HG0.out hb)
  replace HG1 := Aside0.mk (blk_below HG1.out hb)
  replace HG2 := Aside0.mk (blk_below HG2.out hb)
  replace HG3 := Aside0.mk (blk_below HG3.out hb)
  replace HB := Aside0.mk (below_step HB.out hb)
  clear hb
  obtain ⟨m0, m1, m2, m3⟩ := blk4 HG0.out
  obtain ⟨⟨a0, a1⟩, _, _⟩ := blk2 HG1.out
  obtain ⟨⟨b0, b1⟩, _, _⟩ := blk2 HG2.out
  obtain ⟨⟨c0_, c1_⟩, _, _⟩ := blk2 HG3.out
  go_wp2_with fail
  refine (alikeC (Zhm.out.below HB.out) (Zh1.out.below HB.out) (Zh2.out.below HB.out) (Go.bits .and .u64 l less) B ZhB.out Zs1.out Zs2.out).mono ?_
  rintro e v29 ⟨rfl, hb⟩
  rw [alikeB_less Zf1.out Zf2.out (fun a ha => wi_less a l less (Zwg.out a ha) Zwl.out Zwm.out) (fun a ha => wi_less a.f1 l less (Zwa.out a ha) Zwl.out Zwm.out) Zab.out]
  clear m0 m1 m2 m3 a0 a1 b0 b1 c0_ c1_
  replace HG0 := Aside0.mk (blk_below HG0.out hb)
  replace HG1 := Aside0.mk (blk_below HG1.out hb)
  replace HG2 := Aside0.mk (blk_below HG2.out hb)
  replace HG3 := Aside0.mk (blk_below HG3.out hb)
  replace HB := Aside0.mk (below_step HB.out hb)
  clear hb
  obtain ⟨m0, m1, m2, m3⟩ := blk4 HG0.out
  obtain ⟨⟨a0, a1⟩, _, _⟩ := blk2 HG1.out
  obtain ⟨⟨b0, b1⟩, _, _⟩ := blk2 HG2.out
  obtain ⟨⟨c0_, c1_⟩, _, _⟩ := blk2 HG3.out
  go_wp2_with fail
  refine (seenC (Zhm.out.below HB.out) (Zh1.out.below HB.out) l B ZhB.out Zs1.out).mono ?_
  rintro e u1 ⟨v, rfl, hs, hb⟩
  rw [show seenM gs arr l g1 r1 = (seenG l gs g1, seenR l arr r1) from if_pos Zf1.out] at hs
  simp only at hs
  obtain ⟨sg, hsg⟩ : ∃ s, seenG l gs g1 = s := ⟨_, rfl⟩
  obtain ⟨sr, hsr⟩ : ∃ s, seenR l arr r1 = s := ⟨_, rfl⟩
  rw [hsg, hsr] at hs
  obtain ⟨S0, d0, S1, d1, rfl, k0, k1, k2, k3⟩ := hs
  clear m0 m1 m2 m3 a0 a1 b0 b1 c0_ c1_
  replace HG0 := Aside0.mk (blk_below HG0.out hb)
  replace HG1 := Aside0.mk (blk_below HG1.out hb)
  replace HG2 := Aside0.mk (blk_below HG2.out hb)
  replace HG3 := Aside0.mk (blk_below HG3.out hb)
  replace HB := Aside0.mk (below_step HB.out hb)
  clear hb
  have HS := Aside0.mk (show MemR u1 (.agg #[.slice S0 sg.length d0, .slice S1 sr.length d1]) sg sr from ⟨S0, d0, S1, d1, rfl, k0, k1, k2, k3⟩)
  clear k0 k1 k2 k3
  obtain ⟨m0, m1, m2, m3⟩ := blk4 HG0.out
  obtain ⟨⟨a0, a1⟩, _, _⟩ := blk2 HG1.out
  obtain ⟨⟨b0, b1⟩, _, _⟩ := blk2 HG2.out
  obtain ⟨⟨c0_, c1_⟩, _, _⟩ := blk2 HG3.out
  have hgs := heap_alloc_new u1 (.cells #[.slice S0 sg.length d0, .slice S1 sr.length d1] 30)
  have hba := below_alloc (Below.refl u1.heap.size u1) (.cells #[.slice S0 sg.length d0, .slice S1 sr.length d1] 30)
  have HSG := Aside0.mk (show sg = seenG l gs g1 from hsg.symm)
  have HSR := Aside0.mk (show sr = seenR l arr r1 from hsr.symm)
  clear hsg hsr
  go_wp2_with fail
  obtain ⟨q, hq⟩ : ∃ q, u1.heap.size = q := ⟨_, rfl⟩
  obtain ⟨u2, hu2⟩ : ∃ W, u1.alloc (.cells #[.slice S0 sg.length d0, .slice S1 sr.length d1] 30) = W := ⟨_, rfl⟩
  rw [hu2] at hgs hba ⊢
  clear m0 m1 m2 m3 a0 a1 b0 b1 c0_ c1_
  replace HG0 := Aside0.mk (blk_below HG0.out hba)
  replace HG1 := Aside0.mk (blk_below HG1.out hba)
  replace HG2 := Aside0.mk (blk_below HG2.out hba)
  replace HG3 := Aside0.mk (blk_below HG3.out hba)
  replace HS := Aside0.mk (HS.out.below hba)
  replace HB := Aside0.mk (below_step HB.out hba)
  clear hba
  rw [hq] at hgs ⊢
  have HGs := Aside0.mk hgs
  clear hgs hu2 hq
  obtain ⟨m0, m1, m2, m3⟩ := blk4 HG0.out
  obtain ⟨⟨a0, a1⟩, _, _⟩ := blk2 HG1.out
  obtain ⟨⟨b0, b1⟩, _, _⟩ := blk2 HG2.out
  obtain ⟨⟨c0_, c1_⟩, _, _⟩ := blk2 HG3.out
  obtain ⟨⟨e0, e1⟩, _, _⟩ := blk2 HGs.out
  obtain ⟨sm, hsm⟩ : ∃ b, sameB g1 r1 g2 r2 = b := ⟨_, rfl⟩
  have ZSM := Aside0.mk hsm
  clear hsm
  refine start_ (n := 45) (S := fun w' => w'.cell? ⟨w.heap.size, 0, none⟩ = some (.slice A0 gs.length c0) ∧ w'.cell? ⟨w.heap.size, 1, none⟩ = some (.slice A1 arr.length c1) ∧ w'.cell? ⟨w.heap.size, 2, none⟩ = some (.slice A2 l2.length c2) ∧ w'.cell? ⟨w.heap.size, 3, none⟩ = some (.slice A3 l3.length c3) ∧ w'.cell? ⟨w.heap.size + 1, 0, none⟩ = some (.slice P1 g1.length p1) ∧ w'.cell? ⟨w.heap.size + 1, 1, none⟩ = some (.slice Q1 r1.length q1) ∧ w'.cell? ⟨w.heap.size + 2, 0, none⟩ = some (.slice P2 g2.length p2) ∧ w'.cell? ⟨w.heap.size + 2, 1, none⟩ = some (.slice Q2 r2.length q2) ∧ w'.cell? ⟨q, 0, none⟩ = some (.slice S0 sg.length d0) ∧ w'.cell? ⟨q, 1, none⟩ = some (.slice S1 sr.length d1)) (ds := []) #[false, false, false, false, false, false, false, false, false, false, false, false, false, false, false, false, false, false, false, false, false, false, false, false, false, false, false, false, false, false, false, false, false, false, false, false, false, false, false, false, false, false, false, false, false] (by kernel_rfl) rfl rfl ⟨m0, m1, m2, m3, a0, a1, b0, b1, e0, e1⟩ (fun hHeld => ?_)
  refine pure_ (i := 1) (N := some 106) (v := ?_) (a' := ?_) #[false, true, false, false, false, false, false, false, false, false, false, false, false, false, false, false, false, false, false, false, false, false, false, false, false, false, false, false, false, false, false, false, false, false, false, false, false, false, false, false, false, false, false, false, false] rfl rfl (by kernel_rfl) (fun _ _ _ h => h) (Or.inl ⟨by rfl, ?_⟩) ?_ ?_
  rotate_left
  · intro w'
    go_simp
    with_reducible rfl
  rotate_left
  · simp only [Act.put, List.setIfInBounds_toArray, List.set_cons_zero, List.set_cons_succ, i64_w, i32_w]
    rfl
  refine take_ (i := 0) (N := some 105) (v := ?_) (a' := ?_) #[true, true, false, false, false, false, false, false, false, false, false, false, false, false, false, false, false, false, false, false, false, false, false, false, false, false, false, false, false, false, false, false, false, false, false, false, false, false, false, false, false, false, false, false, false] rfl rfl (by kernel_rfl) (fun _ _ _ h => h) (Or.inl ⟨by rfl, ?_⟩) hHeld ?_ ?_
  rotate_left
  · rintro w' ⟨s0, s1, s2, s3, s4, s5, s6, s7, s8, s9⟩
    go_simp
    with_reducible rfl
  rotate_left
  · simp only [Act.put, List.setIfInBounds_toArray, List.set_cons_zero, List.set_cons_succ, i64_w, i32_w]
    rfl
  refine take_ (i := 2) (N := some 107) (v := ?_) (a' := ?_) #[true, true, true, false, false, false, false, false, false, false, false, false, false, false, false, false, false, false, false, false, false, false, false, false, false, false, false, false, false, false, false, false, false, false, false, false, false, false, false, false, false, false, false, false, false] rfl rfl (by kernel_rfl) (fun _ _ _ h => h) (Or.inl ⟨by rfl, ?_⟩) hHeld ?_ ?_
  rotate_left
  · rintro w' ⟨s0, s1, s2, s3, s4, s5, s6, s7, s8, s9⟩
    go_simp
    with_reducible rfl
  rotate_left
  · simp only [Act.put, List.setIfInBounds_toArray, List.set_cons_zero, List.set_cons_succ, i64_w, i32_w]
    rfl
  refine take_ (i := 3) (N := some 108) (v := ?_) (a' := ?_) #[true, true, true, true, false, false, false, false, false, false, false, false, false, false, false, false, false, false, false, false, false, false, false, false, false, false, false, false, false, false, false, false, false, false, false, false, false, false, false, false, false, false, false, false, false] rfl rfl (by kernel_rfl) (fun _ _ _ h => h) (Or.inl ⟨by rfl, ?_⟩) hHeld ?_ ?_
  rotate_left
  · rintro w' ⟨s0, s1, s2, s3, s4, s5, s6, s7, s8, s9⟩
    go_simp
    with_reducible rfl
  rotate_left
  · simp only [Act.put, List.setIfInBounds_toArray, List.set_cons_zero, List.set_cons_succ, i64_w, i32_w]
    rfl
  refine take_ (i := 5) (N := some 110) (v := ?_) (a' := ?_) #[true, true, true, true, false, true, false, false, false, false, false, false, false, false, false, false, false, false, false, false, false, false, false, false, false, false, false, false, false, false, false, false, false, false, false, false, false, false, false, false, false, false, false, false, false] rfl rfl (by kernel_rfl) (fun _ _ _ h => h) (Or.inl ⟨by rfl, ?_⟩) hHeld ?_ ?_
  rotate_left
  · rintro w' ⟨s0, s1, s2, s3, s4, s5, s6, s7, s8, s9⟩
    go_simp
    with_reducible rfl
  rotate_left
  · simp only [Act.put, List.setIfInBounds_toArray, List.set_cons_zero, List.set_cons_succ, i64_w, i32_w]
    rfl
  refine take_ (i := 6) (N := some 111) (v := ?_) (a' := ?_) #[true, true, true, true, false, true, true, false, false, false, false, false, false, false, false, false, false, false, false, false, false, false, false, false, false, false, false, false, false, false, false, false, false, false, false, false, false, false, false, false, false, false, false, false, false] rfl rfl (by kernel_rfl) (fun _ _ _ h => h) (Or.inl ⟨by rfl, ?_⟩) hHeld ?_ ?_
  rotate_left
  · rintro w' ⟨s0, s1, s2, s3, s4, s5, s6, s7, s8, s9⟩
    go_simp
    with_reducible rfl
  rotate_left
  · simp only [Act.put, List.setIfInBounds_toArray, List.set_cons_zero, List.set_cons_succ, i64_w, i32_w]
    rfl
  refine one_ (i := 4) (N := some 109) #[true, true, true, true, true, true, true, false, false, false, false, false, false, false, false, false, false, false, false, false, false, false, false, false, false, false, false, false, false, false, false, false, false, false, false, false, false, false, false, false, false, false, false, false, false] rfl rfl (by kernel_rfl) (by decide) (fun K hK => ?_)
  refine goes_ Try.func21 (by kernel_rfl) rfl #[.agg #[.slice A0 gs.length c0, .slice A1 arr.length c1, .slice A2 l2.length c2, .slice A3 l3.length c3], .int .u64 18446744073709551615, .agg #[.slice P1 g1.length p1, .slice Q1 r1.length q1], .agg #[.slice P2 g2.length p2, .slice Q2 r2.length q2]] (by rfl) rfl rfl (by simp only [List.map_toArray, List.map_cons, List.map_nil]; rfl) ?_
  with_reducible refine (alikeC (Zhm.out.below (show Below w.heap.size w u2.drew from below_drew1 HB.out)) (Zh1.out.below (show Below w.heap.size w u2.drew from below_drew1 HB.out)) (Zh2.out.below (show Below w.heap.size w u2.drew from below_drew1 HB.out)) 18446744073709551615 B ZhB.out Zs1.out Zs2.out).mono ?_
  rintro e t1 ⟨rfl, hb⟩
  refine ⟨_, rfl, ?_⟩
  replace hb : Below u2.heap.size u2 _ := ⟨hb.os, hb.tape, hb.output, hb.size, hb.block⟩
  replace HS := Aside0.mk (HS.out.below hb)
  rw [alikeB_all Zf1.out Zf2.out (fun a ha => wi_all a (Zwg.out a ha)) (fun a ha => wi_all a.f1 (Zwa.out a ha)), ZSM.out]
  replace HB := Aside0.mk (below_step HB.out hb)
  refine hK.out _ _ ⟨(pw_cell_below hb hHeld.1), (pw_cell_below hb hHeld.2.1), (pw_cell_below hb hHeld.2.2.1), (pw_cell_below hb hHeld.2.2.2.1), (pw_cell_below hb hHeld.2.2.2.2.1), (pw_cell_below hb hHeld.2.2.2.2.2.1), (pw_cell_below hb hHeld.2.2.2.2.2.2.1), (pw_cell_below hb hHeld.2.2.2.2.2.2.2.1), (pw_cell_below hb hHeld.2.2.2.2.2.2.2.2.1), (pw_cell_below hb hHeld.2.2.2.2.2.2.2.2.2)⟩ (fun hHeld => ?_)
  clear hK K
  refine norm_ (a' := ?_) ?_ ?_
  rotate_left
  · show Act.put _ (some 109) _ = _
    simp only [Act.put, List.setIfInBounds_toArray, List.set_cons_zero, List.set_cons_succ, i64_w, i32_w]
    rfl
  refine one_ (i := 7) (N := some 112) #[true, true, true, true, true, true, true, true, false, false, false, false, false, false, false, false, false, false, false, false, false, false, false, false, false, false, false, false, false, false, false, false, false, false, false, false, false, false, false, false, false, false, false, false, false] rfl rfl (by kernel_rfl) (by decide) (fun K hK => ?_)
  refine goes_ Try.func22 (by kernel_rfl) rfl #[.agg #[.slice P1 g1.length p1, .slice Q1 r1.length q1], .agg #[.slice P2 g2.length p2, .slice Q2 r2.length q2]] (by rfl) rfl rfl (by simp only [List.map_toArray, List.map_cons, List.map_nil]; rfl) ?_
  with_reducible refine (sameC (Zh1.out.below HB.out) (Zh2.out.below HB.out) B (by have := ZhB.out; omega) Zs1.out).mono ?_
  rintro e t2 ⟨rfl, hb⟩
  refine ⟨_, rfl, ?_⟩
  replace HS := Aside0.mk (HS.out.below hb)
  rw [ZSM.out]
  replace HB := Aside0.mk (below_step HB.out hb)
  refine hK.out _ _ ⟨(pw_cell_below hb hHeld.1), (pw_cell_below hb hHeld.2.1), (pw_cell_below hb hHeld.2.2.1), (pw_cell_below hb hHeld.2.2.2.1), (pw_cell_below hb hHeld.2.2.2.2.1), (pw_cell_below hb hHeld.2.2.2.2.2.1), (pw_cell_below hb hHeld.2.2.2.2.2.2.1), (pw_cell_below hb hHeld.2.2.2.2.2.2.2.1), (pw_cell_below hb hHeld.2.2.2.2.2.2.2.2.1), (pw_cell_below hb hHeld.2.2.2.2.2.2.2.2.2)⟩ (fun hHeld => ?_)
  clear hK K
  refine norm_ (a' := ?_) ?_ ?_
  rotate_left
  · show Act.put _ (some 112) _ = _
    simp only [Act.put, List.setIfInBounds_toArray, List.set_cons_zero, List.set_cons_succ, i64_w, i32_w]
    rfl
  refine pure_ (i := 8) (N := some 113) (v := ?_) (a' := ?_) #[true, true, true, true, true, true, true, true, true, false, false, false, false, false, false, false, false, false, false, false, false, false, false, false, false, false, false, false, false, false, false, false, false, false, false, false, false, false, false, false, false, false, false, false, false] rfl rfl (by kernel_rfl) (fun _ _ _ h => h) (Or.inl ⟨by rfl, ?_⟩) ?_ ?_
  rotate_left
  · intro w'
    go_simp
    with_reducible rfl
  rotate_left
  · simp only [Act.put, List.setIfInBounds_toArray, List.set_cons_zero, List.set_cons_succ, i64_w, i32_w]
    rfl
  refine pure_ (i := 9) (N := some 114) (v := ?_) (a' := ?_) #[true, true, true, true, true, true, true, true, true, true, false, false, false, false, false, false, false, false, false, false, false, false, false, false, false, false, false, false, false, false, false, false, false, false, false, false, false, false, false, false, false, false, false, false, false] rfl rfl (by kernel_rfl) (fun _ _ _ h => h) (Or.inl ⟨by rfl, ?_⟩) ?_ ?_
  rotate_left
  · intro w'
    go_simp
    with_reducible rfl
  rotate_left
  · simp only [Act.put, List.setIfInBounds_toArray, List.set_cons_zero, List.set_cons_succ, i64_w, i32_w]
    rfl
  refine pure_ (i := 11) (N := some 116) (v := ?_) (a' := ?_) #[true, true, true, true, true, true, true, true, true, true, false, true, false, false, false, false, false, false, false, false, false, false, false, false, false, false, false, false, false, false, false, false, false, false, false, false, false, false, false, false, false, false, false, false, false] rfl rfl (by kernel_rfl) (fun _ _ _ h => h) (Or.inl ⟨by rfl, ?_⟩) ?_ ?_
  rotate_left
  · intro w'
    go_simp
    with_reducible rfl
  rotate_left
  · simp only [Act.put, List.setIfInBounds_toArray, List.set_cons_zero, List.set_cons_succ, i64_w, i32_w]
    rfl
  refine take_ (i := 10) (N := some 115) (v := ?_) (a' := ?_) #[true, true, true, true, true, true, true, true, true, true, true, true, false, false, false, false, false, false, false, false, false, false, false, false, false, false, false, false, false, false, false, false, false, false, false, false, false, false, false, false, false, false, false, false, false] rfl rfl (by kernel_rfl) (fun _ _ _ h => h) (Or.inl ⟨by rfl, ?_⟩) hHeld ?_ ?_
  rotate_left
  · rintro w' ⟨s0, s1, s2, s3, s4, s5, s6, s7, s8, s9⟩
    go_simp
    with_reducible rfl
  rotate_left
  · simp only [Act.put, List.setIfInBounds_toArray, List.set_cons_zero, List.set_cons_succ, i64_w, i32_w]
    rfl
  refine take_ (i := 12) (N := some 117) (v := ?_) (a' := ?_) #[true, true, true, true, true, true, true, true, true, true, true, true, true, false, false, false, false, false, false, false, false, false, false, false, false, false, false, false, false, false, false, false, false, false, false, false, false, false, false, false, false, false, false, false, false] rfl rfl (by kernel_rfl) (fun _ _ _ h => h) (Or.inl ⟨by rfl, ?_⟩) hHeld ?_ ?_
  rotate_left
  · rintro w' ⟨s0, s1, s2, s3, s4, s5, s6, s7, s8, s9⟩
    go_simp
    with_reducible rfl
  rotate_left
  · simp only [Act.put, List.setIfInBounds_toArray, List.set_cons_zero, List.set_cons_succ, i64_w, i32_w]
    rfl
  refine take_ (i := 13) (N := some 118) (v := ?_) (a' := ?_) #[true, true, true, true, true, true, true, true, true, true, true, true, true, true, false, false, false, false, false, false, false, false, false, false, false, false, false, false, false, false, false, false, false, false, false, false, false, false, false, false, false, false, false, false, false] rfl rfl (by kernel_rfl) (fun _ _ _ h => h) (Or.inl ⟨by rfl, ?_⟩) hHeld ?_ ?_
  rotate_left
  · rintro w' ⟨s0, s1, s2, s3, s4, s5, s6, s7, s8, s9⟩
    go_simp
    with_reducible rfl
  rotate_left
  · simp only [Act.put, List.setIfInBounds_toArray, List.set_cons_zero, List.set_cons_succ, i64_w, i32_w]
    rfl
  refine one_ (i := 14) (N := some 119) #[true, true, true, true, true, true, true, true, true, true, true, true, true, true, true, false, false, false, false, false, false, false, false, false, false, false, false, false, false, false, false, false, false, false, false, false, false, false, false, false, false, false, false, false, false] rfl rfl (by kernel_rfl) (by decide) (fun K hK => ?_)
  refine goes_ Try.func21 (by kernel_rfl) rfl #[.agg #[.slice A0 gs.length c0, .slice A1 arr.length c1, .slice A2 l2.length c2, .slice A3 l3.length c3], .int .u64 l, .agg #[.slice P1 g1.length p1, .slice Q1 r1.length q1], .agg #[.slice S0 sg.length d0, .slice S1 sr.length d1]] (by rfl) rfl rfl (by simp only [List.map_toArray, List.map_cons, List.map_nil]; rfl) ?_
  with_reducible refine (alikeC (Zhm.out.below HB.out) (Zh1.out.below HB.out) HS.out l B ZhB.out Zs1.out (by rw [HSG.out, HSR.out]; exact sized_seen l Zs1.out)).mono ?_
  rintro e t3 ⟨rfl, hb⟩
  refine ⟨_, rfl, ?_⟩
  replace HS := Aside0.mk (HS.out.below hb)
  rw [show alikeB gs arr l g1 r1 sg sr = true by rw [HSG.out, HSR.out]; exact alikeB_seen Zf1.out]
  replace HB := Aside0.mk (below_step HB.out hb)
  refine hK.out _ _ ⟨(pw_cell_below hb hHeld.1), (pw_cell_below hb hHeld.2.1), (pw_cell_below hb hHeld.2.2.1), (pw_cell_below hb hHeld.2.2.2.1), (pw_cell_below hb hHeld.2.2.2.2.1), (pw_cell_below hb hHeld.2.2.2.2.2.1), (pw_cell_below hb hHeld.2.2.2.2.2.2.1), (pw_cell_below hb hHeld.2.2.2.2.2.2.2.1), (pw_cell_below hb hHeld.2.2.2.2.2.2.2.2.1), (pw_cell_below hb hHeld.2.2.2.2.2.2.2.2.2)⟩ (fun hHeld => ?_)
  clear hK K
  refine norm_ (a' := ?_) ?_ ?_
  rotate_left
  · show Act.put _ (some 119) _ = _
    simp only [Act.put, List.setIfInBounds_toArray, List.set_cons_zero, List.set_cons_succ, i64_w, i32_w]
    rfl
  refine pure_ (i := 15) (N := some 120) (v := ?_) (a' := ?_) #[true, true, true, true, true, true, true, true, true, true, true, true, true, true, true, true, false, false, false, false, false, false, false, false, false, false, false, false, false, false, false, false, false, false, false, false, false, false, false, false, false, false, false, false, false] rfl rfl (by kernel_rfl) (fun _ _ _ h => h) (Or.inl ⟨by rfl, ?_⟩) ?_ ?_
  rotate_left
  · intro w'
    go_simp
    with_reducible rfl
  rotate_left
  · simp only [Act.put, List.setIfInBounds_toArray, List.set_cons_zero, List.set_cons_succ, i64_w, i32_w]
    rfl
  refine pure_ (i := 16) (N := some 121) (v := ?_) (a' := ?_) #[true, true, true, true, true, true, true, true, true, true, true, true, true, true, true, true, true, false, false, false, false, false, false, false, false, false, false, false, false, false, false, false, false, false, false, false, false, false, false, false, false, false, false, false, false] rfl rfl (by kernel_rfl) (fun _ _ _ h => h) (Or.inl ⟨by rfl, ?_⟩) ?_ ?_
  rotate_left
  · intro w'
    go_simp
    with_reducible rfl
  rotate_left
  · simp only [Act.put, List.setIfInBounds_toArray, List.set_cons_zero, List.set_cons_succ, i64_w, i32_w]
    rfl
  refine pure_ (i := 19) (N := some 124) (v := ?_) (a' := ?_) #[true, true, true, true, true, true, true, true, true, true, true, true, true, true, true, true, true, false, false, true, false, false, false, false, false, false, false, false, false, false, false, false, false, false, false, false, false, false, false, false, false, false, false, false, false] rfl rfl (by kernel_rfl) (fun _ _ _ h => h) (Or.inl ⟨by rfl, ?_⟩) ?_ ?_
  rotate_left
  · intro w'
    go_simp
    with_reducible rfl
  rotate_left
  · simp only [Act.put, List.setIfInBounds_toArray, List.set_cons_zero, List.set_cons_succ, i64_w, i32_w]
    rfl
  refine take_ (i := 17) (N := some 122) (v := ?_) (a' := ?_) #[true, true, true, true, true, true, true, true, true, true, true, true, true, true, true, true, true, true, false, true, false, false, false, false, false, false, false, false, false, false, false, false, false, false, false, false, false, false, false, false, false, false, false, false, false] rfl rfl (by kernel_rfl) (fun _ _ _ h => h) (Or.inl ⟨by rfl, ?_⟩) hHeld ?_ ?_
  rotate_left
  · rintro w' ⟨s0, s1, s2, s3, s4, s5, s6, s7, s8, s9⟩
    go_simp
    with_reducible rfl
  rotate_left
  · simp only [Act.put, List.setIfInBounds_toArray, List.set_cons_zero, List.set_cons_succ, i64_w, i32_w]
    rfl
  refine take_ (i := 18) (N := some 123) (v := ?_) (a' := ?_) #[true, true, true, true, true, true, true, true, true, true, true, true, true, true, true, true, true, true, true, true, false, false, false, false, false, false, false, false, false, false, false, false, false, false, false, false, false, false, false, false, false, false, false, false, false] rfl rfl (by kernel_rfl) (fun _ _ _ h => h) (Or.inl ⟨by rfl, ?_⟩) hHeld ?_ ?_
  rotate_left
  · rintro w' ⟨s0, s1, s2, s3, s4, s5, s6, s7, s8, s9⟩
    go_simp
    with_reducible rfl
  rotate_left
  · simp only [Act.put, List.setIfInBounds_toArray, List.set_cons_zero, List.set_cons_succ, i64_w, i32_w]
    rfl
  refine take_ (i := 21) (N := some 126) (v := ?_) (a' := ?_) #[true, true, true, true, true, true, true, true, true, true, true, true, true, true, true, true, true, true, true, true, false, true, false, false, false, false, false, false, false, false, false, false, false, false, false, false, false, false, false, false, false, false, false, false, false] rfl rfl (by kernel_rfl) (fun _ _ _ h => h) (Or.inl ⟨by rfl, ?_⟩) hHeld ?_ ?_
  rotate_left
  · rintro w' ⟨s0, s1, s2, s3, s4, s5, s6, s7, s8, s9⟩
    go_simp
    with_reducible rfl
  rotate_left
  · simp only [Act.put, List.setIfInBounds_toArray, List.set_cons_zero, List.set_cons_succ, i64_w, i32_w]
    rfl
  refine one_ (i := 20) (N := some 125) #[true, true, true, true, true, true, true, true, true, true, true, true, true, true, true, true, true, true, true, true, true, true, false, false, false, false, false, false, false, false, false, false, false, false, false, false, false, false, false, false, false, false, false, false, false] rfl rfl (by kernel_rfl) (by decide) (fun K hK => ?_)
  refine goes_ Try.func11 (by kernel_rfl) rfl #[.agg #[.slice A0 gs.length c0, .slice A1 arr.length c1, .slice A2 l2.length c2, .slice A3 l3.length c3], .agg #[.slice S0 sg.length d0, .slice S1 sr.length d1], .int .u64 l] (by rfl) rfl rfl (by simp only [List.map_toArray, List.map_cons, List.map_nil]; rfl) ?_
  with_reducible refine (seenC (Zhm.out.below HB.out) HS.out l B ZhB.out (by rw [HSG.out, HSR.out]; exact sized_seen l Zs1.out)).mono ?_
  rintro e t4 ⟨v4, rfl, hs4, hb⟩
  refine ⟨_, rfl, ?_⟩
  replace HS := Aside0.mk (HS.out.below hb)
  rw [show seenM gs arr l sg sr = (sg, sr) by rw [HSG.out, HSR.out]; unfold seenM; rw [if_pos (fitsB_seen l Zf1.out), seenG_seenG gs g1 (fun _ _ h => h), seenR_seenR arr r1 (fun _ _ h => h)]] at hs4
  simp only at hs4
  obtain ⟨Y0, y0, Y1, y1, rfl, n0, n1, n2, n3⟩ := hs4
  have HY := Aside0.mk (show MemR t4 (.agg #[.slice Y0 sg.length y0, .slice Y1 sr.length y1]) sg sr from ⟨Y0, y0, Y1, y1, rfl, n0, n1, n2, n3⟩)
  clear n0 n1 n2 n3
  replace HB := Aside0.mk (below_step HB.out hb)
  refine hK.out _ _ ⟨(pw_cell_below hb hHeld.1), (pw_cell_below hb hHeld.2.1), (pw_cell_below hb hHeld.2.2.1), (pw_cell_below hb hHeld.2.2.2.1), (pw_cell_below hb hHeld.2.2.2.2.1), (pw_cell_below hb hHeld.2.2.2.2.2.1), (pw_cell_below hb hHeld.2.2.2.2.2.2.1), (pw_cell_below hb hHeld.2.2.2.2.2.2.2.1), (pw_cell_below hb hHeld.2.2.2.2.2.2.2.2.1), (pw_cell_below hb hHeld.2.2.2.2.2.2.2.2.2)⟩ (fun hHeld => ?_)
  clear hK K
  refine norm_ (a' := ?_) ?_ ?_
  rotate_left
  · show Act.put _ (some 125) _ = _
    simp only [Act.put, List.setIfInBounds_toArray, List.set_cons_zero, List.set_cons_succ, i64_w, i32_w]
    rfl
  refine one_ (i := 22) (N := some 127) #[true, true, true, true, true, true, true, true, true, true, true, true, true, true, true, true, true, true, true, true, true, true, true, false, false, false, false, false, false, false, false, false, false, false, false, false, false, false, false, false, false, false, false, false, false] rfl rfl (by kernel_rfl) (by decide) (fun K hK => ?_)
  refine goes_ Try.func16 (by kernel_rfl) rfl #[.agg #[.slice Y0 sg.length y0, .slice Y1 sr.length y1], .agg #[.slice S0 sg.length d0, .slice S1 sr.length d1]] (by rfl) rfl rfl (by simp only [List.map_toArray, List.map_cons, List.map_nil]; rfl) ?_
  with_reducible refine (memoryC HY.out HS.out B (by have := ZhB.out; omega) (by rw [HSG.out, HSR.out]; exact sized_seen l Zs1.out)).mono ?_
  rintro e t5 ⟨rfl, hb⟩
  refine ⟨_, rfl, ?_⟩
  replace HS := Aside0.mk (HS.out.below hb)
  clear HY
  rw [sameB_refl]
  replace HB := Aside0.mk (below_step HB.out hb)
  refine hK.out _ _ ⟨(pw_cell_below hb hHeld.1), (pw_cell_below hb hHeld.2.1), (pw_cell_below hb hHeld.2.2.1), (pw_cell_below hb hHeld.2.2.2.1), (pw_cell_below hb hHeld.2.2.2.2.1), (pw_cell_below hb hHeld.2.2.2.2.2.1), (pw_cell_below hb hHeld.2.2.2.2.2.2.1), (pw_cell_below hb hHeld.2.2.2.2.2.2.2.1), (pw_cell_below hb hHeld.2.2.2.2.2.2.2.2.1), (pw_cell_below hb hHeld.2.2.2.2.2.2.2.2.2)⟩ (fun hHeld => ?_)
  clear hK K
  refine norm_ (a' := ?_) ?_ ?_
  rotate_left
  · show Act.put _ (some 127) _ = _
    simp only [Act.put, List.setIfInBounds_toArray, List.set_cons_zero, List.set_cons_succ, i64_w, i32_w]
    rfl
  refine pure_ (i := 23) (N := some 128) (v := ?_) (a' := ?_) #[true, true, true, true, true, true, true, true, true, true, true, true, true, true, true, true, true, true, true, true, true, true, true, true, false, false, false, false, false, false, false, false, false, false, false, false, false, false, false, false, false, false, false, false, false] rfl rfl (by kernel_rfl) (fun _ _ _ h => h) (Or.inl ⟨by rfl, ?_⟩) ?_ ?_
  rotate_left
  · intro w'
    go_simp
    with_reducible rfl
  rotate_left
  · simp only [Act.put, List.setIfInBounds_toArray, List.set_cons_zero, List.set_cons_succ, i64_w, i32_w]
    rfl
  refine pure_ (i := 24) (N := some 129) (v := ?_) (a' := ?_) #[true, true, true, true, true, true, true, true, true, true, true, true, true, true, true, true, true, true, true, true, true, true, true, true, true, false, false, false, false, false, false, false, false, false, false, false, false, false, false, false, false, false, false, false, false] rfl rfl (by kernel_rfl) (fun _ _ _ h => h) (Or.inl ⟨by rfl, ?_⟩) ?_ ?_
  rotate_left
  · intro w'
    go_simp
    with_reducible rfl
  rotate_left
  · simp only [Act.put, List.setIfInBounds_toArray, List.set_cons_zero, List.set_cons_succ, i64_w, i32_w]
    rfl
  refine take_ (i := 25) (N := some 130) (v := ?_) (a' := ?_) #[true, true, true, true, true, true, true, true, true, true, true, true, true, true, true, true, true, true, true, true, true, true, true, true, true, true, false, false, false, false, false, false, false, false, false, false, false, false, false, false, false, false, false, false, false] rfl rfl (by kernel_rfl) (fun _ _ _ h => h) (Or.inl ⟨by rfl, ?_⟩) hHeld ?_ ?_
  rotate_left
  · rintro w' ⟨s0, s1, s2, s3, s4, s5, s6, s7, s8, s9⟩
    go_simp
    with_reducible rfl
  rotate_left
  · simp only [Act.put, List.setIfInBounds_toArray, List.set_cons_zero, List.set_cons_succ, i64_w, i32_w]
    rfl
  refine take_ (i := 26) (N := some 131) (v := ?_) (a' := ?_) #[true, true, true, true, true, true, true, true, true, true, true, true, true, true, true, true, true, true, true, true, true, true, true, true, true, true, true, false, false, false, false, false, false, false, false, false, false, false, false, false, false, false, false, false, false] rfl rfl (by kernel_rfl) (fun _ _ _ h => h) (Or.inl ⟨by rfl, ?_⟩) hHeld ?_ ?_
  rotate_left
  · rintro w' ⟨s0, s1, s2, s3, s4, s5, s6, s7, s8, s9⟩
    go_simp
    with_reducible rfl
  rotate_left
  · simp only [Act.put, List.setIfInBounds_toArray, List.set_cons_zero, List.set_cons_succ, i64_w, i32_w]
    rfl
  refine one_ (i := 27) (N := some 132) #[true, true, true, true, true, true, true, true, true, true, true, true, true, true, true, true, true, true, true, true, true, true, true, true, true, true, true, true, false, false, false, false, false, false, false, false, false, false, false, false, false, false, false, false, false] rfl rfl (by kernel_rfl) (by decide) (fun K hK => ?_)
  refine goes_ Try.func10 (by kernel_rfl) rfl #[.agg #[.slice P1 g1.length p1, .slice Q1 r1.length q1]] (by rfl) rfl rfl (by simp only [List.map_toArray, List.map_cons, List.map_nil]; rfl) ?_
  with_reducible refine (copyC (Zh1.out.below HB.out) B ZhB.out Zs1.out).mono ?_
  rintro e t6 ⟨v6, rfl, hs6, hb⟩
  refine ⟨_, rfl, ?_⟩
  replace HS := Aside0.mk (HS.out.below hb)
  obtain ⟨Y0, y0, Y1, y1, rfl, n0, n1, n2, n3⟩ := hs6
  have HY := Aside0.mk (show MemR t6 (.agg #[.slice Y0 g1.length y0, .slice Y1 r1.length y1]) g1 r1 from ⟨Y0, y0, Y1, y1, rfl, n0, n1, n2, n3⟩)
  clear n0 n1 n2 n3
  replace HB := Aside0.mk (below_step HB.out hb)
  refine hK.out _ _ ⟨(pw_cell_below hb hHeld.1), (pw_cell_below hb hHeld.2.1), (pw_cell_below hb hHeld.2.2.1), (pw_cell_below hb hHeld.2.2.2.1), (pw_cell_below hb hHeld.2.2.2.2.1), (pw_cell_below hb hHeld.2.2.2.2.2.1), (pw_cell_below hb hHeld.2.2.2.2.2.2.1), (pw_cell_below hb hHeld.2.2.2.2.2.2.2.1), (pw_cell_below hb hHeld.2.2.2.2.2.2.2.2.1), (pw_cell_below hb hHeld.2.2.2.2.2.2.2.2.2)⟩ (fun hHeld => ?_)
  clear hK K
  refine norm_ (a' := ?_) ?_ ?_
  rotate_left
  · show Act.put _ (some 132) _ = _
    simp only [Act.put, List.setIfInBounds_toArray, List.set_cons_zero, List.set_cons_succ, i64_w, i32_w]
    rfl
  refine one_ (i := 28) (N := some 133) #[true, true, true, true, true, true, true, true, true, true, true, true, true, true, true, true, true, true, true, true, true, true, true, true, true, true, true, true, true, false, false, false, false, false, false, false, false, false, false, false, false, false, false, false, false] rfl rfl (by kernel_rfl) (by decide) (fun K hK => ?_)
  refine goes_ Try.func22 (by kernel_rfl) rfl #[.agg #[.slice P1 g1.length p1, .slice Q1 r1.length q1], .agg #[.slice Y0 g1.length y0, .slice Y1 r1.length y1]] (by rfl) rfl rfl (by simp only [List.map_toArray, List.map_cons, List.map_nil]; rfl) ?_
  with_reducible refine (sameC (Zh1.out.below HB.out) HY.out B (by have := ZhB.out; omega) Zs1.out).mono ?_
  rintro e t7 ⟨rfl, hb⟩
  refine ⟨_, rfl, ?_⟩
  replace HS := Aside0.mk (HS.out.below hb)
  clear HY
  rw [sameB_refl]
  replace HB := Aside0.mk (below_step HB.out hb)
  refine hK.out _ _ ⟨(pw_cell_below hb hHeld.1), (pw_cell_below hb hHeld.2.1), (pw_cell_below hb hHeld.2.2.1), (pw_cell_below hb hHeld.2.2.2.1), (pw_cell_below hb hHeld.2.2.2.2.1), (pw_cell_below hb hHeld.2.2.2.2.2.1), (pw_cell_below hb hHeld.2.2.2.2.2.2.1), (pw_cell_below hb hHeld.2.2.2.2.2.2.2.1), (pw_cell_below hb hHeld.2.2.2.2.2.2.2.2.1), (pw_cell_below hb hHeld.2.2.2.2.2.2.2.2.2)⟩ (fun hHeld => ?_)
  clear hK K
  refine norm_ (a' := ?_) ?_ ?_
  rotate_left
  · show Act.put _ (some 133) _ = _
    simp only [Act.put, List.setIfInBounds_toArray, List.set_cons_zero, List.set_cons_succ, i64_w, i32_w]
    rfl
  refine pure_ (i := 29) (N := some 134) (v := ?_) (a' := ?_) #[true, true, true, true, true, true, true, true, true, true, true, true, true, true, true, true, true, true, true, true, true, true, true, true, true, true, true, true, true, true, false, false, false, false, false, false, false, false, false, false, false, false, false, false, false] rfl rfl (by kernel_rfl) (fun _ _ _ h => h) (Or.inl ⟨by rfl, ?_⟩) ?_ ?_
  rotate_left
  · intro w'
    go_simp
    with_reducible rfl
  rotate_left
  · simp only [Act.put, List.setIfInBounds_toArray, List.set_cons_zero, List.set_cons_succ, i64_w, i32_w]
    rfl
  refine pure_ (i := 30) (N := some 135) (v := ?_) (a' := ?_) #[true, true, true, true, true, true, true, true, true, true, true, true, true, true, true, true, true, true, true, true, true, true, true, true, true, true, true, true, true, true, true, false, false, false, false, false, false, false, false, false, false, false, false, false, false] rfl rfl (by kernel_rfl) (fun _ _ _ h => h) (Or.inl ⟨by rfl, ?_⟩) ?_ ?_
  rotate_left
  · intro w'
    go_simp
    with_reducible rfl
  rotate_left
  · simp only [Act.put, List.setIfInBounds_toArray, List.set_cons_zero, List.set_cons_succ, i64_w, i32_w]
    rfl
  refine pure_ (i := 32) (N := some 137) (v := ?_) (a' := ?_) #[true, true, true, true, true, true, true, true, true, true, true, true, true, true, true, true, true, true, true, true, true, true, true, true, true, true, true, true, true, true, true, false, true, false, false, false, false, false, false, false, false, false, false, false, false] rfl rfl (by kernel_rfl) (fun _ _ _ h => h) (Or.inl ⟨by rfl, ?_⟩) ?_ ?_
  rotate_left
  · intro w'
    go_simp
    with_reducible rfl
  rotate_left
  · simp only [Act.put, List.setIfInBounds_toArray, List.set_cons_zero, List.set_cons_succ, i64_w, i32_w]
    rfl
  refine pure_ (i := 39) (N := some 144) (v := ?_) (a' := ?_) #[true, true, true, true, true, true, true, true, true, true, true, true, true, true, true, true, true, true, true, true, true, true, true, true, true, true, true, true, true, true, true, false, true, false, false, false, false, false, false, true, false, false, false, false, false] rfl rfl (by kernel_rfl) (fun _ _ _ h => h) (Or.inl ⟨by rfl, ?_⟩) ?_ ?_
  rotate_left
  · intro w'
    go_simp
    with_reducible rfl
  rotate_left
  · simp only [Act.put, List.setIfInBounds_toArray, List.set_cons_zero, List.set_cons_succ, i64_w, i32_w]
    rfl
  refine take_ (i := 31) (N := some 136) (v := ?_) (a' := ?_) #[true, true, true, true, true, true, true, true, true, true, true, true, true, true, true, true, true, true, true, true, true, true, true, true, true, true, true, true, true, true, true, true, true, false, false, false, false, false, false, true, false, false, false, false, false] rfl rfl (by kernel_rfl) (fun _ _ _ h => h) (Or.inl ⟨by rfl, ?_⟩) hHeld ?_ ?_
  rotate_left
  · rintro w' ⟨s0, s1, s2, s3, s4, s5, s6, s7, s8, s9⟩
    go_simp
    with_reducible rfl
  rotate_left
  · simp only [Act.put, List.setIfInBounds_toArray, List.set_cons_zero, List.set_cons_succ, i64_w, i32_w]
    rfl
  refine take_ (i := 33) (N := some 138) (v := ?_) (a' := ?_) #[true, true, true, true, true, true, true, true, true, true, true, true, true, true, true, true, true, true, true, true, true, true, true, true, true, true, true, true, true, true, true, true, true, true, false, false, false, false, false, true, false, false, false, false, false] rfl rfl (by kernel_rfl) (fun _ _ _ h => h) (Or.inl ⟨by rfl, ?_⟩) hHeld ?_ ?_
  rotate_left
  · rintro w' ⟨s0, s1, s2, s3, s4, s5, s6, s7, s8, s9⟩
    go_simp
    with_reducible rfl
  rotate_left
  · simp only [Act.put, List.setIfInBounds_toArray, List.set_cons_zero, List.set_cons_succ, i64_w, i32_w]
    rfl
  refine take_ (i := 34) (N := some 139) (v := ?_) (a' := ?_) #[true, true, true, true, true, true, true, true, true, true, true, true, true, true, true, true, true, true, true, true, true, true, true, true, true, true, true, true, true, true, true, true, true, true, true, false, false, false, false, true, false, false, false, false, false] rfl rfl (by kernel_rfl) (fun _ _ _ h => h) (Or.inl ⟨by rfl, ?_⟩) hHeld ?_ ?_
  rotate_left
  · rintro w' ⟨s0, s1, s2, s3, s4, s5, s6, s7, s8, s9⟩
    go_simp
    with_reducible rfl
  rotate_left
  · simp only [Act.put, List.setIfInBounds_toArray, List.set_cons_zero, List.set_cons_succ, i64_w, i32_w]
    rfl
  refine take_ (i := 36) (N := some 141) (v := ?_) (a' := ?_) #[true, true, true, true, true, true, true, true, true, true, true, true, true, true, true, true, true, true, true, true, true, true, true, true, true, true, true, true, true, true, true, true, true, true, true, false, true, false, false, true, false, false, false, false, false] rfl rfl (by kernel_rfl) (fun _ _ _ h => h) (Or.inl ⟨by rfl, ?_⟩) hHeld ?_ ?_
  rotate_left
  · rintro w' ⟨s0, s1, s2, s3, s4, s5, s6, s7, s8, s9⟩
    go_simp
    with_reducible rfl
  rotate_left
  · simp only [Act.put, List.setIfInBounds_toArray, List.set_cons_zero, List.set_cons_succ, i64_w, i32_w]
    rfl
  refine take_ (i := 37) (N := some 142) (v := ?_) (a' := ?_) #[true, true, true, true, true, true, true, true, true, true, true, true, true, true, true, true, true, true, true, true, true, true, true, true, true, true, true, true, true, true, true, true, true, true, true, false, true, true, false, true, false, false, false, false, false] rfl rfl (by kernel_rfl) (fun _ _ _ h => h) (Or.inl ⟨by rfl, ?_⟩) hHeld ?_ ?_
  rotate_left
  · rintro w' ⟨s0, s1, s2, s3, s4, s5, s6, s7, s8, s9⟩
    go_simp
    with_reducible rfl
  rotate_left
  · simp only [Act.put, List.setIfInBounds_toArray, List.set_cons_zero, List.set_cons_succ, i64_w, i32_w]
    rfl
  refine take_ (i := 38) (N := some 143) (v := ?_) (a' := ?_) #[true, true, true, true, true, true, true, true, true, true, true, true, true, true, true, true, true, true, true, true, true, true, true, true, true, true, true, true, true, true, true, true, true, true, true, false, true, true, true, true, false, false, false, false, false] rfl rfl (by kernel_rfl) (fun _ _ _ h => h) (Or.inl ⟨by rfl, ?_⟩) hHeld ?_ ?_
  rotate_left
  · rintro w' ⟨s0, s1, s2, s3, s4, s5, s6, s7, s8, s9⟩
    go_simp
    with_reducible rfl
  rotate_left
  · simp only [Act.put, List.setIfInBounds_toArray, List.set_cons_zero, List.set_cons_succ, i64_w, i32_w]
    rfl
  refine one_ (i := 35) (N := some 140) #[true, true, true, true, true, true, true, true, true, true, true, true, true, true, true, true, true, true, true, true, true, true, true, true, true, true, true, true, true, true, true, true, true, true, true, true, true, true, true, true, false, false, false, false, false] rfl rfl (by kernel_rfl) (by decide) (fun K hK => ?_)
  refine goes_ Try.func21 (by kernel_rfl) rfl #[.agg #[.slice A0 gs.length c0, .slice A1 arr.length c1, .slice A2 l2.length c2, .slice A3 l3.length c3], .int .u64 l, .agg #[.slice P1 g1.length p1, .slice Q1 r1.length q1], .agg #[.slice P2 g2.length p2, .slice Q2 r2.length q2]] (by rfl) rfl rfl (by simp only [List.map_toArray, List.map_cons, List.map_nil]; rfl) ?_
  with_reducible refine (alikeC (Zhm.out.below HB.out) (Zh1.out.below HB.out) (Zh2.out.below HB.out) l B ZhB.out Zs1.out Zs2.out).mono ?_
  rintro e t8 ⟨rfl, hb⟩
  refine ⟨_, rfl, ?_⟩
  replace HS := Aside0.mk (HS.out.below hb)
  rw [Zab.out]
  replace HB := Aside0.mk (below_step HB.out hb)
  refine hK.out _ _ ⟨(pw_cell_below hb hHeld.1), (pw_cell_below hb hHeld.2.1), (pw_cell_below hb hHeld.2.2.1), (pw_cell_below hb hHeld.2.2.2.1), (pw_cell_below hb hHeld.2.2.2.2.1), (pw_cell_below hb hHeld.2.2.2.2.2.1), (pw_cell_below hb hHeld.2.2.2.2.2.2.1), (pw_cell_below hb hHeld.2.2.2.2.2.2.2.1), (pw_cell_below hb hHeld.2.2.2.2.2.2.2.2.1), (pw_cell_below hb hHeld.2.2.2.2.2.2.2.2.2)⟩ (fun hHeld => ?_)
  clear hK K
  refine norm_ (a' := ?_) ?_ ?_
  rotate_left
  · show Act.put _ (some 140) _ = _
    simp only [Act.put, List.setIfInBounds_toArray, List.set_cons_zero, List.set_cons_succ, i64_w, i32_w]
    rfl
  refine one_ (i := 40) (N := some 145) #[true, true, true, true, true, true, true, true, true, true, true, true, true, true, true, true, true, true, true, true, true, true, true, true, true, true, true, true, true, true, true, true, true, true, true, true, true, true, true, true, true, false, false, false, false] rfl rfl (by kernel_rfl) (by decide) (fun K hK => ?_)
  refine goes_ Try.func11 (by kernel_rfl) rfl #[.agg #[.slice A0 gs.length c0, .slice A1 arr.length c1, .slice A2 l2.length c2, .slice A3 l3.length c3], .agg #[.slice P2 g2.length p2, .slice Q2 r2.length q2], .int .u64 l] (by rfl) rfl rfl (by simp only [List.map_toArray, List.map_cons, List.map_nil]; rfl) ?_
  with_reducible refine (seenC (Zhm.out.below HB.out) (Zh2.out.below HB.out) l B ZhB.out Zs2.out).mono ?_
  rintro e t9 ⟨v9, rfl, hs9, hb⟩
  refine ⟨_, rfl, ?_⟩
  replace HS := Aside0.mk (HS.out.below hb)
  rw [show seenM gs arr l g2 r2 = (seenG l gs g2, seenR l arr r2) from if_pos Zf2.out] at hs9
  simp only at hs9
  obtain ⟨Y0, y0, Y1, y1, rfl, n0, n1, n2, n3⟩ := hs9
  have HY := Aside0.mk (show MemR t9 (.agg #[.slice Y0 (seenG l gs g2).length y0, .slice Y1 (seenR l arr r2).length y1]) (seenG l gs g2) (seenR l arr r2) from ⟨Y0, y0, Y1, y1, rfl, n0, n1, n2, n3⟩)
  clear n0 n1 n2 n3
  replace HB := Aside0.mk (below_step HB.out hb)
  refine hK.out _ _ ⟨(pw_cell_below hb hHeld.1), (pw_cell_below hb hHeld.2.1), (pw_cell_below hb hHeld.2.2.1), (pw_cell_below hb hHeld.2.2.2.1), (pw_cell_below hb hHeld.2.2.2.2.1), (pw_cell_below hb hHeld.2.2.2.2.2.1), (pw_cell_below hb hHeld.2.2.2.2.2.2.1), (pw_cell_below hb hHeld.2.2.2.2.2.2.2.1), (pw_cell_below hb hHeld.2.2.2.2.2.2.2.2.1), (pw_cell_below hb hHeld.2.2.2.2.2.2.2.2.2)⟩ (fun hHeld => ?_)
  clear hK K
  refine norm_ (a' := ?_) ?_ ?_
  rotate_left
  · show Act.put _ (some 145) _ = _
    simp only [Act.put, List.setIfInBounds_toArray, List.set_cons_zero, List.set_cons_succ, i64_w, i32_w]
    rfl
  refine one_ (i := 41) (N := some 146) #[true, true, true, true, true, true, true, true, true, true, true, true, true, true, true, true, true, true, true, true, true, true, true, true, true, true, true, true, true, true, true, true, true, true, true, true, true, true, true, true, true, true, false, false, false] rfl rfl (by kernel_rfl) (by decide) (fun K hK => ?_)
  refine goes_ Try.func22 (by kernel_rfl) rfl #[.agg #[.slice S0 sg.length d0, .slice S1 sr.length d1], .agg #[.slice Y0 (seenG l gs g2).length y0, .slice Y1 (seenR l arr r2).length y1]] (by rfl) rfl rfl (by simp only [List.map_toArray, List.map_cons, List.map_nil]; rfl) ?_
  with_reducible refine (sameC HS.out HY.out B (by have := ZhB.out; omega) (by rw [HSG.out, HSR.out]; exact sized_seen l Zs1.out)).mono ?_
  rintro e t10 ⟨rfl, hb⟩
  refine ⟨_, rfl, ?_⟩
  replace HS := Aside0.mk (HS.out.below hb)
  clear HY
  rw [show sameB sg sr (seenG l gs g2) (seenR l arr r2) = alikeB gs arr l g1 r1 g2 r2 by rw [alikeB_fits Zf1.out Zf2.out, HSG.out, HSR.out], Zab.out]
  replace HB := Aside0.mk (below_step HB.out hb)
  refine hK.out _ _ ⟨(pw_cell_below hb hHeld.1), (pw_cell_below hb hHeld.2.1), (pw_cell_below hb hHeld.2.2.1), (pw_cell_below hb hHeld.2.2.2.1), (pw_cell_below hb hHeld.2.2.2.2.1), (pw_cell_below hb hHeld.2.2.2.2.2.1), (pw_cell_below hb hHeld.2.2.2.2.2.2.1), (pw_cell_below hb hHeld.2.2.2.2.2.2.2.1), (pw_cell_below hb hHeld.2.2.2.2.2.2.2.2.1), (pw_cell_below hb hHeld.2.2.2.2.2.2.2.2.2)⟩ (fun hHeld => ?_)
  clear hK K
  refine norm_ (a' := ?_) ?_ ?_
  rotate_left
  · show Act.put _ (some 146) _ = _
    simp only [Act.put, List.setIfInBounds_toArray, List.set_cons_zero, List.set_cons_succ, i64_w, i32_w]
    rfl
  refine pure_ (i := 42) (N := some 147) (v := ?_) (a' := ?_) #[true, true, true, true, true, true, true, true, true, true, true, true, true, true, true, true, true, true, true, true, true, true, true, true, true, true, true, true, true, true, true, true, true, true, true, true, true, true, true, true, true, true, true, false, false] rfl rfl (by kernel_rfl) (fun _ _ _ h => h) (Or.inl ⟨by rfl, ?_⟩) ?_ ?_
  rotate_left
  · intro w'
    go_simp
    with_reducible rfl
  rotate_left
  · simp only [Act.put, List.setIfInBounds_toArray, List.set_cons_zero, List.set_cons_succ, i64_w, i32_w]
    rfl
  refine pure_ (i := 43) (N := some 148) (v := ?_) (a' := ?_) #[true, true, true, true, true, true, true, true, true, true, true, true, true, true, true, true, true, true, true, true, true, true, true, true, true, true, true, true, true, true, true, true, true, true, true, true, true, true, true, true, true, true, true, true, false] rfl rfl (by kernel_rfl) (fun _ _ _ h => h) (Or.inl ⟨by rfl, ?_⟩) ?_ ?_
  rotate_left
  · intro w'
    go_simp
    with_reducible rfl
  rotate_left
  · simp only [Act.put, List.setIfInBounds_toArray, List.set_cons_zero, List.set_cons_succ, i64_w, i32_w]
    rfl
  refine pure_ (i := 44) (N := some 12) (v := ?_) (a' := ?_) #[true, true, true, true, true, true, true, true, true, true, true, true, true, true, true, true, true, true, true, true, true, true, true, true, true, true, true, true, true, true, true, true, true, true, true, true, true, true, true, true, true, true, true, true, true] rfl rfl (by kernel_rfl) (fun _ _ _ h => h) (Or.inl ⟨by rfl, ?_⟩) ?_ ?_
  rotate_left
  · intro w'
    go_simp
    with_reducible rfl
  rotate_left
  · simp only [Act.put, List.setIfInBounds_toArray, List.set_cons_zero, List.set_cons_succ, i64_w, i32_w]
    rfl
  refine done_ (by kernel_rfl) ?_
  go_wp2
  go_ret
  exact ⟨rfl, HB.out⟩
set_option maxHeartbeats 16000000 in
set_option maxRecDepth 100000 in
theorem viewOrder.yes2 (A0 A1 A2 A3 : Option Addr) (c0 c1 c2 c3 : Nat) (gs : List Int) (arr : List S57) (l2 : List Int) (l3 : List S48) (P1 Q1 : Option Addr) (p1 q1 : Nat) (g1 : List Int) (r1 : List (List Int)) (P2 Q2 : Option Addr) (p2 q2 : Nat) (g2 : List Int) (r2 : List (List Int)) (P3 Q3 : Option Addr) (p3 q3 : Nat) (g3 : List Int) (r3 : List (List Int)) (l less : Int) (w : World) (hm : ModR w (.agg #[.slice A0 gs.length c0, .slice A1 arr.length c1, .slice A2 l2.length c2, .slice A3 l3.length c3]) gs arr l2 l3) (h1 : MemR w (.agg #[.slice P1 g1.length p1, .slice Q1 r1.length q1]) g1 r1) (h2 : MemR w (.agg #[.slice P2 g2.length p2, .slice Q2 r2.length q2]) g2 r2) (h3 : MemR w (.agg #[.slice P3 g3.length p3, .slice Q3 r3.length q3]) g3 r3) (B : Nat) (hB : B ≤ 17592186044415) (s1 : Sized B g1 r1) (s2 : Sized B g2 r2) (s3 : Sized B g3 r3) (f1 : fitsB gs arr g1 r1 = true) (f2 : fitsB gs arr g2 r2 = true) (f3 : fitsB gs arr g3 r3 = true) (wg : ∀ a ∈ gs, (Lit.int .u64 a).wf = true) (wa : ∀ a ∈ arr, (Lit.int .u64 a.f1).wf = true) (wl : (Lit.int .u64 l).wf = true) (wm : (Lit.int .u64 less).wf = true) (ab : alikeB gs arr l g1 r1 g2 r2 = true) (bc : alikeB gs arr l g2 r2 g3 r3 = true) :
    Calls Try.prog 4 #[.agg #[.slice A0 gs.length c0, .slice A1 arr.length c1, .slice A2 l2.length c2, .slice A3 l3.length c3], .int .u64 l, .int .u64 less, .agg #[.slice P1 g1.length p1, .slice Q1 r1.length q1], .agg #[.slice P2 g2.length p2, .slice Q2 r2.length q2], .agg #[.slice P3 g3.length p3, .slice Q3 r3.length q3]] w fun e w' => e = .returned (.bool true) ∧ Below w.heap.size w w' := by
  have Zhm := Aside0.mk hm
  have Zh1 := Aside0.mk h1
  have Zh2 := Aside0.mk h2
  have Zh3 := Aside0.mk h3
  have ZhB := Aside0.mk hB
  have Zs1 := Aside0.mk s1
  have Zs2 := Aside0.mk s2
  have Zs3 := Aside0.mk s3
  have Zf1 := Aside0.mk f1
  have Zf2 := Aside0.mk f2
  have Zf3 := Aside0.mk f3
  have Zwg := Aside0.mk wg
  have Zwa := Aside0.mk wa
  have Zwl := Aside0.mk wl
  have Zwm := Aside0.mk wm
  have Zab := Aside0.mk ab
  have Zbc := Aside0.mk bc
  clear hm h1 h2 h3 hB s1 s2 s3 f1 f2 f3 wg wa wl wm ab bc
  have HB := Aside0.mk (below_alloc (below_alloc (below_alloc (below_alloc (Below.refl w.heap.size w) (.cells #[.slice A0 gs.length c0, .slice A1 arr.length c1, .slice A2 l2.length c2, .slice A3 l3.length c3] 26)) (.cells #[.slice P1 g1.length p1, .slice Q1 r1.length q1] 30)) (.cells #[.slice P2 g2.length p2, .slice Q2 r2.length q2] 30)) (.cells #[.slice P3 g3.length p3, .slice Q3 r3.length q3] 30))
  have G0_ : (w.alloc (.cells #[.slice A0 gs.length c0, .slice A1 arr.length c1, .slice A2 l2.length c2, .slice A3 l3.length c3] 26)).heap[w.heap.size + 0]? = some (.cells #[.slice A0 gs.length c0, .slice A1 arr.length c1, .slice A2 l2.length c2, .slice A3 l3.length c3] 26 (0, 0)) := by
    have := heap_alloc_new w (.cells #[.slice A0 gs.length c0, .slice A1 arr.length c1, .slice A2 l2.length c2, .slice A3 l3.length c3] 26)
    simpa using this
  have HG0 := Aside0.mk (blk_alloc (blk_alloc (blk_alloc (G0_) (.cells #[.slice P1 g1.length p1, .slice Q1 r1.length q1] 30)) (.cells #[.slice P2 g2.length p2, .slice Q2 r2.length q2] 30)) (.cells #[.slice P3 g3.length p3, .slice Q3 r3.length q3] 30))
  clear G0_
  have G1_ : ((w.alloc (.cells #[.slice A0 gs.length c0, .slice A1 arr.length c1, .slice A2 l2.length c2, .slice A3 l3.length c3] 26)).alloc (.cells #[.slice P1 g1.length p1, .slice Q1 r1.length q1] 30)).heap[w.heap.size + 1]? = some (.cells #[.slice P1 g1.length p1, .slice Q1 r1.length q1] 30 (0, 0)) := by
    have := heap_alloc_new (w.alloc (.cells #[.slice A0 gs.length c0, .slice A1 arr.length c1, .slice A2 l2.length c2, .slice A3 l3.length c3] 26)) (.cells #[.slice P1 g1.length p1, .slice Q1 r1.length q1] 30)
    simpa using this
  have HG1 := Aside0.mk (blk_alloc (blk_alloc (G1_) (.cells #[.slice P2 g2.length p2, .slice Q2 r2.length q2] 30)) (.cells #[.slice P3 g3.length p3, .slice Q3 r3.length q3] 30))
  clear G1_
  have G2_ : (((w.alloc (.cells #[.slice A0 gs.length c0, .slice A1 arr.length c1, .slice A2 l2.length c2, .slice A3 l3.length c3] 26)).alloc (.cells #[.slice P1 g1.length p1, .slice Q1 r1.length q1] 30)).alloc (.cells #[.slice P2 g2.length p2, .slice Q2 r2.length q2] 30)).heap[w.heap.size + 2]? = some (.cells #[.slice P2 g2.length p2, .slice Q2 r2.length q2] 30 (0, 0)) := by
    have := heap_alloc_new ((w.alloc (.cells #[.slice A0 gs.length c0, .slice A1 arr.length c1, .slice A2 l2.length c2, .slice A3 l3.length c3] 26)).alloc (.cells #[.slice P1 g1.length p1, .slice Q1 r1.length q1] 30)) (.cells #[.slice P2 g2.length p2, .slice Q2 r2.length q2] 30)
    simpa using this
  have HG2 := Aside0.mk (blk_alloc (G2_) (.cells #[.slice P3 g3.length p3, .slice Q3 r3.length q3] 30))
  clear G2_
  have G3_ : ((((w.alloc (.cells #[.slice A0 gs.length c0, .slice A1 arr.length c1, .slice A2 l2.length c2, .slice A3 l3.length c3] 26)).alloc (.cells #[.slice P1 g1.length p1, .slice Q1 r1.length q1] 30)).alloc (.cells #[.slice P2 g2.length p2, .slice Q2 r2.length q2] 30)).alloc (.cells #[.slice P3 g3.length p3, .slice Q3 r3.length q3] 30)).heap[w.heap.size + 3]? = some (.cells #[.slice P3 g3.length p3, .slice Q3 r3.length q3] 30 (0, 0)) := by
    have := heap_alloc_new (((w.alloc (.cells #[.slice A0 gs.length c0, .slice A1 arr.length c1, .slice A2 l2.length c2, .slice A3 l3.length c3] 26)).alloc (.cells #[.slice P1 g1.length p1, .slice Q1 r1.length q1] 30)).alloc (.cells #[.slice P2 g2.length p2, .slice Q2 r2.length q2] 30)) (.cells #[.slice P3 g3.length p3, .slice Q3 r3.length q3] 30)
    simpa using this
  have HG3 := Aside0.mk (G3_)
  clear G3_
  simp only [Nat.add_zero] at HG0
  obtain ⟨m0, m1, m2, m3⟩ := blk4 HG0.out
  obtain ⟨⟨a0, a1⟩, _, _⟩ := blk2 HG1.out
  obtain ⟨⟨b0, b1⟩, _, _⟩ := blk2 HG2.out
  obtain ⟨⟨c0_, c1_⟩, _, _⟩ := blk2 HG3.out
  go_enter Try.func4, Try.ntmps4
  go_wp2_with fail
  refine (fitsC (Zhm.out.below HB.out) (Zh1.out.below HB.out)).mono ?_
  rintro e v30 ⟨rfl, hb⟩
  rw [Zf1.out]
  clear m0 m1 m2 m3 a0 a1 b0 b1 c0_ c1_
  replace HG0 := Aside0.mk (blk_below HG0.out hb)
  replace HG1 := Aside0.mk (blk_below HG1.out hb)
  replace HG2 := Aside0.mk (blk_below HG2.out hb)
  replace HG3 := Aside0.mk (blk_below HG3.out hb)
  replace HB := Aside0.mk (below_step HB.out hb)
  clear hb
  obtain ⟨m0, m1, m2, m3⟩ := blk4 HG0.out
  obtain ⟨⟨a0, a1⟩, _, _⟩ := blk2 HG1.out
  obtain ⟨⟨b0, b1⟩, _, _⟩ := blk2 HG2.out
  obtain ⟨⟨c0_, c1_⟩, _, _⟩ := blk2 HG3.out
  go_wp2_with fail
  refine (fitsC (Zhm.out.below HB.out) (Zh2.out.below HB.out)).mono ?_
  rintro e v31 ⟨rfl, hb⟩
  rw [Zf2.out]
  clear m0 m1 m2 m3 a0 a1 b0 b1 c0_ c1_
  replace HG0 := Aside0.mk (blk_below HG0.out hb)
  replace HG1 := Aside0.mk (blk_below HG1.out hb)
  replace HG2 := Aside0.mk (blk_below HG2.out hb)
  replace HG3 := Aside0.mk (blk_below HG3.out hb)
  replace HB := Aside0.mk (below_step HB.out hb)
  clear hb
  obtain ⟨m0, m1, m2, m3⟩ := blk4 HG0.out
  obtain ⟨⟨a0, a1⟩, _, _⟩ := blk2 HG1.out
  obtain ⟨⟨b0, b1⟩, _, _⟩ := blk2 HG2.out
  obtain ⟨⟨c0_, c1_⟩, _, _⟩ := blk2 HG3.out
  go_wp2_with fail
  refine (fitsC (Zhm.out.below HB.out) (Zh3.out.below HB.out)).mono ?_
  rintro e v32 ⟨rfl, hb⟩
  rw [Zf3.out]
  clear m0 m1 m2 m3 a0 a1 b0 b1 c0_ c1_
  replace HG0 := Aside0.mk (blk_below HG0.out hb)
  replace HG1 := Aside0.mk (blk_below HG1.out hb)
  replace HG2 := Aside0.mk (blk_below HG2.out hb)
  replace HG3 := Aside0.mk (blk_below HG3.out hb)
  replace HB := Aside0.mk (below_step HB.out hb)
  clear hb
  obtain ⟨m0, m1, m2, m3⟩ := blk4 HG0.out
  obtain ⟨⟨a0, a1⟩, _, _⟩ := blk2 HG1.out
  obtain ⟨⟨b0, b1⟩, _, _⟩ := blk2 HG2.out
  obtain ⟨⟨c0_, c1_⟩, _, _⟩ := blk2 HG3.out
  go_wp2_with fail
  refine (awakeC _).mono ?_
  rintro e v33 ⟨rfl, hb⟩
  clear m0 m1 m2 m3 a0 a1 b0 b1 c0_ c1_
  replace HG0 := Aside0.mk (blk_below HG0.out hb)
  replace HG1 := Aside0.mk (blk_below HG1.out hb)
  replace HG2 := Aside0.mk (blk_below HG2.out hb)
  replace HG3 := Aside0.mk (blk_below HG3.out hb)
  replace HB := Aside0.mk (below_step HB.out hb)
  clear hb
  obtain ⟨m0, m1, m2, m3⟩ := blk4 HG0.out
  obtain ⟨⟨a0, a1⟩, _, _⟩ := blk2 HG1.out
  obtain ⟨⟨b0, b1⟩, _, _⟩ := blk2 HG2.out
  obtain ⟨⟨c0_, c1_⟩, _, _⟩ := blk2 HG3.out
  go_wp2_with fail
  refine (alikeC (Zhm.out.below HB.out) (Zh1.out.below HB.out) (Zh2.out.below HB.out) l B ZhB.out Zs1.out Zs2.out).mono ?_
  rintro e v34 ⟨rfl, hb⟩
  rw [Zab.out]
  clear m0 m1 m2 m3 a0 a1 b0 b1 c0_ c1_
  replace HG0 := Aside0.mk (blk_below HG0.out hb)
  replace HG1 := Aside0.mk (blk_below HG1.out hb)
  replace HG2 := Aside0.mk (blk_below HG2.out hb)
  replace HG3 := Aside0.mk (blk_below HG3.out hb)
  replace HB := Aside0.mk (below_step HB.out hb)
  clear hb
  obtain ⟨m0, m1, m2, m3⟩ := blk4 HG0.out
  obtain ⟨⟨a0, a1⟩, _, _⟩ := blk2 HG1.out
  obtain ⟨⟨b0, b1⟩, _, _⟩ := blk2 HG2.out
  obtain ⟨⟨c0_, c1_⟩, _, _⟩ := blk2 HG3.out
  go_wp2_with fail
  refine (alikeC (Zhm.out.below HB.out) (Zh1.out.below HB.out) (Zh1.out.below HB.out) l B ZhB.out Zs1.out Zs1.out).mono ?_
  rintro e v35 ⟨rfl, hb⟩
  rw [alikeB_refl Zf1.out]
  clear m0 m1 m2 m3 a0 a1 b0 b1 c0_ c1_
  replace HG0 := Aside0.mk (blk_below HG0.out hb)
  replace HG1 := Aside0.mk (blk_below HG1.out hb)
  replace HG2 := Aside0.mk (blk_below HG2.out hb)
  replace HG3 := Aside0.mk (blk_below HG3.out hb)
  replace HB := Aside0.mk (below_step HB.out hb)
  clear hb
  obtain ⟨m0, m1, m2, m3⟩ := blk4 HG0.out
  obtain ⟨⟨a0, a1⟩, _, _⟩ := blk2 HG1.out
  obtain ⟨⟨b0, b1⟩, _, _⟩ := blk2 HG2.out
  obtain ⟨⟨c0_, c1_⟩, _, _⟩ := blk2 HG3.out
  go_wp2_with fail
  refine (alikeC (Zhm.out.below HB.out) (Zh2.out.below HB.out) (Zh1.out.below HB.out) l B ZhB.out Zs2.out Zs1.out).mono ?_
  rintro e v36 ⟨rfl, hb⟩
  rw [alikeB_comm Zf1.out Zf2.out, Zab.out]
  clear m0 m1 m2 m3 a0 a1 b0 b1 c0_ c1_
  replace HG0 := Aside0.mk (blk_below HG0.out hb)
  replace HG1 := Aside0.mk (blk_below HG1.out hb)
  replace HG2 := Aside0.mk (blk_below HG2.out hb)
  replace HG3 := Aside0.mk (blk_below HG3.out hb)
  replace HB := Aside0.mk (below_step HB.out hb)
  clear hb
  obtain ⟨m0, m1, m2, m3⟩ := blk4 HG0.out
  obtain ⟨⟨a0, a1⟩, _, _⟩ := blk2 HG1.out
  obtain ⟨⟨b0, b1⟩, _, _⟩ := blk2 HG2.out
  obtain ⟨⟨c0_, c1_⟩, _, _⟩ := blk2 HG3.out
  go_wp2_with fail
  refine (alikeC (Zhm.out.below HB.out) (Zh2.out.below HB.out) (Zh3.out.below HB.out) l B ZhB.out Zs2.out Zs3.out).mono ?_
  rintro e v37 ⟨rfl, hb⟩
  rw [Zbc.out]
  clear m0 m1 m2 m3 a0 a1 b0 b1 c0_ c1_
  replace HG0 := Aside0.mk (blk_below HG0.out hb)
  replace HG1 := Aside0.mk (blk_below HG1.out hb)
  replace HG2 := Aside0.mk (blk_below HG2.out hb)
  replace HG3 := Aside0.mk (blk_below HG3.out hb)
  replace HB := Aside0.mk (below_step HB.out hb)
  clear hb
  obtain ⟨m0, m1, m2, m3⟩ := blk4 HG0.out
  obtain ⟨⟨a0, a1⟩, _, _⟩ := blk2 HG1.out
  obtain ⟨⟨b0, b1⟩, _, _⟩ := blk2 HG2.out
  obtain ⟨⟨c0_, c1_⟩, _, _⟩ := blk2 HG3.out
  go_wp2_with fail
  refine (alikeC (Zhm.out.below HB.out) (Zh1.out.below HB.out) (Zh3.out.below HB.out) l B ZhB.out Zs1.out Zs3.out).mono ?_
  rintro e v38 ⟨rfl, hb⟩
  rw [alikeB_trans Zf1.out Zf2.out Zf3.out Zab.out Zbc.out]
  clear m0 m1 m2 m3 a0 a1 b0 b1 c0_ c1_
  replace HG0 := Aside0.mk (blk_below HG0.out hb)
  replace HG1 := Aside0.mk (blk_below HG1.out hb)
  replace HG2 := Aside0.mk (blk_below HG2.out hb)
  replace HG3 := Aside0.mk (blk_below HG3.out hb)
  replace HB := Aside0.mk (below_step HB.out hb)
  clear hb
  obtain ⟨m0, m1, m2, m3⟩ := blk4 HG0.out
  obtain ⟨⟨a0, a1⟩, _, _⟩ := blk2 HG1.out
  obtain ⟨⟨b0, b1⟩, _, _⟩ := blk2 HG2.out
  obtain ⟨⟨c0_, c1_⟩, _, _⟩ := blk2 HG3.out
  go_wp2_with fail
  refine (alikeC (Zhm.out.below HB.out) (Zh1.out.below HB.out) (Zh2.out.below HB.out) (Go.bits .and .u64 l less) B ZhB.out Zs1.out Zs2.out).mono ?_
  rintro e v39 ⟨rfl, hb⟩
  rw [alikeB_less Zf1.out Zf2.out (fun a ha => wi_less a l less (Zwg.out a ha) Zwl.out Zwm.out) (fun a ha => wi_less a.f1 l less (Zwa.out a ha) Zwl.out Zwm.out) Zab.out]
  clear m0 m1 m2 m3 a0 a1 b0 b1 c0_ c1_
  replace HG0 := Aside0.mk (blk_below HG0.out hb)
  replace HG1 := Aside0.mk (blk_below HG1.out hb)
  replace HG2 := Aside0.mk (blk_below HG2.out hb)
  replace HG3 := Aside0.mk (blk_below HG3.out hb)
  replace HB := Aside0.mk (below_step HB.out hb)
  clear hb
  obtain ⟨m0, m1, m2, m3⟩ := blk4 HG0.out
  obtain ⟨⟨a0, a1⟩, _, _⟩ := blk2 HG1.out
  obtain ⟨⟨b0, b1⟩, _, _⟩ := blk2 HG2.out
  obtain ⟨⟨c0_, c1_⟩, _, _⟩ := blk2 HG3.out
  go_wp2_with fail
  refine (seenC (Zhm.out.below HB.out) (Zh1.out.below HB.out) l B ZhB.out Zs1.out).mono ?_
  rintro e u1 ⟨v, rfl, hs, hb⟩
  rw [show seenM gs arr l g1 r1 = (seenG l gs g1, seenR l arr r1) from if_pos Zf1.out] at hs
  simp only at hs
  obtain ⟨sg, hsg⟩ : ∃ s, seenG l gs g1 = s := ⟨_, rfl⟩
  obtain ⟨sr, hsr⟩ : ∃ s, seenR l arr r1 = s := ⟨_, rfl⟩
  rw [hsg, hsr] at hs
  obtain ⟨S0, d0, S1, d1, rfl, k0, k1, k2, k3⟩ := hs
  clear m0 m1 m2 m3 a0 a1 b0 b1 c0_ c1_
  replace HG0 := Aside0.mk (blk_below HG0.out hb)
  replace HG1 := Aside0.mk (blk_below HG1.out hb)
  replace HG2 := Aside0.mk (blk_below HG2.out hb)
  replace HG3 := Aside0.mk (blk_below HG3.out hb)
  replace HB := Aside0.mk (below_step HB.out hb)
  clear hb
  have HS := Aside0.mk (show MemR u1 (.agg #[.slice S0 sg.length d0, .slice S1 sr.length d1]) sg sr from ⟨S0, d0, S1, d1, rfl, k0, k1, k2, k3⟩)
  clear k0 k1 k2 k3
  obtain ⟨m0, m1, m2, m3⟩ := blk4 HG0.out
  obtain ⟨⟨a0, a1⟩, _, _⟩ := blk2 HG1.out
  obtain ⟨⟨b0, b1⟩, _, _⟩ := blk2 HG2.out
  obtain ⟨⟨c0_, c1_⟩, _, _⟩ := blk2 HG3.out
  have hgs := heap_alloc_new u1 (.cells #[.slice S0 sg.length d0, .slice S1 sr.length d1] 30)
  have hba := below_alloc (Below.refl u1.heap.size u1) (.cells #[.slice S0 sg.length d0, .slice S1 sr.length d1] 30)
  have HSG := Aside0.mk (show sg = seenG l gs g1 from hsg.symm)
  have HSR := Aside0.mk (show sr = seenR l arr r1 from hsr.symm)
  clear hsg hsr
  go_wp2_with fail
  obtain ⟨q, hq⟩ : ∃ q, u1.heap.size = q := ⟨_, rfl⟩
  obtain ⟨u2, hu2⟩ : ∃ W, u1.alloc (.cells #[.slice S0 sg.length d0, .slice S1 sr.length d1] 30) = W := ⟨_, rfl⟩
  rw [hu2] at hgs hba ⊢
  clear m0 m1 m2 m3 a0 a1 b0 b1 c0_ c1_
  replace HG0 := Aside0.mk (blk_below HG0.out hba)
  replace HG1 := Aside0.mk (blk_below HG1.out hba)
  replace HG2 := Aside0.mk (blk_below HG2.out hba)
  replace HG3 := Aside0.mk (blk_below HG3.out hba)
  replace HS := Aside0.mk (HS.out.below hba)
  replace HB := Aside0.mk (below_step HB.out hba)
  clear hba
  rw [hq] at hgs ⊢
  have HGs := Aside0.mk hgs
  clear hgs hu2 hq
  obtain ⟨m0, m1, m2, m3⟩ := blk4 HG0.out
  obtain ⟨⟨a0, a1⟩, _, _⟩ := blk2 HG1.out
  obtain ⟨⟨b0, b1⟩, _, _⟩ := blk2 HG2.out
  obtain ⟨⟨c0_, c1_⟩, _, _⟩ := blk2 HG3.out
  obtain ⟨⟨e0, e1⟩, _, _⟩ := blk2 HGs.out
  obtain ⟨sm, hsm⟩ : ∃ b, sameB g1 r1 g2 r2 = b := ⟨_, rfl⟩
  have ZSM := Aside0.mk hsm
  clear hsm
  refine start_ (n := 45) (S := fun w' => w'.cell? ⟨w.heap.size, 0, none⟩ = some (.slice A0 gs.length c0) ∧ w'.cell? ⟨w.heap.size, 1, none⟩ = some (.slice A1 arr.length c1) ∧ w'.cell? ⟨w.heap.size, 2, none⟩ = some (.slice A2 l2.length c2) ∧ w'.cell? ⟨w.heap.size, 3, none⟩ = some (.slice A3 l3.length c3) ∧ w'.cell? ⟨w.heap.size + 1, 0, none⟩ = some (.slice P1 g1.length p1) ∧ w'.cell? ⟨w.heap.size + 1, 1, none⟩ = some (.slice Q1 r1.length q1) ∧ w'.cell? ⟨w.heap.size + 2, 0, none⟩ = some (.slice P2 g2.length p2) ∧ w'.cell? ⟨w.heap.size + 2, 1, none⟩ = some (.slice Q2 r2.length q2) ∧ w'.cell? ⟨q, 0, none⟩ = some (.slice S0 sg.length d0) ∧ w'.cell? ⟨q, 1, none⟩ = some (.slice S1 sr.length d1)) (ds := []) #[false, false, false, false, false, false, false, false, false, false, false, false, false, false, false, false, false, false, false, false, false, false, false, false, false, false, false, false, false, false, false, false, false, false, false, false, false, false, false, false, false, false, false, false, false] (by kernel_rfl) rfl rfl ⟨m0, m1, m2, m3, a0, a1, b0, b1, e0, e1⟩ (fun hHeld => ?_)
  refine pure_ (i := 1) (N := some 106) (v := ?_) (a' := ?_) #[false, true, false, false, false, false, false, false, false, false, false, false, false, false, false, false, false, false, false, false, false, false, false, false, false, false, false, false, false, false, false, false, false, false, false, false, false, false, false, false, false, false, false, false, false] rfl rfl (by kernel_rfl) (fun _ _ _ h => h) (Or.inl ⟨by rfl, ?_⟩) ?_ ?_
  rotate_left
  · intro w'
    go_simp
    with_reducible rfl
  rotate_left
  · simp only [Act.put, List.setIfInBounds_toArray, List.set_cons_zero, List.set_cons_succ, i64_w, i32_w]
    rfl
  refine take_ (i := 0) (N := some 105) (v := ?_) (a' := ?_) #[true, true, false, false, false, false, false, false, false, false, false, false, false, false, false, false, false, false, false, false, false, false, false, false, false, false, false, false, false, false, false, false, false, false, false, false, false, false, false, false, false, false, false, false, false] rfl rfl (by kernel_rfl) (fun _ _ _ h => h) (Or.inl ⟨by rfl, ?_⟩) hHeld ?_ ?_
  rotate_left
  · rintro w' ⟨s0, s1, s2, s3, s4, s5, s6, s7, s8, s9⟩
    go_simp
    with_reducible rfl
  rotate_left
  · simp only [Act.put, List.setIfInBounds_toArray, List.set_cons_zero, List.set_cons_succ, i64_w, i32_w]
    rfl
  refine take_ (i := 2) (N := some 107) (v := ?_) (a' := ?_) #[true, true, true, false, false, false, false, false, false, false, false, false, false, false, false, false, false, false, false, false, false, false, false, false, false, false, false, false, false, false, false, false, false, false, false, false, false, false, false, false, false, false, false, false, false] rfl rfl (by kernel_rfl) (fun _ _ _ h => h) (Or.inl ⟨by rfl, ?_⟩) hHeld ?_ ?_
  rotate_left
  · rintro w' ⟨s0, s1, s2, s3, s4, s5, s6, s7, s8, s9⟩
    go_simp
    with_reducible rfl
  rotate_left
  · simp only [Act.put, List.setIfInBounds_toArray, List.set_cons_zero, List.set_cons_succ, i64_w, i32_w]
    rfl
  refine take_ (i := 3) (N := some 108) (v := ?_) (a' := ?_) #[true, true, true, true, false, false, false, false, false, false, false, false, false, false, false, false, false, false, false, false, false, false, false, false, false, false, false, false, false, false, false, false, false, false, false, false, false, false, false, false, false, false, false, false, false] rfl rfl (by kernel_rfl) (fun _ _ _ h => h) (Or.inl ⟨by rfl, ?_⟩) hHeld ?_ ?_
  rotate_left
  · rintro w' ⟨s0, s1, s2, s3, s4, s5, s6, s7, s8, s9⟩
    go_simp
    with_reducible rfl
  rotate_left
  · simp only [Act.put, List.setIfInBounds_toArray, List.set_cons_zero, List.set_cons_succ, i64_w, i32_w]
    rfl
  refine take_ (i := 5) (N := some 110) (v := ?_) (a' := ?_) #[true, true, true, true, false, true, false, false, false, false, false, false, false, false, false, false, false, false, false, false, false, false, false, false, false, false, false, false, false, false, false, false, false, false, false, false, false, false, false, false, false, false, false, false, false] rfl rfl (by kernel_rfl) (fun _ _ _ h => h) (Or.inl ⟨by rfl, ?_⟩) hHeld ?_ ?_
  rotate_left
  · rintro w' ⟨s0, s1, s2, s3, s4, s5, s6, s7, s8, s9⟩
    go_simp
    with_reducible rfl
  rotate_left
  · simp only [Act.put, List.setIfInBounds_toArray, List.set_cons_zero, List.set_cons_succ, i64_w, i32_w]
    rfl
  refine take_ (i := 6) (N := some 111) (v := ?_) (a' := ?_) #[true, true, true, true, false, true, true, false, false, false, false, false, false, false, false, false, false, false, false, false, false, false, false, false, false, false, false, false, false, false, false, false, false, false, false, false, false, false, false, false, false, false, false, false, false] rfl rfl (by kernel_rfl) (fun _ _ _ h => h) (Or.inl ⟨by rfl, ?_⟩) hHeld ?_ ?_
  rotate_left
  · rintro w' ⟨s0, s1, s2, s3, s4, s5, s6, s7, s8, s9⟩
    go_simp
    with_reducible rfl
  rotate_left
  · simp only [Act.put, List.setIfInBounds_toArray, List.set_cons_zero, List.set_cons_succ, i64_w, i32_w]
    rfl
  refine one_ (i := 4) (N := some 109) #[true, true, true, true, true, true, true, false, false, false, false, false, false, false, false, false, false, false, false, false, false, false, false, false, false, false, false, false, false, false, false, false, false, false, false, false, false, false, false, false, false, false, false, false, false] rfl rfl (by kernel_rfl) (by decide) (fun K hK => ?_)
  refine goes_ Try.func21 (by kernel_rfl) rfl #[.agg #[.slice A0 gs.length c0, .slice A1 arr.length c1, .slice A2 l2.length c2, .slice A3 l3.length c3], .int .u64 18446744073709551615, .agg #[.slice P1 g1.length p1, .slice Q1 r1.length q1], .agg #[.slice P2 g2.length p2, .slice Q2 r2.length q2]] (by rfl) rfl rfl (by simp only [List.map_toArray, List.map_cons, List.map_nil]; rfl) ?_
  with_reducible refine (alikeC (Zhm.out.below (show Below w.heap.size w u2.drew from below_drew1 HB.out)) (Zh1.out.below (show Below w.heap.size w u2.drew from below_drew1 HB.out)) (Zh2.out.below (show Below w.heap.size w u2.drew from below_drew1 HB.out)) 18446744073709551615 B ZhB.out Zs1.out Zs2.out).mono ?_
  rintro e t1 ⟨rfl, hb⟩
  refine ⟨_, rfl, ?_⟩
  replace hb : Below u2.heap.size u2 _ := ⟨hb.os, hb.tape, hb.output, hb.size, hb.block⟩
  replace HS := Aside0.mk (HS.out.below hb)
  rw [alikeB_all Zf1.out Zf2.out (fun a ha => wi_all a (Zwg.out a ha)) (fun a ha => wi_all a.f1 (Zwa.out a ha)), ZSM.out]
  replace HB := Aside0.mk (below_step HB.out hb)
  refine hK.out _ _ ⟨(pw_cell_below hb hHeld.1), (pw_cell_below hb hHeld.2.1), (pw_cell_below hb hHeld.2.2.1), (pw_cell_below hb hHeld.2.2.2.1), (pw_cell_below hb hHeld.2.2.2.2.1), (pw_cell_below hb hHeld.2.2.2.2.2.1), (pw_cell_below hb hHeld.2.2.2.2.2.2.1), (pw_cell_below hb hHeld.2.2.2.2.2.2.2.1), (pw_cell_below hb hHeld.2.2.2.2.2.2.2.2.1), (pw_cell_below hb hHeld.2.2.2.2.2.2.2.2.2)⟩ (fun hHeld => ?_)
  clear hK K
  refine norm_ (a' := ?_) ?_ ?_
  rotate_left
  · show Act.put _ (some 109) _ = _
    simp only [Act.put, List.setIfInBounds_toArray, List.set_cons_zero, List.set_cons_succ, i64_w, i32_w]
    rfl
  refine one_ (i := 7) (N := some 112) #[true, true, true, true, true, true, true, true, false, false, false, false, false, false, false, false, false, false, false, false, false, false, false, false, false, false, false, false, false, false, false, false, false, false, false, false, false, false, false, false, false, false, false, false, false] rfl rfl (by kernel_rfl) (by decide) (fun K hK => ?_)
  refine goes_ Try.func22 (by kernel_rfl) rfl #[.agg #[.slice P1 g1.length p1, .slice Q1 r1.length q1], .agg #[.slice P2 g2.length p2, .slice Q2 r2.length q2]] (by rfl) rfl rfl (by simp only [List.map_toArray, List.map_cons, List.map_nil]; rfl) ?_
  with_reducible refine (sameC (Zh1.out.below HB.out) (Zh2.out.below HB.out) B (by have := ZhB.out; omega) Zs1.out).mono ?_
  rintro e t2 ⟨rfl, hb⟩
  refine ⟨_, rfl, ?_⟩
  replace HS := Aside0.mk (HS.out.below hb)
  rw [ZSM.out]
  replace HB := Aside0.mk (below_step HB.out hb)
  refine hK.out _ _ ⟨(pw_cell_below hb hHeld.1), (pw_cell_below hb hHeld.2.1), (pw_cell_below hb hHeld.2.2.1), (pw_cell_below hb hHeld.2.2.2.1), (pw_cell_below hb hHeld.2.2.2.2.1), (pw_cell_below hb hHeld.2.2.2.2.2.1), (pw_cell_below hb hHeld.2.2.2.2.2.2.1), (pw_cell_below hb hHeld.2.2.2.2.2.2.2.1), (pw_cell_below hb hHeld.2.2.2.2.2.2.2.2.1), (pw_cell_below hb hHeld.2.2.2.2.2.2.2.2.2)⟩ (fun hHeld => ?_)
  clear hK K
  refine norm_ (a' := ?_) ?_ ?_
  rotate_left
  · show Act.put _ (some 112) _ = _
    simp only [Act.put, List.setIfInBounds_toArray, List.set_cons_zero, List.set_cons_succ, i64_w, i32_w]
    rfl
  refine pure_ (i := 8) (N := some 113) (v := ?_) (a' := ?_) #[true, true, true, true, true, true, true, true, true, false, false, false, false, false, false, false, false, false, false, false, false, false, false, false, false, false, false, false, false, false, false, false, false, false, false, false, false, false, false, false, false, false, false, false, false] rfl rfl (by kernel_rfl) (fun _ _ _ h => h) (Or.inl ⟨by rfl, ?_⟩) ?_ ?_
  rotate_left
  · intro w'
    go_simp
    with_reducible rfl
  rotate_left
  · simp only [Act.put, List.setIfInBounds_toArray, List.set_cons_zero, List.set_cons_succ, i64_w, i32_w]
    rfl
  refine pure_ (i := 9) (N := some 114) (v := ?_) (a' := ?_) #[true, true, true, true, true, true, true, true, true, true, false, false, false, false, false, false, false, false, false, false, false, false, false, false, false, false, false, false, false, false, false, false, false, false, false, false, false, false, false, false, false, false, false, false, false] rfl rfl (by kernel_rfl) (fun _ _ _ h => h) (Or.inl ⟨by rfl, ?_⟩) ?_ ?_
  rotate_left
  · intro w'
    go_simp
    with_reducible rfl
  rotate_left
  · simp only [Act.put, List.setIfInBounds_toArray, List.set_cons_zero, List.set_cons_succ, i64_w, i32_w]
    rfl
  refine pure_ (i := 11) (N := some 116) (v := ?_) (a' := ?_) #[true, true, true, true, true, true, true, true, true, true, false, true, false, false, false, false, false, false, false, false, false, false, false, false, false, false, false, false, false, false, false, false, false, false, false, false, false, false, false, false, false, false, false, false, false] rfl rfl (by kernel_rfl) (fun _ _ _ h => h) (Or.inl ⟨by rfl, ?_⟩) ?_ ?_
  rotate_left
  · intro w'
    go_simp
    with_reducible rfl
  rotate_left
  · simp only [Act.put, List.setIfInBounds_toArray, List.set_cons_zero, List.set_cons_succ, i64_w, i32_w]
    rfl
  refine take_ (i := 10) (N := some 115) (v := ?_) (a' := ?_) #[true, true, true, true, true, true, true, true, true, true, true, true, false, false, false, false, false, false, false, false, false, false, false, false, false, false, false, false, false, false, false, false, false, false, false, false, false, false, false, false, false, false, false, false, false] rfl rfl (by kernel_rfl) (fun _ _ _ h => h) (Or.inl ⟨by rfl, ?_⟩) hHeld ?_ ?_
  rotate_left
  · rintro w' ⟨s0, s1, s2, s3, s4, s5, s6, s7, s8, s9⟩
    go_simp
    with_reducible rfl
  rotate_left
  · simp only [Act.put, List.setIfInBounds_toArray, List.set_cons_zero, List.set_cons_succ, i64_w, i32_w]
    rfl
  refine take_ (i := 12) (N := some 117) (v := ?_) (a' := ?_) #[true, true, true, true, true, true, true, true, true, true, true, true, true, false, false, false, false, false, false, false, false, false, false, false, false, false, false, false, false, false, false, false, false, false, false, false, false, false, false, false, false, false, false, false, false] rfl rfl (by kernel_rfl) (fun _ _ _ h => h) (Or.inl ⟨by rfl, ?_⟩) hHeld ?_ ?_
  rotate_left
  · rintro w' ⟨s0, s1, s2, s3, s4, s5, s6, s7, s8, s9⟩
    go_simp
    with_reducible rfl
  rotate_left
  · simp only [Act.put, List.setIfInBounds_toArray, List.set_cons_zero, List.set_cons_succ, i64_w, i32_w]
    rfl
  refine take_ (i := 13) (N := some 118) (v := ?_) (a' := ?_) #[true, true, true, true, true, true, true, true, true, true, true, true, true, true, false, false, false, false, false, false, false, false, false, false, false, false, false, false, false, false, false, false, false, false, false, false, false, false, false, false, false, false, false, false, false] rfl rfl (by kernel_rfl) (fun _ _ _ h => h) (Or.inl ⟨by rfl, ?_⟩) hHeld ?_ ?_
  rotate_left
  · rintro w' ⟨s0, s1, s2, s3, s4, s5, s6, s7, s8, s9⟩
    go_simp
    with_reducible rfl
  rotate_left
  · simp only [Act.put, List.setIfInBounds_toArray, List.set_cons_zero, List.set_cons_succ, i64_w, i32_w]
    rfl
  refine one_ (i := 14) (N := some 119) #[true, true, true, true, true, true, true, true, true, true, true, true, true, true, true, false, false, false, false, false, false, false, false, false, false, false, false, false, false, false, false, false, false, false, false, false, false, false, false, false, false, false, false, false, false] rfl rfl (by kernel_rfl) (by decide) (fun K hK => ?_)
  refine goes_ Try.func21 (by kernel_rfl) rfl #[.agg #[.slice A0 gs.length c0, .slice A1 arr.length c1, .slice A2 l2.length c2, .slice A3 l3.length c3], .int .u64 l, .agg #[.slice P1 g1.length p1, .slice Q1 r1.length q1], .agg #[.slice S0 sg.length d0, .slice S1 sr.length d1]] (by rfl) rfl rfl (by simp only [List.map_toArray, List.map_cons, List.map_nil]; rfl) ?_
  with_reducible refine (alikeC (Zhm.out.below HB.out) (Zh1.out.below HB.out) HS.out l B ZhB.out Zs1.out (by rw [HSG.out, HSR.out]; exact sized_seen l Zs1.out)).mono ?_
  rintro e t3 ⟨rfl, hb⟩
  refine ⟨_, rfl, ?_⟩
  replace HS := Aside0.mk (HS.out.below hb)
  rw [show alikeB gs arr l g1 r1 sg sr = true by rw [HSG.out, HSR.out]; exact alikeB_seen Zf1.out]
  replace HB := Aside0.mk (below_step HB.out hb)
  refine hK.out _ _ ⟨(pw_cell_below hb hHeld.1), (pw_cell_below hb hHeld.2.1), (pw_cell_below hb hHeld.2.2.1), (pw_cell_below hb hHeld.2.2.2.1), (pw_cell_below hb hHeld.2.2.2.2.1), (pw_cell_below hb hHeld.2.2.2.2.2.1), (pw_cell_below hb hHeld.2.2.2.2.2.2.1), (pw_cell_below hb hHeld.2.2.2.2.2.2.2.1), (pw_cell_below hb hHeld.2.2.2.2.2.2.2.2.1), (pw_cell_below hb hHeld.2.2.2.2.2.2.2.2.2)⟩ (fun hHeld => ?_)
  clear hK K
  refine norm_ (a' := ?_) ?_ ?_
  rotate_left
  · show Act.put _ (some 119) _ = _
    simp only [Act.put, List.setIfInBounds_toArray, List.set_cons_zero, List.set_cons_succ, i64_w, i32_w]
    rfl
  refine pure_ (i := 15) (N := some 120) (v := ?_) (a' := ?_) #[true, true, true, true, true, true, true, true, true, true, true, true, true, true, true, true, false, false, false, false, false, false, false, false, false, false, false, false, false, false, false, false, false, false, false, false, false, false, false, false, false, false, false, false, false] rfl rfl (by kernel_rfl) (fun _ _ _ h => h) (Or.inl ⟨by rfl, ?_⟩) ?_ ?_
  rotate_left
  · intro w'
    go_simp
    with_reducible rfl
  rotate_left
  · simp only [Act.put, List.setIfInBounds_toArray, List.set_cons_zero, List.set_cons_succ, i64_w, i32_w]
    rfl
  refine pure_ (i := 16) (N := some 121) (v := ?_) (a' := ?_) #[true, true, true, true, true, true, true, true, true, true, true, true, true, true, true, true, true, false, false, false, false, false, false, false, false, false, false, false, false, false, false, false, false, false, false, false, false, false, false, false, false, false, false, false, false] rfl rfl (by kernel_rfl) (fun _ _ _ h => h) (Or.inl ⟨by rfl, ?_⟩) ?_ ?_
  rotate_left
  · intro w'
    go_simp
    with_reducible rfl
  rotate_left
  · simp only [Act.put, List.setIfInBounds_toArray, List.set_cons_zero, List.set_cons_succ, i64_w, i32_w]
    rfl
  refine pure_ (i := 19) (N := some 124) (v := ?_) (a' := ?_) #[true, true, true, true, true, true, true, true, true, true, true, true, true, true, true, true, true, false, false, true, false, false, false, false, false, false, false, false, false, false, false, false, false, false, false, false, false, false, false, false, false, false, false, false, false] rfl rfl (by kernel_rfl) (fun _ _ _ h => h) (Or.inl ⟨by rfl, ?_⟩) ?_ ?_
  rotate_left
  · intro w'
    go_simp
    with_reducible rfl
  rotate_left
  · simp only [Act.put, List.setIfInBounds_toArray, List.set_cons_zero, List.set_cons_succ, i64_w, i32_w]
    rfl
  refine take_ (i := 17) (N := some 122) (v := ?_) (a' := ?_) #[true, true, true, true, true, true, true, true, true, true, true, true, true, true, true, true, true, true, false, true, false, false, false, false, false, false, false, false, false, false, false, false, false, false, false, false, false, false, false, false, false, false, false, false, false] rfl rfl (by kernel_rfl) (fun _ _ _ h => h) (Or.inl ⟨by rfl, ?_⟩) hHeld ?_ ?_
  rotate_left
  · rintro w' ⟨s0, s1, s2, s3, s4, s5, s6, s7, s8, s9⟩
    go_simp
    with_reducible rfl
  rotate_left
  · simp only [Act.put, List.setIfInBounds_toArray, List.set_cons_zero, List.set_cons_succ, i64_w, i32_w]
    rfl
  refine take_ (i := 18) (N := some 123) (v := ?_) (a' := ?_) #[true, true, true, true, true, true, true, true, true, true, true, true, true, true, true, true, true, true, true, true, false, false, false, false, false, false, false, false, false, false, false, false, false, false, false, false, false, false, false, false, false, false, false, false, false] rfl rfl (by kernel_rfl) (fun _ _ _ h => h) (Or.inl ⟨by rfl, ?_⟩) hHeld ?_ ?_
  rotate_left
  · rintro w' ⟨s0, s1, s2, s3, s4, s5, s6, s7, s8, s9⟩
    go_simp
    with_reducible rfl
  rotate_left
  · simp only [Act.put, List.setIfInBounds_toArray, List.set_cons_zero, List.set_cons_succ, i64_w, i32_w]
    rfl
  refine take_ (i := 21) (N := some 126) (v := ?_) (a' := ?_) #[true, true, true, true, true, true, true, true, true, true, true, true, true, true, true, true, true, true, true, true, false, true, false, false, false, false, false, false, false, false, false, false, false, false, false, false, false, false, false, false, false, false, false, false, false] rfl rfl (by kernel_rfl) (fun _ _ _ h => h) (Or.inl ⟨by rfl, ?_⟩) hHeld ?_ ?_
  rotate_left
  · rintro w' ⟨s0, s1, s2, s3, s4, s5, s6, s7, s8, s9⟩
    go_simp
    with_reducible rfl
  rotate_left
  · simp only [Act.put, List.setIfInBounds_toArray, List.set_cons_zero, List.set_cons_succ, i64_w, i32_w]
    rfl
  refine one_ (i := 20) (N := some 125) #[true, true, true, true, true, true, true, true, true, true, true, true, true, true, true, true, true, true, true, true, true, true, false, false, false, false, false, false, false, false, false, false, false, false, false, false, false, false, false, false, false, false, false, false, false] rfl rfl (by kernel_rfl) (by decide) (fun K hK => ?_)
  refine goes_ Try.func11 (by kernel_rfl) rfl #[.agg #[.slice A0 gs.length c0, .slice A1 arr.length c1, .slice A2 l2.length c2, .slice A3 l3.length c3], .agg #[.slice S0 sg.length d0, .slice S1 sr.length d1], .int .u64 l] (by rfl) rfl rfl (by simp only [List.map_toArray, List.map_cons, List.map_nil]; rfl) ?_
  with_reducible refine (seenC (Zhm.out.below HB.out) HS.out l B ZhB.out (by rw [HSG.out, HSR.out]; exact sized_seen l Zs1.out)).mono ?_
  rintro e t4 ⟨v4, rfl, hs4, hb⟩
  refine ⟨_, rfl, ?_⟩
  replace HS := Aside0.mk (HS.out.below hb)
  rw [show seenM gs arr l sg sr = (sg, sr) by rw [HSG.out, HSR.out]; unfold seenM; rw [if_pos (fitsB_seen l Zf1.out), seenG_seenG gs g1 (fun _ _ h => h), seenR_seenR arr r1 (fun _ _ h => h)]] at hs4
  simp only at hs4
  obtain ⟨Y0, y0, Y1, y1, rfl, n0, n1, n2, n3⟩ := hs4
  have HY := Aside0.mk (show MemR t4 (.agg #[.slice Y0 sg.length y0, .slice Y1 sr.length y1]) sg sr from ⟨Y0, y0, Y1, y1, rfl, n0, n1, n2, n3⟩)
  clear n0 n1 n2 n3
  replace HB := Aside0.mk (below_step HB.out hb)
  refine hK.out _ _ ⟨(pw_cell_below hb hHeld.1), (pw_cell_below hb hHeld.2.1), (pw_cell_below hb hHeld.2.2.1), (pw_cell_below hb hHeld.2.2.2.1), (pw_cell_below hb hHeld.2.2.2.2.1), (pw_cell_below hb hHeld.2.2.2.2.2.1), (pw_cell_below hb hHeld.2.2.2.2.2.2.1), (pw_cell_below hb hHeld.2.2.2.2.2.2.2.1), (pw_cell_below hb hHeld.2.2.2.2.2.2.2.2.1), (pw_cell_below hb hHeld.2.2.2.2.2.2.2.2.2)⟩ (fun hHeld => ?_)
  clear hK K
  refine norm_ (a' := ?_) ?_ ?_
  rotate_left
  · show Act.put _ (some 125) _ = _
    simp only [Act.put, List.setIfInBounds_toArray, List.set_cons_zero, List.set_cons_succ, i64_w, i32_w]
    rfl
  refine one_ (i := 22) (N := some 127) #[true, true, true, true, true, true, true, true, true, true, true, true, true, true, true, true, true, true, true, true, true, true, true, false, false, false, false, false, false, false, false, false, false, false, false, false, false, false, false, false, false, false, false, false, false] rfl rfl (by kernel_rfl) (by decide) (fun K hK => ?_)
  refine goes_ Try.func16 (by kernel_rfl) rfl #[.agg #[.slice Y0 sg.length y0, .slice Y1 sr.length y1], .agg #[.slice S0 sg.length d0, .slice S1 sr.length d1]] (by rfl) rfl rfl (by simp only [List.map_toArray, List.map_cons, List.map_nil]; rfl) ?_
  with_reducible refine (memoryC HY.out HS.out B (by have := ZhB.out; omega) (by rw [HSG.out, HSR.out]; exact sized_seen l Zs1.out)).mono ?_
  rintro e t5 ⟨rfl, hb⟩
  refine ⟨_, rfl, ?_⟩
  replace HS := Aside0.mk (HS.out.below hb)
  clear HY
  rw [sameB_refl]
  replace HB := Aside0.mk (below_step HB.out hb)
  refine hK.out _ _ ⟨(pw_cell_below hb hHeld.1), (pw_cell_below hb hHeld.2.1), (pw_cell_below hb hHeld.2.2.1), (pw_cell_below hb hHeld.2.2.2.1), (pw_cell_below hb hHeld.2.2.2.2.1), (pw_cell_below hb hHeld.2.2.2.2.2.1), (pw_cell_below hb hHeld.2.2.2.2.2.2.1), (pw_cell_below hb hHeld.2.2.2.2.2.2.2.1), (pw_cell_below hb hHeld.2.2.2.2.2.2.2.2.1), (pw_cell_below hb hHeld.2.2.2.2.2.2.2.2.2)⟩ (fun hHeld => ?_)
  clear hK K
  refine norm_ (a' := ?_) ?_ ?_
  rotate_left
  · show Act.put _ (some 127) _ = _
    simp only [Act.put, List.setIfInBounds_toArray, List.set_cons_zero, List.set_cons_succ, i64_w, i32_w]
    rfl
  refine pure_ (i := 23) (N := some 128) (v := ?_) (a' := ?_) #[true, true, true, true, true, true, true, true, true, true, true, true, true, true, true, true, true, true, true, true, true, true, true, true, false, false, false, false, false, false, false, false, false, false, false, false, false, false, false, false, false, false, false, false, false] rfl rfl (by kernel_rfl) (fun _ _ _ h => h) (Or.inl ⟨by rfl, ?_⟩) ?_ ?_
  rotate_left
  · intro w'
    go_simp
    with_reducible rfl
  rotate_left
  · simp only [Act.put, List.setIfInBounds_toArray, List.set_cons_zero, List.set_cons_succ, i64_w, i32_w]
    rfl
  refine pure_ (i := 24) (N := some 129) (v := ?_) (a' := ?_) #[true, true, true, true, true, true, true, true, true, true, true, true, true, true, true, true, true, true, true, true, true, true, true, true, true, false, false, false, false, false, false, false, false, false, false, false, false, false, false, false, false, false, false, false, false] rfl rfl (by kernel_rfl) (fun _ _ _ h => h) (Or.inl ⟨by rfl, ?_⟩) ?_ ?_
  rotate_left
  · intro w'
    go_simp
    with_reducible rfl
  rotate_left
  · simp only [Act.put, List.setIfInBounds_toArray, List.set_cons_zero, List.set_cons_succ, i64_w, i32_w]
    rfl
  refine take_ (i := 25) (N := some 130) (v := ?_) (a' := ?_) #[true, true, true, true, true, true, true, true, true, true, true, true, true, true, true, true, true, true, true, true, true, true, true, true, true, true, false, false, false, false, false, false, false, false, false, false, false, false, false, false, false, false, false, false, false] rfl rfl (by kernel_rfl) (fun _ _ _ h => h) (Or.inl ⟨by rfl, ?_⟩) hHeld ?_ ?_
  rotate_left
  · rintro w' ⟨s0, s1, s2, s3, s4, s5, s6, s7, s8, s9⟩
    go_simp
    with_reducible rfl
  rotate_left
  · simp only [Act.put, List.setIfInBounds_toArray, List.set_cons_zero, List.set_cons_succ, i64_w, i32_w]
    rfl
  refine take_ (i := 26) (N := some 131) (v := ?_) (a' := ?_) #[true, true, true, true, true, true, true, true, true, true, true, true, true, true, true, true, true, true, true, true, true, true, true, true, true, true, true, false, false, false, false, false, false, false, false, false, false, false, false, false, false, false, false, false, false] rfl rfl (by kernel_rfl) (fun _ _ _ h => h) (Or.inl ⟨by rfl, ?_⟩) hHeld ?_ ?_
  rotate_left
  · rintro w' ⟨s0, s1, s2, s3, s4, s5, s6, s7, s8, s9⟩
    go_simp
    with_reducible rfl
  rotate_left
  · simp only [Act.put, List.setIfInBounds_toArray, List.set_cons_zero, List.set_cons_succ, i64_w, i32_w]
    rfl
  refine one_ (i := 27) (N := some 132) #[true, true, true, true, true, true, true, true, true, true, true, true, true, true, true, true, true, true, true, true, true, true, true, true, true, true, true, true, false, false, false, false, false, false, false, false, false, false, false, false, false, false, false, false, false] rfl rfl (by kernel_rfl) (by decide) (fun K hK => ?_)
  refine goes_ Try.func10 (by kernel_rfl) rfl #[.agg #[.slice P1 g1.length p1, .slice Q1 r1.length q1]] (by rfl) rfl rfl (by simp only [List.map_toArray, List.map_cons, List.map_nil]; rfl) ?_
  with_reducible refine (copyC (Zh1.out.below HB.out) B ZhB.out Zs1.out).mono ?_
  rintro e t6 ⟨v6, rfl, hs6, hb⟩
  refine ⟨_, rfl, ?_⟩
  replace HS := Aside0.mk (HS.out.below hb)
  obtain ⟨Y0, y0, Y1, y1, rfl, n0, n1, n2, n3⟩ := hs6
  have HY := Aside0.mk (show MemR t6 (.agg #[.slice Y0 g1.length y0, .slice Y1 r1.length y1]) g1 r1 from ⟨Y0, y0, Y1, y1, rfl, n0, n1, n2, n3⟩)
  clear n0 n1 n2 n3
  replace HB := Aside0.mk (below_step HB.out hb)
  refine hK.out _ _ ⟨(pw_cell_below hb hHeld.1), (pw_cell_below hb hHeld.2.1), (pw_cell_below hb hHeld.2.2.1), (pw_cell_below hb hHeld.2.2.2.1), (pw_cell_below hb hHeld.2.2.2.2.1), (pw_cell_below hb hHeld.2.2.2.2.2.1), (pw_cell_below hb hHeld.2.2.2.2.2.2.1), (pw_cell_below hb hHeld.2.2.2.2.2.2.2.1), (pw_cell_below hb hHeld.2.2.2.2.2.2.2.2.1), (pw_cell_below hb hHeld.2.2.2.2.2.2.2.2.2)⟩ (fun hHeld => ?_)
  clear hK K
  refine norm_ (a' := ?_) ?_ ?_
  rotate_left
  · show Act.put _ (some 132) _ = _
    simp only [Act.put, List.setIfInBounds_toArray, List.set_cons_zero, List.set_cons_succ, i64_w, i32_w]
    rfl
  refine one_ (i := 28) (N := some 133) #[true, true, true, true, true, true, true, true, true, true, true, true, true, true, true, true, true, true, true, true, true, true, true, true, true, true, true, true, true, false, false, false, false, false, false, false, false, false, false, false, false, false, false, false, false] rfl rfl (by kernel_rfl) (by decide) (fun K hK => ?_)
  refine goes_ Try.func22 (by kernel_rfl) rfl #[.agg #[.slice P1 g1.length p1, .slice Q1 r1.length q1], .agg #[.slice Y0 g1.length y0, .slice Y1 r1.length y1]] (by rfl) rfl rfl (by simp only [List.map_toArray, List.map_cons, List.map_nil]; rfl) ?_
  with_reducible refine (sameC (Zh1.out.below HB.out) HY.out B (by have := ZhB.out; omega) Zs1.out).mono ?_
  rintro e t7 ⟨rfl, hb⟩
  refine ⟨_, rfl, ?_⟩
  replace HS := Aside0.mk (HS.out.below hb)
  clear HY
  rw [sameB_refl]
  replace HB := Aside0.mk (below_step HB.out hb)
  refine hK.out _ _ ⟨(pw_cell_below hb hHeld.1), (pw_cell_below hb hHeld.2.1), (pw_cell_below hb hHeld.2.2.1), (pw_cell_below hb hHeld.2.2.2.1), (pw_cell_below hb hHeld.2.2.2.2.1), (pw_cell_below hb hHeld.2.2.2.2.2.1), (pw_cell_below hb hHeld.2.2.2.2.2.2.1), (pw_cell_below hb hHeld.2.2.2.2.2.2.2.1), (pw_cell_below hb hHeld.2.2.2.2.2.2.2.2.1), (pw_cell_below hb hHeld.2.2.2.2.2.2.2.2.2)⟩ (fun hHeld => ?_)
  clear hK K
  refine norm_ (a' := ?_) ?_ ?_
  rotate_left
  · show Act.put _ (some 133) _ = _
    simp only [Act.put, List.setIfInBounds_toArray, List.set_cons_zero, List.set_cons_succ, i64_w, i32_w]
    rfl
  refine pure_ (i := 29) (N := some 134) (v := ?_) (a' := ?_) #[true, true, true, true, true, true, true, true, true, true, true, true, true, true, true, true, true, true, true, true, true, true, true, true, true, true, true, true, true, true, false, false, false, false, false, false, false, false, false, false, false, false, false, false, false] rfl rfl (by kernel_rfl) (fun _ _ _ h => h) (Or.inl ⟨by rfl, ?_⟩) ?_ ?_
  rotate_left
  · intro w'
    go_simp
    with_reducible rfl
  rotate_left
  · simp only [Act.put, List.setIfInBounds_toArray, List.set_cons_zero, List.set_cons_succ, i64_w, i32_w]
    rfl
  refine pure_ (i := 30) (N := some 135) (v := ?_) (a' := ?_) #[true, true, true, true, true, true, true, true, true, true, true, true, true, true, true, true, true, true, true, true, true, true, true, true, true, true, true, true, true, true, true, false, false, false, false, false, false, false, false, false, false, false, false, false, false] rfl rfl (by kernel_rfl) (fun _ _ _ h => h) (Or.inl ⟨by rfl, ?_⟩) ?_ ?_
  rotate_left
  · intro w'
    go_simp
    with_reducible rfl
  rotate_left
  · simp only [Act.put, List.setIfInBounds_toArray, List.set_cons_zero, List.set_cons_succ, i64_w, i32_w]
    rfl
  refine pure_ (i := 32) (N := some 137) (v := ?_) (a' := ?_) #[true, true, true, true, true, true, true, true, true, true, true, true, true, true, true, true, true, true, true, true, true, true, true, true, true, true, true, true, true, true, true, false, true, false, false, false, false, false, false, false, false, false, false, false, false] rfl rfl (by kernel_rfl) (fun _ _ _ h => h) (Or.inl ⟨by rfl, ?_⟩) ?_ ?_
  rotate_left
  · intro w'
    go_simp
    with_reducible rfl
  rotate_left
  · simp only [Act.put, List.setIfInBounds_toArray, List.set_cons_zero, List.set_cons_succ, i64_w, i32_w]
    rfl
  refine pure_ (i := 39) (N := some 144) (v := ?_) (a' := ?_) #[true, true, true, true, true, true, true, true, true, true, true, true, true, true, true, true, true, true, true, true, true, true, true, true, true, true, true, true, true, true, true, false, true, false, false, false, false, false, false, true, false, false, false, false, false] rfl rfl (by kernel_rfl) (fun _ _ _ h => h) (Or.inl ⟨by rfl, ?_⟩) ?_ ?_
  rotate_left
  · intro w'
    go_simp
    with_reducible rfl
  rotate_left
  · simp only [Act.put, List.setIfInBounds_toArray, List.set_cons_zero, List.set_cons_succ, i64_w, i32_w]
    rfl
  refine take_ (i := 31) (N := some 136) (v := ?_) (a' := ?_) #[true, true, true, true, true, true, true, true, true, true, true, true, true, true, true, true, true, true, true, true, true, true, true, true, true, true, true, true, true, true, true, true, true, false, false, false, false, false, false, true, false, false, false, false, false] rfl rfl (by kernel_rfl) (fun _ _ _ h => h) (Or.inl ⟨by rfl, ?_⟩) hHeld ?_ ?_
  rotate_left
  · rintro w' ⟨s0, s1, s2, s3, s4, s5, s6, s7, s8, s9⟩
    go_simp
    with_reducible rfl
  rotate_left
  · simp only [Act.put, List.setIfInBounds_toArray, List.set_cons_zero, List.set_cons_succ, i64_w, i32_w]
    rfl
  refine take_ (i := 33) (N := some 138) (v := ?_) (a' := ?_) #[true, true, true, true, true, true, true, true, true, true, true, true, true, true, true, true, true, true, true, true, true, true, true, true, true, true, true, true, true, true, true, true, true, true, false, false, false, false, false, true, false, false, false, false, false] rfl rfl (by kernel_rfl) (fun _ _ _ h => h) (Or.inl ⟨by rfl, ?_⟩) hHeld ?_ ?_
  rotate_left
  · rintro w' ⟨s0, s1, s2, s3, s4, s5, s6, s7, s8, s9⟩
    go_simp
    with_reducible rfl
  rotate_left
  · simp only [Act.put, List.setIfInBounds_toArray, List.set_cons_zero, List.set_cons_succ, i64_w, i32_w]
    rfl
  refine take_ (i := 34) (N := some 139) (v := ?_) (a' := ?_) #[true, true, true, true, true, true, true, true, true, true, true, true, true, true, true, true, true, true, true, true, true, true, true, true, true, true, true, true, true, true, true, true, true, true, true, false, false, false, false, true, false, false, false, false, false] rfl rfl (by kernel_rfl) (fun _ _ _ h => h) (Or.inl ⟨by rfl, ?_⟩) hHeld ?_ ?_
  rotate_left
  · rintro w' ⟨s0, s1, s2, s3, s4, s5, s6, s7, s8, s9⟩
    go_simp
    with_reducible rfl
  rotate_left
  · simp only [Act.put, List.setIfInBounds_toArray, List.set_cons_zero, List.set_cons_succ, i64_w, i32_w]
    rfl
  refine take_ (i := 36) (N := some 141) (v := ?_) (a' := ?_) #[true, true, true, true, true, true, true, true, true, true, true, true, true, true, true, true, true, true, true, true, true, true, true, true, true, true, true, true, true, true, true, true, true, true, true, false, true, false, false, true, false, false, false, false, false] rfl rfl (by kernel_rfl) (fun _ _ _ h => h) (Or.inl ⟨by rfl, ?_⟩) hHeld ?_ ?_
  rotate_left
  · rintro w' ⟨s0, s1, s2, s3, s4, s5, s6, s7, s8, s9⟩
    go_simp
    with_reducible rfl
  rotate_left
  · simp only [Act.put, List.setIfInBounds_toArray, List.set_cons_zero, List.set_cons_succ, i64_w, i32_w]
    rfl
  refine take_ (i := 37) (N := some 142) (v := ?_) (a' := ?_) #[true, true, true, true, true, true, true, true, true, true, true, true, true, true, true, true, true, true, true, true, true, true, true, true, true, true, true, true, true, true, true, true, true, true, true, false, true, true, false, true, false, false, false, false, false] rfl rfl (by kernel_rfl) (fun _ _ _ h => h) (Or.inl ⟨by rfl, ?_⟩) hHeld ?_ ?_
  rotate_left
  · rintro w' ⟨s0, s1, s2, s3, s4, s5, s6, s7, s8, s9⟩
    go_simp
    with_reducible rfl
  rotate_left
  · simp only [Act.put, List.setIfInBounds_toArray, List.set_cons_zero, List.set_cons_succ, i64_w, i32_w]
    rfl
  refine take_ (i := 38) (N := some 143) (v := ?_) (a' := ?_) #[true, true, true, true, true, true, true, true, true, true, true, true, true, true, true, true, true, true, true, true, true, true, true, true, true, true, true, true, true, true, true, true, true, true, true, false, true, true, true, true, false, false, false, false, false] rfl rfl (by kernel_rfl) (fun _ _ _ h => h) (Or.inl ⟨by rfl, ?_⟩) hHeld ?_ ?_
  rotate_left
  · rintro w' ⟨s0, s1, s2, s3, s4, s5, s6, s7, s8, s9⟩
    go_simp
    with_reducible rfl
  rotate_left
  · simp only [Act.put, List.setIfInBounds_toArray, List.set_cons_zero, List.set_cons_succ, i64_w, i32_w]
    rfl
  refine one_ (i := 35) (N := some 140) #[true, true, true, true, true, true, true, true, true, true, true, true, true, true, true, true, true, true, true, true, true, true, true, true, true, true, true, true, true, true, true, true, true, true, true, true, true, true, true, true, false, false, false, false, false] rfl rfl (by kernel_rfl) (by decide) (fun K hK => ?_)
  refine goes_ Try.func21 (by kernel_rfl) rfl #[.agg #[.slice A0 gs.length c0, .slice A1 arr.length c1, .slice A2 l2.length c2, .slice A3 l3.length c3], .int .u64 l, .agg #[.slice P1 g1.length p1, .slice Q1 r1.length q1], .agg #[.slice P2 g2.length p2, .slice Q2 r2.length q2]] (by rfl) rfl rfl (by simp only [List.map_toArray, List.map_cons, List.map_nil]; rfl) ?_
  with_reducible refine (alikeC (Zhm.out.below HB.out) (Zh1.out.below HB.out) (Zh2.out.below HB.out) l B ZhB.out Zs1.out Zs2.out).mono ?_
  rintro e t8 ⟨rfl, hb⟩
  refine ⟨_, rfl, ?_⟩
  replace HS := Aside0.mk (HS.out.below hb)
  rw [Zab.out]
  replace HB := Aside0.mk (below_step HB.out hb)
  refine hK.out _ _ ⟨(pw_cell_below hb hHeld.1), (pw_cell_below hb hHeld.2.1), (pw_cell_below hb hHeld.2.2.1), (pw_cell_below hb hHeld.2.2.2.1), (pw_cell_below hb hHeld.2.2.2.2.1), (pw_cell_below hb hHeld.2.2.2.2.2.1), (pw_cell_below hb hHeld.2.2.2.2.2.2.1), (pw_cell_below hb hHeld.2.2.2.2.2.2.2.1), (pw_cell_below hb hHeld.2.2.2.2.2.2.2.2.1), (pw_cell_below hb hHeld.2.2.2.2.2.2.2.2.2)⟩ (fun hHeld => ?_)
  clear hK K
  refine norm_ (a' := ?_) ?_ ?_
  rotate_left
  · show Act.put _ (some 140) _ = _
    simp only [Act.put, List.setIfInBounds_toArray, List.set_cons_zero, List.set_cons_succ, i64_w, i32_w]
    rfl
  refine one_ (i := 40) (N := some 145) #[true, true, true, true, true, true, true, true, true, true, true, true, true, true, true, true, true, true, true, true, true, true, true, true, true, true, true, true, true, true, true, true, true, true, true, true, true, true, true, true, true, false, false, false, false] rfl rfl (by kernel_rfl) (by decide) (fun K hK => ?_)
  refine goes_ Try.func11 (by kernel_rfl) rfl #[.agg #[.slice A0 gs.length c0, .slice A1 arr.length c1, .slice A2 l2.length c2, .slice A3 l3.length c3], .agg #[.slice P2 g2.length p2, .slice Q2 r2.length q2], .int .u64 l] (by rfl) rfl rfl (by simp only [List.map_toArray, List.map_cons, List.map_nil]; rfl) ?_
  with_reducible refine (seenC (Zhm.out.below HB.out) (Zh2.out.below HB.out) l B ZhB.out Zs2.out).mono ?_
  rintro e t9 ⟨v9, rfl, hs9, hb⟩
  refine ⟨_, rfl, ?_⟩
  replace HS := Aside0.mk (HS.out.below hb)
  rw [show seenM gs arr l g2 r2 = (seenG l gs g2, seenR l arr r2) from if_pos Zf2.out] at hs9
  simp only at hs9
  obtain ⟨Y0, y0, Y1, y1, rfl, n0, n1, n2, n3⟩ := hs9
  have HY := Aside0.mk (show MemR t9 (.agg #[.slice Y0 (seenG l gs g2).length y0, .slice Y1 (seenR l arr r2).length y1]) (seenG l gs g2) (seenR l arr r2) from ⟨Y0, y0, Y1, y1, rfl, n0, n1, n2, n3⟩)
  clear n0 n1 n2 n3
  replace HB := Aside0.mk (below_step HB.out hb)
  refine hK.out _ _ ⟨(pw_cell_below hb hHeld.1), (pw_cell_below hb hHeld.2.1), (pw_cell_below hb hHeld.2.2.1), (pw_cell_below hb hHeld.2.2.2.1), (pw_cell_below hb hHeld.2.2.2.2.1), (pw_cell_below hb hHeld.2.2.2.2.2.1), (pw_cell_below hb hHeld.2.2.2.2.2.2.1), (pw_cell_below hb hHeld.2.2.2.2.2.2.2.1), (pw_cell_below hb hHeld.2.2.2.2.2.2.2.2.1), (pw_cell_below hb hHeld.2.2.2.2.2.2.2.2.2)⟩ (fun hHeld => ?_)
  clear hK K
  refine norm_ (a' := ?_) ?_ ?_
  rotate_left
  · show Act.put _ (some 145) _ = _
    simp only [Act.put, List.setIfInBounds_toArray, List.set_cons_zero, List.set_cons_succ, i64_w, i32_w]
    rfl
  refine one_ (i := 41) (N := some 146) #[true, true, true, true, true, true, true, true, true, true, true, true, true, true, true, true, true, true, true, true, true, true, true, true, true, true, true, true, true, true, true, true, true, true, true, true, true, true, true, true, true, true, false, false, false] rfl rfl (by kernel_rfl) (by decide) (fun K hK => ?_)
  refine goes_ Try.func22 (by kernel_rfl) rfl #[.agg #[.slice S0 sg.length d0, .slice S1 sr.length d1], .agg #[.slice Y0 (seenG l gs g2).length y0, .slice Y1 (seenR l arr r2).length y1]] (by rfl) rfl rfl (by simp only [List.map_toArray, List.map_cons, List.map_nil]; rfl) ?_
  with_reducible refine (sameC HS.out HY.out B (by have := ZhB.out; omega) (by rw [HSG.out, HSR.out]; exact sized_seen l Zs1.out)).mono ?_
  rintro e t10 ⟨rfl, hb⟩
  refine ⟨_, rfl, ?_⟩
  replace HS := Aside0.mk (HS.out.below hb)
  clear HY
  rw [show sameB sg sr (seenG l gs g2) (seenR l arr r2) = alikeB gs arr l g1 r1 g2 r2 by rw [alikeB_fits Zf1.out Zf2.out, HSG.out, HSR.out], Zab.out]
  replace HB := Aside0.mk (below_step HB.out hb)
  refine hK.out _ _ ⟨(pw_cell_below hb hHeld.1), (pw_cell_below hb hHeld.2.1), (pw_cell_below hb hHeld.2.2.1), (pw_cell_below hb hHeld.2.2.2.1), (pw_cell_below hb hHeld.2.2.2.2.1), (pw_cell_below hb hHeld.2.2.2.2.2.1), (pw_cell_below hb hHeld.2.2.2.2.2.2.1), (pw_cell_below hb hHeld.2.2.2.2.2.2.2.1), (pw_cell_below hb hHeld.2.2.2.2.2.2.2.2.1), (pw_cell_below hb hHeld.2.2.2.2.2.2.2.2.2)⟩ (fun hHeld => ?_)
  clear hK K
  refine norm_ (a' := ?_) ?_ ?_
  rotate_left
  · show Act.put _ (some 146) _ = _
    simp only [Act.put, List.setIfInBounds_toArray, List.set_cons_zero, List.set_cons_succ, i64_w, i32_w]
    rfl
  refine pure_ (i := 42) (N := some 147) (v := ?_) (a' := ?_) #[true, true, true, true, true, true, true, true, true, true, true, true, true, true, true, true, true, true, true, true, true, true, true, true, true, true, true, true, true, true, true, true, true, true, true, true, true, true, true, true, true, true, true, false, false] rfl rfl (by kernel_rfl) (fun _ _ _ h => h) (Or.inl ⟨by rfl, ?_⟩) ?_ ?_
  rotate_left
  · intro w'
    go_simp
    with_reducible rfl
  rotate_left
  · simp only [Act.put, List.setIfInBounds_toArray, List.set_cons_zero, List.set_cons_succ, i64_w, i32_w]
    rfl
  refine pure_ (i := 43) (N := some 148) (v := ?_) (a' := ?_) #[true, true, true, true, true, true, true, true, true, true, true, true, true, true, true, true, true, true, true, true, true, true, true, true, true, true, true, true, true, true, true, true, true, true, true, true, true, true, true, true, true, true, true, true, false] rfl rfl (by kernel_rfl) (fun _ _ _ h => h) (Or.inl ⟨by rfl, ?_⟩) ?_ ?_
  rotate_left
  · intro w'
    go_simp
    with_reducible rfl
  rotate_left
  · simp only [Act.put, List.setIfInBounds_toArray, List.set_cons_zero, List.set_cons_succ, i64_w, i32_w]
    rfl
  refine pure_ (i := 44) (N := some 12) (v := ?_) (a' := ?_) #[true, true, true, true, true, true, true, true, true, true, true, true, true, true, true, true, true, true, true, true, true, true, true, true, true, true, true, true, true, true, true, true, true, true, true, true, true, true, true, true, true, true, true, true, true] rfl rfl (by kernel_rfl) (fun _ _ _ h => h) (Or.inl ⟨by rfl, ?_⟩) ?_ ?_
  rotate_left
  · intro w'
    go_simp
    with_reducible rfl
  rotate_left
  · simp only [Act.put, List.setIfInBounds_toArray, List.set_cons_zero, List.set_cons_succ, i64_w, i32_w]
    rfl
  refine done_ (by kernel_rfl) ?_
  go_wp2
  go_ret
  exact ⟨rfl, HB.out⟩
end Go.Proofs.Ytlnccdgclaalbaa.PJ
