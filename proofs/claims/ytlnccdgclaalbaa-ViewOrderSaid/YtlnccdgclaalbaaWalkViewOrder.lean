/- The law ViewOrder from its row's form. -/
import Derived.Test.YtlnccdgclaalbaaPJx0
import Derived.Test.YtlnccdgclaalbaaHandViewOrder
import Derived.Test.YtlnccdgclaalbaaOpenMem
namespace Go.Proofs.Ytlnccdgclaalbaa.PJ
open Go.RowKit Go.Proofs.YtlnccdgclaalbaaW.PrintWords Go.Proofs.YtlnccdgclaalbaaW.PrintLast Go.Proofs.YtlnccdgclaalbaaW.PrintMore
set_option linter.unusedVariables false
abbrev ModZ : Type := List Int × List S57 × List Int × List S48
def okMod (m : ModZ) : Prop := ((∀ y ∈ m.1, (Lit.int .u64 y).wf = true) ∧ m.1.length * 8 ≤ 140737488351232) ∧ ((∀ x ∈ m.2.1, (Lit.int .i64 x.f0).wf = true ∧ (Lit.int .u64 x.f1).wf = true) ∧ m.2.1.length * 16 ≤ 140737488351232) ∧ ((∀ y ∈ m.2.2.1, (Lit.int .u64 y).wf = true) ∧ m.2.2.1.length * 8 ≤ 140737488351232) ∧ ((∀ x ∈ m.2.2.2, okFunc x) ∧ m.2.2.2.length * 96 ≤ 140737488351232)
theorem modR_of {w : World} {cs : Array Value} {z : ModZ} (h : kMod.K w z cs.toList) : ModR w (.agg cs) z.1 z.2.1 z.2.2.1 z.2.2.2 := by
  obtain ⟨_, _, e, ⟨A0, c0, rfl, h0, g0⟩, ⟨_, _, rfl, ⟨A1, c1, rfl, h1, g1⟩, ⟨_, _, rfl, ⟨A2, c2, rfl, h2, g2⟩, ⟨A3, c3, rfl, h3, g3⟩⟩⟩⟩ := h
  have : cs = #[.slice A0 z.1.length c0, .slice A1 z.2.1.length c1, .slice A2 z.2.2.1.length c2, .slice A3 z.2.2.2.length c3] := by
    apply Array.toList_inj.mp
    simpa using e
  exact ⟨A0, c0, A1, c1, A2, c2, A3, c3, by rw [this], g0, h0, g1, h1, g2, h2, g3, h3⟩
theorem memR_of {w : World} {cs : Array Value} {z : List Int × List (List Int)} (h : kMem.K w z cs.toList) : MemR w (.agg cs) z.1 z.2 := by
  obtain ⟨_, _, e, ⟨A0, c0, rfl, h0, g0⟩, ⟨A1, c1, rfl, h1, g1⟩⟩ := h
  have : cs = #[.slice A0 z.1.length c0, .slice A1 z.2.length c1] := by
    apply Array.toList_inj.mp
    simpa using e
  exact ⟨A0, c0, A1, c1, by rw [this], g0, h0, g1, h1⟩
theorem sized_of {z : List Int × List (List Int)} (h : okMem z) : Sized 17592186043904 z.1 z.2 := ⟨by have := h.1.2; omega, by have := h.2.2; omega, by have := h.2.2; omega, fun x hx => by have := (h.2.1 x hx).2; omega⟩
theorem louverlaw20_ViewOrder.walk (cs0 : Array Value) (z0 : ModZ) (a1 a2 : Int) (cs3 : Array Value) (z3 : List Int × List (List Int)) (cs4 : Array Value) (z4 : List Int × List (List Int)) (cs5 : Array Value) (z5 : List Int × List (List Int)) (w : World) (w0 : kMod.K w z0 cs0.toList) (y0 : okMod z0)
    (w1 : (Lit.int .u64 a1).wf = true) (w2 : (Lit.int .u64 a2).wf = true) (w3 : kMem.K w z3 cs3.toList) (y3 : okMem z3) (w4 : kMem.K w z4 cs4.toList) (y4 : okMem z4) (w5 : kMem.K w z5 cs5.toList) (y5 : okMem z5) :
    Calls Try.prog 4 #[.agg cs0, .int .u64 a1, .int .u64 a2, .agg cs3, .agg cs4, .agg cs5] w fun e w' => e = .returned (.bool true) ∧ Below w.heap.size w w' := by
  obtain ⟨gs, arr, l2, l3⟩ := z0
  obtain ⟨g1, r1⟩ := z3
  obtain ⟨g2, r2⟩ := z4
  obtain ⟨g3, r3⟩ := z5
  obtain ⟨A0, c0, A1, c1, A2, c2, A3, c3, e0, m⟩ := modR_of w0
  obtain ⟨P1, p1, Q1, q1, e1, n1⟩ := memR_of w3
  obtain ⟨P2, p2, Q2, q2, e2, n2⟩ := memR_of w4
  obtain ⟨P3, p3, Q3, q3, e3, n3⟩ := memR_of w5
  have hm : ModR w (.agg #[.slice A0 gs.length c0, .slice A1 arr.length c1, .slice A2 l2.length c2, .slice A3 l3.length c3]) gs arr l2 l3 := ⟨A0, c0, A1, c1, A2, c2, A3, c3, rfl, m⟩
  have h1 : MemR w (.agg #[.slice P1 g1.length p1, .slice Q1 r1.length q1]) g1 r1 := ⟨P1, p1, Q1, q1, rfl, n1⟩
  have h2 : MemR w (.agg #[.slice P2 g2.length p2, .slice Q2 r2.length q2]) g2 r2 := ⟨P2, p2, Q2, q2, rfl, n2⟩
  have h3 : MemR w (.agg #[.slice P3 g3.length p3, .slice Q3 r3.length q3]) g3 r3 := ⟨P3, p3, Q3, q3, rfl, n3⟩
  rw [e0, e1, e2, e3]
  have s1 := sized_of y3
  have s2 := sized_of y4
  have s3 := sized_of y5
  have wg := y0.1.1
  have wa : ∀ a ∈ arr, (Lit.int .u64 a.f1).wf = true := fun a ha => (y0.2.1.1 a ha).2
  cases f1 : fitsB gs arr g1 r1 with
  | false => exact viewOrder.no1 A0 A1 A2 A3 c0 c1 c2 c3 gs arr l2 l3 P1 Q1 p1 q1 g1 r1 P2 Q2 p2 q2 g2 r2 P3 Q3 p3 q3 g3 r3 a1 a2 w hm h1 h2 h3 _ (by omega) s1 s2 s3 f1
  | true =>
    cases f2 : fitsB gs arr g2 r2 with
    | false => exact viewOrder.no2 A0 A1 A2 A3 c0 c1 c2 c3 gs arr l2 l3 P1 Q1 p1 q1 g1 r1 P2 Q2 p2 q2 g2 r2 P3 Q3 p3 q3 g3 r3 a1 a2 w hm h1 h2 h3 _ (by omega) s1 s2 s3 f1 f2
    | true =>
      cases f3 : fitsB gs arr g3 r3 with
      | false => exact viewOrder.no3 A0 A1 A2 A3 c0 c1 c2 c3 gs arr l2 l3 P1 Q1 p1 q1 g1 r1 P2 Q2 p2 q2 g2 r2 P3 Q3 p3 q3 g3 r3 a1 a2 w hm h1 h2 h3 _ (by omega) s1 s2 s3 f1 f2 f3
      | true =>
        cases ab : alikeB gs arr a1 g1 r1 g2 r2 with
        | false => exact viewOrder.yes0 A0 A1 A2 A3 c0 c1 c2 c3 gs arr l2 l3 P1 Q1 p1 q1 g1 r1 P2 Q2 p2 q2 g2 r2 P3 Q3 p3 q3 g3 r3 a1 a2 w hm h1 h2 h3 _ (by omega) s1 s2 s3 f1 f2 f3 wg wa w1 w2 ab
        | true =>
          cases bc : alikeB gs arr a1 g2 r2 g3 r3 with
          | false => exact viewOrder.yes1 A0 A1 A2 A3 c0 c1 c2 c3 gs arr l2 l3 P1 Q1 p1 q1 g1 r1 P2 Q2 p2 q2 g2 r2 P3 Q3 p3 q3 g3 r3 a1 a2 w hm h1 h2 h3 _ (by omega) s1 s2 s3 f1 f2 f3 wg wa w1 w2 ab bc
          | true => exact viewOrder.yes2 A0 A1 A2 A3 c0 c1 c2 c3 gs arr l2 l3 P1 Q1 p1 q1 g1 r1 P2 Q2 p2 q2 g2 r2 P3 Q3 p3 q3 g3 r3 a1 a2 w hm h1 h2 h3 _ (by omega) s1 s2 s3 f1 f2 f3 wg wa w1 w2 ab bc
end Go.Proofs.Ytlnccdgclaalbaa.PJ
