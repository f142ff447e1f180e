/- The law ViewAlike from its row's form. -/
import Derived.Test.YtlnccdgclaalbaaPJx0
import Derived.Test.YtlnccdgclaalbaaHandViewAlike
import Derived.Test.YtlnccdgclaalbaaOpenMem
namespace Go.Proofs.Ytlnccdgclaalbaa.PJ
open Go.RowKit Go.Proofs.YtlnccdgclaalbaaW.PrintWords Go.Proofs.YtlnccdgclaalbaaW.PrintLast Go.Proofs.YtlnccdgclaalbaaW.PrintMore
set_option linter.unusedVariables false
abbrev ModZa : Type := List Int × List S57 × List Int × List S48
def okModA (m : ModZa) : Prop := ((∀ y ∈ m.1, (Lit.int .u64 y).wf = true) ∧ m.1.length * 8 ≤ 140737488351232) ∧ ((∀ x ∈ m.2.1, (Lit.int .i64 x.f0).wf = true ∧ (Lit.int .u64 x.f1).wf = true) ∧ m.2.1.length * 16 ≤ 140737488351232) ∧ ((∀ y ∈ m.2.2.1, (Lit.int .u64 y).wf = true) ∧ m.2.2.1.length * 8 ≤ 140737488351232) ∧ ((∀ x ∈ m.2.2.2, okFunc x) ∧ m.2.2.2.length * 96 ≤ 140737488351232)
theorem modA_of {w : World} {cs : Array Value} {z : ModZa} (h : kMod.K w z cs.toList) : ModR w (.agg cs) z.1 z.2.1 z.2.2.1 z.2.2.2 := by
  obtain ⟨_, _, e, ⟨A0, c0, rfl, h0, g0⟩, ⟨_, _, rfl, ⟨A1, c1, rfl, h1, g1⟩, ⟨_, _, rfl, ⟨A2, c2, rfl, h2, g2⟩, ⟨A3, c3, rfl, h3, g3⟩⟩⟩⟩ := h
  have : cs = #[.slice A0 z.1.length c0, .slice A1 z.2.1.length c1, .slice A2 z.2.2.1.length c2, .slice A3 z.2.2.2.length c3] := by
    apply Array.toList_inj.mp
    simpa using e
  exact ⟨A0, c0, A1, c1, A2, c2, A3, c3, by rw [this], g0, h0, g1, h1, g2, h2, g3, h3⟩
theorem memA_of {w : World} {cs : Array Value} {z : List Int × List (List Int)} (h : kMem.K w z cs.toList) : MemR w (.agg cs) z.1 z.2 := by
  obtain ⟨_, _, e, ⟨A0, c0, rfl, h0, g0⟩, ⟨A1, c1, rfl, h1, g1⟩⟩ := h
  have : cs = #[.slice A0 z.1.length c0, .slice A1 z.2.length c1] := by
    apply Array.toList_inj.mp
    simpa using e
  exact ⟨A0, c0, A1, c1, by rw [this], g0, h0, g1, h1⟩
theorem fnA_of {w : World} {cs : Array Value} {z : S48} (h : k48.K w z cs.toList) : FnR w (.agg cs) z.f0 z.f1 z.f2 z.f3 z.f4 z.f5 := by
  obtain ⟨_, _, e, h0, ⟨_, _, rfl, ⟨A1, c1, rfl, l1, g1⟩, ⟨_, _, rfl, ⟨A2, c2, rfl, l2, g2⟩, ⟨_, _, rfl, h3, ⟨_, _, rfl, h4, ⟨A5, c5, rfl, l5, g5⟩⟩⟩⟩⟩⟩ := h
  have h0' : _ = [Value.int .u64 z.f0] := h0
  have h3' : _ = [Value.int .i64 z.f3] := h3
  have h4' : _ = [Value.int .i64 z.f4] := h4
  subst h0' h3' h4'
  have : cs = #[.int .u64 z.f0, .slice A1 z.f1.length c1, .slice A2 z.f2.length c2, .int .i64 z.f3, .int .i64 z.f4, .slice A5 z.f5.length c5] := by
    apply Array.toList_inj.mp
    simpa using e
  exact ⟨A1, c1, A2, c2, A5, c5, by rw [this], g1, l1, g2, l2, g5, l5⟩
theorem sizedA_of {z : List Int × List (List Int)} (h : okMem z) : Sized 17592186043904 z.1 z.2 := ⟨by have := h.1.2; omega, by have := h.2.2; omega, by have := h.2.2; omega, fun x hx => by have := (h.2.1 x hx).2; omega⟩
theorem sizesA {z : List Int × List (List Int)} (h : okMem z) : (z.1.length + 1) * 8 ≤ 140737488355328 ∧ (z.2.length + 1) * 24 ≤ 140737488355328 ∧ ∀ x ∈ z.2, (x.length + 1) * 8 ≤ 140737488355328 := ⟨by have := h.1.2; omega, by have := h.2.2; omega, fun x hx => by have := (h.2.1 x hx).2; omega⟩
theorem louverlaw20_ViewAlike.walk (cs0 : Array Value) (z0 : ModZa) (a1 : Int) (cs2 : Array Value) (z2 : List Int × List (List Int)) (cs3 : Array Value) (z3 : List Int × List (List Int)) (cs4 : Array Value) (z4 : S48) (a5 : Option Addr) (len5 cap5 : Nat) (z5 : List Int) (a6 : Option Addr) (len6 cap6 : Nat) (z6 : List Int) (w : World)
    (w0 : kMod.K w z0 cs0.toList) (y0 : okModA z0) (w1 : (Lit.int .u64 a1).wf = true) (w2 : kMem.K w z2 cs2.toList) (y2 : okMem z2) (w3 : kMem.K w z3 cs3.toList) (y3 : okMem z3) (w4 : k48.K w z4 cs4.toList) (y4 : okFunc z4)
    (w5 : (a5 = none ∧ len5 = 0 ∧ cap5 = 0 ∧ z5 = []) ∨ ∃ x, a5 = some x ∧ len5 ≤ cap5 ∧ cap5 ≤ maxLen ∧ z5.length = cap5 ∧ (∀ i, i < z5.length → w.cell? (x.add i) = some (.int .i64 (z5.getD i 0))) ∧ ∀ n ∈ z5, (Lit.int .i64 n).wf = true) (y5 : len5 * 8 ≤ 140737488351232)
    (w6 : (a6 = none ∧ len6 = 0 ∧ cap6 = 0 ∧ z6 = []) ∨ ∃ x, a6 = some x ∧ len6 ≤ cap6 ∧ cap6 ≤ maxLen ∧ z6.length = cap6 ∧ (∀ i, i < z6.length → w.cell? (x.add i) = some (.int .i64 (z6.getD i 0))) ∧ ∀ n ∈ z6, (Lit.int .i64 n).wf = true) (y6 : len6 * 8 ≤ 140737488351232) :
    Calls Try.prog 5 #[.agg cs0, .int .u64 a1, .agg cs2, .agg cs3, .agg cs4, .slice a5 len5 cap5, .slice a6 len6 cap6] w fun e w' => e = .returned (.bool true) ∧ Below w.heap.size w w' := by
  obtain ⟨xs, rfl, hr5, hm5, hw5, hc5⟩ := ReadsInt.ofRowC w5
  obtain ⟨ys, rfl, hr6, hm6, hw6, hc6⟩ := ReadsInt.ofRowC w6
  have hu : IntsR w (.slice a5 xs.length cap5) xs := ⟨_, _, rfl, Kd.C_of_reads (d := (0 : Int)) (h1 := fun _ => rfl) hr5, hc5⟩
  have hv : IntsR w (.slice a6 ys.length cap6) ys := ⟨_, _, rfl, Kd.C_of_reads (d := (0 : Int)) (h1 := fun _ => rfl) hr6, hc6⟩
  obtain ⟨gs, arr, l2, l3⟩ := z0
  obtain ⟨g1, r1⟩ := z2
  obtain ⟨g2, r2⟩ := z3
  obtain ⟨n0, p, q, n3, n4, cd⟩ := z4
  obtain ⟨A0, c0, A1, c1, A2, c2, A3, c3, e0, m⟩ := modA_of w0
  obtain ⟨P1, p1, Q1, q1, e1, n1⟩ := memA_of w2
  obtain ⟨P2, p2, Q2, q2, e2, n2⟩ := memA_of w3
  obtain ⟨E1, d1, E2, d2, E5, d5, e3, n5⟩ := fnA_of w4
  have hm : ModR w (.agg #[.slice A0 gs.length c0, .slice A1 arr.length c1, .slice A2 l2.length c2, .slice A3 l3.length c3]) gs arr l2 l3 := ⟨A0, c0, A1, c1, A2, c2, A3, c3, rfl, m⟩
  have h1 : MemR w (.agg #[.slice P1 g1.length p1, .slice Q1 r1.length q1]) g1 r1 := ⟨P1, p1, Q1, q1, rfl, n1⟩
  have h2 : MemR w (.agg #[.slice P2 g2.length p2, .slice Q2 r2.length q2]) g2 r2 := ⟨P2, p2, Q2, q2, rfl, n2⟩
  have hf : FnR w (.agg #[.int .u64 n0, .slice E1 p.length d1, .slice E2 q.length d2, .int .i64 n3, .int .i64 n4, .slice E5 cd.length d5]) n0 p q n3 n4 cd := ⟨E1, d1, E2, d2, E5, d5, rfl, n5⟩
  rw [e0, e1, e2, e3]
  have s1 := sizedA_of y2
  have s2 := sizedA_of y3
  have t1 := sizesA y2
  have t2 := sizesA y3
  obtain ⟨⟨wg, b0⟩, ⟨wa, b1⟩, ⟨_, b2⟩, ⟨wf, b3⟩⟩ := y0
  obtain ⟨_, ⟨wp, b4⟩, ⟨wq, b5⟩, _, _, ⟨_, b6⟩⟩ := y4
  simp only at wg b0 wa b1 b2 wf b3 wp b4 wq b5 b6
  exact viewAlike.calls A0 A1 A2 A3 c0 c1 c2 c3 gs arr l2 l3 P1 Q1 p1 q1 g1 r1 P2 Q2 p2 q2 g2 r2 n0 n3 n4 E1 E2 E5 d1 d2 d5 p q cd a5 a6 cap5 cap6 xs ys a1 w hm h1 h2 hf hu hv 17592186043904 (by omega) s1 s2 w1 wg (fun a ha => (wa a ha).2) wp wq
    (by omega) (by omega) (by omega) (by omega) (fun x hx => by
      obtain ⟨_, ⟨_, t1⟩, ⟨_, t2⟩, _, _, ⟨_, t3⟩⟩ := wf x hx
      exact ⟨by omega, by omega, by omega⟩) t1 t2 ⟨by omega, by omega, by omega⟩ (by omega) (by omega)
end Go.Proofs.Ytlnccdgclaalbaa.PJ
