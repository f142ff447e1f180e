/- The walk of the law ViewAlike. -/
import Derived.Test.YtlnccdgclaalbaaPJx0
import Derived.Test.YtlnccdgclaalbaaPJx8
import Derived.Test.YtlnccdgclaalbaaPJx9
import Derived.Test.YtlnccdgclaalbaaPJx10
import Derived.Test.YtlnccdgclaalbaaHandViewTop
import Derived.Test.YtlnccdgclaalbaaHandLentMem2
import Derived.Test.YtlnccdgclaalbaaViewAlikePure
namespace Go.Proofs.Ytlnccdgclaalbaa.PJ
open Go.RowKit Go.Proofs.YtlnccdgclaalbaaW.PrintWords Go.Proofs.YtlnccdgclaalbaaW.PrintLast Go.Proofs.YtlnccdgclaalbaaW.PrintMore
set_option linter.unusedSimpArgs false
set_option linter.unusedVariables false
theorem va4 {w : World} {g t : Nat} {x y z u : Value} (h : w.heap[g]? = some (.cells #[x, y, z, u] t (0, 0))) : w.cell? ⟨g, 0, none⟩ = some x ∧ w.cell? ⟨g, 1, none⟩ = some y ∧ w.cell? ⟨g, 2, none⟩ = some z ∧ w.cell? ⟨g, 3, none⟩ = some u := ⟨blk_cell h 0, blk_cell h 1, blk_cell h 2, blk_cell h 3⟩
/-- A row of numbers that is read. -/
def IntsR (w : World) (v : Value) (xs : List Int) : Prop := ∃ A c, v = .slice A xs.length c ∧ Kd.C (Kd.int .i64) w A xs.length xs ∧ xs.length ≤ c
theorem IntsR.below {w w' : World} {v : Value} {xs : List Int} (h : IntsR w v xs) (hb : Below w.heap.size w w') : IntsR w' v xs := by
  obtain ⟨A, c, e, h0, h1⟩ := h
  exact ⟨A, c, e, Kd.C_below h0 hb, h1⟩
/-- A function that is read. -/
def FnR (w : World) (v : Value) (n0 : Int) (p q : List Int) (n3 n4 : Int) (cd : List S77) : Prop := ∃ A1 c1 A2 c2 A5 c5, v = .agg #[.int .u64 n0, .slice A1 p.length c1, .slice A2 q.length c2, .int .i64 n3, .int .i64 n4, .slice A5 cd.length c5] ∧ Kd.C (Kd.int .u64) w A1 p.length p ∧ p.length ≤ c1 ∧ Kd.C (Kd.int .u64) w A2 q.length q ∧ q.length ≤ c2 ∧ Kd.C k77 w A5 cd.length cd ∧ cd.length ≤ c5
theorem FnR.below {w w' : World} {v : Value} {n0 : Int} {p q : List Int} {n3 n4 : Int} {cd : List S77} (h : FnR w v n0 p q n3 n4 cd) (hb : Below w.heap.size w w') : FnR w' v n0 p q n3 n4 cd := by
  obtain ⟨A1, c1, A2, c2, A5, c5, e, h1, l1, h2, l2, h5, l5⟩ := h
  exact ⟨A1, c1, A2, c2, A5, c5, e, Kd.C_below h1 hb, l1, Kd.C_below h2 hb, l2, Kd.C_below h5 hb, l5⟩
theorem LentMm.memR {w : World} {v : Value} {g : List Int} {r : List (List Int)} (h : LentMm w v g r) : MemR w v g r := by
  obtain ⟨B0, d0, B1, d1, e, ⟨l0, h0⟩, ⟨l1, h1⟩⟩ := h
  exact ⟨B0, d0, B1, d1, e, lentC_reads h0, by omega, C_LR h1, by omega⟩
theorem LentM.modR {w : World} {v : Value} {l0 : List Int} {l1 : List S57} {l2 : List Int} {l3 : List S48} (h : LentM w v l0 l1 l2 l3) : ModR w v l0 l1 l2 l3 := by
  obtain ⟨B0, d0, B1, d1, B2, d2, B3, d3, e, ⟨m0, h0⟩, ⟨m1, h1⟩, ⟨m2, h2⟩, ⟨m3, h3⟩⟩ := h
  exact ⟨B0, d0, B1, d1, B2, d2, B3, d3, e, lentC_reads h0, by omega, lentC_reads h1, by omega, lentC_reads h2, by omega, C_LF h3, by omega⟩
/-- A lent function. -/
def LentFnR (w : World) (v : Value) (n0 : Int) (p q : List Int) (n3 n4 : Int) (cd : List S77) : Prop := ∃ v1 v2 v5, v = .agg #[.int .u64 n0, v1, v2, .int .i64 n3, .int .i64 n4, v5] ∧ LentC (Kd.int .u64) w v1 p 7171 ∧ LentC (Kd.int .u64) w v2 q 7171 ∧ LentC k77 w v5 cd ⟨-71, 0⟩
theorem LentFnR.below {w w' : World} {v : Value} {n0 : Int} {p q : List Int} {n3 n4 : Int} {cd : List S77} (h : LentFnR w v n0 p q n3 n4 cd) (hb : Below w.heap.size w w') : LentFnR w' v n0 p q n3 n4 cd := by
  obtain ⟨v1, v2, v5, e, h1, h2, h5⟩ := h
  exact ⟨v1, v2, v5, e, h1.below hb, h2.below hb, h5.below hb⟩
theorem lentMemR (v : Value) (g : List Int) (r : List (List Int)) (w : World) (h : MemR w v g r) (hs0 : (g.length + 1) * 8 ≤ 140737488355328) (hs1 : (r.length + 1) * 24 ≤ 140737488355328) (hsf : ∀ x ∈ r, (x.length + 1) * 8 ≤ 140737488355328) :
    Calls Try.prog 8 #[v] w fun e w' => ∃ v, e = .returned v ∧ LentMm w' v g r ∧ Below w.heap.size w w' := by
  obtain ⟨A0, c0, A1, c1, rfl, h0, l0, h1, l1⟩ := h
  exact lentMemC A0 A1 c0 c1 g r w h0 h1 hs0 hs1 hsf
theorem lentModR (v : Value) (l0 : List Int) (l1 : List S57) (l2 : List Int) (l3 : List S48) (w : World) (h : ModR w v l0 l1 l2 l3)
    (hs0 : (l0.length + 1) * 8 ≤ 140737488355328) (hs1 : (l1.length + 1) * 16 ≤ 140737488355328) (hs2 : (l2.length + 1) * 8 ≤ 140737488355328) (hs3 : (l3.length + 1) * 96 ≤ 140737488355328)
    (hsf : ∀ x ∈ l3, (x.f1.length + 1) * 8 ≤ 140737488355328 ∧ (x.f2.length + 1) * 8 ≤ 140737488355328 ∧ (x.f5.length + 1) * 16 ≤ 140737488355328) :
    Calls Try.prog 7 #[v] w fun e w' => ∃ v, e = .returned v ∧ LentM w' v l0 l1 l2 l3 ∧ Below w.heap.size w w' := by
  obtain ⟨A0, c0, A1, c1, A2, c2, A3, c3, rfl, h0, m0, h1, m1, h2, m2, h3, m3⟩ := h
  exact lentModC A0 A1 A2 A3 c0 c1 c2 c3 l0 l1 l2 l3 w h0 h1 h2 h3 hs0 hs1 hs2 hs3 hsf
theorem keptMemR (u v : Value) (g : List Int) (r : List (List Int)) (w : World) (h : LentMm w u g r) (hv : MemR w v g r) :
    Calls Try.prog 18 #[u, v] w fun e w' => e = .returned (.bool true) ∧ Below w.heap.size w w' := by
  obtain ⟨A0, c0, A1, c1, rfl, h0, l0, h1, l1⟩ := hv
  exact keptMemC u g r A0 A1 c0 c1 w h h0 l0 h1 l1
theorem keptModR (u v : Value) (l0 : List Int) (l1 : List S57) (l2 : List Int) (l3 : List S48) (w : World) (h : LentM w u l0 l1 l2 l3) (hv : ModR w v l0 l1 l2 l3) :
    Calls Try.prog 17 #[u, v] w fun e w' => e = .returned (.bool true) ∧ Below w.heap.size w w' := by
  obtain ⟨A0, c0, A1, c1, A2, c2, A3, c3, rfl, h0, m0, h1, m1, h2, m2, h3, m3⟩ := hv
  exact louverkit_KeptModuleC.calls u A0 A1 A2 A3 c0 c1 c2 c3 l0 l1 l2 l3 w h h0 m0 h1 m1 h2 m2 h3 m3
end Go.Proofs.Ytlnccdgclaalbaa.PJ
