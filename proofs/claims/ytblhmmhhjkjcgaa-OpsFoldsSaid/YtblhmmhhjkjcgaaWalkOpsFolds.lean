/- The law OpsFolds from its row's form. -/
import Derived.Test.YtblhmmhhjkjcgaaHandOpsFolds
import Derived.Test.YtblhmmhhjkjcgaaOpsFoldPure
namespace Go.Proofs.Ytblhmmhhjkjcgaa.PJ
open Go.RowKit Go.Proofs.YtblhmmhhjkjcgaaW.PrintWords Go.Proofs.YtblhmmhhjkjcgaaW.PrintLast Go.Proofs.YtblhmmhhjkjcgaaW.PrintMore Go.Proofs.Ytblhmmhhjkjcgaa.OpsRef
theorem louverlaw02_OpsFolds.walk (a0 : Int) (a1 : Option Addr) (len1 cap1 : Nat) (z1 : List Int) (w : World) (_w0 : (Lit.int .i64 a0).wf = true)
    (w1 : (a1 = none ∧ len1 = 0 ∧ cap1 = 0 ∧ z1 = []) ∨ ∃ x, a1 = some x ∧ len1 ≤ cap1 ∧ cap1 ≤ maxLen ∧ z1.length = cap1 ∧ (∀ i, i < z1.length → w.cell? (x.add i) = some (.int .i64 (z1.getD i 0))) ∧ ∀ n ∈ z1, (Lit.int .i64 n).wf = true) (y1 : len1 * 8 ≤ 140737488351232) :
    Calls Try.prog 5 #[.int .i64 a0, .slice a1 len1 cap1] w fun e w' => e = .returned (.bool true) ∧ Below w.heap.size w w' := by
  obtain ⟨l0, rfl, hr0, hm0, hw0, hc0⟩ := ReadsInt.ofRowC w1
  obtain ⟨L, rfl⟩ := words_of hw0
  have hl : L.length < 9223372036854775807 := by
    have := y1
    rw [List.length_map] at this
    omega
  exact opsFolds.calls (L.length + 200) a0 _ _ (L.map BitVec.toInt) (fold a0 L).1 (fold a0 L).2 w (Kd.C_of_reads (d := (0 : Int)) (h1 := fun _ => rfl) hr0) hc0 (by omega)
    (Fold_f _ a0 L hl (by omega)) (refFold_f _ a0 L hl (by omega))
    (by rw [Int64s_f _ _ _ (by rw [List.length_map]; omega) (by rw [List.length_map]; omega)]; simp) (OpsBits.awake _)
end Go.Proofs.Ytblhmmhhjkjcgaa.PJ
