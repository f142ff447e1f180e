/- The law LebPuts from its row's form. -/
import Derived.Test.YtgpdaihfjnihhaaHandLebPuts
namespace Go.Proofs.Ytgpdaihfjnihhaa.PJ
open Go.RowKit Go.Proofs.YtgpdaihfjnihhaaW.PrintWords Go.Proofs.YtgpdaihfjnihhaaW.PrintLast Go.Proofs.YtgpdaihfjnihhaaW.PrintMore Go.Proofs.Ytgpdaihfjnihhaa.LebPure Go.Proofs.Ytgpdaihfjnihhaa.LebForm Go.Proofs.Ytgpdaihfjnihhaa.B64
theorem louverlaw03_LebPuts.walk (a0 : Option Addr) (len0 cap0 : Nat) (z0 : List Int) (a1 a2 : Int) (w : World)
    (w0 : (a0 = none ∧ len0 = 0 ∧ cap0 = 0 ∧ z0 = []) ∨ ∃ x, a0 = some x ∧ len0 ≤ cap0 ∧ cap0 ≤ maxLen ∧ z0.length = cap0 ∧ (∀ i, i < z0.length → w.cell? (x.add i) = some (.int .u8 (z0.getD i 0))) ∧ ∀ n ∈ z0, (Lit.int .u8 n).wf = true) (y0 : len0 * 1 ≤ 140737488351232)
    (w1 : (Lit.int .u64 a1).wf = true) (w2 : (Lit.int .i64 a2).wf = true) :
    Calls Try.prog 3 #[.slice a0 len0 cap0, .int .u64 a1, .int .i64 a2] w fun e w' => e = .returned (.bool true) ∧ Below w.heap.size w w' := by
  obtain ⟨l0, rfl, hr0, hm0, hw0, hc0⟩ := ReadsInt.ofRowC w0
  have hl : l0.length < 9223372036854775807 := by omega
  obtain ⟨n0, n1⟩ := wf_u64 w1
  have hm := wf_i64 w2
  obtain ⟨n, rfl⟩ : ∃ n : Nat, a1 = n := ⟨a1.toNat, by omega⟩
  have hn : n < 2 ^ 64 := by omega
  have hK := ulen_u64 hn
  have hL := slen_i64 hm
  have e1 := form_length n
  have e2 := sform_length a2
  refine lebPuts.calls (2 * l0.length + 200) n a2 (form n) (sform a2) _ _ _ _ l0 w (Kd.C_of_reads (d := (0 : Int)) (h1 := fun _ => rfl) hr0) hc0 (by omega) (by omega) (by omega) rfl rfl
    (Put_f _ l0 n hn (by omega) (by omega)) (PutSigned_f _ l0 a2 hm (by omega) (by omega)) (refPut_f _ n hn (by omega)) (refPutSigned_f _ a2 hm (by omega)) ?_ ?_ ?_ ?_ ?_ (awake_f _ (by omega))
  · rw [Bytes_f _ _ _ (by rw [List.length_append]; omega) (by rw [List.length_append]; omega)]; simp
  · rw [Bytes_f _ _ _ (by rw [List.length_append]; omega) (by rw [List.length_append]; omega)]; simp
  · rw [e1]; exact Size_f _ n hn (by omega)
  · rw [e2]; exact SizeSigned_f _ a2 hm (by omega)
  · rw [Bytes_f _ l0 l0 hl (by omega)]; simp
end Go.Proofs.Ytgpdaihfjnihhaa.PJ
