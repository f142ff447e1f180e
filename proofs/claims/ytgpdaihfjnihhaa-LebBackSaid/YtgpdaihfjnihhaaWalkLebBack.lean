/- The law LebBack from its row's form. -/
import Derived.Test.YtgpdaihfjnihhaaHandLebBack
namespace Go.Proofs.Ytgpdaihfjnihhaa.PJ
open Go.RowKit Go.Proofs.YtgpdaihfjnihhaaW.PrintWords Go.Proofs.YtgpdaihfjnihhaaW.PrintLast Go.Proofs.YtgpdaihfjnihhaaW.PrintMore Go.Proofs.Ytgpdaihfjnihhaa.LebPure Go.Proofs.Ytgpdaihfjnihhaa.LebForm Go.Proofs.Ytgpdaihfjnihhaa.B64
theorem louverlaw03_LebBack.walk (a0 a1 : Int) (a2 : Option Addr) (len2 cap2 : Nat) (z2 : List Int) (a3 : Option Addr) (len3 cap3 : Nat) (z3 : List Int) (w : World) (w0 : (Lit.int .u64 a0).wf = true) (w1 : (Lit.int .i64 a1).wf = true)
    (w2 : (a2 = none ∧ len2 = 0 ∧ cap2 = 0 ∧ z2 = []) ∨ ∃ x, a2 = some x ∧ len2 ≤ cap2 ∧ cap2 ≤ maxLen ∧ z2.length = cap2 ∧ (∀ i, i < z2.length → w.cell? (x.add i) = some (.int .u8 (z2.getD i 0))) ∧ ∀ n ∈ z2, (Lit.int .u8 n).wf = true) (_y2 : len2 * 1 ≤ 140737488351232)
    (w3 : (a3 = none ∧ len3 = 0 ∧ cap3 = 0 ∧ z3 = []) ∨ ∃ x, a3 = some x ∧ len3 ≤ cap3 ∧ cap3 ≤ maxLen ∧ z3.length = cap3 ∧ (∀ i, i < z3.length → w.cell? (x.add i) = some (.int .u8 (z3.getD i 0))) ∧ ∀ n ∈ z3, (Lit.int .u8 n).wf = true) (y3 : len3 * 1 ≤ 140737488351232) :
    Calls Try.prog 5 #[.int .u64 a0, .int .i64 a1, .slice a2 len2 cap2, .slice a3 len3 cap3] w fun e w' => e = .returned (.bool true) ∧ Below w.heap.size w w' := by
  obtain ⟨l0, rfl, hr0, hm0, hw0, hc0⟩ := ReadsInt.ofRowC w2
  obtain ⟨l1, rfl, hr1, hm1, hw1, hc1⟩ := ReadsInt.ofRowC w3
  have hb1 := bts_of_wf hw1
  obtain ⟨n0, n1⟩ := B64.wf_u64 w0
  have hm := B64.wf_i64 w1
  obtain ⟨n, rfl⟩ : ∃ n : Nat, a0 = n := ⟨a0.toNat, by omega⟩
  have hn : n < 2 ^ 64 := by omega
  have hl : l1.length < 9223372036854775807 := by omega
  have hK := ulen_u64 hn
  have hL := slen_i64 hm
  have hp := form_length n
  have hq := sform_length a1
  refine lebBack.calls (2 * l1.length + 200) n a1 (form n) (sform a1) _ _ _ _ _ _ (ulen n) (slen a1) (getU l1).1 (getU l1).2.1 (getU l1).2.2 (getS l1).1 (getS l1).2.1 (getS l1).2.2 (ulen (n + 1)) _ _ l0 _ _ l1 w
    (Kd.C_of_reads (d := (0 : Int)) (h1 := fun _ => rfl) hr0) hc0 (Kd.C_of_reads (d := (0 : Int)) (h1 := fun _ => rfl) hr1) hc1 hp hq hK hL rfl rfl rfl rfl rfl rfl
    (fun h => Put_f _ l0 n hn (by omega) (by omega)) (fun h => PutSigned_f _ l0 a1 hm (by omega) (by omega)) ?_ ?_ (Size_f _ n hn (by omega)) (SizeSigned_f _ a1 hm (by omega)) ?_ ?_
    (Get_f _ l1 hb1 hl (by omega)) ?_ (GetSigned_f _ l1 hb1 hl (by omega)) ?_ ?_ ?_
  · rw [Get_f _ _ (Bts.append (form_byte n) hb1) (by rw [List.length_append]; omega) (by rw [List.length_append]; omega), getU_form n hn]
  · rw [GetSigned_f _ _ (Bts.append (sform_byte a1) hb1) (by rw [List.length_append]; omega) (by rw [List.length_append]; omega), getS_form a1 hm]
  · intro i hi
    rw [Get_f _ _ (Bts.take (form_byte n) i) (by rw [List.length_take]; omega) (by rw [List.length_take]; omega), getU_cut n hn i hi]
  · intro i hi
    rw [GetSigned_f _ _ (Bts.take (sform_byte a1) i) (by rw [List.length_take]; omega) (by rw [List.length_take]; omega), getS_cut a1 hm i hi]
  · intro h
    obtain ⟨K, u, he, hu, hf, hk⟩ := getU_back l1 h
    rw [he]
    exact ⟨K, rfl, hk, by rw [← hf]; exact Put_f _ [] u hu (by simp) (by omega)⟩
  · intro h
    obtain ⟨K, u, he, hu, hf, hk⟩ := getS_back l1 h
    rw [he]
    exact ⟨K, rfl, hk, by rw [← hf]; exact PutSigned_f _ [] u hu (by simp) (by omega)⟩
  · intro I
    rw [Bytes_f _ _ _ (by rw [List.length_take]; omega) (by rw [List.length_take]; omega)]
    simp
  · by_cases h : n = 2 ^ 64 - 1
    · left
      omega
    · right
      rw [u64_small (by omega) (by omega)]
      exact ⟨by have := Size_f (2 * l1.length + 200) (n + 1) (by omega) (by omega); simpa using this, by have := ulen_mono (show n ≤ n + 1 by omega); omega⟩
end Go.Proofs.Ytgpdaihfjnihhaa.PJ
