/- Whole numbers of 64 bits as bit vectors: what the walk's words (wrap64, bits, shl, shr) are of BitVec 64. No condition. -/
import Derived.Test.YtlnccdgclaalbaaWMore
namespace Go.Proofs.Ytlnccdgclaalbaa.B64
open Go.RowKit Go.Proofs.YtlnccdgclaalbaaW.PrintWords Go.Proofs.YtlnccdgclaalbaaW.PrintLast Go.Proofs.YtlnccdgclaalbaaW.PrintMore

theorem wf_u64 {a : Int} (h : (Lit.int .u64 a).wf = true) : 0 ≤ a ∧ a ≤ 18446744073709551615 := by
  simp only [Lit.wf, Bool.and_eq_true, decide_eq_true_eq] at h
  exact h
theorem u64_wrap (n : Int) : IntKind.u64.wrap n = ((BitVec.ofInt 64 n).toNat : Int) := by
  rw [BitVec.toNat_ofInt]
  show n % 18446744073709551616 = ((n % 18446744073709551616).toNat : Int)
  omega
theorem u64_exists {a : Int} (h : 0 ≤ a ∧ a ≤ 18446744073709551615) : ∃ x : BitVec 64, a = (x.toNat : Int) := by
  refine ⟨BitVec.ofInt 64 a, ?_⟩
  rw [BitVec.toNat_ofInt]
  omega
theorem u64_toNat (x : BitVec 64) : IntKind.u64.wrap (x.toNat : Int) = (x.toNat : Int) := by
  rw [u64_wrap]
  congr 1
  rw [BitVec.toNat_ofInt]
  have := x.isLt
  omega
theorem ofInt_toNat (x : BitVec 64) : BitVec.ofInt IntKind.u64.bits (x.toNat : Int) = x := by
  apply BitVec.eq_of_toNat_eq
  rw [BitVec.toNat_ofInt]
  have := x.isLt
  show ((x.toNat : Int) % 18446744073709551616).toNat = x.toNat
  omega
theorem and_u64 (x y : BitVec 64) : Go.bits .and .u64 (x.toNat : Int) (y.toNat : Int) = ((x &&& y).toNat : Int) := by
  unfold Go.bits
  rw [ofInt_toNat, ofInt_toNat]
  exact u64_toNat _
theorem andNot_u64 (x y : BitVec 64) : Go.bits .andNot .u64 (x.toNat : Int) (y.toNat : Int) = ((x &&& ~~~y).toNat : Int) := by
  unfold Go.bits
  rw [ofInt_toNat, ofInt_toNat]
  exact u64_toNat _
theorem shr_u64 (x : BitVec 64) (n : Int) (hn : 0 ≤ n ∧ n ≤ 64) : shr .u64 (x.toNat : Int) n = ((x >>> n.toNat).toNat : Int) := by
  unfold shr
  have hm : min n.toNat IntKind.u64.bits = n.toNat := by
    show min n.toNat 64 = n.toNat
    omega
  rw [hm, BitVec.toNat_ushiftRight, Nat.shiftRight_eq_div_pow]
  simp
end Go.Proofs.Ytlnccdgclaalbaa.B64
