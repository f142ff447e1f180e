/- Whole numbers of 64 bits as bit vectors: what the walk's words (wrap64, bits, shl, shr) are of BitVec 64. No condition. -/
import Derived.Test.YtlnccdgclaalbaaWMore
namespace Go.Proofs.Ytlnccdgclaalbaa.B64
open Go.RowKit Go.Proofs.YtlnccdgclaalbaaW.PrintWords Go.Proofs.YtlnccdgclaalbaaW.PrintLast Go.Proofs.YtlnccdgclaalbaaW.PrintMore

theorem wf_i64 {a : Int} (h : (Lit.int .i64 a).wf = true) : -9223372036854775808 ≤ a ∧ a ≤ 9223372036854775807 := by
  simp only [Lit.wf, Bool.and_eq_true, decide_eq_true_eq] at h
  exact h
theorem wf_u64 {a : Int} (h : (Lit.int .u64 a).wf = true) : 0 ≤ a ∧ a ≤ 18446744073709551615 := by
  simp only [Lit.wf, Bool.and_eq_true, decide_eq_true_eq] at h
  exact h
theorem wf_u8 {a : Int} (h : (Lit.int .u8 a).wf = true) : 0 ≤ a ∧ a ≤ 255 := by
  simp only [Lit.wf, Bool.and_eq_true, decide_eq_true_eq] at h
  exact h

theorem wrap64_bmod (n : Int) : wrap64 n = n.bmod (2 ^ 64) := by
  rw [Int.bmod_def]
  unfold wrap64
  split <;> omega
theorem wrap64_ofInt (n : Int) : wrap64 n = (BitVec.ofInt 64 n).toInt := by
  rw [wrap64_bmod, BitVec.toInt_ofInt]
theorem u64_wrap (n : Int) : IntKind.u64.wrap n = ((BitVec.ofInt 64 n).toNat : Int) := by
  rw [BitVec.toNat_ofInt]
  show n % 18446744073709551616 = ((n % 18446744073709551616).toNat : Int)
  omega
theorem i64_wrap (n : Int) : IntKind.i64.wrap n = wrap64 n := by
  unfold wrap64
  have h : IntKind.i64.wrap n = if n % 18446744073709551616 ≥ 9223372036854775808 then n % 18446744073709551616 - 18446744073709551616 else n % 18446744073709551616 := by
    unfold IntKind.wrap
    simp [IntKind.signed, IntKind.bits]
  rw [h]
  split <;> omega

/-- A number of int64 is a word's. -/
theorem i64_exists {a : Int} (h : -9223372036854775808 ≤ a ∧ a ≤ 9223372036854775807) : ∃ x : BitVec 64, a = x.toInt := by
  refine ⟨BitVec.ofInt 64 a, ?_⟩
  rw [BitVec.toInt_ofInt, Int.bmod]
  split <;> omega
theorem u64_exists {a : Int} (h : 0 ≤ a ∧ a ≤ 18446744073709551615) : ∃ x : BitVec 64, a = (x.toNat : Int) := by
  refine ⟨BitVec.ofInt 64 a, ?_⟩
  rw [BitVec.toNat_ofInt]
  omega
theorem toInt_range (x : BitVec 64) : -9223372036854775808 ≤ x.toInt ∧ x.toInt ≤ 9223372036854775807 := by
  have h1 := BitVec.toInt_lt (x := x)
  have h2 := BitVec.le_toInt (x := x)
  omega
theorem toNat_range (x : BitVec 64) : x.toNat < 18446744073709551616 := x.isLt

theorem wrap_toInt (x : BitVec 64) : wrap64 x.toInt = x.toInt := by
  rw [wrap64_ofInt, BitVec.ofInt_toInt]
theorem wrap_add (x y : BitVec 64) : wrap64 (x.toInt + y.toInt) = (x + y).toInt := by
  rw [wrap64_bmod, BitVec.toInt_add]
theorem wrap_sub (x y : BitVec 64) : wrap64 (x.toInt - y.toInt) = (x - y).toInt := by
  rw [wrap64_bmod, BitVec.toInt_sub]
theorem wrap_mul (x y : BitVec 64) : wrap64 (x.toInt * y.toInt) = (x * y).toInt := by
  rw [wrap64_bmod, BitVec.toInt_mul]
theorem wrap_neg (x : BitVec 64) : wrap64 (-x.toInt) = (-x).toInt := by
  rw [wrap64_bmod, BitVec.toInt_neg]
theorem wrap_toNat (x : BitVec 64) : wrap64 (x.toNat : Int) = x.toInt := by
  rw [wrap64_ofInt]
  congr 1
  apply BitVec.eq_of_toNat_eq
  rw [BitVec.toNat_ofInt]
  have := x.isLt
  omega
theorem u64_toInt (x : BitVec 64) : IntKind.u64.wrap x.toInt = (x.toNat : Int) := by
  rw [u64_wrap, BitVec.ofInt_toInt]
theorem u64_toNat (x : BitVec 64) : IntKind.u64.wrap (x.toNat : Int) = (x.toNat : Int) := by
  rw [u64_wrap]
  congr 1
  rw [BitVec.toNat_ofInt]
  have := x.isLt
  omega
theorem u64_add (x y : BitVec 64) : IntKind.u64.wrap ((x.toNat : Int) + y.toNat) = ((x + y).toNat : Int) := by
  rw [u64_wrap, BitVec.toNat_ofInt, BitVec.toNat_add]
  omega
theorem u64_sub (x y : BitVec 64) : IntKind.u64.wrap ((x.toNat : Int) - y.toNat) = ((x - y).toNat : Int) := by
  rw [u64_wrap, BitVec.toNat_ofInt, BitVec.toNat_sub]
  have := x.isLt
  have := y.isLt
  omega
theorem u64_mul (x y : BitVec 64) : IntKind.u64.wrap ((x.toNat : Int) * y.toNat) = ((x * y).toNat : Int) := by
  rw [u64_wrap, BitVec.toNat_ofInt, BitVec.toNat_mul]
  have : ((x.toNat : Int) * (y.toNat : Int)) = ((x.toNat * y.toNat : Nat) : Int) := by simp
  rw [this]
  omega

theorem ofInt_toInt (x : BitVec 64) : BitVec.ofInt IntKind.i64.bits x.toInt = x := BitVec.ofInt_toInt
theorem ofInt_toNat (x : BitVec 64) : BitVec.ofInt IntKind.u64.bits (x.toNat : Int) = x := by
  apply BitVec.eq_of_toNat_eq
  rw [BitVec.toNat_ofInt]
  have := x.isLt
  show ((x.toNat : Int) % 18446744073709551616).toNat = x.toNat
  omega
theorem i64_back (x : BitVec 64) : IntKind.i64.wrap (x.toNat : Int) = x.toInt := by
  rw [i64_wrap, wrap_toNat]
theorem and_i64 (x y : BitVec 64) : Go.bits .and .i64 x.toInt y.toInt = (x &&& y).toInt := by
  unfold Go.bits
  rw [ofInt_toInt, ofInt_toInt]
  exact i64_back _
theorem or_i64 (x y : BitVec 64) : Go.bits .or .i64 x.toInt y.toInt = (x ||| y).toInt := by
  unfold Go.bits
  rw [ofInt_toInt, ofInt_toInt]
  exact i64_back _
theorem xor_i64 (x y : BitVec 64) : Go.bits .xor .i64 x.toInt y.toInt = (x ^^^ y).toInt := by
  unfold Go.bits
  rw [ofInt_toInt, ofInt_toInt]
  exact i64_back _
theorem andNot_i64 (x y : BitVec 64) : Go.bits .andNot .i64 x.toInt y.toInt = (x &&& ~~~y).toInt := by
  unfold Go.bits
  rw [ofInt_toInt, ofInt_toInt]
  exact i64_back _
theorem and_u64 (x y : BitVec 64) : Go.bits .and .u64 (x.toNat : Int) (y.toNat : Int) = ((x &&& y).toNat : Int) := by
  unfold Go.bits
  rw [ofInt_toNat, ofInt_toNat]
  exact u64_toNat _
theorem or_u64 (x y : BitVec 64) : Go.bits .or .u64 (x.toNat : Int) (y.toNat : Int) = ((x ||| y).toNat : Int) := by
  unfold Go.bits
  rw [ofInt_toNat, ofInt_toNat]
  exact u64_toNat _
theorem xor_u64 (x y : BitVec 64) : Go.bits .xor .u64 (x.toNat : Int) (y.toNat : Int) = ((x ^^^ y).toNat : Int) := by
  unfold Go.bits
  rw [ofInt_toNat, ofInt_toNat]
  exact u64_toNat _
theorem andNot_u64 (x y : BitVec 64) : Go.bits .andNot .u64 (x.toNat : Int) (y.toNat : Int) = ((x &&& ~~~y).toNat : Int) := by
  unfold Go.bits
  rw [ofInt_toNat, ofInt_toNat]
  exact u64_toNat _
theorem not_i64 (x : BitVec 64) : Go.bits .xor .i64 (-1) x.toInt = (~~~x).toInt := by
  have h : (-1 : Int) = (BitVec.allOnes 64).toInt := by decide
  rw [h, xor_i64, show BitVec.allOnes 64 ^^^ x = ~~~x from by rw [BitVec.xor_comm]; exact BitVec.xor_allOnes]
theorem not_u64 (x : BitVec 64) : Go.bits .xor .u64 IntKind.u64.max (x.toNat : Int) = ((~~~x).toNat : Int) := by
  have h : IntKind.u64.max = ((BitVec.allOnes 64).toNat : Int) := by decide
  rw [h, xor_u64, show BitVec.allOnes 64 ^^^ x = ~~~x from by rw [BitVec.xor_comm]; exact BitVec.xor_allOnes]

/-- Shifts by a count from 0 to 64. -/
theorem shl_i64 (x : BitVec 64) (n : Int) (hn : 0 ≤ n ∧ n ≤ 64) : shl .i64 x.toInt n = (x <<< n.toNat).toInt := by
  unfold shl
  have hm : min n.toNat IntKind.i64.bits = n.toNat := by
    show min n.toNat 64 = n.toNat
    omega
  rw [hm, i64_wrap, wrap64_ofInt]
  congr 1
  apply BitVec.eq_of_toInt_eq
  rw [BitVec.toInt_ofInt, BitVec.toInt_shiftLeft, Nat.shiftLeft_eq, BitVec.toInt_eq_toNat_bmod]
  simp [Int.bmod_mul_bmod]
theorem shl_u64 (x : BitVec 64) (n : Int) (hn : 0 ≤ n ∧ n ≤ 64) : shl .u64 (x.toNat : Int) n = ((x <<< n.toNat).toNat : Int) := by
  unfold shl
  have hm : min n.toNat IntKind.u64.bits = n.toNat := by
    show min n.toNat 64 = n.toNat
    omega
  rw [hm, u64_wrap, BitVec.toNat_ofInt, BitVec.toNat_shiftLeft, Nat.shiftLeft_eq]
  have : ((x.toNat : Int) * 2 ^ n.toNat) = ((x.toNat * 2 ^ n.toNat : Nat) : Int) := by simp
  rw [this]
  omega
theorem shr_u64 (x : BitVec 64) (n : Int) (hn : 0 ≤ n ∧ n ≤ 64) : shr .u64 (x.toNat : Int) n = ((x >>> n.toNat).toNat : Int) := by
  unfold shr
  have hm : min n.toNat IntKind.u64.bits = n.toNat := by
    show min n.toNat 64 = n.toNat
    omega
  rw [hm, BitVec.toNat_ushiftRight, Nat.shiftRight_eq_div_pow]
  simp
theorem shr_i64 (x : BitVec 64) (n : Int) (hn : 0 ≤ n ∧ n ≤ 64) : shr .i64 x.toInt n = (x.sshiftRight n.toNat).toInt := by
  unfold shr
  have hm : min n.toNat IntKind.i64.bits = n.toNat := by
    show min n.toNat 64 = n.toNat
    omega
  rw [hm, BitVec.toInt_sshiftRight, Int.shiftRight_eq_div_pow]
  simp
end Go.Proofs.Ytlnccdgclaalbaa.B64
