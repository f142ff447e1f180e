/- The operations of the program's package ops, as the print tells them, in words of 64 bits: what each answers. Laws of these words. No condition beyond each lemma's own. -/
import Derived.Test.YtblhmmhhjkjcgaaDoorB64
import Derived.Test.YtblhmmhhjkjcgaaDoorPJx1
import Derived.Test.YtblhmmhhjkjcgaaDoorPJx2
namespace Go.Proofs.YtblhmmhhjkjcgaaDoor.OpsBits
open Go.RowKit Go.Proofs.YtblhmmhhjkjcgaaDoor.PJ Go.Proofs.YtblhmmhhjkjcgaaDoorW.PrintWords Go.Proofs.YtblhmmhhjkjcgaaDoorW.PrintLast Go.Proofs.YtblhmmhhjkjcgaaDoorW.PrintMore Go.Proofs.YtblhmmhhjkjcgaaDoor.B64

theorem and_or_sum (x y : BitVec 64) : (x &&& y) + (x ||| y) = x + y := by
  have h1 : x + (y &&& ~~~x) = x ||| y := by
    rw [BitVec.add_eq_or_of_and_eq_zero]
    · ext i hi
      simp
      cases x[i] <;> cases y[i] <;> simp
    · ext i hi
      simp
      cases x[i] <;> cases y[i] <;> simp
  have h2 : (x &&& y) + (y &&& ~~~x) = y := by
    rw [BitVec.add_eq_or_of_and_eq_zero]
    · ext i hi
      simp
      cases x[i] <;> cases y[i] <;> simp
    · ext i hi
      simp
      cases x[i] <;> cases y[i] <;> simp
  rw [← h1]
  calc (x &&& y) + (x + (y &&& ~~~x)) = x + ((x &&& y) + (y &&& ~~~x)) := by
        rw [← BitVec.add_assoc, BitVec.add_comm (x &&& y) x, BitVec.add_assoc]
    _ = x + y := by rw [h2]
theorem xor_or_and (x y : BitVec 64) : x ^^^ y = (x ||| y) &&& ~~~(x &&& y) := by
  ext i hi
  simp
  cases x[i] <;> cases y[i] <;> rfl
theorem shr_shl_shr (x : BitVec 64) (n : Nat) : (x >>> n) <<< n >>> n = x >>> n := by
  apply BitVec.eq_of_toNat_eq
  rw [BitVec.toNat_ushiftRight, BitVec.toNat_shiftLeft, BitVec.toNat_ushiftRight]
  rw [Nat.shiftRight_eq_div_pow, Nat.shiftRight_eq_div_pow, Nat.shiftLeft_eq]
  have hx := x.isLt
  have h1 : x.toNat / 2 ^ n * 2 ^ n ≤ x.toNat := Nat.div_mul_le_self _ _
  rw [Nat.mod_eq_of_lt (by omega), Nat.mul_div_cancel _ (Nat.two_pow_pos n)]

/-- The count of a shift: the low six bits. -/
def cnt (y : BitVec 64) : Nat := (y &&& 63#64).toNat
theorem cnt_lt (y : BitVec 64) : cnt y < 64 := by
  unfold cnt
  rw [BitVec.toNat_and]
  have := Nat.and_le_right (n := y.toNat) (m := (63#64).toNat)
  have h : (63#64).toNat = 63 := rfl
  omega
theorem cnt_int (y : BitVec 64) : Go.bits .and .i64 y.toInt 63 = ((cnt y : Nat) : Int) := by
  have h : (63 : Int) = (63#64).toInt := by decide
  rw [h, and_i64, BitVec.toInt_eq_toNat_of_lt]
  · rfl
  · have := cnt_lt y
    unfold cnt at this
    omega
theorem cnt_idem (y : BitVec 64) : cnt (y &&& 63#64) = cnt y := by
  unfold cnt
  rw [BitVec.and_assoc, BitVec.and_self]

theorem divide_f (k : Nat) (op a b : Int) : ops_divide.f (k + 1) op a b = some (if b = 0 then 0 else if b = -1 then (if op = 5 then 0 else wrap64 (-a)) else if op = 5 then Int.tmod a b else wrap64 (Int.tdiv a b)) := by
  unfold ops_divide.f ops_divide.j0
  by_cases h0 : b = 0
  · simp [h0]
  · by_cases h1 : b = -1
    · by_cases h5 : op = 5
      · simp [h1, h5]
      · simp [h1, h5]
    · by_cases h5 : op = 5
      · simp [h0, h1, h5]
      · simp [h0, h1, h5]

theorem Binary_add (k : Nat) (x y : BitVec 64) : ops_Binary.f (k + 2) 1 x.toInt y.toInt = some ((x + y).toInt, true) := by
  simp [ops_Binary.f, wrap_add]
theorem Binary_sub (k : Nat) (x y : BitVec 64) : ops_Binary.f (k + 2) 2 x.toInt y.toInt = some ((x - y).toInt, true) := by
  simp [ops_Binary.f, wrap_sub]
theorem Binary_mul (k : Nat) (x y : BitVec 64) : ops_Binary.f (k + 2) 3 x.toInt y.toInt = some ((x * y).toInt, true) := by
  simp [ops_Binary.f, wrap_mul]
theorem Binary_div (k : Nat) (a b : Int) : ops_Binary.f (k + 2) 4 a b = some (if b = 0 then 0 else if b = -1 then wrap64 (-a) else wrap64 (Int.tdiv a b), true) := by
  simp [ops_Binary.f, ops_Binary.j0, divide_f]
theorem Binary_rem (k : Nat) (a b : Int) : ops_Binary.f (k + 2) 5 a b = some (if b = 0 then 0 else if b = -1 then 0 else Int.tmod a b, true) := by
  simp [ops_Binary.f, ops_Binary.j0, divide_f]
theorem Binary_and (k : Nat) (x y : BitVec 64) : ops_Binary.f (k + 2) 6 x.toInt y.toInt = some ((x &&& y).toInt, true) := by
  simp only [ops_Binary.f, ops_Binary.j0, and_i64]
  simp
theorem Binary_or (k : Nat) (x y : BitVec 64) : ops_Binary.f (k + 2) 7 x.toInt y.toInt = some ((x ||| y).toInt, true) := by
  simp only [ops_Binary.f, ops_Binary.j0, or_i64]
  simp
theorem Binary_xor (k : Nat) (x y : BitVec 64) : ops_Binary.f (k + 2) 8 x.toInt y.toInt = some ((x ^^^ y).toInt, true) := by
  simp only [ops_Binary.f, ops_Binary.j0, xor_i64]
  simp
theorem Binary_shl (k : Nat) (x y : BitVec 64) : ops_Binary.f (k + 2) 9 x.toInt y.toInt = some ((x <<< cnt y).toInt, true) := by
  have h := cnt_lt y
  simp only [ops_Binary.f, ops_Binary.j0, cnt_int]
  rw [shl_i64 x _ (by omega)]
  simp
theorem Binary_shr (k : Nat) (x y : BitVec 64) : ops_Binary.f (k + 2) 10 x.toInt y.toInt = some ((x >>> cnt y).toInt, true) := by
  have h := cnt_lt y
  simp only [ops_Binary.f, ops_Binary.j0, cnt_int, u64_toInt]
  rw [shr_u64 x _ (by omega), wrap_toNat]
  simp
theorem Binary_eq (k : Nat) (a b : Int) : ops_Binary.f (k + 2) 11 a b = some (if a = b then 1 else 0, true) := by
  by_cases h : a = b <;> simp [ops_Binary.f, ops_Binary.j0, ops_compare.f, ops_truth.f, h]
theorem Binary_ne (k : Nat) (a b : Int) : ops_Binary.f (k + 2) 12 a b = some (if a = b then 0 else 1, true) := by
  by_cases h : a = b <;> simp [ops_Binary.f, ops_Binary.j0, ops_compare.f, ops_truth.f, h]
theorem Binary_lt (k : Nat) (a b : Int) : ops_Binary.f (k + 2) 13 a b = some (if a < b then 1 else 0, true) := by
  by_cases h : a < b <;> simp [ops_Binary.f, ops_Binary.j0, ops_compare.f, ops_truth.f, h]
theorem Binary_le (k : Nat) (a b : Int) : ops_Binary.f (k + 2) 14 a b = some (if a ≤ b then 1 else 0, true) := by
  by_cases h : a < b
  · have h' : a ≤ b := by omega
    simp [ops_Binary.f, ops_Binary.j0, ops_compare.f, h, h']
  · by_cases e : a = b
    · have h' : a ≤ b := by omega
      simp [ops_Binary.f, ops_Binary.j0, ops_compare.f, ops_truth.f, e]
    · have h' : ¬ a ≤ b := by omega
      simp [ops_Binary.f, ops_Binary.j0, ops_compare.f, ops_truth.f, h, h', e]
theorem Binary_none (k : Nat) (op a b : Int) (h : op < 1 ∨ 14 < op) : ops_Binary.f (k + 2) op a b = some (0, false) := by
  have h' : op ≠ 1 ∧ op ≠ 2 ∧ op ≠ 3 ∧ op ≠ 4 ∧ op ≠ 5 ∧ op ≠ 6 ∧ op ≠ 7 ∧ op ≠ 8 ∧ op ≠ 9 ∧ op ≠ 10 ∧ op ≠ 11 ∧ op ≠ 12 ∧ op ≠ 13 ∧ op ≠ 14 := by omega
  obtain ⟨h1, h2, h3, h4, h5, h6, h7, h8, h9, h10, h11, h12, h13, h14⟩ := h'
  simp [ops_Binary.f, ops_Binary.j0, ops_compare.f, h1, h2, h3, h4, h5, h6, h7, h8, h9, h10, h11, h12, h13, h14]

theorem Unary_neg (x : BitVec 64) : ops_Unary.f 15 x.toInt = some ((-x).toInt, true) := by
  simp [ops_Unary.f, wrap_neg]
theorem Unary_not (a : Int) : ops_Unary.f 16 a = some (if a = 0 then 1 else 0, true) := by
  by_cases h : a = 0 <;> simp [ops_Unary.f, ops_truth.f, h]
theorem Unary_inv (x : BitVec 64) : ops_Unary.f 17 x.toInt = some ((~~~x).toInt, true) := by
  simp only [ops_Unary.f, not_i64]
  simp
theorem Unary_none (op a : Int) (h : op < 15 ∨ 17 < op) : ops_Unary.f op a = some (0, false) := by
  have h' : op ≠ 15 ∧ op ≠ 16 ∧ op ≠ 17 := by omega
  simp [ops_Unary.f, h']

theorem bin_of {k : Nat} {op a b r : Int} (h : ops_Binary.f k op a b = some (r, true)) : louverlaw02_bin.f k op a b = some r := by
  simp [louverlaw02_bin.f, h]
theorem un_of {op a r : Int} (h : ops_Unary.f op a = some (r, true)) : louverlaw02_un.f op a = some r := by
  simp [louverlaw02_un.f, h]
theorem awake (k : Nat) : louverlaw02_awake.f (k + 2) = some true := by
  have h4 := bin_of (Binary_div k 7 (-2))
  have h5 := bin_of (Binary_rem k 7 (-2))
  have h10 : louverlaw02_bin.f (k + 2) 10 (-1) 60 = some 15 := by
    have := bin_of (Binary_shr k (-1#64) (60#64))
    exact this
  have h17 : louverlaw02_un.f 17 0 = some (-1) := un_of (Unary_inv 0#64)
  have h16 : louverlaw02_un.f 16 0 = some 1 := un_of (Unary_not 0)
  have e4 : (if (-2 : Int) = 0 then 0 else if (-2 : Int) = -1 then wrap64 (-7) else wrap64 (Int.tdiv 7 (-2))) = -3 := by decide +kernel
  have e5 : (if (-2 : Int) = 0 then 0 else if (-2 : Int) = -1 then 0 else Int.tmod 7 (-2)) = 1 := by decide +kernel
  rw [e4] at h4
  rw [e5] at h5
  simp [louverlaw02_awake.f, h4, h5, h10, h17, h16]
end Go.Proofs.YtblhmmhhjkjcgaaDoor.OpsBits
