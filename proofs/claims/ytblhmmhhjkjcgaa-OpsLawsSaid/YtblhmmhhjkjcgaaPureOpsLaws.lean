/- OpsLaws: of all int64 a and b the chapter's laws between the operations hold, as the program answers them. No condition: a and b are any numbers of int64. -/
import Derived.Test.YtblhmmhhjkjcgaaOpsBits
import Derived.Test.YtblhmmhhjkjcgaaPJx3
namespace Go.Proofs.Ytblhmmhhjkjcgaa.Pure
open Go.RowKit Go.Proofs.Ytblhmmhhjkjcgaa.PJ Go.Proofs.YtblhmmhhjkjcgaaW.PrintWords Go.Proofs.YtblhmmhhjkjcgaaW.PrintLast Go.Proofs.Ytblhmmhhjkjcgaa.B64 Go.Proofs.Ytblhmmhhjkjcgaa.OpsBits

theorem j1_true (k : Nat) (x y : BitVec 64) : louverlaw02_OpsLaws.j1 (k + 3) x.toInt y.toInt false = some true := by
  have c63 : (63 : Int) = (63#64).toInt := by decide
  have h9 := bin_of (Binary_shl k x y)
  have h9b := bin_of (Binary_shl k 1#64 (y &&& 63#64))
  have h3 := bin_of (Binary_mul k x (1#64 <<< cnt (y &&& 63#64)))
  have h8 := bin_of (Binary_xor k x y)
  have h7 := bin_of (Binary_or k x y)
  have h6 := bin_of (Binary_and k x y)
  have hu := un_of (Unary_inv (x &&& y))
  have h6b := bin_of (Binary_and k (x ||| y) (~~~(x &&& y)))
  have h1 := bin_of (Binary_add k (x &&& y) (x ||| y))
  have h1b := bin_of (Binary_add k x y)
  have h10 := bin_of (Binary_shr k x y)
  have h9c := bin_of (Binary_shl k (x >>> cnt y) y)
  have h10b := bin_of (Binary_shr k ((x >>> cnt y) <<< cnt y) y)
  have haw := awake k
  have one : (1 : Int) = (1#64).toInt := by decide
  have hk : Go.bits .and .i64 y.toInt 63 = (y &&& 63#64).toInt := by rw [c63, and_i64]
  have e1 : x * (1#64 <<< cnt (y &&& 63#64)) = x <<< cnt y := by
    rw [cnt_idem, BitVec.shiftLeft_eq_mul_twoPow, BitVec.shiftLeft_eq_mul_twoPow, BitVec.one_mul]
  rw [e1] at h3
  rw [← xor_or_and] at h6b
  rw [and_or_sum] at h1
  rw [shr_shl_shr] at h10b
  rw [← one] at h9b
  have nt : ¬ (false = true) := Bool.false_ne_true
  rw [louverlaw02_OpsLaws.j1, if_neg nt, h9, Option.bind_some, hk, h9b, Option.bind_some, h3, Option.bind_some, if_pos rfl]
  rw [h8, Option.bind_some, h7, Option.bind_some, h6, Option.bind_some, hu, Option.bind_some, h6b, Option.bind_some, if_pos rfl]
  rw [h1, Option.bind_some, h1b, Option.bind_some, if_pos rfl]
  rw [h10, Option.bind_some, h9c, Option.bind_some, h10b, Option.bind_some, if_pos rfl, haw, Option.bind_some]

theorem j0_true (k : Nat) (x y : BitVec 64) : louverlaw02_OpsLaws.j0 (k + 4) x.toInt y.toInt false = some true := by
  have h13 := bin_of (Binary_lt (k + 1) x.toInt y.toInt)
  have h11 := bin_of (Binary_eq (k + 1) x.toInt y.toInt)
  have h2 := bin_of (Binary_sub (k + 1) x y)
  have hn := un_of (Unary_neg y)
  have h1 := bin_of (Binary_add (k + 1) x (-y))
  have hi := un_of (Unary_inv x)
  have hnx := un_of (Unary_neg x)
  have h2b := bin_of (Binary_sub (k + 1) (-x) 1#64)
  have h14 := bin_of (Binary_le (k + 1) y.toInt x.toInt)
  have h12 := bin_of (Binary_ne (k + 1) x.toInt y.toInt)
  have h14b := bin_of (Binary_le (k + 1) x.toInt y.toInt)
  have one : (1 : Int) = (1#64).toInt := by decide
  rw [← one] at h2b
  rw [← BitVec.not_eq_neg_add] at h2b
  rw [← BitVec.sub_eq_add_neg] at h1
  have w0 : wrap64 (1 - 0) = 1 := by decide +kernel
  have w1 : wrap64 (1 - 1) = 0 := by decide +kernel
  have w2 : wrap64 (0 + 0) = 0 := by decide +kernel
  have w3 : wrap64 (1 + 0) = 1 := by decide +kernel
  have w4 : wrap64 (0 + 1) = 1 := by decide +kernel
  have hj := j1_true k x y
  rw [louverlaw02_OpsLaws.j0]
  rcases Int.lt_trichotomy x.toInt y.toInt with h | h | h
  · have n1 : ¬ y.toInt ≤ x.toInt := by omega
    have n2 : ¬ x.toInt = y.toInt := by omega
    have n3 : x.toInt ≤ y.toInt := by omega
    simp only [if_pos h, if_neg n1, if_neg n2, if_pos n3] at h13 h11 h14 h12 h14b
    simp only [h13, h11, h2, hn, h1, hi, hnx, h2b, h14, h12, h14b, Option.bind_some, if_true, Bool.false_eq_true, if_false, w0, w3]
    simpa using hj
  · have n1 : y.toInt ≤ x.toInt := by omega
    have n2 : ¬ x.toInt < y.toInt := by omega
    have n3 : x.toInt ≤ y.toInt := by omega
    simp only [if_pos h, if_pos n1, if_neg n2, if_pos n3] at h13 h11 h14 h12 h14b
    simp only [h13, h11, h2, hn, h1, hi, hnx, h2b, h14, h12, h14b, Option.bind_some, if_true, Bool.false_eq_true, if_false, w1, w4]
    simpa using hj
  · have n1 : y.toInt ≤ x.toInt := by omega
    have n2 : ¬ x.toInt = y.toInt := by omega
    have n3 : ¬ x.toInt ≤ y.toInt := by omega
    have n4 : ¬ x.toInt < y.toInt := by omega
    simp only [if_pos n1, if_neg n2, if_neg n3, if_neg n4] at h13 h11 h14 h12 h14b
    simp only [h13, h11, h2, hn, h1, hi, hnx, h2b, h14, h12, h14b, Option.bind_some, if_true, Bool.false_eq_true, if_false, w0, w1, w2]
    simpa using hj

theorem wrap_mul_wrap (u b : Int) : wrap64 (wrap64 u * b) = wrap64 (u * b) := by
  rw [wrap64_bmod, wrap64_bmod, wrap64_bmod, Int.bmod_mul_bmod]
theorem wrap_add_wrap (u v : Int) : wrap64 (wrap64 u + v) = wrap64 (u + v) := by
  rw [wrap64_bmod, wrap64_bmod, wrap64_bmod, Int.bmod_add_bmod]

theorem OpsLaws : louverlaw02_OpsLaws.Pure := by
  intro a b ha hb
  refine ⟨6, ?_⟩
  obtain ⟨x, rfl⟩ := i64_exists (wf_i64 ha)
  obtain ⟨y, rfl⟩ := i64_exists (wf_i64 hb)
  have hj := j0_true 2 x y
  unfold louverlaw02_OpsLaws.f
  by_cases h0 : y.toInt = 0
  · rw [if_pos h0]
    exact hj
  · rw [if_neg h0]
    have h4 := bin_of (Binary_div 4 x.toInt y.toInt)
    have h5 := bin_of (Binary_rem 4 x.toInt y.toInt)
    simp only [h0, if_false] at h4 h5
    by_cases h1 : y.toInt = -1
    · simp only [h1, if_true] at h4 h5
      rw [← h1] at h4 h5
      rw [wrap_neg] at h4
      have h3 := bin_of (Binary_mul 4 (-x) y)
      have hy : y = -1#64 := by
        apply BitVec.eq_of_toInt_eq
        rw [h1]
        decide
      have e : -x * y = x := by
        rw [hy, show -1#64 = -(1#64) from rfl, BitVec.neg_mul, BitVec.mul_neg, BitVec.neg_neg, BitVec.mul_one]
      rw [e] at h3
      have h6 := bin_of (Binary_add 4 x 0#64)
      rw [BitVec.add_zero] at h6
      have z : (0#64).toInt = 0 := by decide
      rw [z] at h6
      simp only [h4, h3, h5, h6, Option.bind_some]
      simpa using hj
    · simp only [h1, if_false] at h4 h5
      have q : ∃ q : BitVec 64, wrap64 (Int.tdiv x.toInt y.toInt) = q.toInt := ⟨_, wrap64_ofInt _⟩
      obtain ⟨q, hq⟩ := q
      have hr : ∃ r : BitVec 64, Int.tmod x.toInt y.toInt = r.toInt := by
        refine i64_exists ?_
        have hx := toInt_range x
        have b1 := Int.natAbs_tmod x.toInt y.toInt
        have b2 : x.toInt.natAbs % y.toInt.natAbs ≤ x.toInt.natAbs := Nat.mod_le _ _
        rw [← b1] at b2
        have b3 : x.toInt.natAbs ≤ 9223372036854775808 := by omega
        by_cases h9 : 0 ≤ x.toInt
        · have := Int.tmod_nonneg y.toInt h9
          omega
        · have b4 := Int.neg_tmod (-x.toInt) y.toInt
          rw [Int.neg_neg] at b4
          have := Int.tmod_nonneg y.toInt (show 0 ≤ -x.toInt by omega)
          omega
      obtain ⟨r, hr⟩ := hr
      rw [hq] at h4
      rw [hr] at h5
      have h3 := bin_of (Binary_mul 4 q y)
      have h6 := bin_of (Binary_add 4 (q * y) r)
      have e : (q * y + r).toInt = x.toInt := by
        rw [← wrap_add, ← wrap_mul, ← hq, ← hr, wrap_mul_wrap, wrap_add_wrap, Int.mul_comm, Int.mul_tdiv_add_tmod, wrap_toInt]
      rw [e] at h6
      simp only [h4, h3, h5, h6, Option.bind_some]
      simpa using hj
end Go.Proofs.Ytblhmmhhjkjcgaa.Pure
