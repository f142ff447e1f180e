/- OpsAll: of all int64 numbers (operands and operation) the program's Binary and Unary answer what the document's do, the operations 0 to 18 one by one and any other number. No condition: the numbers are any of int64. -/
import Derived.Test.YtblhmmhhjkjcgaaOpsRef
import Derived.Test.YtblhmmhhjkjcgaaPJx3
namespace Go.Proofs.Ytblhmmhhjkjcgaa.OpsRef
open Go.RowKit Go.Proofs.Ytblhmmhhjkjcgaa.PJ Go.Proofs.YtblhmmhhjkjcgaaW.PrintWords Go.Proofs.YtblhmmhhjkjcgaaW.PrintLast Go.Proofs.YtblhmmhhjkjcgaaW.PrintMore Go.Proofs.Ytblhmmhhjkjcgaa.B64 Go.Proofs.Ytblhmmhhjkjcgaa.OpsBits

theorem wrap_ofNat (n : Nat) (x : BitVec 64) (h : n = x.toNat) : wrap64 (n : Int) = x.toInt := by rw [h, wrap_toNat]

/-- A number without its sign. -/
def mag (x : BitVec 64) : BitVec 64 := if x.toInt < 0 then -x else x
theorem mag_toNat (x : BitVec 64) : (mag x).toNat = x.toInt.natAbs := by
  unfold mag
  have h := toInt_range x
  split
  · rename_i hn
    rw [BitVec.toNat_neg]
    have := BitVec.toInt_eq_toNat_bmod x
    rw [Int.bmod_def] at this
    have := x.isLt
    split at * <;> omega
  · rename_i hn
    have := BitVec.toInt_eq_toNat_bmod x
    rw [Int.bmod_def] at this
    have := x.isLt
    split at * <;> omega
theorem size_f (k : Nat) (x : BitVec 64) : louverref02_size.f (k + 65) x.toInt = some ((mag x).toNat : Int) := by
  unfold louverref02_size.f mag
  split
  · rw [u64_toInt, neg_f, Option.bind_some]
  · rw [u64_toInt]

theorem wrap_neg_nat (n : Nat) (x : BitVec 64) (h : n = x.toNat) : wrap64 (((-x).toNat : Nat) : Int) = wrap64 (-(n : Int)) := by
  rw [wrap_toNat, wrap64_ofInt, h]
  congr 1
  rw [BitVec.ofInt_neg]
  congr 1
  apply BitVec.eq_of_toNat_eq
  rw [BitVec.toNat_ofInt]
  have := x.isLt
  omega

theorem divide_ref (k : Nat) (x y : BitVec 64) (hy : y.toInt ≠ 0) : louverref02_divide.f (k + 65) x.toInt y.toInt = some (wrap64 (Int.tdiv x.toInt y.toInt), wrap64 (Int.tmod x.toInt y.toInt)) := by
  unfold louverref02_divide.f
  rw [if_neg hy, size_f, Option.bind_some, size_f, Option.bind_some]
  have hm : mag y ≠ 0#64 := by
    intro h
    have := mag_toNat y
    rw [h] at this
    have e : (0#64).toNat = 0 := rfl
    omega
  rw [div_f _ _ _ hm, Option.bind_some]
  have ex := mag_toNat x
  have ey := mag_toNat y
  generalize hq : (mag x).toNat / (mag y).toNat = q
  generalize hr : (mag x).toNat % (mag y).toNat = r
  have lq : q < 2 ^ 64 := by
    rw [← hq]
    have := Nat.div_le_self (mag x).toNat (mag y).toNat
    have := (mag x).isLt
    omega
  have lr : r < 2 ^ 64 := by
    rw [← hr]
    have := Nat.mod_le (mag x).toNat (mag y).toNat
    have := (mag x).isLt
    omega
  have bq : q = (BitVec.ofNat 64 q).toNat := by rw [BitVec.toNat_ofNat, Nat.mod_eq_of_lt lq]
  have br : r = (BitVec.ofNat 64 r).toNat := by rw [BitVec.toNat_ofNat, Nat.mod_eq_of_lt lr]
  have nq : louverref02_neg.f (k + 65) (q : Int) = some (((-(BitVec.ofNat 64 q)).toNat : Nat) : Int) := by
    have := neg_f k (BitVec.ofNat 64 q)
    rw [← bq] at this
    exact this
  have nr : louverref02_neg.f (k + 65) (r : Int) = some (((-(BitVec.ofNat 64 r)).toNat : Nat) : Int) := by
    have := neg_f k (BitVec.ofNat 64 r)
    rw [← br] at this
    exact this
  have wq := wrap_neg_nat q _ bq
  have wr := wrap_neg_nat r _ br
  rw [ex, ey] at hq hr
  show (if x.toInt < 0 then _ else _) = _
  have pq : (q : Int) = (x.toInt.natAbs : Int) / (y.toInt.natAbs : Int) := by rw [← hq]; simp
  have pr : (r : Int) = (x.toInt.natAbs : Int) % (y.toInt.natAbs : Int) := by rw [← hr]; simp
  by_cases h1 : x.toInt < 0
  · have e1 : x.toInt = -(x.toInt.natAbs : Int) := by omega
    rw [if_pos h1]
    by_cases h2 : y.toInt < 0
    · have e2 : y.toInt = -(y.toInt.natAbs : Int) := by omega
      rw [if_pos h2]
      simp only [nr, Option.bind_some, wr]
      rw [e1, e2, Int.neg_tdiv, Int.tdiv_neg, Int.neg_neg, Int.neg_tmod, Int.tmod_neg, Int.tdiv_eq_ediv_of_nonneg (by omega), Int.tmod_eq_emod_of_nonneg (by omega), ← pq, ← pr]
    · have e2 : y.toInt = (y.toInt.natAbs : Int) := by omega
      rw [if_neg h2]
      simp only [nr, nq, Option.bind_some, wr, wq]
      rw [e1, e2, Int.neg_tdiv, Int.neg_tmod, Int.tdiv_eq_ediv_of_nonneg (by omega), Int.tmod_eq_emod_of_nonneg (by omega)]
      rw [← pq, ← pr]
  · have e1 : x.toInt = (x.toInt.natAbs : Int) := by omega
    rw [if_neg h1]
    by_cases h2 : y.toInt < 0
    · have e2 : y.toInt = -(y.toInt.natAbs : Int) := by omega
      rw [if_pos h2]
      simp only [nq, Option.bind_some, wq]
      rw [e1, e2, Int.tdiv_neg, Int.tmod_neg, Int.tdiv_eq_ediv_of_nonneg (by omega), Int.tmod_eq_emod_of_nonneg (by omega), ← pq, ← pr]
    · have e2 : y.toInt = (y.toInt.natAbs : Int) := by omega
      rw [if_neg h2]
      rw [e1, e2, Int.tdiv_eq_ediv_of_nonneg (by omega), Int.tmod_eq_emod_of_nonneg (by omega), ← pq, ← pr]

/-- Quotient and rest, as both tell them. -/
def quot (a b : Int) : Int := if b = 0 then 0 else wrap64 (Int.tdiv a b)
def rest (a b : Int) : Int := if b = 0 then 0 else wrap64 (Int.tmod a b)
theorem tmod_small (x y : BitVec 64) : wrap64 (Int.tmod x.toInt y.toInt) = Int.tmod x.toInt y.toInt := by
  have hx := toInt_range x
  have b1 := Int.natAbs_tmod x.toInt y.toInt
  have b2 : x.toInt.natAbs % y.toInt.natAbs ≤ x.toInt.natAbs := Nat.mod_le _ _
  rw [← b1] at b2
  unfold wrap64
  by_cases h9 : 0 ≤ x.toInt
  · have := Int.tmod_nonneg y.toInt h9
    omega
  · have b4 := Int.neg_tmod (-x.toInt) y.toInt
    rw [Int.neg_neg] at b4
    have := Int.tmod_nonneg y.toInt (show 0 ≤ -x.toInt by omega)
    omega
theorem ops_quot (k : Nat) (x y : BitVec 64) : ops_Binary.f (k + 2) 4 x.toInt y.toInt = some (quot x.toInt y.toInt, true) := by
  rw [Binary_div]
  unfold quot
  by_cases h0 : y.toInt = 0
  · rw [if_pos h0, if_pos h0]
  · rw [if_neg h0, if_neg h0]
    by_cases h1 : y.toInt = -1
    · rw [if_pos h1, h1, Int.tdiv_neg, Int.tdiv_one]
    · rw [if_neg h1]
theorem ops_rest (k : Nat) (x y : BitVec 64) : ops_Binary.f (k + 2) 5 x.toInt y.toInt = some (rest x.toInt y.toInt, true) := by
  rw [Binary_rem]
  unfold rest
  by_cases h0 : y.toInt = 0
  · rw [if_pos h0, if_pos h0]
  · rw [if_neg h0, if_neg h0]
    by_cases h1 : y.toInt = -1
    · rw [if_pos h1, h1, Int.tmod_neg, Int.tmod_one, show wrap64 0 = 0 from by decide +kernel]
    · rw [if_neg h1, tmod_small]
theorem ref_divide (k : Nat) (x y : BitVec 64) : louverref02_divide.f (k + 65) x.toInt y.toInt = some (quot x.toInt y.toInt, rest x.toInt y.toInt) := by
  unfold quot rest
  by_cases h0 : y.toInt = 0
  · rw [if_pos h0, if_pos h0, louverref02_divide.f, if_pos h0]
  · rw [if_neg h0, if_neg h0, divide_ref _ _ _ h0]

theorem cnt_mod (y : BitVec 64) : Int.tmod (y.toNat : Int) 64 = ((cnt y : Nat) : Int) := by
  rw [Int.tmod_eq_emod_of_nonneg (by omega)]
  unfold cnt
  rw [BitVec.toNat_and]
  have h : (63#64).toNat = 2 ^ 6 - 1 := rfl
  rw [h, Nat.and_two_pow_sub_one_eq_mod]
  omega

set_option maxHeartbeats 1000000 in
theorem Binary_same (op : Int) (k : Nat) (x y : BitVec 64) : ∃ r, ops_Binary.f (k + 2) op x.toInt y.toInt = some r ∧ louverref02_Binary.f (k + 140) op x.toInt y.toInt = some r := by
  have hd := ref_divide (k + 75) x y
  have hc := cnt_lt y
  by_cases h : op < 1 ∨ 14 < op
  · refine ⟨_, Binary_none k op _ _ h, ?_⟩
    have h' : op ≠ 1 ∧ op ≠ 2 ∧ op ≠ 3 ∧ op ≠ 4 ∧ op ≠ 5 ∧ op ≠ 6 ∧ op ≠ 7 ∧ op ≠ 8 ∧ op ≠ 9 ∧ op ≠ 10 ∧ op ≠ 11 ∧ op ≠ 12 ∧ op ≠ 13 ∧ op ≠ 14 := by omega
    obtain ⟨h1, h2, h3, h4, h5, h6, h7, h8, h9, h10, h11, h12, h13, h14⟩ := h'
    unfold louverref02_Binary.f
    rw [hd, Option.bind_some]
    simp only [h1, h2, h3, h4, h5, h6, h7, h8, h9, h10, h11, h12, h13, h14, if_false]
  · have h' : op = 1 ∨ op = 2 ∨ op = 3 ∨ op = 4 ∨ op = 5 ∨ op = 6 ∨ op = 7 ∨ op = 8 ∨ op = 9 ∨ op = 10 ∨ op = 11 ∨ op = 12 ∨ op = 13 ∨ op = 14 := by omega
    unfold louverref02_Binary.f
    rw [hd, Option.bind_some]
    rcases h' with rfl | rfl | rfl | rfl | rfl | rfl | rfl | rfl | rfl | rfl | rfl | rfl | rfl | rfl
    · refine ⟨_, Binary_add k x y, ?_⟩
      rw [if_pos rfl, u64_toInt, u64_toInt, add_f (k + 75), Option.bind_some, wrap_toNat]
    · refine ⟨_, Binary_sub k x y, ?_⟩
      rw [if_neg (by decide), if_pos rfl, u64_toInt, u64_toInt, neg_f (k + 75), Option.bind_some, add_f (k + 75), Option.bind_some, wrap_toNat, BitVec.sub_eq_add_neg]
    · refine ⟨_, Binary_mul k x y, ?_⟩
      rw [if_neg (by decide), if_neg (by decide), if_pos rfl, u64_toInt, u64_toInt, mul_f, Option.bind_some, wrap_toNat]
    · refine ⟨_, ops_quot k x y, ?_⟩
      rw [if_neg (by decide), if_neg (by decide), if_neg (by decide), if_pos rfl]
    · refine ⟨_, ops_rest k x y, ?_⟩
      rw [if_neg (by decide), if_neg (by decide), if_neg (by decide), if_neg (by decide), if_pos rfl]
    · refine ⟨_, Binary_and k x y, ?_⟩
      rw [if_neg (by decide), if_neg (by decide), if_neg (by decide), if_neg (by decide), if_neg (by decide), if_pos rfl, u64_toInt, u64_toInt, and_u64, wrap_toNat]
    · refine ⟨_, Binary_or k x y, ?_⟩
      rw [if_neg (by decide), if_neg (by decide), if_neg (by decide), if_neg (by decide), if_neg (by decide), if_neg (by decide), if_pos rfl, u64_toInt, u64_toInt, or_u64, wrap_toNat]
    · refine ⟨_, Binary_xor k x y, ?_⟩
      rw [if_neg (by decide), if_neg (by decide), if_neg (by decide), if_neg (by decide), if_neg (by decide), if_neg (by decide), if_neg (by decide), if_pos rfl, u64_toInt, u64_toInt, xor_u64, wrap_toNat]
    · refine ⟨_, Binary_shl k x y, ?_⟩
      rw [if_neg (by decide), if_neg (by decide), if_neg (by decide), if_neg (by decide), if_neg (by decide), if_neg (by decide), if_neg (by decide), if_neg (by decide), if_pos rfl, u64_toInt, u64_toInt, cnt_mod, if_pos (by omega), shl_u64 x _ (by omega), wrap_toNat]
      simp
    · refine ⟨_, Binary_shr k x y, ?_⟩
      rw [if_neg (by decide), if_neg (by decide), if_neg (by decide), if_neg (by decide), if_neg (by decide), if_neg (by decide), if_neg (by decide), if_neg (by decide), if_neg (by decide), if_pos rfl, u64_toInt, u64_toInt, cnt_mod, if_pos (by omega), shr_u64 x _ (by omega), wrap_toNat]
      simp
    · refine ⟨_, Binary_eq k _ _, ?_⟩
      by_cases e : x.toInt = y.toInt <;> simp [louverref02_truth.f, e]
    · refine ⟨_, Binary_ne k _ _, ?_⟩
      by_cases e : x.toInt = y.toInt <;> simp [louverref02_truth.f, e]
    · refine ⟨_, Binary_lt k _ _, ?_⟩
      by_cases e : x.toInt < y.toInt <;> simp [louverref02_truth.f, e]
    · refine ⟨_, Binary_le k _ _, ?_⟩
      by_cases e : x.toInt ≤ y.toInt <;> simp [louverref02_truth.f, e]

theorem Unary_same (op : Int) (k : Nat) (x : BitVec 64) : ∃ r, ops_Unary.f op x.toInt = some r ∧ louverref02_Unary.f (k + 65) op x.toInt = some r := by
  by_cases h : op < 15 ∨ 17 < op
  · refine ⟨_, Unary_none op _ h, ?_⟩
    have h' : op ≠ 15 ∧ op ≠ 16 ∧ op ≠ 17 := by omega
    simp [louverref02_Unary.f, h']
  · have h' : op = 15 ∨ op = 16 ∨ op = 17 := by omega
    unfold louverref02_Unary.f
    rcases h' with rfl | rfl | rfl
    · refine ⟨_, Unary_neg x, ?_⟩
      rw [if_pos rfl, u64_toInt, neg_f, Option.bind_some, wrap_toNat]
    · refine ⟨_, Unary_not _, ?_⟩
      by_cases e : x.toInt = 0 <;> simp [louverref02_truth.f, e]
    · refine ⟨_, Unary_inv x, ?_⟩
      have e : (18446744073709551615 : Int) = ((BitVec.allOnes 64).toNat : Int) := by decide
      rw [if_neg (by decide), if_neg (by decide), if_pos rfl, u64_toInt, e, xor_u64, BitVec.xor_allOnes, wrap_toNat]
end Go.Proofs.Ytblhmmhhjkjcgaa.OpsRef
namespace Go.Proofs.Ytblhmmhhjkjcgaa.Pure
open Go.RowKit Go.Proofs.Ytblhmmhhjkjcgaa.PJ Go.Proofs.YtblhmmhhjkjcgaaW.PrintWords Go.Proofs.YtblhmmhhjkjcgaaW.PrintLast Go.Proofs.Ytblhmmhhjkjcgaa.B64 Go.Proofs.Ytblhmmhhjkjcgaa.OpsBits Go.Proofs.Ytblhmmhhjkjcgaa.OpsRef

theorem all_l0 (x y : BitVec 64) (op : Int) (d : Nat) : ∀ (k i : Nat), i + d = 19 → d + 200 < k → louverlaw02_OpsAll.l0 k x.toInt y.toInt op i = some true := by
  induction d with
  | zero =>
    intro k i hi hk
    obtain ⟨k, rfl⟩ : ∃ m, k = m + 141 := ⟨k - 141, by omega⟩
    rw [louverlaw02_OpsAll.l0, if_neg (by omega)]
    obtain ⟨r, h1, h2⟩ := Binary_same op k x y
    obtain ⟨r', h1', h2'⟩ := Binary_same op (k + 138) x y
    obtain ⟨u, h3, h4⟩ := Unary_same op (k + 75) y
    have e : r' = r := by
      have := ops_Binary.mono op x.toInt y.toInt
      have h := at_rounds (g := fun k => ops_Binary.f k op x.toInt y.toInt) this (show k + 2 ≤ k + 138 + 2 by omega) h1
      exact Option.some.inj (h1'.symm.trans h)
    subst e
    have ha := awake (k + 138)
    rw [h1', Option.bind_some, h2, Option.bind_some, h3, Option.bind_some, h4, Option.bind_some, if_pos rfl, if_pos (by simp), if_pos rfl, if_pos (by simp), ha, Option.bind_some]
  | succ d ih =>
    intro k i hi hk
    obtain ⟨k, rfl⟩ : ∃ m, k = m + 141 := ⟨k - 141, by omega⟩
    rw [louverlaw02_OpsAll.l0, if_pos (by omega)]
    obtain ⟨r, h1, h2⟩ := Binary_same i k x y
    obtain ⟨r', h1', h2'⟩ := Binary_same i (k + 138) x y
    obtain ⟨u, h3, h4⟩ := Unary_same i (k + 75) x
    have e : r' = r := by
      have := ops_Binary.mono (i : Int) x.toInt y.toInt
      have h := at_rounds (g := fun k => ops_Binary.f k i x.toInt y.toInt) this (show k + 2 ≤ k + 138 + 2 by omega) h1
      exact Option.some.inj (h1'.symm.trans h)
    subst e
    rw [h1', Option.bind_some, h2, Option.bind_some, h3, Option.bind_some, h4, Option.bind_some, if_pos rfl, if_neg (by simp), if_pos rfl, if_neg (by simp), OpsRef.wrap_small (by omega) (by omega)]
    exact ih (k + 140) (i + 1) (by omega) (by omega)

theorem OpsAll : louverlaw02_OpsAll.Pure := by
  intro a b op ha hb _
  obtain ⟨x, rfl⟩ := i64_exists (wf_i64 ha)
  obtain ⟨y, rfl⟩ := i64_exists (wf_i64 hb)
  exact ⟨300, all_l0 x y op 19 300 0 (by omega) (by omega)⟩
end Go.Proofs.Ytblhmmhhjkjcgaa.Pure
