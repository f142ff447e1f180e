/- The document's own arithmetic (bit by bit sums, shifted products, long division), as the print tells it, in words of 64 bits: it is the sum, the product, the quotient and the rest. No condition beyond each lemma's own. -/
import Derived.Test.YtblhmmhhjkjcgaaOpsBits
namespace Go.Proofs.Ytblhmmhhjkjcgaa.OpsRef
open Go.RowKit Go.Proofs.Ytblhmmhhjkjcgaa.PJ Go.Proofs.YtblhmmhhjkjcgaaW.PrintWords Go.Proofs.YtblhmmhhjkjcgaaW.PrintLast Go.Proofs.YtblhmmhhjkjcgaaW.PrintMore Go.Proofs.Ytblhmmhhjkjcgaa.B64 Go.Proofs.Ytblhmmhhjkjcgaa.OpsBits

theorem wrap_small {i : Int} (h0 : 0 ≤ i) (h : i ≤ 9223372036854775807) : wrap64 i = i := by
  unfold wrap64
  omega
theorem u64_small {i : Int} (h0 : 0 ≤ i) (h : i ≤ 18446744073709551615) : IntKind.u64.wrap i = i := by
  rw [u64_wrap, BitVec.toNat_ofInt]
  omega
theorem one_u64 : (1 : Int) = ((1#64).toNat : Int) := rfl
theorem one_back : ((1#64).toNat : Int) = 1 := rfl
theorem zero_u64 : (0 : Int) = ((0#64).toNat : Int) := rfl

theorem mod_two_mul (p s t : Nat) (hs : s < p) : (s + p * t) % (p * 2) = s + p * (t % 2) := by
  have e : s + p * t = (s + p * (t % 2)) + p * 2 * (t / 2) := by
    have := Nat.div_add_mod t 2
    calc s + p * t = s + p * (2 * (t / 2) + t % 2) := by rw [this]
      _ = (s + p * (t % 2)) + p * 2 * (t / 2) := by rw [Nat.mul_add, Nat.mul_assoc]; omega
  rw [e, Nat.add_mul_mod_self_left]
  apply Nat.mod_eq_of_lt
  have : t % 2 < 2 := Nat.mod_lt _ (by omega)
  have : p * (t % 2) ≤ p * 1 := Nat.mul_le_mul_left _ (by omega)
  omega
theorem div_two_mul (p s t : Nat) (hs : s < p) : (s + p * t) / (p * 2) = t / 2 := by
  rw [← Nat.div_div_eq_div_mul]
  congr 1
  rw [Nat.add_mul_div_left _ _ (by omega), Nat.div_eq_of_lt hs]
  omega
theorem mod_pow_succ' (x i : Nat) : x % 2 ^ (i + 1) = x % 2 ^ i + 2 ^ i * (x / 2 ^ i % 2) := by
  rw [Nat.pow_succ, Nat.mod_mul]

theorem bit_toNat (x : BitVec 64) (i : Nat) : ((x >>> i) &&& 1#64).toNat = x.toNat / 2 ^ i % 2 := by
  rw [BitVec.toNat_and, BitVec.toNat_ushiftRight, Nat.shiftRight_eq_div_pow]
  exact Nat.and_one_is_mod _
theorem or_high (s : BitVec 64) (t : BitVec 64) (i : Nat) (hi : i < 64) (hs : s.toNat < 2 ^ i) (ht : t.toNat < 2) : (s ||| (t <<< i)).toNat = s.toNat + 2 ^ i * t.toNat := by
  rw [BitVec.toNat_or, BitVec.toNat_shiftLeft, Nat.shiftLeft_eq]
  have hp : 2 ^ i * 2 ≤ 2 ^ 64 := by
    rw [← Nat.pow_succ]
    exact Nat.pow_le_pow_right (by omega) (by omega)
  have h1 : t.toNat * 2 ^ i ≤ 1 * 2 ^ i := Nat.mul_le_mul_right _ (by omega)
  have h0 : 0 < 2 ^ i := Nat.two_pow_pos i
  rw [Nat.mod_eq_of_lt (by omega), Nat.or_comm, Nat.mul_comm t.toNat, ← Nat.two_pow_add_eq_or_of_lt hs]
  omega

theorem add_l0 (x y : BitVec 64) (d : Nat) : ∀ (k i : Nat) (s c : BitVec 64), i + d = 64 → d < k → s.toNat = (x.toNat + y.toNat) % 2 ^ i → c.toNat = (x.toNat % 2 ^ i + y.toNat % 2 ^ i) / 2 ^ i →
    louverref02_add.l0 k x.toNat y.toNat s.toNat c.toNat i = some ((x + y).toNat : Int) := by
  induction d with
  | zero =>
    intro k i s c hi hk hs hc
    obtain ⟨k, rfl⟩ : ∃ m, k = m + 1 := ⟨k - 1, by omega⟩
    obtain rfl : i = 64 := by omega
    rw [louverref02_add.l0, if_neg (by omega)]
    rw [hs, BitVec.toNat_add]
  | succ d ih =>
    intro k i s c hi hk hs hc
    obtain ⟨k, rfl⟩ : ∃ m, k = m + 1 := ⟨k - 1, by omega⟩
    rw [louverref02_add.l0, if_pos (by omega), u64_small (by omega) (by omega), if_pos (by omega)]
    rw [shr_u64 x _ (by omega), shr_u64 y _ (by omega), one_u64, and_u64, and_u64, u64_add, u64_add, and_u64]
    generalize ht : x >>> (i : Int).toNat &&& 1#64 = a
    generalize hu : y >>> (i : Int).toNat &&& 1#64 = b
    have ea : a.toNat = x.toNat / 2 ^ i % 2 := by rw [← ht]; exact bit_toNat x i
    have eb : b.toNat = y.toNat / 2 ^ i % 2 := by rw [← hu]; exact bit_toNat y i
    have la : a.toNat < 2 := by rw [ea]; exact Nat.mod_lt _ (by omega)
    have lb : b.toNat < 2 := by rw [eb]; exact Nat.mod_lt _ (by omega)
    have hp := Nat.two_pow_pos i
    have lx := Nat.mod_lt x.toNat hp
    have ly := Nat.mod_lt y.toNat hp
    have lc : c.toNat < 2 := by rw [hc]; exact Nat.div_lt_of_lt_mul (by omega)
    have et : (a + b + c).toNat = a.toNat + b.toNat + c.toNat := by
      rw [BitVec.toNat_add, BitVec.toNat_add]
      omega
    have e1 : (a + b + c &&& 1#64).toNat = (a.toNat + b.toNat + c.toNat) % 2 := by
      rw [BitVec.toNat_and, et]
      exact Nat.and_one_is_mod _
    rw [shl_u64 _ _ (by omega), or_u64]
    have e2 : ((a + b + c).toNat : Int) / (2 : Int) = (((a + b + c) >>> 1).toNat : Int) := by
      rw [BitVec.toNat_ushiftRight, Nat.shiftRight_eq_div_pow]
      omega
    rw [one_back, e2, wrap_small (by omega) (by omega)]
    have hs' : s.toNat = (x.toNat % 2 ^ i + y.toNat % 2 ^ i) % 2 ^ i := by rw [hs, Nat.add_mod]
    have hsum : x.toNat % 2 ^ i + y.toNat % 2 ^ i = s.toNat + 2 ^ i * c.toNat := by
      rw [hs', hc]
      have := Nat.div_add_mod (x.toNat % 2 ^ i + y.toNat % 2 ^ i) (2 ^ i)
      omega
    have lsx : s.toNat < 2 ^ i := by rw [hs]; exact Nat.mod_lt _ hp
    have htot : x.toNat % 2 ^ (i + 1) + y.toNat % 2 ^ (i + 1) = s.toNat + 2 ^ i * (a.toNat + b.toNat + c.toNat) := by
      rw [mod_pow_succ', mod_pow_succ', ← ea, ← eb, Nat.mul_add, Nat.mul_add]
      omega
    refine ih k (i + 1) _ _ (by omega) (by omega) ?_ ?_
    · have ho := or_high s (a + b + c &&& 1#64) i (by omega) lsx (by rw [e1]; exact Nat.mod_lt _ (by omega))
      rw [e1] at ho
      refine ho.trans ?_
      rw [Nat.add_mod x.toNat, htot, Nat.pow_succ, mod_two_mul _ _ _ lsx]
    · rw [htot, Nat.pow_succ, div_two_mul _ _ _ lsx, BitVec.toNat_ushiftRight, et, Nat.shiftRight_eq_div_pow]
theorem add_f (k : Nat) (x y : BitVec 64) : louverref02_add.f (k + 65) x.toNat y.toNat = some ((x + y).toNat : Int) := by
  unfold louverref02_add.f
  have := add_l0 x y 64 (k + 65) 0 0#64 0#64 (by omega) (by omega) (by simp [Nat.mod_one]) (by simp [Nat.mod_one])
  exact this
theorem neg_f (k : Nat) (x : BitVec 64) : louverref02_neg.f (k + 65) x.toNat = some ((-x).toNat : Int) := by
  unfold louverref02_neg.f
  rw [not_u64, one_u64, add_f, Option.bind_some, BitVec.neg_eq_not_add]

theorem mul_l0 (x y : BitVec 64) (d : Nat) : ∀ (k i : Nat) (s : BitVec 64), i + d = 64 → d + 66 < k → s = x * BitVec.ofNat 64 (y.toNat % 2 ^ i) →
    louverref02_mul.l0 k x.toNat y.toNat s.toNat i = some ((x * y).toNat : Int) := by
  induction d with
  | zero =>
    intro k i s hi hk hs
    obtain ⟨k, rfl⟩ : ∃ m, k = m + 1 := ⟨k - 1, by omega⟩
    obtain rfl : i = 64 := by omega
    rw [louverref02_mul.l0, if_neg (by omega)]
    rw [hs, Nat.mod_eq_of_lt y.isLt, BitVec.ofNat_toNat, BitVec.setWidth_eq]
  | succ d ih =>
    intro k i s hi hk hs
    obtain ⟨k, rfl⟩ : ∃ m, k = m + 1 := ⟨k - 1, by omega⟩
    rw [louverref02_mul.l0, if_pos (by omega), u64_small (by omega) (by omega), if_pos (by omega)]
    rw [shr_u64 y _ (by omega), one_u64, and_u64, one_back, wrap_small (by omega) (by omega)]
    have eb : ((y >>> (i : Int).toNat) &&& 1#64).toNat = y.toNat / 2 ^ i % 2 := bit_toNat y i
    have hm := mod_pow_succ' y.toNat i
    by_cases hb : y.toNat / 2 ^ i % 2 = 1
    · rw [if_pos (by rw [eb, hb]; rfl), shl_u64 x _ (by omega)]
      obtain ⟨k, rfl⟩ : ∃ m, k = m + 65 := ⟨k - 65, by omega⟩
      rw [add_f, Option.bind_some]
      refine ih (k + 65) (i + 1) _ (by omega) (by omega) ?_
      rw [hm, hb, hs]
      rw [BitVec.ofNat_add, BitVec.mul_add]
      congr 1
      show x <<< i = _
      rw [BitVec.shiftLeft_eq_mul_twoPow, Nat.mul_one]
      congr 1
      apply BitVec.eq_of_toNat_eq
      rw [BitVec.toNat_twoPow, BitVec.toNat_ofNat]
    · have hb0 : y.toNat / 2 ^ i % 2 = 0 := by omega
      rw [if_neg (by rw [eb, hb0]; decide)]
      refine ih k (i + 1) s (by omega) (by omega) ?_
      rw [hm, hb0, hs, Nat.mul_zero, Nat.add_zero]
theorem mul_f (k : Nat) (x y : BitVec 64) : louverref02_mul.f (k + 140) x.toNat y.toNat = some ((x * y).toNat : Int) := by
  unfold louverref02_mul.f
  have := mul_l0 x y 64 (k + 140) 0 0#64 (by omega) (by omega) (by simp [Nat.mod_one])
  exact this

theorem div_l0 (a b : BitVec 64) (d : Nat) : ∀ (k : Nat) (q r : BitVec 64) (m : Nat), q.toNat = 2 ^ d * m → r.toNat < b.toNat → a.toNat / 2 ^ d = m * b.toNat + r.toNat → d ≤ 64 → d < k →
    louverref02_div.l0 k a.toNat b.toNat q.toNat r.toNat ((d : Int) - 1) = some (((a.toNat / b.toNat : Nat) : Int), ((a.toNat % b.toNat : Nat) : Int)) := by
  induction d with
  | zero =>
    intro k q r m hq hr ha hd hk
    obtain ⟨k, rfl⟩ : ∃ m, k = m + 1 := ⟨k - 1, by omega⟩
    rw [louverref02_div.l0, if_neg (by omega)]
    have hb' : 0 < b.toNat := by omega
    rw [Nat.pow_zero, Nat.div_one] at ha
    have e1 : a.toNat / b.toNat = m := by
      rw [ha, Nat.mul_comm, Nat.mul_add_div hb', Nat.div_eq_of_lt hr]
      omega
    have e2 : a.toNat % b.toNat = r.toNat := by
      rw [ha, Nat.mul_comm, Nat.mul_add_mod, Nat.mod_eq_of_lt hr]
    rw [e1, e2, hq]
    simp
  | succ d ih =>
    intro k q r m hq hr ha hd hk
    obtain ⟨k, rfl⟩ : ∃ m, k = m + 1 := ⟨k - 1, by omega⟩
    have ei : (((d + 1 : Nat) : Int) - 1) = (d : Int) := by omega
    have eb : ((a >>> (d : Int).toNat) &&& 1#64).toNat = a.toNat / 2 ^ d % 2 := bit_toNat a d
    have hr2 : IntKind.u64.wrap ((r.toNat : Int) * 2) = ((r <<< 1).toNat : Int) := by
      have := u64_mul r 2#64
      have e2 : ((2#64).toNat : Int) = 2 := rfl
      rw [e2] at this
      rw [this, BitVec.shiftLeft_eq_mul_twoPow]
      rfl
    have hbit : a.toNat / 2 ^ d % 2 < 2 := Nat.mod_lt _ (by omega)
    have hhalf : a.toNat / 2 ^ d = 2 * (a.toNat / 2 ^ (d + 1)) + a.toNat / 2 ^ d % 2 := by
      rw [Nat.pow_succ, ← Nat.div_div_eq_div_mul]
      omega
    generalize hbt : a.toNat / 2 ^ d % 2 = t at eb hbit hhalf
    have hor : ((r <<< 1) ||| ((a >>> (d : Int).toNat) &&& 1#64)).toNat = (2 * r.toNat) % 2 ^ 64 + t := by
      rw [BitVec.toNat_or, eb, BitVec.toNat_shiftLeft, Nat.shiftLeft_eq]
      have e : r.toNat * 2 ^ 1 % 2 ^ 64 = 2 ^ 1 * (r.toNat % 2 ^ 63) := by omega
      rw [e, ← Nat.two_pow_add_eq_or_of_lt (by omega)]
      omega
    have hbl := b.isLt
    have hrl := r.isLt
    have hmul : (2 * m + 1) * b.toNat = 2 * (m * b.toNat) + b.toNat := by
      rw [Nat.add_mul, Nat.mul_assoc, Nat.one_mul]
    have hmul0 : (2 * m) * b.toNat = 2 * (m * b.toNat) := by rw [Nat.mul_assoc]
    have hqlt : 2 ^ d * (2 * m) + 2 ^ d = 2 ^ d * (2 * m + 1) := by rw [Nat.mul_add, Nat.mul_one]
    have hq' : q.toNat = 2 ^ d * (2 * m) := by rw [hq, Nat.pow_succ, Nat.mul_assoc]
    have hsub : ∀ z : BitVec 64, z.toNat = (2 * r.toNat) % 2 ^ 64 + t → b.toNat ≤ 2 * r.toNat + t → (z - b).toNat = 2 * r.toNat + t - b.toNat := by
      intro z hz hle
      rw [BitVec.toNat_sub, hz]
      omega
    have hset : (q ||| ((1#64) <<< (d : Int).toNat)).toNat = 2 ^ d * (2 * m + 1) := by
      rw [BitVec.toNat_or, BitVec.toNat_shiftLeft, Nat.shiftLeft_eq, hq']
      show 2 ^ d * (2 * m) ||| 1 * 2 ^ d % 2 ^ 64 = _
      have hp : 2 ^ d < 2 ^ 64 := Nat.pow_lt_pow_right (by omega) (by omega)
      rw [Nat.one_mul, Nat.mod_eq_of_lt hp]
      have e1 : 2 ^ d * (2 * m) = 2 ^ (d + 1) * m := by rw [Nat.pow_succ, Nat.mul_assoc]
      rw [e1, ← Nat.two_pow_add_eq_or_of_lt (by rw [Nat.pow_succ]; have := Nat.two_pow_pos d; omega), ← e1, hqlt]
    rw [louverref02_div.l0, ei, if_pos (by omega), u64_small (by omega) (by omega), if_pos (by omega)]
    rw [shr_u64 a _ (by omega), hr2, one_u64, and_u64, or_u64, shl_u64 _ _ (by omega), or_u64, u64_sub]
    have hw : wrap64 ((d : Int) - 1) = (d : Int) - 1 := by unfold wrap64; omega
    rw [one_back, hw]
    generalize hz : (r <<< 1) ||| ((a >>> (d : Int).toNat) &&& 1#64) = z at hor
    generalize hqz : (q ||| ((1#64) <<< (d : Int).toNat)) = q2 at hset
    by_cases h1 : (r.toNat : Int) / 9223372036854775808 = 1
    · rw [if_pos h1]
      have hs := hsub z hor (by omega)
      exact ih k _ _ (2 * m + 1) hset (by omega) (by rw [hs, hmul]; omega) (by omega) (by omega)
    · rw [if_neg h1]
      have hr63 : r.toNat < 2 ^ 63 := by omega
      by_cases h2 : (z.toNat : Int) ≥ b.toNat
      · rw [if_pos h2]
        have hs := hsub z hor (by omega)
        exact ih k _ _ (2 * m + 1) hset (by omega) (by rw [hs, hmul]; omega) (by omega) (by omega)
      · rw [if_neg h2]
        exact ih k _ _ (2 * m) hq' (by omega) (by rw [hmul0]; omega) (by omega) (by omega)
theorem div_f (k : Nat) (a b : BitVec 64) (hb : b ≠ 0#64) : louverref02_div.f (k + 65) a.toNat b.toNat = some (((a.toNat / b.toNat : Nat) : Int), ((a.toNat % b.toNat : Nat) : Int)) := by
  unfold louverref02_div.f
  have hb' : 0 < b.toNat := by
    rcases Nat.eq_zero_or_pos b.toNat with h | h
    · exact absurd (BitVec.eq_of_toNat_eq (by rw [h]; rfl)) hb
    · exact h
  have := div_l0 a b 64 (k + 65) 0#64 0#64 0 (by simp) (by simpa using hb') (by rw [Nat.div_eq_of_lt a.isLt]; simp) (by omega) (by omega)
  exact this
end Go.Proofs.Ytblhmmhhjkjcgaa.OpsRef
