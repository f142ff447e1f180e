/- Reading a signed number at the head of bytes; and there and back, unsigned and signed. Lists of bytes, shorter than 2^47. -/
import Derived.Test.YtgpdaihfjnihhaaDoorPJx5
import Derived.Test.YtgpdaihfjnihhaaDoorPJx7
import Derived.Test.YtgpdaihfjnihhaaDoorLebGet
namespace Go.Proofs.YtgpdaihfjnihhaaDoor.LebPure
open Go.RowKit Go.Proofs.YtgpdaihfjnihhaaDoor.PJ Go.Proofs.YtgpdaihfjnihhaaDoorW.PrintWords Go.Proofs.YtgpdaihfjnihhaaDoorW.PrintLast Go.Proofs.YtgpdaihfjnihhaaDoorW.PrintMore Go.Proofs.YtgpdaihfjnihhaaDoor.B64 Go.Proofs.YtgpdaihfjnihhaaDoor.LebForm

theorem toInt_of_mod (s : BitVec 64) (z : Int) (h : (s.toNat : Int) = z % 18446744073709551616) : s.toInt = wrap64 z := by
  rw [← wrap_toNat, h]
  unfold wrap64
  omega
/-- Is the last group's high bit set? -/
def neg? (p : List Int) : Bool := decide (p.getLastD 0 % 128 ≥ 64)
/-- The number that groups are in two's complement, as a word of 64 bits. -/
def sval (p : List Int) : Int := wrap64 ((value p : Int) - (if neg? p = true then 128 ^ p.length else 0))
theorem last_take {l : List Int} {K : Nat} (h1 : 1 ≤ K) (hK : K ≤ l.length) : (l.take K).getLastD 0 = l[K - 1]'(by omega) := by
  obtain ⟨j, rfl⟩ : ∃ j, K = j + 1 := ⟨K - 1, by omega⟩
  have hj : j < l.length := by omega
  rw [take_snoc hj, List.getLastD_eq_getLast?, List.getLast?_append]
  rfl
theorem sval_range (p : List Int) : -9223372036854775808 ≤ sval p ∧ sval p ≤ 9223372036854775807 := by
  unfold sval wrap64
  omega

theorem sget_j2 (k : Nat) (l : List Int) (K : Nat) (n : Int) (hb : Bts l) (hK : K ≤ l.length) (hn : -9223372036854775808 ≤ n ∧ n ≤ 9223372036854775807) (hk : 10 ≤ k) :
    leb_GetSigned.j2 (k + 1) l K n = some (if sform n = l.take K then (n, (K : Int), 0) else (0, 0, 31)) := by
  rw [leb_GetSigned.j2, PutSigned_f k [] n hn (by simp) hk, Option.bind_some, if_pos (by omega), if_pos (by omega), Int.toNat_natCast, List.nil_append,
    Equal_f _ _ (sform_byte n) (hb.take K), Option.bind_some]
  by_cases h : sform n = l.take K
  · rw [decide_eq_true h, if_pos rfl, if_pos h]
  · rw [decide_eq_false h, if_neg (by decide), if_neg h]
theorem sget_end (k : Nat) (l : List Int) (K : Nat) (hb : Bts l) (h1 : 1 ≤ K) (hK : K ≤ l.length) (h10 : K ≤ 10) (s : BitVec 64) (hs : s.toNat = value (l.take K) % 2 ^ 64) (hk : 10 ≤ k) :
    leb_GetSigned.l0 (k + 3) l K s.toInt K K = some (if sform (sval (l.take K)) = l.take K then (sval (l.take K), (K : Int), 0) else (0, 0, 31)) := by
  have hil : K - 1 < l.length := by omega
  have hx := hb.get hil
  have hlast := last_take h1 hK
  have hlen : (l.take K).length = K := by rw [List.length_take]; omega
  have hneg : neg? (l.take K) = decide (l[K - 1] % 128 ≥ 64) := by unfold neg?; rw [hlast]
  have hw : wrap64 ((K : Int) - 1) = ((K - 1 : Nat) : Int) := by
    rw [wrap_small (by omega) (by omega)]
    omega
  have plain : ∀ (h : neg? (l.take K) = false ∨ K = 10), s.toInt = sval (l.take K) := by
    intro h
    refine (toInt_of_mod s (value (l.take K)) (by rw [hs]; omega)).trans ?_
    unfold sval
    rcases h with h | h
    · rw [h, if_neg (by decide)]
      simp
    · rw [hlen]
      split
      · rw [h]
        unfold wrap64
        omega
      · simp
  rw [leb_GetSigned.l0, if_neg (by omega)]
  by_cases h9 : K < 10
  · rw [if_pos (by omega), hw, if_pos (by omega), if_pos (by omega), rd_get hil, and64 hx.1 hx.2, ← hneg]
    cases hn : neg? (l.take K) with
    | false =>
      rw [leb_GetSigned.j1, if_neg (by decide), plain (.inl hn)]
      exact sget_j2 (k) l K _ hb hK (sval_range _) hk
    | true =>
      rw [leb_GetSigned.j1, if_pos rfl, wrap_small (by omega) (by omega), if_pos (by omega)]
      have em : (-1 : Int) = (BitVec.allOnes 64).toInt := by decide
      rw [em, shl_i64 _ _ (by omega), or_i64]
      have ej : (7 * (K : Int)).toNat = 7 * K := by omega
      rw [ej]
      have hvl : value (l.take K) < 2 ^ (7 * K) := by
        have := value_lt (l.take K)
        rw [hlen, pow128] at this
        exact this
      have hle : 2 ^ (7 * K) ≤ 2 ^ 63 := Nat.pow_le_pow_right (by omega) (by omega)
      have hs' : s.toNat = value (l.take K) := by rw [hs, Nat.mod_eq_of_lt (by omega)]
      have ho := or_above s (BitVec.allOnes 64) (7 * K) (by omega) (by rw [hs']; exact hvl)
      have eall : (BitVec.allOnes 64).toNat = 18446744073709551615 := by decide
      rw [eall, hs'] at ho
      have e : (s ||| BitVec.allOnes 64 <<< (7 * K)).toInt = sval (l.take K) := by
        refine (toInt_of_mod _ ((value (l.take K) : Int) - 128 ^ K) ?_).trans ?_
        · rw [ho]
          have hp : (128 : Int) ^ K = ((2 ^ (7 * K) : Nat) : Int) := by rw [← pow128]; simp
          rw [hp]
          omega
        · unfold sval
          rw [hn, if_pos rfl, hlen]
      rw [e]
      exact sget_j2 k l K _ hb hK (sval_range _) hk
  · rw [if_neg (by omega), leb_GetSigned.j1, if_neg (by decide), plain (.inr (by omega))]
    exact sget_j2 k l K _ hb hK (sval_range _) hk
theorem sget_l0 (l : List Int) (K : Nat) (hb : Bts l) (h1 : 1 ≤ K) (hK : K ≤ l.length) (h10 : K ≤ 10) (d : Nat) : ∀ (k i : Nat) (s : BitVec 64), i + d = K → d + 13 < k → s.toNat = value (l.take i) % 2 ^ 64 →
    leb_GetSigned.l0 k l K s.toInt K i = some (if sform (sval (l.take K)) = l.take K then (sval (l.take K), (K : Int), 0) else (0, 0, 31)) := by
  induction d with
  | zero =>
    intro k i s hi hk hs
    obtain ⟨k, rfl⟩ : ∃ m, k = m + 3 := ⟨k - 3, by omega⟩
    obtain rfl : i = K := by omega
    exact sget_end k l i hb h1 hK h10 s hs (by omega)
  | succ d ih =>
    intro k i s hi hk hs
    obtain ⟨k, rfl⟩ : ∃ m, k = m + 1 := ⟨k - 1, by omega⟩
    have hil : i < l.length := by omega
    have hx := hb.get hil
    rw [leb_GetSigned.l0, if_pos (by omega), if_pos (by omega), if_pos (by omega), rd_get hil, and127 hx.1 hx.2, wrap_small (i := 7 * (i : Int)) (by omega) (by omega), if_pos (by omega), wrap_small (i := (i : Int) + 1) (by omega) (by omega)]
    have e1 : wrap64 (l[i] % 128) = (low l[i]).toInt := by
      rw [← wrap_toNat, low_toNat]
      congr 1
      omega
    rw [e1, shl_i64 _ _ (by omega), or_i64]
    refine ih k (i + 1) _ (by omega) (by omega) ?_
    have hvl : value (l.take i) < 2 ^ (7 * i) := by
      have := value_lt (l.take i)
      rw [List.length_take, Nat.min_eq_left (by omega), pow128] at this
      exact this
    have hle : 2 ^ (7 * i) ≤ 2 ^ 64 := Nat.pow_le_pow_right (by omega) (by omega)
    have hs' : s.toNat = value (l.take i) := by rw [hs, Nat.mod_eq_of_lt (by omega)]
    have ej : (7 * (i : Int)).toNat = 7 * i := by omega
    rw [ej, or_above _ _ _ (by omega) (by rw [hs']; exact hvl), value_take_succ hil, hs', low_toNat, pow128]
theorem srefget_end (k : Nat) (l : List Int) (K : Nat) (n : Int) (hK : K ≤ l.length) (h10 : K ≤ 10) (hn : -9223372036854775808 ≤ n ∧ n ≤ 9223372036854775807) (hk : 30 ≤ k) :
    louverref03_GetSigned.l0 (k + 1) l K n (-1) = some (if sform n = l.take K then (n, (K : Int), 0) else (0, 0, 31)) := by
  have hu := slen_i64 hn
  rw [louverref03_GetSigned.l0, if_neg (by omega), refPutSigned_f k n hn hk, Option.bind_some, if_pos (by omega), if_pos (by omega), Int.toNat_natCast,
    same_f _ _ _ (by rw [sform_length]; omega) (by rw [sform_length]; omega), Option.bind_some]
  by_cases h : sform n = l.take K
  · rw [decide_eq_true h, if_pos rfl, if_pos h]
  · rw [decide_eq_false h, if_neg (by decide), if_neg h]
theorem srefget_l0 (l : List Int) (K : Nat) (hb : Bts l) (hK : K ≤ l.length) (h10 : K ≤ 10) (i : Nat) : ∀ (k : Nat) (s : BitVec 64), i ≤ K → i + 31 < k →
    (s.toNat : Int) = ((part l K i : Int) - (if neg? (l.take K) = true then 128 ^ (K - i) else 0)) % 18446744073709551616 →
    louverref03_GetSigned.l0 k l K s.toInt ((i : Int) - 1) = some (if sform (sval (l.take K)) = l.take K then (sval (l.take K), (K : Int), 0) else (0, 0, 31)) := by
  have hlen : (l.take K).length = K := by rw [List.length_take]; omega
  induction i with
  | zero =>
    intro k s hi hk hs
    obtain ⟨k, rfl⟩ : ∃ m, k = m + 1 := ⟨k - 1, by omega⟩
    have e : part l K 0 = value (l.take K) := rfl
    have hv := toInt_of_mod s _ hs
    rw [hv, e, Nat.sub_zero]
    have es : wrap64 ((value (l.take K) : Int) - (if neg? (l.take K) = true then 128 ^ K else 0)) = sval (l.take K) := by unfold sval; rw [hlen]
    rw [es]
    exact srefget_end k l K _ hK h10 (sval_range _) (by omega)
  | succ i ih =>
    intro k s hi hk hs
    obtain ⟨k, rfl⟩ : ∃ m, k = m + 1 := ⟨k - 1, by omega⟩
    have hil : i < l.length := by omega
    have hx := hb.get hil
    have ei : (((i + 1 : Nat) : Int) - 1) = (i : Int) := by omega
    rw [louverref03_GetSigned.l0, ei, if_pos (by omega), if_pos (by omega), if_pos (by omega), rd_get hil, tmod_byte hx.1]
    have e1 : wrap64 (l[i] % 128) = (low l[i]).toInt := by
      rw [← wrap_toNat, low_toNat]
      congr 1
      omega
    have e2 : wrap64 (s.toInt * 128) = (s <<< 7).toInt := by
      have := wrap_mul s 128#64
      have e3 : (128#64).toInt = 128 := by decide
      rw [e3] at this
      rw [this, BitVec.shiftLeft_eq_mul_twoPow]
      rfl
    have hw : wrap64 ((i : Int) - 1) = (i : Int) - 1 := by unfold wrap64; omega
    rw [e1, e2, or_i64, hw]
    refine ih k _ (by omega) (by omega) ?_
    rw [low_or, part_step hK (by omega)]
    have ep : (128 : Int) ^ (K - i) = 128 ^ (K - (i + 1)) * 128 := by
      rw [← Int.pow_succ]
      congr 1
      omega
    rw [ep]
    split at hs
    · rename_i hn
      rw [if_pos hn]
      omega
    · rename_i hn
      rw [if_neg hn]
      omega

/-- The signed number at the head of bytes, how many they are, the error. -/
def getS (l : List Int) : Int × Int × Int :=
  if (grs l 0).2 = 0 then
    (if sform (sval (l.take (grs l 0).1.toNat)) = l.take (grs l 0).1.toNat then (sval (l.take (grs l 0).1.toNat), (grs l 0).1, 0) else (0, 0, 31))
  else (0, 0, (grs l 0).2)
theorem GetSigned_f (k : Nat) (l : List Int) (hb : Bts l) (hl : l.length < 9223372036854775807) (hk : l.length + 40 < k) : leb_GetSigned.f k l = some (getS l) := by
  unfold leb_GetSigned.f getS
  rw [groups_f k l hl (by omega), Option.bind_some]
  by_cases h : (grs l 0).2 = 0
  · rw [if_pos h, if_pos h]
    obtain ⟨j, h1, h2, h3, -, -⟩ := grs_spec l 0 (grs l 0).1 (by rw [← h]) (by omega)
    obtain ⟨K, hK⟩ : ∃ K : Nat, (grs l 0).1 = (K : Int) := ⟨j + 1, by omega⟩
    rw [hK, Int.toNat_natCast]
    exact sget_l0 l K hb (by omega) (by omega) (by omega) K k 0 0#64 (by omega) (by omega) (by simp [value])
  · rw [if_neg h, if_neg h]
theorem refGetSigned_f (k : Nat) (l : List Int) (hb : Bts l) (hl : l.length < 9223372036854775807) (hk : 2 * l.length + 60 < k) : louverref03_GetSigned.f k l = some (getS l) := by
  unfold louverref03_GetSigned.f getS
  rw [size_f k l hl (by omega), Option.bind_some]
  by_cases h : (grs l 0).2 = 0
  · rw [if_pos h, if_pos h]
    obtain ⟨j, h1, h2, h3, -, -⟩ := grs_spec l 0 (grs l 0).1 (by rw [← h]) (by omega)
    obtain ⟨K, hK⟩ : ∃ K : Nat, (grs l 0).1 = (K : Int) := ⟨j + 1, by omega⟩
    have hw : wrap64 ((K : Int) - 1) = ((K - 1 : Nat) : Int) := by
      rw [wrap_small (by omega) (by omega)]
      omega
    have hil : K - 1 < l.length := by omega
    have hx := hb.get hil
    have hneg : neg? (l.take K) = decide (l[K - 1] % 128 ≥ 64) := by unfold neg?; rw [last_take (by omega) (by omega)]
    obtain ⟨k, rfl⟩ : ∃ m, k = m + 1 := ⟨k - 1, by omega⟩
    have hpart : part l K K = 0 := by
      unfold part
      rw [List.drop_of_length_le (by rw [List.length_take]; omega)]
      rfl
    have ek : (((K - 1 : Nat) : Int)) = (K : Int) - 1 := by omega
    rw [hK, Int.toNat_natCast, hw, if_pos (by omega), if_pos (by omega), rd_get hil, tmod_byte hx.1]
    by_cases hs : l[K - 1] % 128 ≥ 64
    · rw [if_pos hs, louverref03_GetSigned.j0, hw, ek]
      have em : (-1 : Int) = (BitVec.allOnes 64).toInt := by decide
      rw [em]
      refine srefget_l0 l K hb (by omega) (by omega) K k _ (by omega) (by omega) ?_
      rw [hneg, decide_eq_true hs, if_pos rfl, hpart, Nat.sub_self]
      decide
    · rw [if_neg hs, louverref03_GetSigned.j0, hw, ek]
      have em : (0 : Int) = (0#64).toInt := by decide
      rw [em]
      refine srefget_l0 l K hb (by omega) (by omega) K k _ (by omega) (by omega) ?_
      rw [hneg, decide_eq_false hs, if_neg (by decide), hpart]
      rfl
  · rw [if_neg h, if_neg h]

/-! ### there and back -/
theorem getU_form (n : Nat) (hn : n < 2 ^ 64) (rest : List Int) : getU (form n ++ rest) = ((n : Int), (ulen n : Int), 0) := by
  have h10 := ulen_u64 hn
  have hg := grs_form n 0 rest (by omega)
  have e1 : (grs (form n ++ rest) 0).2 = 0 := by rw [hg]
  have e2 : (grs (form n ++ rest) 0).1 = (ulen n : Int) := by rw [hg]; simp
  have e3 : (form n ++ rest).take (ulen n) = form n := by rw [← form_length, List.take_left']; rfl
  unfold getU
  rw [if_pos e1, e2, Int.toNat_natCast, e3, value_form, Nat.mod_eq_of_lt hn, if_pos rfl]
theorem getU_cut (n : Nat) (hn : n < 2 ^ 64) (c : Nat) (hc : c < ulen n) : getU ((form n).take c) = (0, 0, 30) := by
  have h10 := ulen_u64 hn
  unfold getU
  rw [grs_form_cut n 0 c (by omega) hc]
  rfl
theorem getU_back (l : List Int) (h : (getU l).2.2 = 0) : ∃ K u : Nat, getU l = ((u : Int), (K : Int), 0) ∧ u < 2 ^ 64 ∧ form u = l.take K ∧ K ≤ l.length := by
  unfold getU at h ⊢
  by_cases h0 : (grs l 0).2 = 0
  · obtain ⟨j, h1, h2, h3, -, -⟩ := grs_spec l 0 (grs l 0).1 (by rw [← h0]) (by omega)
    obtain ⟨K, hK⟩ : ∃ K : Nat, (grs l 0).1 = (K : Int) := ⟨j + 1, by omega⟩
    rw [if_pos h0, hK, Int.toNat_natCast] at h
    rw [if_pos h0, hK, Int.toNat_natCast]
    by_cases hf : form (value (l.take K) % 2 ^ 64) = l.take K
    · rw [if_pos hf]
      exact ⟨K, _, rfl, Nat.mod_lt _ (by decide), hf, by omega⟩
    · rw [if_neg hf] at h
      exact absurd h (by decide)
  · rw [if_neg h0] at h
    exact absurd h h0
theorem sval_sform (n : Int) (hn : -9223372036854775808 ≤ n ∧ n ≤ 9223372036854775807) : sval (sform n) = n := by
  obtain ⟨⟨h1, h2⟩, -⟩ := slen_spec n
  have hp := slen_pos n
  have hg := sform_get n (slen n - 1) (by omega)
  rw [if_neg (by omega), Int.add_zero] at hg
  have hlast : (sform n).getLastD 0 = n / 128 ^ (slen n - 1) % 128 := by
    rw [List.getLastD_eq_getLast?, List.getLast?_eq_getElem?, sform_length, hg]
    rfl
  have e : (128 : Int) ^ slen n = 128 ^ (slen n - 1) * 128 := by
    rw [← Int.pow_succ]
    congr 1
    omega
  have hv := value_sform n
  have pp := pow128_pos (slen n - 1)
  unfold sval neg?
  rw [hlast, sform_length, hv, e]
  generalize (128 : Int) ^ (slen n - 1) = p at *
  have hd1 : -64 ≤ n / p := (Int.le_ediv_iff_mul_le pp).mpr (by omega)
  have hd2 : n / p < 64 := (Int.ediv_lt_iff_lt_mul pp).mpr (by omega)
  by_cases h0 : 0 ≤ n
  · have h3 : 0 ≤ n / p := Int.ediv_nonneg h0 (by omega)
    have h4 : ¬ (n / p % 128 % 128 ≥ 64) := by omega
    rw [decide_eq_false h4, if_neg (by decide), Int.emod_eq_of_lt h0 (by omega)]
    unfold wrap64
    omega
  · have h3 : n / p < 0 := Int.ediv_neg_of_neg_of_pos (by omega) pp
    have h4 : n / p % 128 % 128 ≥ 64 := by omega
    have h5 : n % (p * 128) = n + p * 128 := by
      have := Int.add_mul_emod_self_left n (p * 128) 1
      rw [← this, Int.mul_one]
      exact Int.emod_eq_of_lt (by omega) (by omega)
    rw [decide_eq_true h4, if_pos rfl, h5]
    unfold wrap64
    omega
theorem getS_form (n : Int) (hn : -9223372036854775808 ≤ n ∧ n ≤ 9223372036854775807) (rest : List Int) : getS (sform n ++ rest) = (n, (slen n : Int), 0) := by
  have h10 := slen_i64 hn
  have hg := grs_sform n 0 rest (by omega)
  have e1 : (grs (sform n ++ rest) 0).2 = 0 := by rw [hg]
  have e2 : (grs (sform n ++ rest) 0).1 = (slen n : Int) := by rw [hg]; simp
  have e3 : (sform n ++ rest).take (slen n) = sform n := by rw [← sform_length, List.take_left']; rfl
  unfold getS
  rw [if_pos e1, e2, Int.toNat_natCast, e3, sval_sform n hn, if_pos rfl]
theorem getS_cut (n : Int) (hn : -9223372036854775808 ≤ n ∧ n ≤ 9223372036854775807) (c : Nat) (hc : c < slen n) : getS ((sform n).take c) = (0, 0, 30) := by
  have h10 := slen_i64 hn
  unfold getS
  rw [grs_sform_cut n 0 c (by omega) hc]
  rfl
theorem getS_back (l : List Int) (h : (getS l).2.2 = 0) : ∃ (K : Nat) (u : Int), getS l = (u, (K : Int), 0) ∧ (-9223372036854775808 ≤ u ∧ u ≤ 9223372036854775807) ∧ sform u = l.take K ∧ K ≤ l.length := by
  unfold getS at h ⊢
  by_cases h0 : (grs l 0).2 = 0
  · obtain ⟨j, h1, h2, h3, -, -⟩ := grs_spec l 0 (grs l 0).1 (by rw [← h0]) (by omega)
    obtain ⟨K, hK⟩ : ∃ K : Nat, (grs l 0).1 = (K : Int) := ⟨j + 1, by omega⟩
    rw [if_pos h0, hK, Int.toNat_natCast] at h
    rw [if_pos h0, hK, Int.toNat_natCast]
    by_cases hf : sform (sval (l.take K)) = l.take K
    · rw [if_pos hf]
      exact ⟨K, _, rfl, sval_range _, hf, by omega⟩
    · rw [if_neg hf] at h
      exact absurd h (by decide)
  · rw [if_neg h0] at h
    exact absurd h h0

/-! ### the chapter's answers -/
end Go.Proofs.YtgpdaihfjnihhaaDoor.LebPure
