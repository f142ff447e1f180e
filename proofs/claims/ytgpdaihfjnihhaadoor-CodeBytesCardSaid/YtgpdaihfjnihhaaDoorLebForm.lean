/- The forms of numbers as lists of bytes, unsigned and signed, their groups one by one, and the number that groups are. Plain Lean: no program in sight. -/
import Derived.Test.YtgpdaihfjnihhaaDoorB64
namespace Go.Proofs.YtgpdaihfjnihhaaDoor.LebForm
open Go.RowKit Go.Proofs.YtgpdaihfjnihhaaDoor.B64

/-! ### unsigned -/
def ulen (n : Nat) : Nat := if n < 128 then 1 else ulen (n / 128) + 1
termination_by n
decreasing_by omega
def form (n : Nat) : List Int := if n < 128 then [(n : Int)] else ((n % 128 + 128 : Nat) : Int) :: form (n / 128)
termination_by n
decreasing_by omega

theorem form_small {n : Nat} (h : n < 128) : form n = [(n : Int)] := by rw [form, if_pos h]
theorem form_big {n : Nat} (h : ¬ n < 128) : form n = ((n % 128 + 128 : Nat) : Int) :: form (n / 128) := by rw [form, if_neg h]
theorem ulen_small {n : Nat} (h : n < 128) : ulen n = 1 := by rw [ulen, if_pos h]
theorem ulen_big {n : Nat} (h : ¬ n < 128) : ulen n = ulen (n / 128) + 1 := by rw [ulen, if_neg h]

theorem form_length (n : Nat) : (form n).length = ulen n := by
  induction n using Nat.strongRecOn with
  | _ n ih =>
    by_cases h : n < 128
    · rw [form_small h, ulen_small h]; rfl
    · rw [form_big h, ulen_big h, List.length_cons, ih (n / 128) (by omega)]
theorem ulen_pos (n : Nat) : 1 ≤ ulen n := by
  by_cases h : n < 128
  · rw [ulen_small h]; omega
  · rw [ulen_big h]; omega
theorem ulen_le (d : Nat) : ∀ n, n < 128 ^ (d + 1) → ulen n ≤ d + 1 := by
  induction d with
  | zero =>
    intro n h
    rw [ulen_small (by omega)]
    omega
  | succ d ih =>
    intro n h
    by_cases h1 : n < 128
    · rw [ulen_small h1]; omega
    · rw [ulen_big h1]
      have := ih (n / 128) (by rw [Nat.pow_succ] at h; exact Nat.div_lt_of_lt_mul (by rw [Nat.mul_comm]; exact h))
      omega
theorem ulen_u64 {n : Nat} (h : n < 2 ^ 64) : ulen n ≤ 10 := ulen_le 9 n (Nat.lt_trans h (by decide))
theorem ulen_spec (n : Nat) : n < 128 ^ ulen n ∧ (1 < ulen n → 128 ^ (ulen n - 1) ≤ n) := by
  induction n using Nat.strongRecOn with
  | _ n ih =>
    by_cases h : n < 128
    · rw [ulen_small h]
      exact ⟨by omega, fun h => by omega⟩
    · have := ih (n / 128) (by omega)
      have hp := ulen_pos (n / 128)
      rw [ulen_big h, Nat.add_sub_cancel, Nat.pow_succ]
      refine ⟨by omega, fun _ => ?_⟩
      by_cases h1 : 1 < ulen (n / 128)
      · have h2 := this.2 h1
        have e : 128 ^ ulen (n / 128) = 128 ^ (ulen (n / 128) - 1) * 128 := by
          rw [← Nat.pow_succ]
          congr 1
          omega
        rw [e]
        have h3 : 128 ^ (ulen (n / 128) - 1) * 128 ≤ n / 128 * 128 := Nat.mul_le_mul_right _ h2
        omega
      · have : ulen (n / 128) = 1 := by omega
        rw [this]
        omega
theorem div_pow_succ (n i : Nat) : n / 128 ^ (i + 1) = n / 128 / 128 ^ i := by
  rw [Nat.pow_succ, Nat.mul_comm, Nat.div_div_eq_div_mul]
theorem form_get (n : Nat) : ∀ i, i < ulen n → (form n)[i]? = some (((n / 128 ^ i % 128 + (if i + 1 < ulen n then 128 else 0) : Nat) : Int)) := by
  induction n using Nat.strongRecOn with
  | _ n ih =>
    intro i hi
    by_cases h : n < 128
    · rw [ulen_small h] at hi
      obtain rfl : i = 0 := by omega
      rw [form_small h, ulen_small h]
      simp
      omega
    · rw [form_big h, ulen_big h]
      rw [ulen_big h] at hi
      have hp := ulen_pos (n / 128)
      cases i with
      | zero =>
        simp
        rw [if_pos (by omega)]
        rfl
      | succ i =>
        rw [List.getElem?_cons_succ, ih (n / 128) (by omega) i (by omega), div_pow_succ]
        congr 3
        by_cases h2 : i + 1 < ulen (n / 128)
        · rw [if_pos h2, if_pos (by omega)]
        · rw [if_neg h2, if_neg (by omega)]
theorem form_byte (n : Nat) : ∀ x ∈ form n, 0 ≤ x ∧ x ≤ 255 := by
  induction n using Nat.strongRecOn with
  | _ n ih =>
    intro x hx
    by_cases h : n < 128
    · rw [form_small h] at hx
      rw [List.mem_singleton.mp hx]
      omega
    · rw [form_big h] at hx
      rcases List.mem_cons.mp hx with rfl | hx
      · omega
      · exact ih _ (by omega) x hx
theorem ulen_mono {m n : Nat} (h : m ≤ n) : ulen m ≤ ulen n := by
  rcases Nat.lt_or_ge (ulen n) (ulen m) with hlt | hge
  · have h1 := (ulen_spec m).2 (by have := ulen_pos n; omega)
    have h2 := (ulen_spec n).1
    have h3 : 128 ^ ulen n ≤ 128 ^ (ulen m - 1) := Nat.pow_le_pow_right (by omega) (by omega)
    omega
  · exact hge

/-! ### signed -/
theorem sform_dec {n : Int} (h : ¬ (-64 ≤ n ∧ n < 64)) : (n / 128).natAbs < n.natAbs := by omega
def slen (n : Int) : Nat := if -64 ≤ n ∧ n < 64 then 1 else slen (n / 128) + 1
termination_by n.natAbs
decreasing_by omega
def sform (n : Int) : List Int := if -64 ≤ n ∧ n < 64 then [n % 128] else (n % 128 + 128) :: sform (n / 128)
termination_by n.natAbs
decreasing_by omega
theorem sform_small {n : Int} (h : -64 ≤ n ∧ n < 64) : sform n = [n % 128] := by rw [sform, if_pos h]
theorem sform_big {n : Int} (h : ¬ (-64 ≤ n ∧ n < 64)) : sform n = (n % 128 + 128) :: sform (n / 128) := by rw [sform, if_neg h]
theorem slen_small {n : Int} (h : -64 ≤ n ∧ n < 64) : slen n = 1 := by rw [slen, if_pos h]
theorem slen_big {n : Int} (h : ¬ (-64 ≤ n ∧ n < 64)) : slen n = slen (n / 128) + 1 := by rw [slen, if_neg h]
theorem sform_length (n : Int) : (sform n).length = slen n := by
  induction hm : n.natAbs using Nat.strongRecOn generalizing n with
  | _ m ih =>
    by_cases h : -64 ≤ n ∧ n < 64
    · rw [sform_small h, slen_small h]; rfl
    · rw [sform_big h, slen_big h, List.length_cons, ih _ (by have := sform_dec h; omega) (n / 128) rfl]
theorem slen_pos (n : Int) : 1 ≤ slen n := by
  by_cases h : -64 ≤ n ∧ n < 64
  · rw [slen_small h]; omega
  · rw [slen_big h]; omega
theorem pow128_pos (i : Nat) : (0 : Int) < 128 ^ i := Int.pow_pos (by omega)
theorem slen_le (d : Nat) : ∀ n : Int, -(64 * 128 ^ d) ≤ n → n < 64 * 128 ^ d → slen n ≤ d + 1 := by
  induction d with
  | zero =>
    intro n h0 h1
    rw [slen_small (by omega)]
    omega
  | succ d ih =>
    intro n h0 h1
    by_cases h : -64 ≤ n ∧ n < 64
    · rw [slen_small h]; omega
    · rw [slen_big h]
      rw [Int.pow_succ] at h0 h1
      have := ih (n / 128) (by omega) (by omega)
      omega
theorem slen_i64 {n : Int} (h : -9223372036854775808 ≤ n ∧ n ≤ 9223372036854775807) : slen n ≤ 10 := slen_le 9 n (by omega) (by omega)
theorem slen_spec (n : Int) : (-(64 * 128 ^ (slen n - 1)) ≤ n ∧ n < 64 * 128 ^ (slen n - 1)) ∧ ∀ j, j + 1 < slen n → ¬ (-(64 * 128 ^ j) ≤ n ∧ n < 64 * 128 ^ j) := by
  induction hm : n.natAbs using Nat.strongRecOn generalizing n with
  | _ m ih =>
    by_cases h : -64 ≤ n ∧ n < 64
    · rw [slen_small h]
      exact ⟨by omega, fun j hj => by omega⟩
    · have := ih _ (by have := sform_dec h; omega) (n / 128) rfl
      have hp := slen_pos (n / 128)
      obtain ⟨⟨h1, h2⟩, h3⟩ := this
      rw [slen_big h, Nat.add_sub_cancel]
      have e : (128 : Int) ^ slen (n / 128) = 128 ^ (slen (n / 128) - 1) * 128 := by
        rw [← Int.pow_succ]
        congr 1
        omega
      refine ⟨by rw [e]; omega, fun j hj => ?_⟩
      cases j with
      | zero => rw [Int.pow_zero]; omega
      | succ j =>
        have := h3 j (by omega)
        rw [Int.pow_succ]
        omega
theorem sdiv_pow_succ (n : Int) (i : Nat) : n / 128 ^ (i + 1) = n / 128 / 128 ^ i := by
  rw [Int.pow_succ, Int.mul_comm, Int.ediv_ediv_of_nonneg (by omega)]
theorem sform_get (n : Int) : ∀ i, i < slen n → (sform n)[i]? = some (n / 128 ^ i % 128 + (if i + 1 < slen n then 128 else 0)) := by
  induction hm : n.natAbs using Nat.strongRecOn generalizing n with
  | _ m ih =>
    intro i hi
    by_cases h : -64 ≤ n ∧ n < 64
    · rw [slen_small h] at hi
      obtain rfl : i = 0 := by omega
      rw [sform_small h, slen_small h]
      simp
    · rw [sform_big h, slen_big h]
      rw [slen_big h] at hi
      have hp := slen_pos (n / 128)
      cases i with
      | zero =>
        simp
        omega
      | succ i =>
        rw [List.getElem?_cons_succ, ih _ (by have := sform_dec h; omega) (n / 128) rfl i (by omega), sdiv_pow_succ]
        congr 2
        by_cases h2 : i + 1 < slen (n / 128)
        · rw [if_pos h2, if_pos (by omega)]
        · rw [if_neg h2, if_neg (by omega)]
theorem sform_byte (n : Int) : ∀ x ∈ sform n, 0 ≤ x ∧ x ≤ 255 := by
  induction hm : n.natAbs using Nat.strongRecOn generalizing n with
  | _ m ih =>
    intro x hx
    by_cases h : -64 ≤ n ∧ n < 64
    · rw [sform_small h] at hx
      rw [List.mem_singleton.mp hx]
      omega
    · rw [sform_big h] at hx
      rcases List.mem_cons.mp hx with rfl | hx
      · omega
      · exact ih _ (by have := sform_dec h; omega) (n / 128) rfl x hx

/-! ### groups -/
/-- How many bytes at the head belong to one number; the error. -/
def grs : List Int → Nat → Int × Int
  | [], _ => (0, 30)
  | b :: t, i => if b < 128 then ((i : Int) + 1, 0) else if i = 9 then (0, 31) else grs t (i + 1)
/-- The number that groups are (lowest first). -/
def value : List Int → Nat
  | [] => 0
  | b :: t => (b % 128).toNat + 128 * value t
theorem value_lt (l : List Int) : value l < 128 ^ l.length := by
  induction l with
  | nil => simp [value]
  | cons b t ih =>
    rw [value, List.length_cons, Nat.pow_succ]
    omega
theorem value_snoc (l : List Int) (b : Int) : value (l ++ [b]) = value l + 128 ^ l.length * (b % 128).toNat := by
  induction l with
  | nil => simp [value]
  | cons a t ih =>
    rw [List.cons_append, value, value, ih, List.length_cons, Nat.pow_succ, Nat.mul_add]
    have : 128 * (128 ^ t.length * (b % 128).toNat) = 128 ^ t.length * 128 * (b % 128).toNat := by
      rw [← Nat.mul_assoc, Nat.mul_comm 128]
    omega
theorem value_form (n : Nat) : value (form n) = n := by
  induction n using Nat.strongRecOn with
  | _ n ih =>
    by_cases h : n < 128
    · rw [form_small h]
      simp [value]
      omega
    · rw [form_big h, value, ih (n / 128) (by omega)]
      omega
theorem emod_split (n p : Int) (hp : 0 < p) : n % (p * 128) = n % 128 + 128 * (n / 128 % p) := by
  have h1 := Int.emod_add_mul_ediv n 128
  have h2 := Int.emod_add_mul_ediv (n / 128) p
  have h3 := Int.emod_nonneg (n / 128) (Int.ne_of_gt hp)
  have h4 := Int.emod_lt_of_pos (n / 128) hp
  have h0 := Int.emod_nonneg n (show (128 : Int) ≠ 0 by omega)
  have h7 := Int.emod_lt_of_pos n (show (0 : Int) < 128 by omega)
  generalize n / 128 % p = t at *
  generalize n / 128 / p = s at *
  generalize n % 128 = r at *
  have h5 : n = (r + 128 * t) + p * 128 * s := by
    have : p * 128 * s = 128 * (p * s) := by rw [Int.mul_comm p 128, Int.mul_assoc]
    omega
  calc n % (p * 128) = ((r + 128 * t) + p * 128 * s) % (p * 128) := by rw [← h5]
    _ = (r + 128 * t) % (p * 128) := Int.add_mul_emod_self_left _ _ _
    _ = r + 128 * t := Int.emod_eq_of_lt (by omega) (by omega)
/-- What the groups of a signed number are in two's complement. -/
theorem value_sform (n : Int) : (value (sform n) : Int) = n % 128 ^ slen n := by
  induction hm : n.natAbs using Nat.strongRecOn generalizing n with
  | _ m ih =>
    by_cases h : -64 ≤ n ∧ n < 64
    · rw [sform_small h, slen_small h]
      simp [value]
      omega
    · have hi := ih _ (by have := sform_dec h; omega) (n / 128) rfl
      rw [sform_big h, slen_big h, value, Int.pow_succ]
      have hp := pow128_pos (slen (n / 128))
      have e := emod_split n (128 ^ slen (n / 128)) hp
      rw [e, ← hi]
      omega
theorem grs_spec (l : List Int) : ∀ i k, grs l i = (k, 0) → i ≤ 9 → ∃ j : Nat, k = (i : Int) + j + 1 ∧ i + j ≤ 9 ∧ j < l.length ∧ (∀ x, l[j]? = some x → x < 128) ∧ ∀ q x, q < j → l[q]? = some x → 128 ≤ x := by
  induction l with
  | nil => intro i k h; simp [grs] at h
  | cons b t ih =>
    intro i k h hi
    rw [grs] at h
    by_cases hb : b < 128
    · rw [if_pos hb] at h
      injection h with h1 h2
      exact ⟨0, by omega, by omega, by simp, fun x hx => by simp at hx; omega, fun q x hq => by omega⟩
    · rw [if_neg hb] at h
      by_cases h9 : i = 9
      · rw [if_pos h9] at h
        injection h with h1 h2
        omega
      · rw [if_neg h9] at h
        obtain ⟨j, h1, h2, h3, h4, h5⟩ := ih (i + 1) k h (by omega)
        refine ⟨j + 1, by omega, by omega, by simpa using h3, fun x hx => h4 x (by simpa using hx), fun q x hq hx => ?_⟩
        cases q with
        | zero => simp at hx; omega
        | succ q => exact h5 q x (by omega) (by simpa using hx)
theorem grs_form (n : Nat) : ∀ (i : Nat) (rest : List Int), i + ulen n ≤ 10 → grs (form n ++ rest) i = ((i : Int) + ulen n, 0) := by
  induction n using Nat.strongRecOn with
  | _ n ih =>
    intro i rest hi
    by_cases h : n < 128
    · rw [form_small h, ulen_small h]
      rw [List.singleton_append, grs, if_pos (by omega)]
      simp
    · have hp := ulen_pos (n / 128)
      rw [ulen_big h] at hi
      rw [form_big h, ulen_big h, List.cons_append, grs, if_neg (by omega), if_neg (by omega), ih (n / 128) (by omega) (i + 1) rest (by omega)]
      congr 1
      omega
theorem grs_form_cut (n : Nat) : ∀ (i c : Nat), i + ulen n ≤ 10 → c < ulen n → grs ((form n).take c) i = (0, 30) := by
  induction n using Nat.strongRecOn with
  | _ n ih =>
    intro i c hi hc
    by_cases h : n < 128
    · rw [ulen_small h] at hc
      obtain rfl : c = 0 := by omega
      rfl
    · have hp := ulen_pos (n / 128)
      rw [ulen_big h] at hi hc
      cases c with
      | zero => rfl
      | succ c =>
        rw [form_big h, List.take_succ_cons, grs, if_neg (by omega), if_neg (by omega), ih (n / 128) (by omega) (i + 1) c (by omega) (by omega)]
theorem grs_sform (n : Int) : ∀ (i : Nat) (rest : List Int), i + slen n ≤ 10 → grs (sform n ++ rest) i = ((i : Int) + slen n, 0) := by
  induction hm : n.natAbs using Nat.strongRecOn generalizing n with
  | _ m ih =>
    intro i rest hi
    by_cases h : -64 ≤ n ∧ n < 64
    · rw [sform_small h, slen_small h]
      rw [List.singleton_append, grs, if_pos (by omega)]
      simp
    · have hp := slen_pos (n / 128)
      rw [slen_big h] at hi
      rw [sform_big h, slen_big h, List.cons_append, grs, if_neg (by omega), if_neg (by omega), ih _ (by have := sform_dec h; omega) (n / 128) rfl (i + 1) rest (by omega)]
      congr 1
      omega
theorem grs_sform_cut (n : Int) : ∀ (i c : Nat), i + slen n ≤ 10 → c < slen n → grs ((sform n).take c) i = (0, 30) := by
  induction hm : n.natAbs using Nat.strongRecOn generalizing n with
  | _ m ih =>
    intro i c hi hc
    by_cases h : -64 ≤ n ∧ n < 64
    · rw [slen_small h] at hc
      obtain rfl : c = 0 := by omega
      rfl
    · have hp := slen_pos (n / 128)
      rw [slen_big h] at hi hc
      cases c with
      | zero => rfl
      | succ c =>
        rw [sform_big h, List.take_succ_cons, grs, if_neg (by omega), if_neg (by omega), ih _ (by have := sform_dec h; omega) (n / 128) rfl (i + 1) c (by omega) (by omega)]
end Go.Proofs.YtgpdaihfjnihhaaDoor.LebForm
