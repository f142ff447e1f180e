/- Texts of this claim, joined: QB64, QLebForm, QLebPure, QLebGet, QLebGetS. -/
import Derived.Test.YtgpdaihfjnihhaaDoorQWAll
import Derived.Test.YtgpdaihfjnihhaaDoorQPJx0
import Derived.Test.YtgpdaihfjnihhaaDoorQPJx3
import Derived.Test.YtgpdaihfjnihhaaDoorQPKit
import Derived.Test.YtgpdaihfjnihhaaDoorQPA
import Derived.Test.YtgpdaihfjnihhaaDoorQPB
import Derived.Laws.BitsAllLaws
import Derived.Lib.Bytes
namespace Go.Proofs.YtgpdaihfjnihhaaDoor.B64
open Go.RowKit Go.Proofs.YtgpdaihfjnihhaaDoorW.PrintWords Go.Proofs.YtgpdaihfjnihhaaDoorW.PrintLast Go.Proofs.YtgpdaihfjnihhaaDoorW.PrintMore
theorem wf_u8 {a : Int} (h : (Lit.int .u8 a).wf = true) : 0 ≤ a ∧ a ≤ 255 := by
 simp only [Lit.wf, Bool.and_eq_true, decide_eq_true_eq] at h
 exact h
theorem wrap64_bmod (n : Int) : wrap64 n = n.bmod (2 ^ 64) := by
 rw [Int.bmod_def]
 unfold wrap64
 split <;> omega
theorem wrap64_ofInt (n : Int) : wrap64 n = (BitVec.ofInt 64 n).toInt := by
 rw [wrap64_bmod, BitVec.toInt_ofInt]
theorem u64_wrap (n : Int) : IntKind.u64.wrap n = ((BitVec.ofInt 64 n).toNat : Int) := by
 rw [BitVec.toNat_ofInt]
 show n % 18446744073709551616 = ((n % 18446744073709551616).toNat : Int)
 omega
theorem i64_wrap (n : Int) : IntKind.i64.wrap n = wrap64 n := by
 unfold wrap64
 have h : IntKind.i64.wrap n = if n % 18446744073709551616 ≥ 9223372036854775808 then n % 18446744073709551616 - 18446744073709551616 else n % 18446744073709551616 := by
  unfold IntKind.wrap
  simp [IntKind.signed, IntKind.bits]
 rw [h]
 split <;> omega
theorem wrap_mul (x y : BitVec 64) : wrap64 (x.toInt * y.toInt) = (x * y).toInt := by
 rw [wrap64_bmod, BitVec.toInt_mul]
theorem wrap_toNat (x : BitVec 64) : wrap64 (x.toNat : Int) = x.toInt := by
 rw [wrap64_ofInt]
 congr 1
 apply BitVec.eq_of_toNat_eq
 rw [BitVec.toNat_ofInt]
 have := x.isLt
 omega
theorem u64_toNat (x : BitVec 64) : IntKind.u64.wrap (x.toNat : Int) = (x.toNat : Int) := by
 rw [u64_wrap]
 congr 1
 rw [BitVec.toNat_ofInt]
 have := x.isLt
 omega
theorem u64_mul (x y : BitVec 64) : IntKind.u64.wrap ((x.toNat : Int) * y.toNat) = ((x * y).toNat : Int) := by
 rw [u64_wrap, BitVec.toNat_ofInt, BitVec.toNat_mul]
 have : ((x.toNat : Int) * (y.toNat : Int)) = ((x.toNat * y.toNat : Nat) : Int) := by simp
 rw [this]
 omega
theorem ofInt_toInt (x : BitVec 64) : BitVec.ofInt IntKind.i64.bits x.toInt = x := BitVec.ofInt_toInt
theorem ofInt_toNat (x : BitVec 64) : BitVec.ofInt IntKind.u64.bits (x.toNat : Int) = x := by
 apply BitVec.eq_of_toNat_eq
 rw [BitVec.toNat_ofInt]
 have := x.isLt
 show ((x.toNat : Int) % 18446744073709551616).toNat = x.toNat
 omega
theorem i64_back (x : BitVec 64) : IntKind.i64.wrap (x.toNat : Int) = x.toInt := by
 rw [i64_wrap, wrap_toNat]
theorem or_i64 (x y : BitVec 64) : Go.bits .or .i64 x.toInt y.toInt = (x ||| y).toInt := by
 unfold Go.bits
 rw [ofInt_toInt, ofInt_toInt]
 exact i64_back _
theorem or_u64 (x y : BitVec 64) : Go.bits .or .u64 (x.toNat : Int) (y.toNat : Int) = ((x ||| y).toNat : Int) := by
 unfold Go.bits
 rw [ofInt_toNat, ofInt_toNat]
 exact u64_toNat _
theorem shl_i64 (x : BitVec 64) (n : Int) (hn : 0 ≤ n ∧ n ≤ 64) : shl .i64 x.toInt n = (x <<< n.toNat).toInt := by
 unfold shl
 have hm : min n.toNat IntKind.i64.bits = n.toNat := by
  show min n.toNat 64 = n.toNat
  omega
 rw [hm, i64_wrap, wrap64_ofInt]
 congr 1
 apply BitVec.eq_of_toInt_eq
 rw [BitVec.toInt_ofInt, BitVec.toInt_shiftLeft, Nat.shiftLeft_eq, BitVec.toInt_eq_toNat_bmod]
 simp [Int.bmod_mul_bmod]
theorem shl_u64 (x : BitVec 64) (n : Int) (hn : 0 ≤ n ∧ n ≤ 64) : shl .u64 (x.toNat : Int) n = ((x <<< n.toNat).toNat : Int) := by
 unfold shl
 have hm : min n.toNat IntKind.u64.bits = n.toNat := by
  show min n.toNat 64 = n.toNat
  omega
 rw [hm, u64_wrap, BitVec.toNat_ofInt, BitVec.toNat_shiftLeft, Nat.shiftLeft_eq]
 have : ((x.toNat : Int) * 2 ^ n.toNat) = ((x.toNat * 2 ^ n.toNat : Nat) : Int) := by simp
 rw [this]
 omega
end Go.Proofs.YtgpdaihfjnihhaaDoor.B64

namespace Go.Proofs.YtgpdaihfjnihhaaDoor.LebForm
open Go.RowKit Go.Proofs.YtgpdaihfjnihhaaDoor.B64
def ulen (n : Nat) : Nat := if n < 128 then 1 else ulen (n / 128) + 1
termination_by n
decreasing_by omega
def form (n : Nat) : List Int := if n < 128 then [(n : Int)] else ((n % 128 + 128 : Nat) : Int) :: form (n / 128)
termination_by n
decreasing_by omega
theorem form_small {n : Nat} (h : n < 128) : form n = [(n : Int)] := by rw [form, if_pos h]
theorem form_big {n : Nat} (h : ¬ n < 128) : form n = ((n % 128 + 128 : Nat) : Int) :: form (n / 128) := by rw [form, if_neg h]
theorem ulen_small {n : Nat} (h : n < 128) : ulen n = 1 := by rw [ulen, if_pos h]
theorem ulen_big {n : Nat} (h : ¬ n < 128) : ulen n = ulen (n / 128) + 1 := by rw [ulen, if_neg h]
theorem form_length (n : Nat) : (form n).length = ulen n := by
 induction n using Nat.strongRecOn with
 | _ n ih =>
  by_cases h : n < 128
  ·
   rw [form_small h, ulen_small h]; rfl
  ·
   rw [form_big h, ulen_big h, List.length_cons, ih (n / 128) (by omega)]
theorem ulen_pos (n : Nat) : 1 ≤ ulen n := by
 by_cases h : n < 128
 ·
  rw [ulen_small h]; omega
 ·
  rw [ulen_big h]; omega
theorem ulen_le (d : Nat) : ∀ n, n < 128 ^ (d + 1) → ulen n ≤ d + 1 := by
 induction d with
 | zero =>
  intro n h
  rw [ulen_small (by omega)]
  omega
 | succ d ih =>
  intro n h
  by_cases h1 : n < 128
  ·
   rw [ulen_small h1]; omega
  ·
   rw [ulen_big h1]
   have := ih (n / 128) (by rw [Nat.pow_succ] at h; exact Nat.div_lt_of_lt_mul (by rw [Nat.mul_comm]; exact h))
   omega
theorem ulen_u64 {n : Nat} (h : n < 2 ^ 64) : ulen n ≤ 10 := ulen_le 9 n (Nat.lt_trans h (by decide))
theorem ulen_spec (n : Nat) : n < 128 ^ ulen n ∧ (1 < ulen n → 128 ^ (ulen n - 1) ≤ n) := by
 induction n using Nat.strongRecOn with
 | _ n ih =>
  by_cases h : n < 128
  ·
   rw [ulen_small h]
   exact ⟨by omega, fun h => by omega⟩
  ·
   have := ih (n / 128) (by omega)
   have hp := ulen_pos (n / 128)
   rw [ulen_big h, Nat.add_sub_cancel, Nat.pow_succ]
   refine ⟨by omega, fun _ => ?_⟩
   by_cases h1 : 1 < ulen (n / 128)
   ·
    have h2 := this.2 h1
    have e : 128 ^ ulen (n / 128) = 128 ^ (ulen (n / 128) - 1) * 128 := by
     rw [← Nat.pow_succ]
     congr 1
     omega
    rw [e]
    have h3 : 128 ^ (ulen (n / 128) - 1) * 128 ≤ n / 128 * 128 := Nat.mul_le_mul_right _ h2
    omega
   ·
    have : ulen (n / 128) = 1 := by omega
    rw [this]
    omega
theorem div_pow_succ (n i : Nat) : n / 128 ^ (i + 1) = n / 128 / 128 ^ i := by
 rw [Nat.pow_succ, Nat.mul_comm, Nat.div_div_eq_div_mul]
theorem form_get (n : Nat) : ∀ i, i < ulen n → (form n)[i]? = some (((n / 128 ^ i % 128 + (if i + 1 < ulen n then 128 else 0) : Nat) : Int)) := by
 induction n using Nat.strongRecOn with
 | _ n ih =>
  intro i hi
  by_cases h : n < 128
  ·
   rw [ulen_small h] at hi
   obtain rfl : i = 0 := by omega
   rw [form_small h, ulen_small h]
   simp
   omega
  ·
   rw [form_big h, ulen_big h]
   rw [ulen_big h] at hi
   have hp := ulen_pos (n / 128)
   cases i with
   | zero =>
    simp
    rw [if_pos (by omega)]
    rfl
   | succ i =>
    rw [List.getElem?_cons_succ, ih (n / 128) (by omega) i (by omega), div_pow_succ]
    congr 3
    by_cases h2 : i + 1 < ulen (n / 128)
    ·
     rw [if_pos h2, if_pos (by omega)]
    ·
     rw [if_neg h2, if_neg (by omega)]
theorem form_byte (n : Nat) : ∀ x ∈ form n, 0 ≤ x ∧ x ≤ 255 := by
 induction n using Nat.strongRecOn with
 | _ n ih =>
  intro x hx
  by_cases h : n < 128
  ·
   rw [form_small h] at hx
   rw [List.mem_singleton.mp hx]
   omega
  ·
   rw [form_big h] at hx
   rcases List.mem_cons.mp hx with rfl | hx
   ·
    omega
   ·
    exact ih _ (by omega) x hx
theorem sform_dec {n : Int} (h : ¬ (-64 ≤ n ∧ n < 64)) : (n / 128).natAbs < n.natAbs := by omega
def slen (n : Int) : Nat := if -64 ≤ n ∧ n < 64 then 1 else slen (n / 128) + 1
termination_by n.natAbs
decreasing_by omega
def sform (n : Int) : List Int := if -64 ≤ n ∧ n < 64 then [n % 128] else (n % 128 + 128) :: sform (n / 128)
termination_by n.natAbs
decreasing_by omega
theorem sform_small {n : Int} (h : -64 ≤ n ∧ n < 64) : sform n = [n % 128] := by rw [sform, if_pos h]
theorem sform_big {n : Int} (h : ¬ (-64 ≤ n ∧ n < 64)) : sform n = (n % 128 + 128) :: sform (n / 128) := by rw [sform, if_neg h]
theorem slen_small {n : Int} (h : -64 ≤ n ∧ n < 64) : slen n = 1 := by rw [slen, if_pos h]
theorem slen_big {n : Int} (h : ¬ (-64 ≤ n ∧ n < 64)) : slen n = slen (n / 128) + 1 := by rw [slen, if_neg h]
theorem sform_length (n : Int) : (sform n).length = slen n := by
 induction hm : n.natAbs using Nat.strongRecOn generalizing n with
 | _ m ih =>
  by_cases h : -64 ≤ n ∧ n < 64
  ·
   rw [sform_small h, slen_small h]; rfl
  ·
   rw [sform_big h, slen_big h, List.length_cons, ih _ (by have := sform_dec h; omega) (n / 128) rfl]
theorem slen_pos (n : Int) : 1 ≤ slen n := by
 by_cases h : -64 ≤ n ∧ n < 64
 ·
  rw [slen_small h]; omega
 ·
  rw [slen_big h]; omega
theorem slen_le (d : Nat) : ∀ n : Int, -(64 * 128 ^ d) ≤ n → n < 64 * 128 ^ d → slen n ≤ d + 1 := by
 induction d with
 | zero =>
  intro n h0 h1
  rw [slen_small (by omega)]
  omega
 | succ d ih =>
  intro n h0 h1
  by_cases h : -64 ≤ n ∧ n < 64
  ·
   rw [slen_small h]; omega
  ·
   rw [slen_big h]
   rw [Int.pow_succ] at h0 h1
   have := ih (n / 128) (by omega) (by omega)
   omega
theorem slen_i64 {n : Int} (h : -9223372036854775808 ≤ n ∧ n ≤ 9223372036854775807) : slen n ≤ 10 := slen_le 9 n (by omega) (by omega)
theorem slen_spec (n : Int) : (-(64 * 128 ^ (slen n - 1)) ≤ n ∧ n < 64 * 128 ^ (slen n - 1)) ∧ ∀ j, j + 1 < slen n → ¬ (-(64 * 128 ^ j) ≤ n ∧ n < 64 * 128 ^ j) := by
 induction hm : n.natAbs using Nat.strongRecOn generalizing n with
 | _ m ih =>
  by_cases h : -64 ≤ n ∧ n < 64
  ·
   rw [slen_small h]
   exact ⟨by omega, fun j hj => by omega⟩
  ·
   have := ih _ (by have := sform_dec h; omega) (n / 128) rfl
   have hp := slen_pos (n / 128)
   obtain ⟨⟨h1, h2⟩, h3⟩ := this
   rw [slen_big h, Nat.add_sub_cancel]
   have e : (128 : Int) ^ slen (n / 128) = 128 ^ (slen (n / 128) - 1) * 128 := by
    rw [← Int.pow_succ]
    congr 1
    omega
   refine ⟨by rw [e]; omega, fun j hj => ?_⟩
   cases j with
   | zero => rw [Int.pow_zero]; omega
   | succ j =>
    have := h3 j (by omega)
    rw [Int.pow_succ]
    omega
theorem sdiv_pow_succ (n : Int) (i : Nat) : n / 128 ^ (i + 1) = n / 128 / 128 ^ i := by
 rw [Int.pow_succ, Int.mul_comm, Int.ediv_ediv_of_nonneg (by omega)]
theorem sform_get (n : Int) : ∀ i, i < slen n → (sform n)[i]? = some (n / 128 ^ i % 128 + (if i + 1 < slen n then 128 else 0)) := by
 induction hm : n.natAbs using Nat.strongRecOn generalizing n with
 | _ m ih =>
  intro i hi
  by_cases h : -64 ≤ n ∧ n < 64
  ·
   rw [slen_small h] at hi
   obtain rfl : i = 0 := by omega
   rw [sform_small h, slen_small h]
   simp
  ·
   rw [sform_big h, slen_big h]
   rw [slen_big h] at hi
   have hp := slen_pos (n / 128)
   cases i with
   | zero =>
    simp
    omega
   | succ i =>
    rw [List.getElem?_cons_succ, ih _ (by have := sform_dec h; omega) (n / 128) rfl i (by omega), sdiv_pow_succ]
    congr 2
    by_cases h2 : i + 1 < slen (n / 128)
    ·
     rw [if_pos h2, if_pos (by omega)]
    ·
     rw [if_neg h2, if_neg (by omega)]
theorem sform_byte (n : Int) : ∀ x ∈ sform n, 0 ≤ x ∧ x ≤ 255 := by
 induction hm : n.natAbs using Nat.strongRecOn generalizing n with
 | _ m ih =>
  intro x hx
  by_cases h : -64 ≤ n ∧ n < 64
  ·
   rw [sform_small h] at hx
   rw [List.mem_singleton.mp hx]
   omega
  ·
   rw [sform_big h] at hx
   rcases List.mem_cons.mp hx with rfl | hx
   ·
    omega
   ·
    exact ih _ (by have := sform_dec h; omega) (n / 128) rfl x hx
def grs : List Int → Nat → Int × Int
 | [], _ => (0, 30)
 | b :: t, i => if b < 128 then ((i : Int) + 1, 0) else if i = 9 then (0, 31) else grs t (i + 1)
def value : List Int → Nat
 | [] => 0
 | b :: t => (b % 128).toNat + 128 * value t
theorem value_lt (l : List Int) : value l < 128 ^ l.length := by
 induction l with
 | nil => simp [value]
 | cons b t ih =>
  rw [value, List.length_cons, Nat.pow_succ]
  omega
theorem value_snoc (l : List Int) (b : Int) : value (l ++ [b]) = value l + 128 ^ l.length * (b % 128).toNat := by
 induction l with
 | nil => simp [value]
 | cons a t ih =>
  rw [List.cons_append, value, value, ih, List.length_cons, Nat.pow_succ, Nat.mul_add]
  have : 128 * (128 ^ t.length * (b % 128).toNat) = 128 ^ t.length * 128 * (b % 128).toNat := by
   rw [← Nat.mul_assoc, Nat.mul_comm 128]
  omega
theorem grs_spec (l : List Int) : ∀ i k, grs l i = (k, 0) → i ≤ 9 → ∃ j : Nat, k = (i : Int) + j + 1 ∧ i + j ≤ 9 ∧ j < l.length ∧ (∀ x, l[j]? = some x → x < 128) ∧ ∀ q x, q < j → l[q]? = some x → 128 ≤ x := by
 induction l with
 | nil => intro i k h; simp [grs] at h
 | cons b t ih =>
  intro i k h hi
  rw [grs] at h
  by_cases hb : b < 128
  ·
   rw [if_pos hb] at h
   injection h with h1 h2
   exact ⟨0, by omega, by omega, by simp, fun x hx => by simp at hx; omega, fun q x hq => by omega⟩
  ·
   rw [if_neg hb] at h
   by_cases h9 : i = 9
   ·
    rw [if_pos h9] at h
    injection h with h1 h2
    omega
   ·
    rw [if_neg h9] at h
    obtain ⟨j, h1, h2, h3, h4, h5⟩ := ih (i + 1) k h (by omega)
    refine ⟨j + 1, by omega, by omega, by simpa using h3, fun x hx => h4 x (by simpa using hx), fun q x hq hx => ?_⟩
    cases q with
    | zero => simp at hx; omega
    | succ q => exact h5 q x (by omega) (by simpa using hx)
end Go.Proofs.YtgpdaihfjnihhaaDoor.LebForm

namespace Go.Proofs.YtgpdaihfjnihhaaDoor.LebPure
open Go.RowKit Go.Proofs.YtgpdaihfjnihhaaDoor.PJ Go.Proofs.YtgpdaihfjnihhaaDoorW.PrintWords Go.Proofs.YtgpdaihfjnihhaaDoorW.PrintLast Go.Proofs.YtgpdaihfjnihhaaDoorW.PrintMore Go.Proofs.YtgpdaihfjnihhaaDoor.B64 Go.Proofs.YtgpdaihfjnihhaaDoor.LebForm
theorem wrap_small {i : Int} (h0 : 0 ≤ i) (h : i ≤ 9223372036854775807) : wrap64 i = i := by
 unfold wrap64
 omega
theorem u64_small {i : Int} (h0 : 0 ≤ i) (h : i ≤ 18446744073709551615) : IntKind.u64.wrap i = i := by
 rw [u64_wrap, BitVec.toNat_ofInt]
 omega
def Bts (l : List Int) : Prop := ∀ x ∈ l, 0 ≤ x ∧ x ≤ 255
theorem Bts.take {l : List Int} (h : Bts l) (n : Nat) : Bts (l.take n) := fun x hx => h x (List.mem_of_mem_take hx)
theorem Bts.drop {l : List Int} (h : Bts l) (n : Nat) : Bts (l.drop n) := fun x hx => h x (List.mem_of_mem_drop hx)
theorem Bts.append {l m : List Int} (h : Bts l) (h' : Bts m) : Bts (l ++ m) := fun x hx => (List.mem_append.mp hx).elim (h x) (h' x)
theorem bts_of_wf {l : List Int} (h : ∀ x ∈ l, (Lit.int .u8 x).wf = true) : Bts l := fun x hx => wf_u8 (h x hx)
theorem Bts.get {l : List Int} (h : Bts l) {i : Nat} (hi : i < l.length) : 0 ≤ l[i] ∧ l[i] ≤ 255 := h _ (List.getElem_mem hi)
theorem rd_get {l : List Int} {i : Nat} (hi : i < l.length) : rd l i = l[i] := by
 unfold rd
 rw [Int.toNat_natCast]
 simp [List.getD, hi]
theorem and127 {x : Int} (h0 : 0 ≤ x) (h : x ≤ 255) : Go.bits .and .u8 x 127 = x % 128 := by
 obtain ⟨n, rfl⟩ := Int.eq_ofNat_of_zero_le h0
 have e := u8_and_nat n 127 (by omega) (by omega)
 have e2 : n &&& 127 = n % 2 ^ 7 := Nat.and_two_pow_sub_one_eq_mod n 7
 rw [e2] at e
 refine e.trans ?_
 omega
theorem or128 {x : Int} (h0 : 0 ≤ x) (h : x < 128) : Go.bits .or .u8 x 128 = x + 128 := by
 obtain ⟨n, rfl⟩ := Int.eq_ofNat_of_zero_le h0
 have e := u8_or_nat n 128 (by omega) (by omega)
 have e2 : n ||| 128 = 128 + n := by
  have := Nat.two_pow_add_eq_or_of_lt (i := 7) (b := n) (by omega) 1
  rw [Nat.or_comm]
  exact this.symm
 rw [e2] at e
 refine e.trans ?_
 omega
theorem and64 {x : Int} (h0 : 0 ≤ x) (h : x ≤ 255) : (Go.bits .and .u8 x 64 != 0) = decide (x % 128 ≥ 64) := by
 obtain ⟨n, rfl⟩ := Int.eq_ofNat_of_zero_le h0
 have key : ∀ n : Nat, n < 256 → (Go.bits .and .u8 (n : Int) 64 != 0) = decide ((n : Int) % 128 ≥ 64) := by decide +kernel
 exact key n (by omega)
theorem put_l0 (d : Nat) : ∀ (k x : Nat) (out : List Int), x < 128 ^ (d + 1) → d < k → out.length + d < 140737488355328 →
  leb_put_uint64_107.l0 k x out = some (out ++ form x) := by
 induction d with
 | zero =>
  intro k x out hx hk hl
  obtain ⟨k, rfl⟩ : ∃ m, k = m + 1 := ⟨k - 1, by omega⟩
  rw [leb_put_uint64_107.l0, if_pos (by omega), if_pos (by omega), and127 (by omega) (by omega), form_small (by omega)]
  congr 3
  omega
 | succ d ih =>
  intro k x out hx hk hl
  obtain ⟨k, rfl⟩ : ∃ m, k = m + 1 := ⟨k - 1, by omega⟩
  by_cases h : x < 128
  ·
   rw [leb_put_uint64_107.l0, if_pos (by omega), if_pos (by omega), and127 (by omega) (by omega), form_small h]
   congr 3
   omega
  ·
   rw [leb_put_uint64_107.l0, if_neg (by omega), if_pos (by omega), and127 (by omega) (by omega), or128 (by omega) (by omega)]
   have e : ((x : Int) / 128) = ((x / 128 : Nat) : Int) := by omega
   rw [e, ih k (x / 128) _ (by rw [Nat.pow_succ] at hx; exact Nat.div_lt_of_lt_mul (by rw [Nat.mul_comm]; exact hx)) (by omega) (by simp; omega), form_big h, List.append_assoc]
   congr 3
   simp only [List.singleton_append]
   congr 1
   omega
theorem Put_f (k : Nat) (l : List Int) (n : Nat) (hn : n < 2 ^ 64) (hl : l.length + 10 < 140737488355328) (hk : 10 ≤ k) : leb_Put.f k l n = some (l ++ form n) := by
 unfold leb_Put.f leb_put_uint64_107.f slices_Clone_byte_byte.f
 rw [if_pos (by omega), Option.bind_some, put_l0 9 k n l (Nat.lt_trans hn (by decide)) (by omega) (by omega), Option.bind_some]
theorem sput_l0 (d : Nat) : ∀ (k : Nat) (x : Int) (out : List Int), -(64 * 128 ^ d) ≤ x → x < 64 * 128 ^ d → d < k → out.length + d < 140737488355328 →
  leb_put_int64_105.l0 k x out = some (out ++ sform x) := by
 induction d with
 | zero =>
  intro k x out h0 h1 hk hl
  obtain ⟨k, rfl⟩ : ∃ m, k = m + 1 := ⟨k - 1, by omega⟩
  rw [leb_put_int64_105.l0, if_pos (by omega), if_pos (by omega), if_pos (by omega), and127 (by omega) (by omega), sform_small (by omega)]
  congr 3
  omega
 | succ d ih =>
  intro k x out h0 h1 hk hl
  obtain ⟨k, rfl⟩ : ∃ m, k = m + 1 := ⟨k - 1, by omega⟩
  by_cases h : -64 ≤ x ∧ x < 64
  ·
   rw [leb_put_int64_105.l0, if_pos (by omega), if_pos (by omega), if_pos (by omega), and127 (by omega) (by omega), sform_small h]
   congr 3
   omega
  ·
   have hs : leb_put_int64_105.l0 (k + 1) x out = leb_put_int64_105.l0 k (x / 128) (out ++ [Go.bits .or .u8 (Go.bits .and .u8 (x % 256) 127) 128]) := by
    rw [leb_put_int64_105.l0]
    by_cases h2 : x ≥ -64
    ·
     rw [if_pos h2, if_neg (by omega), if_pos (by omega)]
    ·
     rw [if_neg h2, if_pos (by omega)]
   rw [Int.pow_succ] at h0 h1
   rw [hs, and127 (by omega) (by omega), or128 (by omega) (by omega), ih k (x / 128) _ (by omega) (by omega) (by omega) (by simp; omega), sform_big h, List.append_assoc]
   congr 3
   simp only [List.singleton_append]
   congr 1
   omega
theorem PutSigned_f (k : Nat) (l : List Int) (n : Int) (hn : -9223372036854775808 ≤ n ∧ n ≤ 9223372036854775807) (hl : l.length + 10 < 140737488355328) (hk : 10 ≤ k) : leb_PutSigned.f k l n = some (l ++ sform n) := by
 unfold leb_PutSigned.f leb_put_int64_105.f slices_Clone_byte_byte.f
 rw [if_pos (by omega), Option.bind_some, sput_l0 9 k n l (by omega) (by omega) (by omega) (by omega), Option.bind_some]
theorem seven (i : Nat) (hi : i ≤ 20) : IntKind.u64.wrap (wrap64 (7 * (i : Int))) = ((7 * i : Nat) : Int) := by
 rw [wrap_small (by omega) (by omega), u64_small (by omega) (by omega)]
 omega
theorem pow128 (i : Nat) : 128 ^ i = 2 ^ (7 * i) := by rw [Nat.pow_mul]
theorem shr_group (n : Nat) (i : Nat) (hi : i ≤ 9) : shr .u64 (n : Int) ((7 * i : Nat) : Int) = ((n / 128 ^ i : Nat) : Int) := by
 unfold shr
 have hm : min (((7 * i : Nat) : Int)).toNat IntKind.u64.bits = 7 * i := by
  show min (((7 * i : Nat) : Int)).toNat 64 = 7 * i
  omega
 rw [hm, pow128]
 simp
theorem drop_get {l : List Int} {i : Nat} {x : Int} (h : l[i]? = some x) : l.drop i = x :: l.drop (i + 1) := by
 obtain ⟨hi, rfl⟩ := List.getElem?_eq_some_iff.mp h
 exact List.drop_eq_getElem_cons hi
theorem ref_l1 (n : Nat) (hn : n < 2 ^ 64) (d : Nat) : ∀ (k i : Nat) (out : List Int), i + d = ulen n → d < k → out.length + d < 140737488355328 →
  louverref03_Put.l1 k n (ulen n : Int) out i = some (out ++ (form n).drop i) := by
 have h10 := ulen_u64 hn
 induction d with
 | zero =>
  intro k i out hi hk hl
  obtain ⟨k, rfl⟩ : ∃ m, k = m + 1 := ⟨k - 1, by omega⟩
  rw [louverref03_Put.l1, if_neg (by omega), List.drop_of_length_le (by rw [form_length]; omega), List.append_nil]
 | succ d ih =>
  intro k i out hi hk hl
  obtain ⟨k, rfl⟩ : ∃ m, k = m + 1 := ⟨k - 1, by omega⟩
  rw [louverref03_Put.l1, if_pos (by omega), seven i (by omega), if_pos (by omega), wrap_small (by omega) (by omega), shr_group n i (by omega)]
  have hg := drop_get (form_get n i (by omega))
  by_cases h : i + 1 < ulen n
  ·
   rw [if_pos (by omega), if_pos (by omega)]
   have := ih k (i + 1) (out ++ [((n / 128 ^ i : Nat) : Int) % 128 + 128]) (by omega) (by omega) (by simp; omega)
   refine this.trans ?_
   rw [hg, if_pos h, List.append_assoc]
   congr 3
  ·
   rw [if_neg (by omega), if_pos (by omega)]
   have := ih k (i + 1) (out ++ [((n / 128 ^ i : Nat) : Int) % 128]) (by omega) (by omega) (by simp; omega)
   refine this.trans ?_
   rw [hg, if_neg h, List.append_assoc]
   congr 3
theorem div_zero_of (n : Nat) (i : Nat) (h : n < 128 ^ i) : n / 128 ^ i = 0 := Nat.div_eq_of_lt h
theorem ref_l0 (n : Nat) (hn : n < 2 ^ 64) (d : Nat) : ∀ (k g : Nat), g + d = ulen n → 1 ≤ g → d + 15 < k →
  louverref03_Put.l0 k n g = some (form n) := by
 have h10 := ulen_u64 hn
 have hs := ulen_spec n
 have fin : ∀ k, 12 < k → louverref03_Put.j1 k n (ulen n : Int) = some (form n) := by
  intro k hk
  obtain ⟨k, rfl⟩ : ∃ m, k = m + 1 := ⟨k - 1, by omega⟩
  rw [louverref03_Put.j1]
  have := ref_l1 n hn (ulen n) k 0 [] (by omega) (by omega) (by simp; omega)
  simpa using this
 induction d with
 | zero =>
  intro k g hg h1 hk
  obtain ⟨k, rfl⟩ : ∃ m, k = m + 1 := ⟨k - 1, by omega⟩
  obtain rfl : g = ulen n := by omega
  rw [louverref03_Put.l0]
  by_cases h : ulen n < 10
  ·
   rw [if_pos (by omega), seven _ (by omega), if_pos (by omega), shr_group n _ (by omega), div_zero_of _ _ hs.1, if_pos (by rfl)]
   exact fin k (by omega)
  ·
   rw [if_neg (by omega)]
   exact fin k (by omega)
 | succ d ih =>
  intro k g hg h1 hk
  obtain ⟨k, rfl⟩ : ∃ m, k = m + 1 := ⟨k - 1, by omega⟩
  have hne : n / 128 ^ g ≠ 0 := by
   have h2 := hs.2 (by omega)
   have h3 : 128 ^ g ≤ 128 ^ (ulen n - 1) := Nat.pow_le_pow_right (by omega) (by omega)
   have h4 : 1 ≤ n / 128 ^ g := (Nat.le_div_iff_mul_le (Nat.pow_pos (by omega))).mpr (by omega)
   omega
  rw [louverref03_Put.l0, if_pos (by omega), seven _ (by omega), if_pos (by omega), shr_group n _ (by omega), if_neg (by omega), wrap_small (by omega) (by omega)]
  exact ih k (g + 1) (by omega) (by omega) (by omega)
theorem refPut_f (k n : Nat) (hn : n < 2 ^ 64) (hk : 30 ≤ k) : louverref03_Put.f k n = some (form n) := by
 have := ulen_u64 hn
 have hp := ulen_pos n
 exact ref_l0 n hn (ulen n - 1) k 1 (by omega) (by omega) (by omega)
theorem shr_sgroup (n : Int) (i : Nat) (hi : i ≤ 9) : shr .i64 n ((7 * i : Nat) : Int) = n / 128 ^ i := by
 unfold shr
 have hm : min (((7 * i : Nat) : Int)).toNat IntKind.i64.bits = 7 * i := by
  show min (((7 * i : Nat) : Int)).toNat 64 = 7 * i
  omega
 rw [hm]
 congr 1
 have := pow128 i
 exact_mod_cast this.symm
theorem fits_f (n : Int) (g : Nat) (h1 : 1 ≤ g) (h9 : g ≤ 9) : louverref03_fits.f n g = some (decide (-(64 * 128 ^ (g - 1)) ≤ n ∧ n < 64 * 128 ^ (g - 1))) := by
 have hsh : shl .i64 1 (IntKind.u64.wrap (wrap64 (wrap64 (7 * (g : Int)) - 1))) = 64 * 128 ^ (g - 1) ∧ (0 : Int) ≤ IntKind.u64.wrap (wrap64 (wrap64 (7 * (g : Int)) - 1)) ∧ wrap64 (-(64 * 128 ^ (g - 1) : Int)) = -(64 * 128 ^ (g - 1)) := by
  have : g = 1 ∨ g = 2 ∨ g = 3 ∨ g = 4 ∨ g = 5 ∨ g = 6 ∨ g = 7 ∨ g = 8 ∨ g = 9 := by omega
  rcases this with rfl | rfl | rfl | rfl | rfl | rfl | rfl | rfl | rfl <;> decide +kernel
 unfold louverref03_fits.f
 rw [if_neg (by omega), if_pos hsh.2.1, hsh.1, hsh.2.2]
 by_cases h : n ≥ -(64 * 128 ^ (g - 1))
 ·
  rw [if_pos h]
  congr 1
  by_cases h2 : n < 64 * 128 ^ (g - 1)
  ·
   have : -(64 * 128 ^ (g - 1)) ≤ n ∧ n < 64 * 128 ^ (g - 1) := ⟨h, h2⟩
   simp only [h2, this, decide_true, and_self]
  ·
   have : ¬ (-(64 * 128 ^ (g - 1)) ≤ n ∧ n < 64 * 128 ^ (g - 1)) := fun q => h2 q.2
   rw [decide_eq_false h2, decide_eq_false this]
 ·
  rw [if_neg h]
  have : ¬ (-(64 * 128 ^ (g - 1)) ≤ n ∧ n < 64 * 128 ^ (g - 1)) := fun q => h q.1
  rw [decide_eq_false this]
theorem sref_l1 (n : Int) (hn : -9223372036854775808 ≤ n ∧ n ≤ 9223372036854775807) (d : Nat) : ∀ (k i : Nat) (out : List Int), i + d = slen n → d < k → out.length + d < 140737488355328 →
  louverref03_PutSigned.l1 k n (slen n : Int) out i = some (out ++ (sform n).drop i) := by
 have h10 := slen_i64 hn
 induction d with
 | zero =>
  intro k i out hi hk hl
  obtain ⟨k, rfl⟩ : ∃ m, k = m + 1 := ⟨k - 1, by omega⟩
  rw [louverref03_PutSigned.l1, if_neg (by omega), List.drop_of_length_le (by rw [sform_length]; omega), List.append_nil]
 | succ d ih =>
  intro k i out hi hk hl
  obtain ⟨k, rfl⟩ : ∃ m, k = m + 1 := ⟨k - 1, by omega⟩
  rw [louverref03_PutSigned.l1, if_pos (by omega), seven i (by omega), if_pos (by omega), wrap_small (by omega) (by omega), shr_sgroup n i (by omega), and127 (by omega) (by omega)]
  have hg := drop_get (sform_get n i (by omega))
  have e1 : n / 128 ^ i % 256 % 128 = n / 128 ^ i % 128 := by omega
  rw [e1]
  by_cases h : i + 1 < slen n
  ·
   rw [if_pos (by omega), if_pos (by omega)]
   have := ih k (i + 1) (out ++ [(n / 128 ^ i % 128 + 128) % 256]) (by omega) (by omega) (by simp; omega)
   refine this.trans ?_
   rw [hg, if_pos h, List.append_assoc]
   congr 3
   simp only [List.singleton_append]
   congr 1
   omega
  ·
   rw [if_neg (by omega), if_pos (by omega)]
   have := ih k (i + 1) (out ++ [n / 128 ^ i % 128]) (by omega) (by omega) (by simp; omega)
   refine this.trans ?_
   rw [hg, if_neg h, List.append_assoc]
   congr 3
   simp
theorem sref_l0 (n : Int) (hn : -9223372036854775808 ≤ n ∧ n ≤ 9223372036854775807) (d : Nat) : ∀ (k g : Nat), g + d = slen n → 1 ≤ g → d + 15 < k →
  louverref03_PutSigned.l0 k n g = some (sform n) := by
 have h10 := slen_i64 hn
 have hs := slen_spec n
 induction d with
 | zero =>
  intro k g hg h1 hk
  obtain ⟨k, rfl⟩ : ∃ m, k = m + 1 := ⟨k - 1, by omega⟩
  obtain rfl : g = slen n := by omega
  have ht : louverref03_fits.f n (slen n : Int) = some true := by
   by_cases h : slen n ≤ 9
   ·
    rw [fits_f n _ (by omega) h, decide_eq_true hs.1]
   ·
    unfold louverref03_fits.f
    rw [if_pos (by omega)]
  rw [louverref03_PutSigned.l0, ht, Option.bind_some, if_pos rfl]
  have := sref_l1 n hn (slen n) k 0 [] (by omega) (by omega) (by simp; omega)
  simpa using this
 | succ d ih =>
  intro k g hg h1 hk
  obtain ⟨k, rfl⟩ : ∃ m, k = m + 1 := ⟨k - 1, by omega⟩
  have hf : louverref03_fits.f n (g : Int) = some false := by
   rw [fits_f n _ (by omega) (by omega), decide_eq_false (hs.2 (g - 1) (by omega))]
  rw [louverref03_PutSigned.l0, hf, Option.bind_some, if_neg (by decide), wrap_small (by omega) (by omega)]
  exact ih k (g + 1) (by omega) (by omega) (by omega)
theorem refPutSigned_f (k : Nat) (n : Int) (hn : -9223372036854775808 ≤ n ∧ n ≤ 9223372036854775807) (hk : 30 ≤ k) : louverref03_PutSigned.f k n = some (sform n) := by
 have := slen_i64 hn
 have hp := slen_pos n
 exact sref_l0 n hn (slen n - 1) k 1 (by omega) (by omega) (by omega)
theorem Bytes_l0 (a b : List Int) (hab : a.length = b.length) (hl : a.length < 9223372036854775807) (d : Nat) : ∀ (k i : Nat), i + d = a.length → d < k → louverkit_Bytes.l0 k a b i = some (decide (a.drop i = b.drop i)) := by
 induction d with
 | zero =>
  intro k i hi hk
  obtain ⟨k, rfl⟩ : ∃ m, k = m + 1 := ⟨k - 1, by omega⟩
  rw [louverkit_Bytes.l0, if_neg (by omega), List.drop_of_length_le (by omega), List.drop_of_length_le (by omega)]
  simp
 | succ d ih =>
  intro k i hi hk
  obtain ⟨k, rfl⟩ : ∃ m, k = m + 1 := ⟨k - 1, by omega⟩
  have ha : i < a.length := by omega
  have hb : i < b.length := by omega
  rw [louverkit_Bytes.l0, if_pos (by omega), if_pos (by omega), if_pos (by omega), rd_get ha, rd_get hb, List.drop_eq_getElem_cons ha, List.drop_eq_getElem_cons hb, wrap_small (by omega) (by omega)]
  by_cases h : a[i] = b[i]
  ·
   rw [if_pos h]
   refine (ih k (i + 1) (by omega) (by omega)).trans ?_
   rw [h]
   congr 1
   rw [decide_eq_decide]
   simp only [List.cons.injEq, true_and]
  ·
   rw [if_neg h]
   congr 1
   exact (decide_eq_false (fun e => h (List.cons.inj e).1)).symm
theorem Bytes_f (k : Nat) (a b : List Int) (hl : a.length < 9223372036854775807) (hk : a.length < k) : louverkit_Bytes.f k a b = some (decide (a = b)) := by
 unfold louverkit_Bytes.f
 by_cases h : a.length = b.length
 ·
  rw [if_pos (by omega)]
  have := Bytes_l0 a b h hl a.length k 0 (by omega) hk
  simpa using this
 ·
  rw [if_neg (by omega)]
  have : ¬ a = b := fun e => h (by rw [e])
  simp [this]
theorem same_l0 (a b : List Int) (hab : a.length = b.length) (hl : a.length < 9223372036854775807) (d : Nat) : ∀ (k i : Nat), i + d = a.length → d < k → louverref03_same.l0 k a b i = some (decide (a.drop i = b.drop i)) := by
 induction d with
 | zero =>
  intro k i hi hk
  obtain ⟨k, rfl⟩ : ∃ m, k = m + 1 := ⟨k - 1, by omega⟩
  rw [louverref03_same.l0, if_neg (by omega), List.drop_of_length_le (by omega), List.drop_of_length_le (by omega)]
  simp
 | succ d ih =>
  intro k i hi hk
  obtain ⟨k, rfl⟩ : ∃ m, k = m + 1 := ⟨k - 1, by omega⟩
  have ha : i < a.length := by omega
  have hb : i < b.length := by omega
  rw [louverref03_same.l0, if_pos (by omega), if_pos (by omega), if_pos (by omega), rd_get ha, rd_get hb, List.drop_eq_getElem_cons ha, List.drop_eq_getElem_cons hb, wrap_small (by omega) (by omega)]
  by_cases h : a[i] = b[i]
  ·
   rw [if_pos h]
   refine (ih k (i + 1) (by omega) (by omega)).trans ?_
   rw [h]
   congr 1
   rw [decide_eq_decide]
   simp only [List.cons.injEq, true_and]
  ·
   rw [if_neg h]
   congr 1
   exact (decide_eq_false (fun e => h (List.cons.inj e).1)).symm
theorem same_f (k : Nat) (a b : List Int) (hl : a.length < 9223372036854775807) (hk : a.length < k) : louverref03_same.f k a b = some (decide (a = b)) := by
 unfold louverref03_same.f
 by_cases h : a.length = b.length
 ·
  rw [if_pos (by omega)]
  have := same_l0 a b h hl a.length k 0 (by omega) hk
  simpa using this
 ·
  rw [if_neg (by omega)]
  have : ¬ a = b := fun e => h (by rw [e])
  simp [this]
theorem groups_l0 (l : List Int) (hl : l.length < 9223372036854775807) (d : Nat) : ∀ (k i : Nat), i + d = l.length → d < k → leb_groups.l0 k l (l.length : Int) i = some (grs (l.drop i) i) := by
 induction d with
 | zero =>
  intro k i hi hk
  obtain ⟨k, rfl⟩ : ∃ m, k = m + 1 := ⟨k - 1, by omega⟩
  rw [leb_groups.l0, if_neg (by omega), List.drop_of_length_le (by omega), grs]
 | succ d ih =>
  intro k i hi hk
  obtain ⟨k, rfl⟩ : ∃ m, k = m + 1 := ⟨k - 1, by omega⟩
  have ha : i < l.length := by omega
  rw [leb_groups.l0, if_pos (by omega), if_pos (by omega), if_pos (by omega), rd_get ha, List.drop_eq_getElem_cons ha, grs, wrap_small (by omega) (by omega)]
  by_cases h : l[i] < 128
  ·
   rw [if_pos h, if_pos h]
  ·
   rw [if_neg h, if_neg h]
   by_cases h9 : i = 9
   ·
    rw [if_pos (by omega), if_pos h9]
   ·
    rw [if_neg (by omega), if_neg h9]
    exact ih k (i + 1) (by omega) (by omega)
theorem groups_f (k : Nat) (l : List Int) (hl : l.length < 9223372036854775807) (hk : l.length < k) : leb_groups.f k l = some (grs l 0) := by
 unfold leb_groups.f
 have := groups_l0 l hl l.length k 0 (by omega) hk
 simpa using this
theorem size_l0 (l : List Int) (hl : l.length < 9223372036854775807) (d : Nat) : ∀ (k i : Nat), i + d = l.length → 2 * d + 1 < k → louverref03_size.l0 k l i = some (grs (l.drop i) i) := by
 induction d with
 | zero =>
  intro k i hi hk
  obtain ⟨k, rfl⟩ : ∃ m, k = m + 2 := ⟨k - 2, by omega⟩
  rw [louverref03_size.l0, if_neg (by omega), louverref03_size.j1, if_neg (by decide), if_pos (by omega), List.drop_of_length_le (by omega), grs]
 | succ d ih =>
  intro k i hi hk
  obtain ⟨k, rfl⟩ : ∃ m, k = m + 2 := ⟨k - 2, by omega⟩
  have ha : i < l.length := by omega
  rw [louverref03_size.l0, if_pos (by omega), if_pos (by omega), louverref03_size.j1, rd_get ha, List.drop_eq_getElem_cons ha, grs, wrap_small (by omega) (by omega)]
  by_cases h : l[i] < 128
  ·
   rw [if_neg (by simp; omega), if_neg (by omega), if_pos h]
  ·
   rw [if_pos (by simp; omega), if_neg h]
   by_cases h9 : i = 9
   ·
    rw [if_pos (by omega), if_pos h9]
   ·
    rw [if_neg (by omega), if_neg h9]
    exact ih k (i + 1) (by omega) (by omega)
theorem size_f (k : Nat) (l : List Int) (hl : l.length < 9223372036854775807) (hk : 2 * l.length + 1 < k) : louverref03_size.f k l = some (grs l 0) := by
 unfold louverref03_size.f
 have := size_l0 l hl l.length k 0 (by omega) hk
 simpa using this
end Go.Proofs.YtgpdaihfjnihhaaDoor.LebPure

namespace Go.Proofs.YtgpdaihfjnihhaaDoor.LebPure
open Go.RowKit Go.Proofs.YtgpdaihfjnihhaaDoor.PJ Go.Proofs.YtgpdaihfjnihhaaDoorW.PrintWords Go.Proofs.YtgpdaihfjnihhaaDoorW.PrintLast Go.Proofs.YtgpdaihfjnihhaaDoorW.PrintMore Go.Proofs.YtgpdaihfjnihhaaDoor.B64 Go.Proofs.YtgpdaihfjnihhaaDoor.LebForm
theorem Equal_f (a b : List Int) (ha : Bts a) (hb : Bts b) : bytes_Equal.f a b = some (decide (a = b)) := by
 unfold bytes_Equal.f
 congr 1
 have inj : ∀ a b : List Int, Bts a → Bts b → (strOfNums a).toList = (strOfNums b).toList → a = b := by
  intro a
  induction a with
  | nil =>
   intro b _ _ h
   rw [Lib.strOfNums_toList, Lib.strOfNums_toList] at h
   cases b with
   | nil => rfl
   | cons y t => simp [Lib.bytesOf] at h
  | cons x s ih =>
   intro b ha hb h
   rw [Lib.strOfNums_toList, Lib.strOfNums_toList] at h
   cases b with
   | nil => simp [Lib.bytesOf] at h
   | cons y t =>
    simp only [Lib.bytesOf, List.map_cons, List.cons.injEq] at h
    have hx := ha x List.mem_cons_self
    have hy := hb y List.mem_cons_self
    have e : x = y := by
     have := congrArg UInt8.toNat h.1
     simp at this
     omega
    have := ih t (fun z hz => ha z (List.mem_cons_of_mem _ hz)) (fun z hz => hb z (List.mem_cons_of_mem _ hz)) (by rw [Lib.strOfNums_toList, Lib.strOfNums_toList]; exact h.2)
    rw [e, this]
 by_cases h : a = b
 ·
  simp [h]
 ·
  rw [decide_eq_false h]
  exact beq_eq_false_iff_ne.mpr (fun e => h (inj a b ha hb e))
theorem or_above (s c : BitVec 64) (j : Nat) (hj : j ≤ 64) (hs : s.toNat < 2 ^ j) : (s ||| (c <<< j)).toNat = (s.toNat + 2 ^ j * c.toNat) % 2 ^ 64 := by
 rw [BitVec.toNat_or, BitVec.toNat_shiftLeft, Nat.shiftLeft_eq]
 have e0 : 2 ^ 64 = 2 ^ j * 2 ^ (64 - j) := by rw [← Nat.pow_add]; congr 1; omega
 have hp := Nat.two_pow_pos j
 have e1 : c.toNat * 2 ^ j % 2 ^ 64 = 2 ^ j * (c.toNat % 2 ^ (64 - j)) := by
  rw [e0, Nat.mul_comm c.toNat, Nat.mul_mod_mul_left]
 rw [e1, Nat.or_comm, ← Nat.two_pow_add_eq_or_of_lt hs]
 have h2 := Nat.mod_lt c.toNat (Nat.two_pow_pos (64 - j))
 have h3 : 2 ^ j * (c.toNat % 2 ^ (64 - j)) + s.toNat < 2 ^ 64 := by
  rw [e0]
  have : 2 ^ j * (c.toNat % 2 ^ (64 - j)) + 2 ^ j ≤ 2 ^ j * 2 ^ (64 - j) := by
   rw [← Nat.mul_succ]
   exact Nat.mul_le_mul_left _ h2
  omega
 have h4 : s.toNat + 2 ^ j * c.toNat = (2 ^ j * (c.toNat % 2 ^ (64 - j)) + s.toNat) + 2 ^ 64 * (c.toNat / 2 ^ (64 - j)) := by
  have h5 := Nat.div_add_mod c.toNat (2 ^ (64 - j))
  have h6 : 2 ^ j * c.toNat = 2 ^ j * (2 ^ (64 - j) * (c.toNat / 2 ^ (64 - j))) + 2 ^ j * (c.toNat % 2 ^ (64 - j)) := by
   rw [← Nat.mul_add, h5]
  rw [← Nat.mul_assoc, ← e0] at h6
  omega
 rw [h4, Nat.add_mul_mod_self_left, Nat.mod_eq_of_lt h3]
def low (c : Int) : BitVec 64 := BitVec.ofNat 64 (c % 128).toNat
theorem low_toNat (c : Int) : (low c).toNat = (c % 128).toNat := by
 unfold low
 rw [BitVec.toNat_ofNat]
 omega
theorem take_snoc {l : List Int} {i : Nat} (hi : i < l.length) : l.take (i + 1) = l.take i ++ [l[i]] := by
 rw [List.take_succ_eq_append_getElem hi]
theorem value_take_succ {l : List Int} {i : Nat} (hi : i < l.length) : value (l.take (i + 1)) = value (l.take i) + 128 ^ i * (l[i] % 128).toNat := by
 rw [take_snoc hi, value_snoc, List.length_take, Nat.min_eq_left (by omega)]
theorem get_end (k : Nat) (l : List Int) (K : Nat) (n : Nat) (hb : Bts l) (hK : K ≤ l.length) (hn : n < 2 ^ 64) (hk : 10 ≤ k) :
  leb_Get.l0 (k + 1) l K n K K = some (if form n = l.take K then ((n : Int), (K : Int), 0) else (0, 0, 31)) := by
 rw [leb_Get.l0, if_neg (by omega), Put_f k [] n hn (by simp) hk, Option.bind_some, if_pos (by omega), if_pos (by omega), Int.toNat_natCast, List.nil_append,
  Equal_f _ _ (form_byte n) (hb.take K), Option.bind_some]
 by_cases h : form n = l.take K
 ·
  rw [decide_eq_true h, if_pos rfl, if_pos h]
 ·
  rw [decide_eq_false h, if_neg (by decide), if_neg h]
theorem get_l0 (l : List Int) (K : Nat) (hb : Bts l) (hK : K ≤ l.length) (h10 : K ≤ 10) (d : Nat) : ∀ (k i : Nat) (s : BitVec 64), i + d = K → d + 11 < k → s.toNat = value (l.take i) % 2 ^ 64 →
  leb_Get.l0 k l K s.toNat K i = some (if form (value (l.take K) % 2 ^ 64) = l.take K then (((value (l.take K) % 2 ^ 64 : Nat) : Int), (K : Int), 0) else (0, 0, 31)) := by
 induction d with
 | zero =>
  intro k i s hi hk hs
  obtain ⟨k, rfl⟩ : ∃ m, k = m + 1 := ⟨k - 1, by omega⟩
  obtain rfl : i = K := by omega
  rw [hs]
  exact get_end k l i _ hb hK (Nat.mod_lt _ (by decide)) (by omega)
 | succ d ih =>
  intro k i s hi hk hs
  obtain ⟨k, rfl⟩ : ∃ m, k = m + 1 := ⟨k - 1, by omega⟩
  have hil : i < l.length := by omega
  have hx := hb.get hil
  rw [leb_Get.l0, if_pos (by omega), if_pos (by omega), if_pos (by omega), rd_get hil, and127 hx.1 hx.2, wrap_small (by omega) (by omega), if_pos (by omega), wrap_small (by omega) (by omega)]
  have e1 : IntKind.u64.wrap (l[i] % 128) = ((low l[i]).toNat : Int) := by
   rw [u64_small (by omega) (by omega), low_toNat]
   omega
  rw [e1, shl_u64 _ _ (by omega), or_u64]
  refine ih k (i + 1) _ (by omega) (by omega) ?_
  have hvl : value (l.take i) < 2 ^ (7 * i) := by
   have := value_lt (l.take i)
   rw [List.length_take, Nat.min_eq_left (by omega), pow128] at this
   exact this
  have hle : 2 ^ (7 * i) ≤ 2 ^ 64 := Nat.pow_le_pow_right (by omega) (by omega)
  have hs' : s.toNat = value (l.take i) := by rw [hs, Nat.mod_eq_of_lt (by omega)]
  have ej : (7 * (i : Int)).toNat = 7 * i := by omega
  rw [ej, or_above _ _ _ (by omega) (by rw [hs']; exact hvl), value_take_succ hil, hs', low_toNat, pow128]
theorem refget_end (k : Nat) (l : List Int) (K : Nat) (n : Nat) (hK : K ≤ l.length) (h10 : K ≤ 10) (hn : n < 2 ^ 64) (hk : 30 ≤ k) :
  louverref03_Get.l0 (k + 1) l K n (-1) = some (if form n = l.take K then ((n : Int), (K : Int), 0) else (0, 0, 31)) := by
 have hu := ulen_u64 hn
 rw [louverref03_Get.l0, if_neg (by omega), refPut_f k n hn hk, Option.bind_some, if_pos (by omega), if_pos (by omega), Int.toNat_natCast,
  same_f _ _ _ (by rw [form_length]; omega) (by rw [form_length]; omega), Option.bind_some]
 by_cases h : form n = l.take K
 ·
  rw [decide_eq_true h, if_pos rfl, if_pos h]
 ·
  rw [decide_eq_false h, if_neg (by decide), if_neg h]
def part (l : List Int) (K i : Nat) : Nat := value ((l.take K).drop i)
theorem part_step {l : List Int} {K i : Nat} (hK : K ≤ l.length) (hi : i < K) : part l K i = (l[i]'(by omega) % 128).toNat + 128 * part l K (i + 1) := by
 unfold part
 have hil : i < (l.take K).length := by rw [List.length_take]; omega
 rw [List.drop_eq_getElem_cons hil, value, List.getElem_take]
theorem low_or (s : BitVec 64) (c : Int) : ((s <<< 7) ||| low c).toNat = (128 * s.toNat + (c % 128).toNat) % 2 ^ 64 := by
 have h := or_above (low c) s 7 (by omega) (by rw [low_toNat]; omega)
 rw [BitVec.or_comm, h, low_toNat]
 congr 1
 omega
theorem tmod_byte {c : Int} (h0 : 0 ≤ c) : Int.tmod c 128 = c % 128 := Int.tmod_eq_emod_of_nonneg h0
theorem refget_l0 (l : List Int) (K : Nat) (hb : Bts l) (hK : K ≤ l.length) (h10 : K ≤ 10) (i : Nat) : ∀ (k : Nat) (s : BitVec 64), i ≤ K → i + 31 < k → s.toNat = part l K i % 2 ^ 64 →
  louverref03_Get.l0 k l K s.toNat ((i : Int) - 1) = some (if form (value (l.take K) % 2 ^ 64) = l.take K then (((value (l.take K) % 2 ^ 64 : Nat) : Int), (K : Int), 0) else (0, 0, 31)) := by
 induction i with
 | zero =>
  intro k s hi hk hs
  obtain ⟨k, rfl⟩ : ∃ m, k = m + 1 := ⟨k - 1, by omega⟩
  have e : part l K 0 = value (l.take K) := rfl
  rw [hs, e]
  exact refget_end k l K _ hK h10 (Nat.mod_lt _ (by decide)) (by omega)
 | succ i ih =>
  intro k s hi hk hs
  obtain ⟨k, rfl⟩ : ∃ m, k = m + 1 := ⟨k - 1, by omega⟩
  have hil : i < l.length := by omega
  have hx := hb.get hil
  have ei : (((i + 1 : Nat) : Int) - 1) = (i : Int) := by omega
  rw [louverref03_Get.l0, ei, if_pos (by omega), if_pos (by omega), if_pos (by omega), rd_get hil, tmod_byte hx.1]
  have e1 : IntKind.u64.wrap (l[i] % 128) = ((low l[i]).toNat : Int) := by
   rw [u64_small (by omega) (by omega), low_toNat]
   omega
  have e2 : IntKind.u64.wrap ((s.toNat : Int) * 128) = ((s <<< 7).toNat : Int) := by
   have := u64_mul s 128#64
   have e3 : ((128#64).toNat : Int) = 128 := rfl
   rw [e3] at this
   rw [this, BitVec.shiftLeft_eq_mul_twoPow]
   rfl
  have hw : wrap64 ((i : Int) - 1) = (i : Int) - 1 := by unfold wrap64; omega
  rw [e1, e2, or_u64, hw]
  refine ih k _ (by omega) (by omega) ?_
  rw [low_or, part_step hK (by omega), hs]
  omega
def getU (l : List Int) : Int × Int × Int :=
 if (grs l 0).2 = 0 then
  (if form (value (l.take (grs l 0).1.toNat) % 2 ^ 64) = l.take (grs l 0).1.toNat then (((value (l.take (grs l 0).1.toNat) % 2 ^ 64 : Nat) : Int), (grs l 0).1, 0) else (0, 0, 31))
 else (0, 0, (grs l 0).2)
theorem Get_f (k : Nat) (l : List Int) (hb : Bts l) (hl : l.length < 9223372036854775807) (hk : l.length + 40 < k) : leb_Get.f k l = some (getU l) := by
 unfold leb_Get.f getU
 rw [groups_f k l hl (by omega), Option.bind_some]
 by_cases h : (grs l 0).2 = 0
 ·
  rw [if_pos h, if_pos h]
  obtain ⟨j, h1, h2, h3, -, -⟩ := grs_spec l 0 (grs l 0).1 (by rw [← h]) (by omega)
  obtain ⟨K, hK⟩ : ∃ K : Nat, (grs l 0).1 = (K : Int) := ⟨j + 1, by omega⟩
  rw [hK, Int.toNat_natCast]
  exact get_l0 l K hb (by omega) (by omega) K k 0 0#64 (by omega) (by omega) (by simp [value])
 ·
  rw [if_neg h, if_neg h]
theorem refGet_f (k : Nat) (l : List Int) (hb : Bts l) (hl : l.length < 9223372036854775807) (hk : 2 * l.length + 60 < k) : louverref03_Get.f k l = some (getU l) := by
 unfold louverref03_Get.f getU
 rw [size_f k l hl (by omega), Option.bind_some]
 by_cases h : (grs l 0).2 = 0
 ·
  rw [if_pos h, if_pos h]
  obtain ⟨j, h1, h2, h3, -, -⟩ := grs_spec l 0 (grs l 0).1 (by rw [← h]) (by omega)
  obtain ⟨K, hK⟩ : ∃ K : Nat, (grs l 0).1 = (K : Int) := ⟨j + 1, by omega⟩
  have hw : wrap64 ((K : Int) - 1) = (K : Int) - 1 := by unfold wrap64; omega
  rw [hK, Int.toNat_natCast, hw]
  exact refget_l0 l K hb (by omega) (by omega) K k 0#64 (by omega) (by omega) (by
   unfold part
   rw [List.drop_of_length_le (by rw [List.length_take]; omega)]
   simp [value])
 ·
  rw [if_neg h, if_neg h]
end Go.Proofs.YtgpdaihfjnihhaaDoor.LebPure

namespace Go.Proofs.YtgpdaihfjnihhaaDoor.LebPure
open Go.RowKit Go.Proofs.YtgpdaihfjnihhaaDoor.PJ Go.Proofs.YtgpdaihfjnihhaaDoorW.PrintWords Go.Proofs.YtgpdaihfjnihhaaDoorW.PrintLast Go.Proofs.YtgpdaihfjnihhaaDoorW.PrintMore Go.Proofs.YtgpdaihfjnihhaaDoor.B64 Go.Proofs.YtgpdaihfjnihhaaDoor.LebForm
theorem toInt_of_mod (s : BitVec 64) (z : Int) (h : (s.toNat : Int) = z % 18446744073709551616) : s.toInt = wrap64 z := by
 rw [← wrap_toNat, h]
 unfold wrap64
 omega
def neg? (p : List Int) : Bool := decide (p.getLastD 0 % 128 ≥ 64)
def sval (p : List Int) : Int := wrap64 ((value p : Int) - (if neg? p = true then 128 ^ p.length else 0))
theorem last_take {l : List Int} {K : Nat} (h1 : 1 ≤ K) (hK : K ≤ l.length) : (l.take K).getLastD 0 = l[K - 1]'(by omega) := by
 obtain ⟨j, rfl⟩ : ∃ j, K = j + 1 := ⟨K - 1, by omega⟩
 have hj : j < l.length := by omega
 rw [take_snoc hj, List.getLastD_eq_getLast?, List.getLast?_append]
 rfl
theorem sval_range (p : List Int) : -9223372036854775808 ≤ sval p ∧ sval p ≤ 9223372036854775807 := by
 unfold sval wrap64
 omega
theorem sget_j2 (k : Nat) (l : List Int) (K : Nat) (n : Int) (hb : Bts l) (hK : K ≤ l.length) (hn : -9223372036854775808 ≤ n ∧ n ≤ 9223372036854775807) (hk : 10 ≤ k) :
  leb_GetSigned.j2 (k + 1) l K n = some (if sform n = l.take K then (n, (K : Int), 0) else (0, 0, 31)) := by
 rw [leb_GetSigned.j2, PutSigned_f k [] n hn (by simp) hk, Option.bind_some, if_pos (by omega), if_pos (by omega), Int.toNat_natCast, List.nil_append,
  Equal_f _ _ (sform_byte n) (hb.take K), Option.bind_some]
 by_cases h : sform n = l.take K
 ·
  rw [decide_eq_true h, if_pos rfl, if_pos h]
 ·
  rw [decide_eq_false h, if_neg (by decide), if_neg h]
theorem sget_end (k : Nat) (l : List Int) (K : Nat) (hb : Bts l) (h1 : 1 ≤ K) (hK : K ≤ l.length) (h10 : K ≤ 10) (s : BitVec 64) (hs : s.toNat = value (l.take K) % 2 ^ 64) (hk : 10 ≤ k) :
  leb_GetSigned.l0 (k + 3) l K s.toInt K K = some (if sform (sval (l.take K)) = l.take K then (sval (l.take K), (K : Int), 0) else (0, 0, 31)) := by
 have hil : K - 1 < l.length := by omega
 have hx := hb.get hil
 have hlast := last_take h1 hK
 have hlen : (l.take K).length = K := by rw [List.length_take]; omega
 have hneg : neg? (l.take K) = decide (l[K - 1] % 128 ≥ 64) := by unfold neg?; rw [hlast]
 have hw : wrap64 ((K : Int) - 1) = ((K - 1 : Nat) : Int) := by
  rw [wrap_small (by omega) (by omega)]
  omega
 have plain : ∀ (h : neg? (l.take K) = false ∨ K = 10), s.toInt = sval (l.take K) := by
  intro h
  refine (toInt_of_mod s (value (l.take K)) (by rw [hs]; omega)).trans ?_
  unfold sval
  rcases h with h | h
  ·
   rw [h, if_neg (by decide)]
   simp
  ·
   rw [hlen]
   split
   ·
    rw [h]
    unfold wrap64
    omega
   ·
    simp
 rw [leb_GetSigned.l0, if_neg (by omega)]
 by_cases h9 : K < 10
 ·
  rw [if_pos (by omega), hw, if_pos (by omega), if_pos (by omega), rd_get hil, and64 hx.1 hx.2, ← hneg]
  cases hn : neg? (l.take K) with
  | false =>
   rw [leb_GetSigned.j1, if_neg (by decide), plain (.inl hn)]
   exact sget_j2 (k) l K _ hb hK (sval_range _) hk
  | true =>
   rw [leb_GetSigned.j1, if_pos rfl, wrap_small (by omega) (by omega), if_pos (by omega)]
   have em : (-1 : Int) = (BitVec.allOnes 64).toInt := by decide
   rw [em, shl_i64 _ _ (by omega), or_i64]
   have ej : (7 * (K : Int)).toNat = 7 * K := by omega
   rw [ej]
   have hvl : value (l.take K) < 2 ^ (7 * K) := by
    have := value_lt (l.take K)
    rw [hlen, pow128] at this
    exact this
   have hle : 2 ^ (7 * K) ≤ 2 ^ 63 := Nat.pow_le_pow_right (by omega) (by omega)
   have hs' : s.toNat = value (l.take K) := by rw [hs, Nat.mod_eq_of_lt (by omega)]
   have ho := or_above s (BitVec.allOnes 64) (7 * K) (by omega) (by rw [hs']; exact hvl)
   have eall : (BitVec.allOnes 64).toNat = 18446744073709551615 := by decide
   rw [eall, hs'] at ho
   have e : (s ||| BitVec.allOnes 64 <<< (7 * K)).toInt = sval (l.take K) := by
    refine (toInt_of_mod _ ((value (l.take K) : Int) - 128 ^ K) ?_).trans ?_
    ·
     rw [ho]
     have hp : (128 : Int) ^ K = ((2 ^ (7 * K) : Nat) : Int) := by rw [← pow128]; simp
     rw [hp]
     omega
    ·
     unfold sval
     rw [hn, if_pos rfl, hlen]
   rw [e]
   exact sget_j2 k l K _ hb hK (sval_range _) hk
 ·
  rw [if_neg (by omega), leb_GetSigned.j1, if_neg (by decide), plain (.inr (by omega))]
  exact sget_j2 k l K _ hb hK (sval_range _) hk
theorem sget_l0 (l : List Int) (K : Nat) (hb : Bts l) (h1 : 1 ≤ K) (hK : K ≤ l.length) (h10 : K ≤ 10) (d : Nat) : ∀ (k i : Nat) (s : BitVec 64), i + d = K → d + 13 < k → s.toNat = value (l.take i) % 2 ^ 64 →
  leb_GetSigned.l0 k l K s.toInt K i = some (if sform (sval (l.take K)) = l.take K then (sval (l.take K), (K : Int), 0) else (0, 0, 31)) := by
 induction d with
 | zero =>
  intro k i s hi hk hs
  obtain ⟨k, rfl⟩ : ∃ m, k = m + 3 := ⟨k - 3, by omega⟩
  obtain rfl : i = K := by omega
  exact sget_end k l i hb h1 hK h10 s hs (by omega)
 | succ d ih =>
  intro k i s hi hk hs
  obtain ⟨k, rfl⟩ : ∃ m, k = m + 1 := ⟨k - 1, by omega⟩
  have hil : i < l.length := by omega
  have hx := hb.get hil
  rw [leb_GetSigned.l0, if_pos (by omega), if_pos (by omega), if_pos (by omega), rd_get hil, and127 hx.1 hx.2, wrap_small (i := 7 * (i : Int)) (by omega) (by omega), if_pos (by omega), wrap_small (i := (i : Int) + 1) (by omega) (by omega)]
  have e1 : wrap64 (l[i] % 128) = (low l[i]).toInt := by
   rw [← wrap_toNat, low_toNat]
   congr 1
   omega
  rw [e1, shl_i64 _ _ (by omega), or_i64]
  refine ih k (i + 1) _ (by omega) (by omega) ?_
  have hvl : value (l.take i) < 2 ^ (7 * i) := by
   have := value_lt (l.take i)
   rw [List.length_take, Nat.min_eq_left (by omega), pow128] at this
   exact this
  have hle : 2 ^ (7 * i) ≤ 2 ^ 64 := Nat.pow_le_pow_right (by omega) (by omega)
  have hs' : s.toNat = value (l.take i) := by rw [hs, Nat.mod_eq_of_lt (by omega)]
  have ej : (7 * (i : Int)).toNat = 7 * i := by omega
  rw [ej, or_above _ _ _ (by omega) (by rw [hs']; exact hvl), value_take_succ hil, hs', low_toNat, pow128]
theorem srefget_end (k : Nat) (l : List Int) (K : Nat) (n : Int) (hK : K ≤ l.length) (h10 : K ≤ 10) (hn : -9223372036854775808 ≤ n ∧ n ≤ 9223372036854775807) (hk : 30 ≤ k) :
  louverref03_GetSigned.l0 (k + 1) l K n (-1) = some (if sform n = l.take K then (n, (K : Int), 0) else (0, 0, 31)) := by
 have hu := slen_i64 hn
 rw [louverref03_GetSigned.l0, if_neg (by omega), refPutSigned_f k n hn hk, Option.bind_some, if_pos (by omega), if_pos (by omega), Int.toNat_natCast,
  same_f _ _ _ (by rw [sform_length]; omega) (by rw [sform_length]; omega), Option.bind_some]
 by_cases h : sform n = l.take K
 ·
  rw [decide_eq_true h, if_pos rfl, if_pos h]
 ·
  rw [decide_eq_false h, if_neg (by decide), if_neg h]
theorem srefget_l0 (l : List Int) (K : Nat) (hb : Bts l) (hK : K ≤ l.length) (h10 : K ≤ 10) (i : Nat) : ∀ (k : Nat) (s : BitVec 64), i ≤ K → i + 31 < k →
  (s.toNat : Int) = ((part l K i : Int) - (if neg? (l.take K) = true then 128 ^ (K - i) else 0)) % 18446744073709551616 →
  louverref03_GetSigned.l0 k l K s.toInt ((i : Int) - 1) = some (if sform (sval (l.take K)) = l.take K then (sval (l.take K), (K : Int), 0) else (0, 0, 31)) := by
 have hlen : (l.take K).length = K := by rw [List.length_take]; omega
 induction i with
 | zero =>
  intro k s hi hk hs
  obtain ⟨k, rfl⟩ : ∃ m, k = m + 1 := ⟨k - 1, by omega⟩
  have e : part l K 0 = value (l.take K) := rfl
  have hv := toInt_of_mod s _ hs
  rw [hv, e, Nat.sub_zero]
  have es : wrap64 ((value (l.take K) : Int) - (if neg? (l.take K) = true then 128 ^ K else 0)) = sval (l.take K) := by unfold sval; rw [hlen]
  rw [es]
  exact srefget_end k l K _ hK h10 (sval_range _) (by omega)
 | succ i ih =>
  intro k s hi hk hs
  obtain ⟨k, rfl⟩ : ∃ m, k = m + 1 := ⟨k - 1, by omega⟩
  have hil : i < l.length := by omega
  have hx := hb.get hil
  have ei : (((i + 1 : Nat) : Int) - 1) = (i : Int) := by omega
  rw [louverref03_GetSigned.l0, ei, if_pos (by omega), if_pos (by omega), if_pos (by omega), rd_get hil, tmod_byte hx.1]
  have e1 : wrap64 (l[i] % 128) = (low l[i]).toInt := by
   rw [← wrap_toNat, low_toNat]
   congr 1
   omega
  have e2 : wrap64 (s.toInt * 128) = (s <<< 7).toInt := by
   have := wrap_mul s 128#64
   have e3 : (128#64).toInt = 128 := by decide
   rw [e3] at this
   rw [this, BitVec.shiftLeft_eq_mul_twoPow]
   rfl
  have hw : wrap64 ((i : Int) - 1) = (i : Int) - 1 := by unfold wrap64; omega
  rw [e1, e2, or_i64, hw]
  refine ih k _ (by omega) (by omega) ?_
  rw [low_or, part_step hK (by omega)]
  have ep : (128 : Int) ^ (K - i) = 128 ^ (K - (i + 1)) * 128 := by
   rw [← Int.pow_succ]
   congr 1
   omega
  rw [ep]
  split at hs
  ·
   rename_i hn
   rw [if_pos hn]
   omega
  ·
   rename_i hn
   rw [if_neg hn]
   omega
def getS (l : List Int) : Int × Int × Int :=
 if (grs l 0).2 = 0 then
  (if sform (sval (l.take (grs l 0).1.toNat)) = l.take (grs l 0).1.toNat then (sval (l.take (grs l 0).1.toNat), (grs l 0).1, 0) else (0, 0, 31))
 else (0, 0, (grs l 0).2)
theorem GetSigned_f (k : Nat) (l : List Int) (hb : Bts l) (hl : l.length < 9223372036854775807) (hk : l.length + 40 < k) : leb_GetSigned.f k l = some (getS l) := by
 unfold leb_GetSigned.f getS
 rw [groups_f k l hl (by omega), Option.bind_some]
 by_cases h : (grs l 0).2 = 0
 ·
  rw [if_pos h, if_pos h]
  obtain ⟨j, h1, h2, h3, -, -⟩ := grs_spec l 0 (grs l 0).1 (by rw [← h]) (by omega)
  obtain ⟨K, hK⟩ : ∃ K : Nat, (grs l 0).1 = (K : Int) := ⟨j + 1, by omega⟩
  rw [hK, Int.toNat_natCast]
  exact sget_l0 l K hb (by omega) (by omega) (by omega) K k 0 0#64 (by omega) (by omega) (by simp [value])
 ·
  rw [if_neg h, if_neg h]
theorem refGetSigned_f (k : Nat) (l : List Int) (hb : Bts l) (hl : l.length < 9223372036854775807) (hk : 2 * l.length + 60 < k) : louverref03_GetSigned.f k l = some (getS l) := by
 unfold louverref03_GetSigned.f getS
 rw [size_f k l hl (by omega), Option.bind_some]
 by_cases h : (grs l 0).2 = 0
 ·
  rw [if_pos h, if_pos h]
  obtain ⟨j, h1, h2, h3, -, -⟩ := grs_spec l 0 (grs l 0).1 (by rw [← h]) (by omega)
  obtain ⟨K, hK⟩ : ∃ K : Nat, (grs l 0).1 = (K : Int) := ⟨j + 1, by omega⟩
  have hw : wrap64 ((K : Int) - 1) = ((K - 1 : Nat) : Int) := by
   rw [wrap_small (by omega) (by omega)]
   omega
  have hil : K - 1 < l.length := by omega
  have hx := hb.get hil
  have hneg : neg? (l.take K) = decide (l[K - 1] % 128 ≥ 64) := by unfold neg?; rw [last_take (by omega) (by omega)]
  obtain ⟨k, rfl⟩ : ∃ m, k = m + 1 := ⟨k - 1, by omega⟩
  have hpart : part l K K = 0 := by
   unfold part
   rw [List.drop_of_length_le (by rw [List.length_take]; omega)]
   rfl
  have ek : (((K - 1 : Nat) : Int)) = (K : Int) - 1 := by omega
  rw [hK, Int.toNat_natCast, hw, if_pos (by omega), if_pos (by omega), rd_get hil, tmod_byte hx.1]
  by_cases hs : l[K - 1] % 128 ≥ 64
  ·
   rw [if_pos hs, louverref03_GetSigned.j0, hw, ek]
   have em : (-1 : Int) = (BitVec.allOnes 64).toInt := by decide
   rw [em]
   refine srefget_l0 l K hb (by omega) (by omega) K k _ (by omega) (by omega) ?_
   rw [hneg, decide_eq_true hs, if_pos rfl, hpart, Nat.sub_self]
   decide
  ·
   rw [if_neg hs, louverref03_GetSigned.j0, hw, ek]
   have em : (0 : Int) = (0#64).toInt := by decide
   rw [em]
   refine srefget_l0 l K hb (by omega) (by omega) K k _ (by omega) (by omega) ?_
   rw [hneg, decide_eq_false hs, if_neg (by decide), hpart]
   rfl
 ·
  rw [if_neg h, if_neg h]
theorem getU_back (l : List Int) (h : (getU l).2.2 = 0) : ∃ K u : Nat, getU l = ((u : Int), (K : Int), 0) ∧ u < 2 ^ 64 ∧ form u = l.take K ∧ K ≤ l.length := by
 unfold getU at h ⊢
 by_cases h0 : (grs l 0).2 = 0
 ·
  obtain ⟨j, h1, h2, h3, -, -⟩ := grs_spec l 0 (grs l 0).1 (by rw [← h0]) (by omega)
  obtain ⟨K, hK⟩ : ∃ K : Nat, (grs l 0).1 = (K : Int) := ⟨j + 1, by omega⟩
  rw [if_pos h0, hK, Int.toNat_natCast] at h
  rw [if_pos h0, hK, Int.toNat_natCast]
  by_cases hf : form (value (l.take K) % 2 ^ 64) = l.take K
  ·
   rw [if_pos hf]
   exact ⟨K, _, rfl, Nat.mod_lt _ (by decide), hf, by omega⟩
  ·
   rw [if_neg hf] at h
   exact absurd h (by decide)
 ·
  rw [if_neg h0] at h
  exact absurd h h0
theorem getS_back (l : List Int) (h : (getS l).2.2 = 0) : ∃ (K : Nat) (u : Int), getS l = (u, (K : Int), 0) ∧ (-9223372036854775808 ≤ u ∧ u ≤ 9223372036854775807) ∧ sform u = l.take K ∧ K ≤ l.length := by
 unfold getS at h ⊢
 by_cases h0 : (grs l 0).2 = 0
 ·
  obtain ⟨j, h1, h2, h3, -, -⟩ := grs_spec l 0 (grs l 0).1 (by rw [← h0]) (by omega)
  obtain ⟨K, hK⟩ : ∃ K : Nat, (grs l 0).1 = (K : Int) := ⟨j + 1, by omega⟩
  rw [if_pos h0, hK, Int.toNat_natCast] at h
  rw [if_pos h0, hK, Int.toNat_natCast]
  by_cases hf : sform (sval (l.take K)) = l.take K
  ·
   rw [if_pos hf]
   exact ⟨K, _, rfl, sval_range _, hf, by omega⟩
  ·
   rw [if_neg hf] at h
   exact absurd h (by decide)
 ·
  rw [if_neg h0] at h
  exact absurd h h0
end Go.Proofs.YtgpdaihfjnihhaaDoor.LebPure
