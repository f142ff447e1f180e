/- What the program's package leb and the document's answer for it come to, as the print tells them, in forms and groups. Each lemma bears its own bounds (lists shorter than 2^47 less ten, numbers of 64 bits). -/
import Derived.Test.YtgpdaihfjnihhaaDoorPJx0
import Derived.Test.YtgpdaihfjnihhaaDoorPJx2
import Derived.Test.YtgpdaihfjnihhaaDoorPJx3
import Derived.Test.YtgpdaihfjnihhaaDoorPJx4
import Derived.Test.YtgpdaihfjnihhaaDoorPJx6
import Derived.Test.YtgpdaihfjnihhaaDoorPJx8
import Derived.Test.YtgpdaihfjnihhaaDoorLebForm
import Derived.Laws.BitsAllLaws
namespace Go.Proofs.YtgpdaihfjnihhaaDoor.LebPure
open Go.RowKit Go.Proofs.YtgpdaihfjnihhaaDoor.PJ Go.Proofs.YtgpdaihfjnihhaaDoorW.PrintWords Go.Proofs.YtgpdaihfjnihhaaDoorW.PrintLast Go.Proofs.YtgpdaihfjnihhaaDoorW.PrintMore Go.Proofs.YtgpdaihfjnihhaaDoor.B64 Go.Proofs.YtgpdaihfjnihhaaDoor.LebForm

theorem wrap_small {i : Int} (h0 : 0 ≤ i) (h : i ≤ 9223372036854775807) : wrap64 i = i := by
  unfold wrap64
  omega
theorem u64_small {i : Int} (h0 : 0 ≤ i) (h : i ≤ 18446744073709551615) : IntKind.u64.wrap i = i := by
  rw [u64_wrap, BitVec.toNat_ofInt]
  omega
/-- Lists of bytes. -/
def Bts (l : List Int) : Prop := ∀ x ∈ l, 0 ≤ x ∧ x ≤ 255
theorem Bts.take {l : List Int} (h : Bts l) (n : Nat) : Bts (l.take n) := fun x hx => h x (List.mem_of_mem_take hx)
theorem Bts.drop {l : List Int} (h : Bts l) (n : Nat) : Bts (l.drop n) := fun x hx => h x (List.mem_of_mem_drop hx)
theorem Bts.append {l m : List Int} (h : Bts l) (h' : Bts m) : Bts (l ++ m) := fun x hx => (List.mem_append.mp hx).elim (h x) (h' x)
theorem bts_of_wf {l : List Int} (h : ∀ x ∈ l, (Lit.int .u8 x).wf = true) : Bts l := fun x hx => wf_u8 (h x hx)
theorem Bts.get {l : List Int} (h : Bts l) {i : Nat} (hi : i < l.length) : 0 ≤ l[i] ∧ l[i] ≤ 255 := h _ (List.getElem_mem hi)
theorem rd_get {l : List Int} {i : Nat} (hi : i < l.length) : rd l i = l[i] := by
  unfold rd
  rw [Int.toNat_natCast]
  simp [List.getD, hi]

theorem and127 {x : Int} (h0 : 0 ≤ x) (h : x ≤ 255) : Go.bits .and .u8 x 127 = x % 128 := by
  obtain ⟨n, rfl⟩ := Int.eq_ofNat_of_zero_le h0
  have e := u8_and_nat n 127 (by omega) (by omega)
  have e2 : n &&& 127 = n % 2 ^ 7 := Nat.and_two_pow_sub_one_eq_mod n 7
  rw [e2] at e
  refine e.trans ?_
  omega
theorem or128 {x : Int} (h0 : 0 ≤ x) (h : x < 128) : Go.bits .or .u8 x 128 = x + 128 := by
  obtain ⟨n, rfl⟩ := Int.eq_ofNat_of_zero_le h0
  have e := u8_or_nat n 128 (by omega) (by omega)
  have e2 : n ||| 128 = 128 + n := by
    have := Nat.two_pow_add_eq_or_of_lt (i := 7) (b := n) (by omega) 1
    rw [Nat.or_comm]
    exact this.symm
  rw [e2] at e
  refine e.trans ?_
  omega
theorem and64 {x : Int} (h0 : 0 ≤ x) (h : x ≤ 255) : (Go.bits .and .u8 x 64 != 0) = decide (x % 128 ≥ 64) := by
  obtain ⟨n, rfl⟩ := Int.eq_ofNat_of_zero_le h0
  have key : ∀ n : Nat, n < 256 → (Go.bits .and .u8 (n : Int) 64 != 0) = decide ((n : Int) % 128 ≥ 64) := by decide +kernel
  exact key n (by omega)

/-! ### put -/
theorem put_l0 (d : Nat) : ∀ (k x : Nat) (out : List Int), x < 128 ^ (d + 1) → d < k → out.length + d < 140737488355328 →
    leb_put_uint64_107.l0 k x out = some (out ++ form x) := by
  induction d with
  | zero =>
    intro k x out hx hk hl
    obtain ⟨k, rfl⟩ : ∃ m, k = m + 1 := ⟨k - 1, by omega⟩
    rw [leb_put_uint64_107.l0, if_pos (by omega), if_pos (by omega), and127 (by omega) (by omega), form_small (by omega)]
    congr 3
    omega
  | succ d ih =>
    intro k x out hx hk hl
    obtain ⟨k, rfl⟩ : ∃ m, k = m + 1 := ⟨k - 1, by omega⟩
    by_cases h : x < 128
    · rw [leb_put_uint64_107.l0, if_pos (by omega), if_pos (by omega), and127 (by omega) (by omega), form_small h]
      congr 3
      omega
    · rw [leb_put_uint64_107.l0, if_neg (by omega), if_pos (by omega), and127 (by omega) (by omega), or128 (by omega) (by omega)]
      have e : ((x : Int) / 128) = ((x / 128 : Nat) : Int) := by omega
      rw [e, ih k (x / 128) _ (by rw [Nat.pow_succ] at hx; exact Nat.div_lt_of_lt_mul (by rw [Nat.mul_comm]; exact hx)) (by omega) (by simp; omega), form_big h, List.append_assoc]
      congr 3
      simp only [List.singleton_append]
      congr 1
      omega
theorem Put_f (k : Nat) (l : List Int) (n : Nat) (hn : n < 2 ^ 64) (hl : l.length + 10 < 140737488355328) (hk : 10 ≤ k) : leb_Put.f k l n = some (l ++ form n) := by
  unfold leb_Put.f leb_put_uint64_107.f slices_Clone_byte_byte.f
  rw [if_pos (by omega), Option.bind_some, put_l0 9 k n l (Nat.lt_trans hn (by decide)) (by omega) (by omega), Option.bind_some]
theorem sput_l0 (d : Nat) : ∀ (k : Nat) (x : Int) (out : List Int), -(64 * 128 ^ d) ≤ x → x < 64 * 128 ^ d → d < k → out.length + d < 140737488355328 →
    leb_put_int64_105.l0 k x out = some (out ++ sform x) := by
  induction d with
  | zero =>
    intro k x out h0 h1 hk hl
    obtain ⟨k, rfl⟩ : ∃ m, k = m + 1 := ⟨k - 1, by omega⟩
    rw [leb_put_int64_105.l0, if_pos (by omega), if_pos (by omega), if_pos (by omega), and127 (by omega) (by omega), sform_small (by omega)]
    congr 3
    omega
  | succ d ih =>
    intro k x out h0 h1 hk hl
    obtain ⟨k, rfl⟩ : ∃ m, k = m + 1 := ⟨k - 1, by omega⟩
    by_cases h : -64 ≤ x ∧ x < 64
    · rw [leb_put_int64_105.l0, if_pos (by omega), if_pos (by omega), if_pos (by omega), and127 (by omega) (by omega), sform_small h]
      congr 3
      omega
    · have hs : leb_put_int64_105.l0 (k + 1) x out = leb_put_int64_105.l0 k (x / 128) (out ++ [Go.bits .or .u8 (Go.bits .and .u8 (x % 256) 127) 128]) := by
        rw [leb_put_int64_105.l0]
        by_cases h2 : x ≥ -64
        · rw [if_pos h2, if_neg (by omega), if_pos (by omega)]
        · rw [if_neg h2, if_pos (by omega)]
      rw [Int.pow_succ] at h0 h1
      rw [hs, and127 (by omega) (by omega), or128 (by omega) (by omega), ih k (x / 128) _ (by omega) (by omega) (by omega) (by simp; omega), sform_big h, List.append_assoc]
      congr 3
      simp only [List.singleton_append]
      congr 1
      omega
theorem PutSigned_f (k : Nat) (l : List Int) (n : Int) (hn : -9223372036854775808 ≤ n ∧ n ≤ 9223372036854775807) (hl : l.length + 10 < 140737488355328) (hk : 10 ≤ k) : leb_PutSigned.f k l n = some (l ++ sform n) := by
  unfold leb_PutSigned.f leb_put_int64_105.f slices_Clone_byte_byte.f
  rw [if_pos (by omega), Option.bind_some, sput_l0 9 k n l (by omega) (by omega) (by omega) (by omega), Option.bind_some]
theorem seven (i : Nat) (hi : i ≤ 20) : IntKind.u64.wrap (wrap64 (7 * (i : Int))) = ((7 * i : Nat) : Int) := by
  rw [wrap_small (by omega) (by omega), u64_small (by omega) (by omega)]
  omega
theorem pow128 (i : Nat) : 128 ^ i = 2 ^ (7 * i) := by rw [Nat.pow_mul]
theorem shr_group (n : Nat) (i : Nat) (hi : i ≤ 9) : shr .u64 (n : Int) ((7 * i : Nat) : Int) = ((n / 128 ^ i : Nat) : Int) := by
  unfold shr
  have hm : min (((7 * i : Nat) : Int)).toNat IntKind.u64.bits = 7 * i := by
    show min (((7 * i : Nat) : Int)).toNat 64 = 7 * i
    omega
  rw [hm, pow128]
  simp
theorem drop_get {l : List Int} {i : Nat} {x : Int} (h : l[i]? = some x) : l.drop i = x :: l.drop (i + 1) := by
  obtain ⟨hi, rfl⟩ := List.getElem?_eq_some_iff.mp h
  exact List.drop_eq_getElem_cons hi
theorem ref_l1 (n : Nat) (hn : n < 2 ^ 64) (d : Nat) : ∀ (k i : Nat) (out : List Int), i + d = ulen n → d < k → out.length + d < 140737488355328 →
    louverref03_Put.l1 k n (ulen n : Int) out i = some (out ++ (form n).drop i) := by
  have h10 := ulen_u64 hn
  induction d with
  | zero =>
    intro k i out hi hk hl
    obtain ⟨k, rfl⟩ : ∃ m, k = m + 1 := ⟨k - 1, by omega⟩
    rw [louverref03_Put.l1, if_neg (by omega), List.drop_of_length_le (by rw [form_length]; omega), List.append_nil]
  | succ d ih =>
    intro k i out hi hk hl
    obtain ⟨k, rfl⟩ : ∃ m, k = m + 1 := ⟨k - 1, by omega⟩
    rw [louverref03_Put.l1, if_pos (by omega), seven i (by omega), if_pos (by omega), wrap_small (by omega) (by omega), shr_group n i (by omega)]
    have hg := drop_get (form_get n i (by omega))
    by_cases h : i + 1 < ulen n
    · rw [if_pos (by omega), if_pos (by omega)]
      have := ih k (i + 1) (out ++ [((n / 128 ^ i : Nat) : Int) % 128 + 128]) (by omega) (by omega) (by simp; omega)
      refine this.trans ?_
      rw [hg, if_pos h, List.append_assoc]
      congr 3
    · rw [if_neg (by omega), if_pos (by omega)]
      have := ih k (i + 1) (out ++ [((n / 128 ^ i : Nat) : Int) % 128]) (by omega) (by omega) (by simp; omega)
      refine this.trans ?_
      rw [hg, if_neg h, List.append_assoc]
      congr 3
theorem div_zero_of (n : Nat) (i : Nat) (h : n < 128 ^ i) : n / 128 ^ i = 0 := Nat.div_eq_of_lt h
theorem ref_l0 (n : Nat) (hn : n < 2 ^ 64) (d : Nat) : ∀ (k g : Nat), g + d = ulen n → 1 ≤ g → d + 15 < k →
    louverref03_Put.l0 k n g = some (form n) := by
  have h10 := ulen_u64 hn
  have hs := ulen_spec n
  have fin : ∀ k, 12 < k → louverref03_Put.j1 k n (ulen n : Int) = some (form n) := by
    intro k hk
    obtain ⟨k, rfl⟩ : ∃ m, k = m + 1 := ⟨k - 1, by omega⟩
    rw [louverref03_Put.j1]
    have := ref_l1 n hn (ulen n) k 0 [] (by omega) (by omega) (by simp; omega)
    simpa using this
  induction d with
  | zero =>
    intro k g hg h1 hk
    obtain ⟨k, rfl⟩ : ∃ m, k = m + 1 := ⟨k - 1, by omega⟩
    obtain rfl : g = ulen n := by omega
    rw [louverref03_Put.l0]
    by_cases h : ulen n < 10
    · rw [if_pos (by omega), seven _ (by omega), if_pos (by omega), shr_group n _ (by omega), div_zero_of _ _ hs.1, if_pos (by rfl)]
      exact fin k (by omega)
    · rw [if_neg (by omega)]
      exact fin k (by omega)
  | succ d ih =>
    intro k g hg h1 hk
    obtain ⟨k, rfl⟩ : ∃ m, k = m + 1 := ⟨k - 1, by omega⟩
    have hne : n / 128 ^ g ≠ 0 := by
      have h2 := hs.2 (by omega)
      have h3 : 128 ^ g ≤ 128 ^ (ulen n - 1) := Nat.pow_le_pow_right (by omega) (by omega)
      have h4 : 1 ≤ n / 128 ^ g := (Nat.le_div_iff_mul_le (Nat.pow_pos (by omega))).mpr (by omega)
      omega
    rw [louverref03_Put.l0, if_pos (by omega), seven _ (by omega), if_pos (by omega), shr_group n _ (by omega), if_neg (by omega), wrap_small (by omega) (by omega)]
    exact ih k (g + 1) (by omega) (by omega) (by omega)
theorem refPut_f (k n : Nat) (hn : n < 2 ^ 64) (hk : 30 ≤ k) : louverref03_Put.f k n = some (form n) := by
  have := ulen_u64 hn
  have hp := ulen_pos n
  exact ref_l0 n hn (ulen n - 1) k 1 (by omega) (by omega) (by omega)

theorem shr_sgroup (n : Int) (i : Nat) (hi : i ≤ 9) : shr .i64 n ((7 * i : Nat) : Int) = n / 128 ^ i := by
  unfold shr
  have hm : min (((7 * i : Nat) : Int)).toNat IntKind.i64.bits = 7 * i := by
    show min (((7 * i : Nat) : Int)).toNat 64 = 7 * i
    omega
  rw [hm]
  congr 1
  have := pow128 i
  exact_mod_cast this.symm
theorem fits_f (n : Int) (g : Nat) (h1 : 1 ≤ g) (h9 : g ≤ 9) : louverref03_fits.f n g = some (decide (-(64 * 128 ^ (g - 1)) ≤ n ∧ n < 64 * 128 ^ (g - 1))) := by
  have hsh : shl .i64 1 (IntKind.u64.wrap (wrap64 (wrap64 (7 * (g : Int)) - 1))) = 64 * 128 ^ (g - 1) ∧ (0 : Int) ≤ IntKind.u64.wrap (wrap64 (wrap64 (7 * (g : Int)) - 1)) ∧ wrap64 (-(64 * 128 ^ (g - 1) : Int)) = -(64 * 128 ^ (g - 1)) := by
    have : g = 1 ∨ g = 2 ∨ g = 3 ∨ g = 4 ∨ g = 5 ∨ g = 6 ∨ g = 7 ∨ g = 8 ∨ g = 9 := by omega
    rcases this with rfl | rfl | rfl | rfl | rfl | rfl | rfl | rfl | rfl <;> decide +kernel
  unfold louverref03_fits.f
  rw [if_neg (by omega), if_pos hsh.2.1, hsh.1, hsh.2.2]
  by_cases h : n ≥ -(64 * 128 ^ (g - 1))
  · rw [if_pos h]
    congr 1
    by_cases h2 : n < 64 * 128 ^ (g - 1)
    · have : -(64 * 128 ^ (g - 1)) ≤ n ∧ n < 64 * 128 ^ (g - 1) := ⟨h, h2⟩
      simp only [h2, this, decide_true, and_self]
    · have : ¬ (-(64 * 128 ^ (g - 1)) ≤ n ∧ n < 64 * 128 ^ (g - 1)) := fun q => h2 q.2
      rw [decide_eq_false h2, decide_eq_false this]
  · rw [if_neg h]
    have : ¬ (-(64 * 128 ^ (g - 1)) ≤ n ∧ n < 64 * 128 ^ (g - 1)) := fun q => h q.1
    rw [decide_eq_false this]
theorem sref_l1 (n : Int) (hn : -9223372036854775808 ≤ n ∧ n ≤ 9223372036854775807) (d : Nat) : ∀ (k i : Nat) (out : List Int), i + d = slen n → d < k → out.length + d < 140737488355328 →
    louverref03_PutSigned.l1 k n (slen n : Int) out i = some (out ++ (sform n).drop i) := by
  have h10 := slen_i64 hn
  induction d with
  | zero =>
    intro k i out hi hk hl
    obtain ⟨k, rfl⟩ : ∃ m, k = m + 1 := ⟨k - 1, by omega⟩
    rw [louverref03_PutSigned.l1, if_neg (by omega), List.drop_of_length_le (by rw [sform_length]; omega), List.append_nil]
  | succ d ih =>
    intro k i out hi hk hl
    obtain ⟨k, rfl⟩ : ∃ m, k = m + 1 := ⟨k - 1, by omega⟩
    rw [louverref03_PutSigned.l1, if_pos (by omega), seven i (by omega), if_pos (by omega), wrap_small (by omega) (by omega), shr_sgroup n i (by omega), and127 (by omega) (by omega)]
    have hg := drop_get (sform_get n i (by omega))
    have e1 : n / 128 ^ i % 256 % 128 = n / 128 ^ i % 128 := by omega
    rw [e1]
    by_cases h : i + 1 < slen n
    · rw [if_pos (by omega), if_pos (by omega)]
      have := ih k (i + 1) (out ++ [(n / 128 ^ i % 128 + 128) % 256]) (by omega) (by omega) (by simp; omega)
      refine this.trans ?_
      rw [hg, if_pos h, List.append_assoc]
      congr 3
      simp only [List.singleton_append]
      congr 1
      omega
    · rw [if_neg (by omega), if_pos (by omega)]
      have := ih k (i + 1) (out ++ [n / 128 ^ i % 128]) (by omega) (by omega) (by simp; omega)
      refine this.trans ?_
      rw [hg, if_neg h, List.append_assoc]
      congr 3
      simp
theorem sref_l0 (n : Int) (hn : -9223372036854775808 ≤ n ∧ n ≤ 9223372036854775807) (d : Nat) : ∀ (k g : Nat), g + d = slen n → 1 ≤ g → d + 15 < k →
    louverref03_PutSigned.l0 k n g = some (sform n) := by
  have h10 := slen_i64 hn
  have hs := slen_spec n
  induction d with
  | zero =>
    intro k g hg h1 hk
    obtain ⟨k, rfl⟩ : ∃ m, k = m + 1 := ⟨k - 1, by omega⟩
    obtain rfl : g = slen n := by omega
    have ht : louverref03_fits.f n (slen n : Int) = some true := by
      by_cases h : slen n ≤ 9
      · rw [fits_f n _ (by omega) h, decide_eq_true hs.1]
      · unfold louverref03_fits.f
        rw [if_pos (by omega)]
    rw [louverref03_PutSigned.l0, ht, Option.bind_some, if_pos rfl]
    have := sref_l1 n hn (slen n) k 0 [] (by omega) (by omega) (by simp; omega)
    simpa using this
  | succ d ih =>
    intro k g hg h1 hk
    obtain ⟨k, rfl⟩ : ∃ m, k = m + 1 := ⟨k - 1, by omega⟩
    have hf : louverref03_fits.f n (g : Int) = some false := by
      rw [fits_f n _ (by omega) (by omega), decide_eq_false (hs.2 (g - 1) (by omega))]
    rw [louverref03_PutSigned.l0, hf, Option.bind_some, if_neg (by decide), wrap_small (by omega) (by omega)]
    exact ih k (g + 1) (by omega) (by omega) (by omega)
theorem refPutSigned_f (k : Nat) (n : Int) (hn : -9223372036854775808 ≤ n ∧ n ≤ 9223372036854775807) (hk : 30 ≤ k) : louverref03_PutSigned.f k n = some (sform n) := by
  have := slen_i64 hn
  have hp := slen_pos n
  exact sref_l0 n hn (slen n - 1) k 1 (by omega) (by omega) (by omega)

/-! ### the same bytes? -/
theorem Bytes_l0 (a b : List Int) (hab : a.length = b.length) (hl : a.length < 9223372036854775807) (d : Nat) : ∀ (k i : Nat), i + d = a.length → d < k → louverkit_Bytes.l0 k a b i = some (decide (a.drop i = b.drop i)) := by
  induction d with
  | zero =>
    intro k i hi hk
    obtain ⟨k, rfl⟩ : ∃ m, k = m + 1 := ⟨k - 1, by omega⟩
    rw [louverkit_Bytes.l0, if_neg (by omega), List.drop_of_length_le (by omega), List.drop_of_length_le (by omega)]
    simp
  | succ d ih =>
    intro k i hi hk
    obtain ⟨k, rfl⟩ : ∃ m, k = m + 1 := ⟨k - 1, by omega⟩
    have ha : i < a.length := by omega
    have hb : i < b.length := by omega
    rw [louverkit_Bytes.l0, if_pos (by omega), if_pos (by omega), if_pos (by omega), rd_get ha, rd_get hb, List.drop_eq_getElem_cons ha, List.drop_eq_getElem_cons hb, wrap_small (by omega) (by omega)]
    by_cases h : a[i] = b[i]
    · rw [if_pos h]
      refine (ih k (i + 1) (by omega) (by omega)).trans ?_
      rw [h]
      congr 1
      rw [decide_eq_decide]
      simp only [List.cons.injEq, true_and]
    · rw [if_neg h]
      congr 1
      exact (decide_eq_false (fun e => h (List.cons.inj e).1)).symm
theorem Bytes_f (k : Nat) (a b : List Int) (hl : a.length < 9223372036854775807) (hk : a.length < k) : louverkit_Bytes.f k a b = some (decide (a = b)) := by
  unfold louverkit_Bytes.f
  by_cases h : a.length = b.length
  · rw [if_pos (by omega)]
    have := Bytes_l0 a b h hl a.length k 0 (by omega) hk
    simpa using this
  · rw [if_neg (by omega)]
    have : ¬ a = b := fun e => h (by rw [e])
    simp [this]
theorem same_l0 (a b : List Int) (hab : a.length = b.length) (hl : a.length < 9223372036854775807) (d : Nat) : ∀ (k i : Nat), i + d = a.length → d < k → louverref03_same.l0 k a b i = some (decide (a.drop i = b.drop i)) := by
  induction d with
  | zero =>
    intro k i hi hk
    obtain ⟨k, rfl⟩ : ∃ m, k = m + 1 := ⟨k - 1, by omega⟩
    rw [louverref03_same.l0, if_neg (by omega), List.drop_of_length_le (by omega), List.drop_of_length_le (by omega)]
    simp
  | succ d ih =>
    intro k i hi hk
    obtain ⟨k, rfl⟩ : ∃ m, k = m + 1 := ⟨k - 1, by omega⟩
    have ha : i < a.length := by omega
    have hb : i < b.length := by omega
    rw [louverref03_same.l0, if_pos (by omega), if_pos (by omega), if_pos (by omega), rd_get ha, rd_get hb, List.drop_eq_getElem_cons ha, List.drop_eq_getElem_cons hb, wrap_small (by omega) (by omega)]
    by_cases h : a[i] = b[i]
    · rw [if_pos h]
      refine (ih k (i + 1) (by omega) (by omega)).trans ?_
      rw [h]
      congr 1
      rw [decide_eq_decide]
      simp only [List.cons.injEq, true_and]
    · rw [if_neg h]
      congr 1
      exact (decide_eq_false (fun e => h (List.cons.inj e).1)).symm
theorem same_f (k : Nat) (a b : List Int) (hl : a.length < 9223372036854775807) (hk : a.length < k) : louverref03_same.f k a b = some (decide (a = b)) := by
  unfold louverref03_same.f
  by_cases h : a.length = b.length
  · rw [if_pos (by omega)]
    have := same_l0 a b h hl a.length k 0 (by omega) hk
    simpa using this
  · rw [if_neg (by omega)]
    have : ¬ a = b := fun e => h (by rw [e])
    simp [this]

/-! ### groups -/
theorem groups_l0 (l : List Int) (hl : l.length < 9223372036854775807) (d : Nat) : ∀ (k i : Nat), i + d = l.length → d < k → leb_groups.l0 k l (l.length : Int) i = some (grs (l.drop i) i) := by
  induction d with
  | zero =>
    intro k i hi hk
    obtain ⟨k, rfl⟩ : ∃ m, k = m + 1 := ⟨k - 1, by omega⟩
    rw [leb_groups.l0, if_neg (by omega), List.drop_of_length_le (by omega), grs]
  | succ d ih =>
    intro k i hi hk
    obtain ⟨k, rfl⟩ : ∃ m, k = m + 1 := ⟨k - 1, by omega⟩
    have ha : i < l.length := by omega
    rw [leb_groups.l0, if_pos (by omega), if_pos (by omega), if_pos (by omega), rd_get ha, List.drop_eq_getElem_cons ha, grs, wrap_small (by omega) (by omega)]
    by_cases h : l[i] < 128
    · rw [if_pos h, if_pos h]
    · rw [if_neg h, if_neg h]
      by_cases h9 : i = 9
      · rw [if_pos (by omega), if_pos h9]
      · rw [if_neg (by omega), if_neg h9]
        exact ih k (i + 1) (by omega) (by omega)
theorem groups_f (k : Nat) (l : List Int) (hl : l.length < 9223372036854775807) (hk : l.length < k) : leb_groups.f k l = some (grs l 0) := by
  unfold leb_groups.f
  have := groups_l0 l hl l.length k 0 (by omega) hk
  simpa using this
theorem size_l0 (l : List Int) (hl : l.length < 9223372036854775807) (d : Nat) : ∀ (k i : Nat), i + d = l.length → 2 * d + 1 < k → louverref03_size.l0 k l i = some (grs (l.drop i) i) := by
  induction d with
  | zero =>
    intro k i hi hk
    obtain ⟨k, rfl⟩ : ∃ m, k = m + 2 := ⟨k - 2, by omega⟩
    rw [louverref03_size.l0, if_neg (by omega), louverref03_size.j1, if_neg (by decide), if_pos (by omega), List.drop_of_length_le (by omega), grs]
  | succ d ih =>
    intro k i hi hk
    obtain ⟨k, rfl⟩ : ∃ m, k = m + 2 := ⟨k - 2, by omega⟩
    have ha : i < l.length := by omega
    rw [louverref03_size.l0, if_pos (by omega), if_pos (by omega), louverref03_size.j1, rd_get ha, List.drop_eq_getElem_cons ha, grs, wrap_small (by omega) (by omega)]
    by_cases h : l[i] < 128
    · rw [if_neg (by simp; omega), if_neg (by omega), if_pos h]
    · rw [if_pos (by simp; omega), if_neg h]
      by_cases h9 : i = 9
      · rw [if_pos (by omega), if_pos h9]
      · rw [if_neg (by omega), if_neg h9]
        exact ih k (i + 1) (by omega) (by omega)
theorem size_f (k : Nat) (l : List Int) (hl : l.length < 9223372036854775807) (hk : 2 * l.length + 1 < k) : louverref03_size.f k l = some (grs l 0) := by
  unfold louverref03_size.f
  have := size_l0 l hl l.length k 0 (by omega) hk
  simpa using this
end Go.Proofs.YtgpdaihfjnihhaaDoor.LebPure
