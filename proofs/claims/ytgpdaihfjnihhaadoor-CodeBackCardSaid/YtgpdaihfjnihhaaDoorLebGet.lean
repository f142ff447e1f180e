/- Reading a number at the head of bytes: the program's Get and GetSigned, and the document's, come to one answer; what is put is got. Lists of bytes, shorter than 2^47. -/
import Derived.Test.YtgpdaihfjnihhaaDoorPJx4
import Derived.Test.YtgpdaihfjnihhaaDoorPJx6
import Derived.Test.YtgpdaihfjnihhaaDoorPJx7
import Derived.Test.YtgpdaihfjnihhaaDoorLebPure
import Derived.Lib.Bytes
namespace Go.Proofs.YtgpdaihfjnihhaaDoor.LebPure
open Go.RowKit Go.Proofs.YtgpdaihfjnihhaaDoor.PJ Go.Proofs.YtgpdaihfjnihhaaDoorW.PrintWords Go.Proofs.YtgpdaihfjnihhaaDoorW.PrintLast Go.Proofs.YtgpdaihfjnihhaaDoorW.PrintMore Go.Proofs.YtgpdaihfjnihhaaDoor.B64 Go.Proofs.YtgpdaihfjnihhaaDoor.LebForm

theorem Equal_f (a b : List Int) (ha : Bts a) (hb : Bts b) : bytes_Equal.f a b = some (decide (a = b)) := by
  unfold bytes_Equal.f
  congr 1
  have inj : ∀ a b : List Int, Bts a → Bts b → (strOfNums a).toList = (strOfNums b).toList → a = b := by
    intro a
    induction a with
    | nil =>
      intro b _ _ h
      rw [Lib.strOfNums_toList, Lib.strOfNums_toList] at h
      cases b with
      | nil => rfl
      | cons y t => simp [Lib.bytesOf] at h
    | cons x s ih =>
      intro b ha hb h
      rw [Lib.strOfNums_toList, Lib.strOfNums_toList] at h
      cases b with
      | nil => simp [Lib.bytesOf] at h
      | cons y t =>
        simp only [Lib.bytesOf, List.map_cons, List.cons.injEq] at h
        have hx := ha x List.mem_cons_self
        have hy := hb y List.mem_cons_self
        have e : x = y := by
          have := congrArg UInt8.toNat h.1
          simp at this
          omega
        have := ih t (fun z hz => ha z (List.mem_cons_of_mem _ hz)) (fun z hz => hb z (List.mem_cons_of_mem _ hz)) (by rw [Lib.strOfNums_toList, Lib.strOfNums_toList]; exact h.2)
        rw [e, this]
  by_cases h : a = b
  · simp [h]
  · rw [decide_eq_false h]
    exact beq_eq_false_iff_ne.mpr (fun e => h (inj a b ha hb e))

/-! ### the number of groups -/
/-- A word with a group laid above its low j bits. -/
theorem or_above (s c : BitVec 64) (j : Nat) (hj : j ≤ 64) (hs : s.toNat < 2 ^ j) : (s ||| (c <<< j)).toNat = (s.toNat + 2 ^ j * c.toNat) % 2 ^ 64 := by
  rw [BitVec.toNat_or, BitVec.toNat_shiftLeft, Nat.shiftLeft_eq]
  have e0 : 2 ^ 64 = 2 ^ j * 2 ^ (64 - j) := by rw [← Nat.pow_add]; congr 1; omega
  have hp := Nat.two_pow_pos j
  have e1 : c.toNat * 2 ^ j % 2 ^ 64 = 2 ^ j * (c.toNat % 2 ^ (64 - j)) := by
    rw [e0, Nat.mul_comm c.toNat, Nat.mul_mod_mul_left]
  rw [e1, Nat.or_comm, ← Nat.two_pow_add_eq_or_of_lt hs]
  have h2 := Nat.mod_lt c.toNat (Nat.two_pow_pos (64 - j))
  have h3 : 2 ^ j * (c.toNat % 2 ^ (64 - j)) + s.toNat < 2 ^ 64 := by
    rw [e0]
    have : 2 ^ j * (c.toNat % 2 ^ (64 - j)) + 2 ^ j ≤ 2 ^ j * 2 ^ (64 - j) := by
      rw [← Nat.mul_succ]
      exact Nat.mul_le_mul_left _ h2
    omega
  have h4 : s.toNat + 2 ^ j * c.toNat = (2 ^ j * (c.toNat % 2 ^ (64 - j)) + s.toNat) + 2 ^ 64 * (c.toNat / 2 ^ (64 - j)) := by
    have h5 := Nat.div_add_mod c.toNat (2 ^ (64 - j))
    have h6 : 2 ^ j * c.toNat = 2 ^ j * (2 ^ (64 - j) * (c.toNat / 2 ^ (64 - j))) + 2 ^ j * (c.toNat % 2 ^ (64 - j)) := by
      rw [← Nat.mul_add, h5]
    rw [← Nat.mul_assoc, ← e0] at h6
    omega
  rw [h4, Nat.add_mul_mod_self_left, Nat.mod_eq_of_lt h3]
def low (c : Int) : BitVec 64 := BitVec.ofNat 64 (c % 128).toNat
theorem low_toNat (c : Int) : (low c).toNat = (c % 128).toNat := by
  unfold low
  rw [BitVec.toNat_ofNat]
  omega
theorem take_snoc {l : List Int} {i : Nat} (hi : i < l.length) : l.take (i + 1) = l.take i ++ [l[i]] := by
  rw [List.take_succ_eq_append_getElem hi]
theorem value_take_succ {l : List Int} {i : Nat} (hi : i < l.length) : value (l.take (i + 1)) = value (l.take i) + 128 ^ i * (l[i] % 128).toNat := by
  rw [take_snoc hi, value_snoc, List.length_take, Nat.min_eq_left (by omega)]

/-- What leb.Get does behind its loop. -/
theorem get_end (k : Nat) (l : List Int) (K : Nat) (n : Nat) (hb : Bts l) (hK : K ≤ l.length) (hn : n < 2 ^ 64) (hk : 10 ≤ k) :
    leb_Get.l0 (k + 1) l K n K K = some (if form n = l.take K then ((n : Int), (K : Int), 0) else (0, 0, 31)) := by
  rw [leb_Get.l0, if_neg (by omega), Put_f k [] n hn (by simp) hk, Option.bind_some, if_pos (by omega), if_pos (by omega), Int.toNat_natCast, List.nil_append,
    Equal_f _ _ (form_byte n) (hb.take K), Option.bind_some]
  by_cases h : form n = l.take K
  · rw [decide_eq_true h, if_pos rfl, if_pos h]
  · rw [decide_eq_false h, if_neg (by decide), if_neg h]
theorem get_l0 (l : List Int) (K : Nat) (hb : Bts l) (hK : K ≤ l.length) (h10 : K ≤ 10) (d : Nat) : ∀ (k i : Nat) (s : BitVec 64), i + d = K → d + 11 < k → s.toNat = value (l.take i) % 2 ^ 64 →
    leb_Get.l0 k l K s.toNat K i = some (if form (value (l.take K) % 2 ^ 64) = l.take K then (((value (l.take K) % 2 ^ 64 : Nat) : Int), (K : Int), 0) else (0, 0, 31)) := by
  induction d with
  | zero =>
    intro k i s hi hk hs
    obtain ⟨k, rfl⟩ : ∃ m, k = m + 1 := ⟨k - 1, by omega⟩
    obtain rfl : i = K := by omega
    rw [hs]
    exact get_end k l i _ hb hK (Nat.mod_lt _ (by decide)) (by omega)
  | succ d ih =>
    intro k i s hi hk hs
    obtain ⟨k, rfl⟩ : ∃ m, k = m + 1 := ⟨k - 1, by omega⟩
    have hil : i < l.length := by omega
    have hx := hb.get hil
    rw [leb_Get.l0, if_pos (by omega), if_pos (by omega), if_pos (by omega), rd_get hil, and127 hx.1 hx.2, wrap_small (by omega) (by omega), if_pos (by omega), wrap_small (by omega) (by omega)]
    have e1 : IntKind.u64.wrap (l[i] % 128) = ((low l[i]).toNat : Int) := by
      rw [u64_small (by omega) (by omega), low_toNat]
      omega
    rw [e1, shl_u64 _ _ (by omega), or_u64]
    refine ih k (i + 1) _ (by omega) (by omega) ?_
    have hvl : value (l.take i) < 2 ^ (7 * i) := by
      have := value_lt (l.take i)
      rw [List.length_take, Nat.min_eq_left (by omega), pow128] at this
      exact this
    have hle : 2 ^ (7 * i) ≤ 2 ^ 64 := Nat.pow_le_pow_right (by omega) (by omega)
    have hs' : s.toNat = value (l.take i) := by rw [hs, Nat.mod_eq_of_lt (by omega)]
    have ej : (7 * (i : Int)).toNat = 7 * i := by omega
    rw [ej, or_above _ _ _ (by omega) (by rw [hs']; exact hvl), value_take_succ hil, hs', low_toNat, pow128]
theorem refget_end (k : Nat) (l : List Int) (K : Nat) (n : Nat) (hK : K ≤ l.length) (h10 : K ≤ 10) (hn : n < 2 ^ 64) (hk : 30 ≤ k) :
    louverref03_Get.l0 (k + 1) l K n (-1) = some (if form n = l.take K then ((n : Int), (K : Int), 0) else (0, 0, 31)) := by
  have hu := ulen_u64 hn
  rw [louverref03_Get.l0, if_neg (by omega), refPut_f k n hn hk, Option.bind_some, if_pos (by omega), if_pos (by omega), Int.toNat_natCast,
    same_f _ _ _ (by rw [form_length]; omega) (by rw [form_length]; omega), Option.bind_some]
  by_cases h : form n = l.take K
  · rw [decide_eq_true h, if_pos rfl, if_pos h]
  · rw [decide_eq_false h, if_neg (by decide), if_neg h]
/-- The groups from i on, of the first K. -/
def part (l : List Int) (K i : Nat) : Nat := value ((l.take K).drop i)
theorem part_step {l : List Int} {K i : Nat} (hK : K ≤ l.length) (hi : i < K) : part l K i = (l[i]'(by omega) % 128).toNat + 128 * part l K (i + 1) := by
  unfold part
  have hil : i < (l.take K).length := by rw [List.length_take]; omega
  rw [List.drop_eq_getElem_cons hil, value, List.getElem_take]
theorem low_or (s : BitVec 64) (c : Int) : ((s <<< 7) ||| low c).toNat = (128 * s.toNat + (c % 128).toNat) % 2 ^ 64 := by
  have h := or_above (low c) s 7 (by omega) (by rw [low_toNat]; omega)
  rw [BitVec.or_comm, h, low_toNat]
  congr 1
  omega
theorem tmod_byte {c : Int} (h0 : 0 ≤ c) : Int.tmod c 128 = c % 128 := Int.tmod_eq_emod_of_nonneg h0
theorem refget_l0 (l : List Int) (K : Nat) (hb : Bts l) (hK : K ≤ l.length) (h10 : K ≤ 10) (i : Nat) : ∀ (k : Nat) (s : BitVec 64), i ≤ K → i + 31 < k → s.toNat = part l K i % 2 ^ 64 →
    louverref03_Get.l0 k l K s.toNat ((i : Int) - 1) = some (if form (value (l.take K) % 2 ^ 64) = l.take K then (((value (l.take K) % 2 ^ 64 : Nat) : Int), (K : Int), 0) else (0, 0, 31)) := by
  induction i with
  | zero =>
    intro k s hi hk hs
    obtain ⟨k, rfl⟩ : ∃ m, k = m + 1 := ⟨k - 1, by omega⟩
    have e : part l K 0 = value (l.take K) := rfl
    rw [hs, e]
    exact refget_end k l K _ hK h10 (Nat.mod_lt _ (by decide)) (by omega)
  | succ i ih =>
    intro k s hi hk hs
    obtain ⟨k, rfl⟩ : ∃ m, k = m + 1 := ⟨k - 1, by omega⟩
    have hil : i < l.length := by omega
    have hx := hb.get hil
    have ei : (((i + 1 : Nat) : Int) - 1) = (i : Int) := by omega
    rw [louverref03_Get.l0, ei, if_pos (by omega), if_pos (by omega), if_pos (by omega), rd_get hil, tmod_byte hx.1]
    have e1 : IntKind.u64.wrap (l[i] % 128) = ((low l[i]).toNat : Int) := by
      rw [u64_small (by omega) (by omega), low_toNat]
      omega
    have e2 : IntKind.u64.wrap ((s.toNat : Int) * 128) = ((s <<< 7).toNat : Int) := by
      have := u64_mul s 128#64
      have e3 : ((128#64).toNat : Int) = 128 := rfl
      rw [e3] at this
      rw [this, BitVec.shiftLeft_eq_mul_twoPow]
      rfl
    have hw : wrap64 ((i : Int) - 1) = (i : Int) - 1 := by unfold wrap64; omega
    rw [e1, e2, or_u64, hw]
    refine ih k _ (by omega) (by omega) ?_
    rw [low_or, part_step hK (by omega), hs]
    omega

/-- The number at the head of bytes, how many they are, the error. -/
def getU (l : List Int) : Int × Int × Int :=
  if (grs l 0).2 = 0 then
    (if form (value (l.take (grs l 0).1.toNat) % 2 ^ 64) = l.take (grs l 0).1.toNat then (((value (l.take (grs l 0).1.toNat) % 2 ^ 64 : Nat) : Int), (grs l 0).1, 0) else (0, 0, 31))
  else (0, 0, (grs l 0).2)
theorem Get_f (k : Nat) (l : List Int) (hb : Bts l) (hl : l.length < 9223372036854775807) (hk : l.length + 40 < k) : leb_Get.f k l = some (getU l) := by
  unfold leb_Get.f getU
  rw [groups_f k l hl (by omega), Option.bind_some]
  by_cases h : (grs l 0).2 = 0
  · rw [if_pos h, if_pos h]
    obtain ⟨j, h1, h2, h3, -, -⟩ := grs_spec l 0 (grs l 0).1 (by rw [← h]) (by omega)
    obtain ⟨K, hK⟩ : ∃ K : Nat, (grs l 0).1 = (K : Int) := ⟨j + 1, by omega⟩
    rw [hK, Int.toNat_natCast]
    exact get_l0 l K hb (by omega) (by omega) K k 0 0#64 (by omega) (by omega) (by simp [value])
  · rw [if_neg h, if_neg h]
theorem refGet_f (k : Nat) (l : List Int) (hb : Bts l) (hl : l.length < 9223372036854775807) (hk : 2 * l.length + 60 < k) : louverref03_Get.f k l = some (getU l) := by
  unfold louverref03_Get.f getU
  rw [size_f k l hl (by omega), Option.bind_some]
  by_cases h : (grs l 0).2 = 0
  · rw [if_pos h, if_pos h]
    obtain ⟨j, h1, h2, h3, -, -⟩ := grs_spec l 0 (grs l 0).1 (by rw [← h]) (by omega)
    obtain ⟨K, hK⟩ : ∃ K : Nat, (grs l 0).1 = (K : Int) := ⟨j + 1, by omega⟩
    have hw : wrap64 ((K : Int) - 1) = (K : Int) - 1 := by unfold wrap64; omega
    rw [hK, Int.toNat_natCast, hw]
    exact refget_l0 l K hb (by omega) (by omega) K k 0#64 (by omega) (by omega) (by
      unfold part
      rw [List.drop_of_length_le (by rw [List.length_take]; omega)]
      simp [value])
  · rw [if_neg h, if_neg h]
end Go.Proofs.YtgpdaihfjnihhaaDoor.LebPure
