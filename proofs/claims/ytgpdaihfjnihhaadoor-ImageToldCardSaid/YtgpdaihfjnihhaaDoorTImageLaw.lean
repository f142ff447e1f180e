/- Images: there and back, and what a turned byte does (no program). -/
import Derived.Test.YtgpdaihfjnihhaaDoorTPJx0
import Derived.Test.YtgpdaihfjnihhaaDoorTImagePure
import Derived.Test.YtgpdaihfjnihhaaDoorTLebAll
namespace Go.Proofs.YtgpdaihfjnihhaaDoor.PJ
open Go.RowKit Go.Proofs.YtgpdaihfjnihhaaDoorW.PrintWords Go.Proofs.YtgpdaihfjnihhaaDoorW.PrintLast Go.Proofs.YtgpdaihfjnihhaaDoorW.PrintMore Go.Proofs.YtgpdaihfjnihhaaDoor.LebPure Go.Proofs.YtgpdaihfjnihhaaDoor.LebForm Go.Proofs.YtgpdaihfjnihhaaDoor.B64
set_option linter.unusedVariables false
set_option linter.unusedSimpArgs false
/-! ### the sum -/
def primeW : BitVec 64 := 1099511628211#64
def primeI : BitVec 64 := 14886173955864302971#64
theorem prime_inv : primeW * primeI = 1#64 := by decide
def stepW (n b : BitVec 64) : BitVec 64 := (n ^^^ b) * primeW
theorem step1_W (n b : BitVec 64) : step1 n.toNat b.toNat = ((stepW n b).toNat : Int) := by
  unfold step1 stepW
  rw [xor_u64]
  exact u64_mul _ primeW
theorem stepW_inj {n m b c : BitVec 64} (h : stepW n b = stepW m c) : n ^^^ b = m ^^^ c := by
  have h2 : stepW n b * primeI = stepW m c * primeI := by rw [h]
  unfold stepW at h2
  rw [BitVec.mul_assoc, BitVec.mul_assoc, prime_inv, BitVec.mul_one, BitVec.mul_one] at h2
  exact h2
theorem xor_cancel {a b c : BitVec 64} (h : a ^^^ b = a ^^^ c) : b = c := by
  have : a ^^^ (a ^^^ b) = a ^^^ (a ^^^ c) := by rw [h]
  rwa [← BitVec.xor_assoc, ← BitVec.xor_assoc, BitVec.xor_self, BitVec.zero_xor, BitVec.zero_xor] at this
theorem xor_cancel' {a b c : BitVec 64} (h : b ^^^ a = c ^^^ a) : b = c := xor_cancel (a := a) (by rw [BitVec.xor_comm a b, BitVec.xor_comm a c, h])
theorem byte_W {b : Int} (h : 0 ≤ b ∧ b ≤ 255) : ∃ B : BitVec 64, b = (B.toNat : Int) := u64_exists ⟨h.1, by omega⟩
theorem fold_W (l : List Int) (hb : Bts l) : ∀ n : BitVec 64, ∃ m : BitVec 64, l.foldl step1 (n.toNat : Int) = (m.toNat : Int) := by
  induction l with
  | nil => exact fun n => ⟨n, rfl⟩
  | cons b l ih =>
    intro n
    obtain ⟨B, hB⟩ := byte_W (hb b List.mem_cons_self)
    rw [List.foldl_cons, hB, step1_W]
    exact ih (fun x hx => hb x (List.mem_cons_of_mem _ hx)) _
theorem start_W : (14695981039346656037 : Int) = ((14695981039346656037#64).toNat : Int) := by decide
theorem sumL_W (l : List Int) (hb : Bts l) : ∃ m : BitVec 64, sumL l = (m.toNat : Int) := by
  unfold sumL
  rw [start_W]
  exact fold_W l hb _
theorem sumL_range (l : List Int) (hb : Bts l) : 0 ≤ sumL l ∧ sumL l ≤ 18446744073709551615 := by
  obtain ⟨m, h⟩ := sumL_W l hb
  have := m.isLt
  omega
theorem toNat_inj_int {a b : BitVec 64} (h : (a.toNat : Int) = (b.toNat : Int)) : a = b := BitVec.eq_of_toNat_eq (by omega)
theorem fold_inj (l : List Int) (hb : Bts l) : ∀ n m : BitVec 64, l.foldl step1 (n.toNat : Int) = l.foldl step1 (m.toNat : Int) → n = m := by
  induction l with
  | nil => exact fun n m h => toNat_inj_int h
  | cons b l ih =>
    intro n m h
    obtain ⟨B, hB⟩ := byte_W (hb b List.mem_cons_self)
    rw [List.foldl_cons, List.foldl_cons, hB, step1_W, step1_W] at h
    exact xor_cancel' (stepW_inj (ih (fun x hx => hb x (List.mem_cons_of_mem _ hx)) _ _ h))
/-- One byte turned turns the sum. -/
theorem sum_turned (p q : List Int) (x y : Int) (hp : Bts (p ++ x :: q)) (hy : 0 ≤ y ∧ y ≤ 255) (h : sumL (p ++ x :: q) = sumL (p ++ y :: q)) : x = y := by
  obtain ⟨n, hn⟩ := sumL_W p (fun z hz => hp z (List.mem_append_left _ hz))
  obtain ⟨X, hX⟩ := byte_W (hp x (List.mem_append_right _ List.mem_cons_self))
  obtain ⟨Y, hY⟩ := byte_W hy
  unfold sumL at h hn
  rw [List.foldl_append, List.foldl_append, List.foldl_cons, List.foldl_cons, hn, hX, hY, step1_W, step1_W] at h
  have := xor_cancel (stepW_inj (fold_inj q (fun z hz => hp z (List.mem_append_right _ (List.mem_cons_of_mem _ hz))) _ _ h))
  rw [hX, hY, this]
theorem eightL_inj {a b : Int} (ha : 0 ≤ a ∧ a ≤ 18446744073709551615) (hb : 0 ≤ b ∧ b ≤ 18446744073709551615) (h : eightL a = eightL b) : a = b := by
  have e : ∀ n : Int, eightL n = [n / 72057594037927936 % 256, n / 281474976710656 % 256, n / 1099511627776 % 256, n / 4294967296 % 256, n / 16777216 % 256, n / 65536 % 256, n / 256 % 256, n / 1 % 256] := fun n => rfl
  rw [e, e] at h
  simp only [List.cons.injEq, and_true] at h
  omega
theorem eightL_bts (n : Int) : Bts (eightL n) := by
  intro x hx
  simp only [eightL, List.mem_map] at hx
  obtain ⟨i, _, rfl⟩ := hx
  omega

/-! ### there and back -/
theorem writeM_ok {gs : List Int} {arr : List S38} {chs : List Int} {fns : List S41} {b : List Int} (h : writeM gs arr chs fns = (b, 0)) :
    badM arr fns = false ∧ (fullM gs arr chs fns).length + 8 ≤ 262144 ∧ b = fullM gs arr chs fns ++ eightL (sumL (fullM gs arr chs fns)) := by
  unfold writeM at h
  split at h
  · exact absurd (congrArg Prod.snd h) (show (1 : Int) ≠ 0 by decide)
  · rename_i h1
    split at h
    · exact absurd (congrArg Prod.snd h) (show (3 : Int) ≠ 0 by decide)
    · rename_i h2
      exact ⟨by simpa using h1, by omega, (congrArg Prod.fst h).symm⟩
theorem body_of (m : ModL) : (fullM m.1 m.2.1 m.2.2.1 m.2.2.2).drop 4 = (cMod m.1 m.2.1 m.2.2.1 m.2.2.2).flatten := by
  unfold fullM
  exact List.drop_left' rfl
theorem readM_ok {data : List Int} {m : ModL} (h : readM data = (m, 0)) : data.length ≤ 262144 ∧ 12 ≤ data.length ∧ data.take 4 = magicL ∧ data.drop (data.length - 8) = eightL (sumL (data.take (data.length - 8))) ∧ rdMod ((data.take (data.length - 8)).drop 4) = some (m, []) := by
  unfold readM at h
  split at h
  · exact absurd (congrArg Prod.snd h) (show (3 : Int) ≠ 0 by decide)
  · rename_i h1
    split at h
    · exact absurd (congrArg Prod.snd h) (show (120 : Int) ≠ 0 by decide)
    · rename_i h2
      rw [not_or, Classical.not_not] at h2
      split at h
      · exact absurd (congrArg Prod.snd h) (show (121 : Int) ≠ 0 by decide)
      · rename_i h3
        rw [Classical.not_not] at h3
        refine ⟨by omega, by omega, h2.2, h3, ?_⟩
        split at h
        · rename_i m' he
          rw [he, show m' = m from congrArg Prod.fst h]
        · exact absurd (congrArg Prod.snd h) (show (120 : Int) ≠ 0 by decide)
theorem read_full {data : List Int} {m : ModL} (hb : Bts data) (h : readM data = (m, 0)) : okMod m ∧ data.take (data.length - 8) = fullM m.1 m.2.1 m.2.2.1 m.2.2.2 := by
  obtain ⟨h1, h2, h3, h4, h5⟩ := readM_ok h
  have hl : ((data.take (data.length - 8)).drop 4).length ≤ 1000000 := by rw [List.length_drop, List.length_take]; omega
  obtain ⟨o, e⟩ := rdMod_back (Bts.drop (Bts.take hb _) _) hl h5
  rw [List.append_nil] at e
  refine ⟨o, ?_⟩
  unfold fullM
  rw [← e, ← h3]
  have : (data.take (data.length - 8)).take 4 = data.take 4 := by rw [List.take_take, Nat.min_eq_left (by omega)]
  rw [← this, List.take_append_drop]
/-! ### what comes in: a module whose numbers are of their kinds -/
def wfMod (m : ModL) : Prop := okLs m.1 ∧ (m.2.1.length ≤ 9223372036854775807 ∧ ∀ x ∈ m.2.1, x.f0 ≤ 9223372036854775807 ∧ okU x.f1) ∧ okLs m.2.2.1 ∧ (m.2.2.2.length ≤ 9223372036854775807 ∧ ∀ x ∈ m.2.2.2, okU x.f0 ∧ okLs x.f1 ∧ okLs x.f2 ∧ x.f3 ≤ 9223372036854775807 ∧ x.f4 ≤ 9223372036854775807 ∧ x.f5.length ≤ 9223372036854775807 ∧ ∀ i ∈ x.f5, -9223372036854775808 ≤ i.f1 ∧ i.f1 ≤ 9223372036854775807)
theorem okMod_of {m : ModL} (h : wfMod m) (hb : badM m.2.1 m.2.2.2 = false) : okMod m := by
  obtain ⟨h1, ⟨h2, h3⟩, h4, ⟨h5, h6⟩⟩ := h
  unfold badM at hb
  rw [Bool.or_eq_false_iff, List.any_eq_false, List.any_eq_false] at hb
  refine ⟨h1, ⟨h2, fun x hx => ?_⟩, h4, ⟨h5, fun x hx => ?_⟩⟩
  · have := hb.1 x hx
    simp only [badA, decide_eq_true_eq] at this
    exact ⟨⟨by omega, (h3 x hx).1⟩, (h3 x hx).2⟩
  · have hx2 := hb.2 x hx
    simp only [badF, Bool.or_eq_true, decide_eq_true_eq, List.any_eq_true, not_or, not_exists, not_and] at hx2
    obtain ⟨a, b, c, d, e, f, g⟩ := h6 x hx
    refine ⟨a, b, c, ⟨by omega, d⟩, ⟨by omega, e⟩, f, fun i hi => ⟨?_, g i hi⟩⟩
    have := hx2.2.2 i hi
    simpa [badI] using this

/-! ### turned, one less, one more -/
theorem told_turned {m : ModL} {b : List Int} (hb : Bts b) (h : writeM m.1 m.2.1 m.2.2.1 m.2.2.2 = (b, 0)) (k : Nat) (hk : k < b.length) (y : Int) (hy : 0 ≤ y ∧ y ≤ 255) (hne : b[k] ≠ y) : (readM (b.set k y)).2 ≠ 0 := by
  intro hz
  obtain ⟨m', hm'⟩ : ∃ m', readM (b.set k y) = (m', 0) := ⟨(readM (b.set k y)).1, by rw [← hz]⟩
  obtain ⟨_, h2, _, h4, _⟩ := readM_ok hm'
  obtain ⟨_, f2, f3⟩ := writeM_ok h
  obtain ⟨F, hF⟩ : ∃ F, fullM m.1 m.2.1 m.2.2.1 m.2.2.2 = F := ⟨_, rfl⟩
  rw [hF] at f2 f3
  have hl : b.length = F.length + 8 := by rw [f3, List.length_append, eightL_length]
  have hs : (b.set k y).length - 8 = F.length := by rw [List.length_set]; omega
  rw [hs] at h4
  have hbF : b.take F.length = F := by rw [f3, List.take_left]
  have hbE : b.drop F.length = eightL (sumL F) := by rw [f3, List.drop_left]
  have hBF : Bts F := fun x hx => hb x (by rw [f3]; exact List.mem_append_left _ hx)
  by_cases hkF : k < F.length
  · have e1 : (b.set k y).drop F.length = eightL (sumL F) := by rw [List.drop_set_of_lt hkF, hbE]
    have e2 : (b.set k y).take F.length = F.set k y := by rw [List.take_set, hbF]
    rw [e1, e2] at h4
    have hBs : Bts (F.set k y) := fun x hx => by
      rcases List.mem_or_eq_of_mem_set hx with hx | rfl
      · exact hBF x hx
      · exact hy
    have hsum := eightL_inj (sumL_range F hBF) (sumL_range _ hBs) h4
    have es : F.set k y = F.take k ++ y :: F.drop (k + 1) := by rw [List.set_eq_take_append_cons_drop, if_pos hkF]
    have eF : F = F.take k ++ F[k] :: F.drop (k + 1) := by rw [List.getElem_cons_drop, List.take_append_drop]
    rw [es] at hsum
    have hBF2 : Bts (F.take k ++ F[k] :: F.drop (k + 1)) := by rw [← eF]; exact hBF
    have hsum2 : sumL (F.take k ++ F[k] :: F.drop (k + 1)) = sumL (F.take k ++ y :: F.drop (k + 1)) := by rw [← eF]; exact hsum
    have hx := sum_turned _ _ _ _ hBF2 hy hsum2
    apply hne
    rw [← hx]
    simp only [f3]
    rw [List.getElem_append_left hkF]
  · have e2 : (b.set k y).take F.length = F := by rw [List.take_set_of_le (by omega), hbF]
    rw [e2, ← hbE] at h4
    have : (b.set k y)[k]? = b[k]? := by
      have := congrArg (fun l => l[k - F.length]?) h4
      simp only [List.getElem?_drop] at this
      rwa [show F.length + (k - F.length) = k by omega] at this
    rw [List.getElem?_set_self hk, List.getElem?_eq_getElem hk] at this
    injection this with this
    exact hne this.symm
theorem told_less {m : ModL} (hm : okMod m) {b : List Int} (hb : Bts b) (h : writeM m.1 m.2.1 m.2.2.1 m.2.2.2 = (b, 0)) : (readM (b.take (b.length - 1))).2 ≠ 0 := by
  intro hz
  obtain ⟨m', hm'⟩ : ∃ m', readM (b.take (b.length - 1)) = (m', 0) := ⟨(readM (b.take (b.length - 1))).1, by rw [← hz]⟩
  obtain ⟨_, h2, _, _, _⟩ := readM_ok hm'
  obtain ⟨o, e⟩ := read_full (Bts.take hb _) hm'
  obtain ⟨_, f2, f3⟩ := writeM_ok h
  have hl : b.length = (fullM m.1 m.2.1 m.2.2.1 m.2.2.2).length + 8 := by rw [f3, List.length_append, eightL_length]
  rw [List.length_take] at h2
  have e2 : (fullM m.1 m.2.1 m.2.2.1 m.2.2.2).take ((fullM m.1 m.2.1 m.2.2.1 m.2.2.2).length - 1) = fullM m'.1 m'.2.1 m'.2.2.1 m'.2.2.2 := by
    rw [← e, List.length_take, List.take_take, f3, List.take_append_of_le_length (by rw [List.length_append, eightL_length]; omega)]
    congr 1
    rw [List.length_append, eightL_length]
    omega
  obtain ⟨F, hF⟩ : ∃ F, fullM m.1 m.2.1 m.2.2.1 m.2.2.2 = F := ⟨_, rfl⟩
  have hB := body_of m
  have hB' := body_of m'
  rw [← e2, hF] at hB'
  rw [hF] at hB hl
  have hFl : 5 ≤ F.length := by omega
  have hsplit : F = F.take (F.length - 1) ++ [F[F.length - 1]] := by
    rw [← List.take_succ_eq_append_getElem (by omega), List.take_of_length_le (by omega)]
  have hd : F.drop 4 = (F.take (F.length - 1)).drop 4 ++ [F[F.length - 1]] := by
    conv => lhs; rw [hsplit]
    rw [List.drop_append_of_le_length (by rw [List.length_take]; omega)]
  have r1 := rdMod_put hm []
  rw [List.append_nil, ← hB, hd, hB'] at r1
  have r2 := rdMod_put o [F[F.length - 1]]
  rw [r2] at r1
  injection r1 with r1
  exact absurd (congrArg Prod.snd r1) (by simp)
theorem told_more {m : ModL} (hm : okMod m) {b : List Int} (hb : Bts b) (h : writeM m.1 m.2.1 m.2.2.1 m.2.2.2 = (b, 0)) (y : Int) : (readM (b ++ [y])).2 ≠ 0 := by
  intro hz
  obtain ⟨m', hm'⟩ : ∃ m', readM (b ++ [y]) = (m', 0) := ⟨(readM (b ++ [y])).1, by rw [← hz]⟩
  obtain ⟨_, _, _, _, h5⟩ := readM_ok hm'
  obtain ⟨_, f2, f3⟩ := writeM_ok h
  obtain ⟨F, hF⟩ : ∃ F, fullM m.1 m.2.1 m.2.2.1 m.2.2.2 = F := ⟨_, rfl⟩
  have hB := body_of m
  rw [hF] at f2 f3 hB
  have h4 : 4 ≤ F.length := by rw [← hF]; unfold fullM; rw [List.length_append]; show 4 ≤ 4 + _; omega
  obtain ⟨x, t, hxt⟩ : ∃ x t, eightL (sumL F) = x :: t := by
    cases he : eightL (sumL F) with
    | nil => have := eightL_length (sumL F); rw [he] at this; cases this
    | cons x t => exact ⟨x, t, rfl⟩
  have ht : t.length = 7 := by
    have := eightL_length (sumL F)
    rw [hxt, List.length_cons] at this
    omega
  rw [f3, hxt] at h5
  have e1 : (F ++ x :: t ++ [y]).length - 8 = (F ++ [x]).length := by simp only [List.length_append, List.length_cons, List.length_nil]; omega
  have e2 : F ++ x :: t ++ [y] = (F ++ [x]) ++ (t ++ [y]) := by simp
  rw [e1, e2, List.take_left, List.drop_append_of_le_length h4, hB, rdMod_put hm [x]] at h5
  injection h5 with h5
  exact absurd (congrArg Prod.snd h5) (by simp)
end Go.Proofs.YtgpdaihfjnihhaaDoor.PJ
