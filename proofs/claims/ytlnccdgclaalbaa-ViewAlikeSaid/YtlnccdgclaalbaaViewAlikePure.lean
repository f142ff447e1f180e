/- The document's Alike, Args, Results answer as package view's do (no program). -/
import Derived.Test.YtlnccdgclaalbaaPJx0
import Derived.Test.YtlnccdgclaalbaaPJx2
import Derived.Test.YtlnccdgclaalbaaPJx3
import Derived.Test.YtlnccdgclaalbaaPJx8
import Derived.Test.YtlnccdgclaalbaaPJx9
import Derived.Test.YtlnccdgclaalbaaPJx10
import Derived.Test.YtlnccdgclaalbaaViewPure
import Derived.Test.YtlnccdgclaalbaaB64
namespace Go.Proofs.Ytlnccdgclaalbaa.PJ
open Go.RowKit Go.Proofs.YtlnccdgclaalbaaW.PrintWords Go.Proofs.YtlnccdgclaalbaaW.PrintLast Go.Proofs.YtlnccdgclaalbaaW.PrintMore
set_option linter.unusedVariables false
set_option linter.unusedSimpArgs false
theorem has_f (x : BitVec 64) (n : Nat) (hn : n < 64) : louverref01_Has.f (x.toNat : Int) (n : Int) = some (x.getLsbD n) := by
  have hw : IntKind.u64.wrap (n : Int) = (n : Int) := by
    have := B64.u64_toNat (BitVec.ofNat 64 n)
    rwa [show (BitVec.ofNat 64 n).toNat = n by simp; omega] at this
  unfold louverref01_Has.f
  rw [hw, if_pos (show (n : Int) ≥ 0 by omega), if_pos (show (n : Int) ≤ 63 by omega), if_pos (show 0 ≤ (n : Int) by omega), B64.shr_u64 x n ⟨by omega, by omega⟩]
  have h1 := B64.and_u64 (x >>> ((n : Int).toNat)) 1#64
  rw [show ((1#64).toNat : Int) = 1 by decide] at h1
  rw [h1, Int.toNat_natCast]
  congr 1
  have h2 : ((x >>> n) &&& 1#64).toNat = (x.getLsbD n).toNat := by
    rw [BitVec.toNat_and, BitVec.toNat_ushiftRight, show (1#64).toNat = 1 by decide, BitVec.getLsbD, Nat.testBit]
    rw [Nat.and_comm, Nat.one_and_eq_mod_two]
    rcases Nat.mod_two_eq_zero_or_one (x.toNat >>> n) with h | h <;> simp [h]
  rw [h2]
  cases x.getLsbD n <;> rfl
theorem within_l0 (x y : BitVec 64) : ∀ d i k : Nat, i + d = 64 → d < k → ∃ b, louverref01_Within.l0 k (x.toNat : Int) (y.toNat : Int) (i : Int) = some b ∧ (b = true ↔ ∀ j, i ≤ j → j < 64 → x.getLsbD j = true → y.getLsbD j = true) := by
  intro d
  induction d with
  | zero =>
    intro i k hi hk
    obtain ⟨m, rfl⟩ : ∃ m, k = m + 1 := ⟨k - 1, by omega⟩
    rw [louverref01_Within.l0, if_neg (by omega)]
    exact ⟨true, rfl, by simp; intro j h1 h2; omega⟩
  | succ d ih =>
    intro i k hi hk
    obtain ⟨m, rfl⟩ : ∃ m, k = m + 1 := ⟨k - 1, by omega⟩
    obtain ⟨b, hb, hbi⟩ := ih (i + 1) m (by omega) (by omega)
    have hw : wrap64 ((i : Int) + 1) = ((i + 1 : Nat) : Int) := wrap_succ (n := 64) (by omega) (by omega)
    rw [louverref01_Within.l0, if_pos (by omega), has_f x i (by omega), Option.bind_some, has_f y i (by omega), Option.bind_some, hw, hb]
    have key : (∀ j, i ≤ j → j < 64 → x.getLsbD j = true → y.getLsbD j = true) ↔ ((x.getLsbD i = true → y.getLsbD i = true) ∧ ∀ j, i + 1 ≤ j → j < 64 → x.getLsbD j = true → y.getLsbD j = true) := by
      constructor
      · intro h
        exact ⟨h i (Nat.le_refl _) (by omega), fun j h1 h2 => h j (by omega) h2⟩
      · rintro ⟨h0, h⟩ j h1 h2
        by_cases e : j = i
        · subst e; exact h0
        · exact h j (by omega) h2
    cases hx : x.getLsbD i
    · rw [if_neg (by decide)]
      refine ⟨b, rfl, ?_⟩
      rw [key, hbi, hx]
      simp
    · rw [if_pos rfl]
      cases hy : y.getLsbD i
      · rw [if_neg (by decide)]
        refine ⟨false, rfl, ?_⟩
        rw [key, hx, hy]
        simp
      · rw [if_pos rfl]
        refine ⟨b, rfl, ?_⟩
        rw [key, hbi, hx, hy]
        simp
theorem within_f {a l : Int} (ha : (Lit.int .u64 a).wf = true) (hl : (Lit.int .u64 l).wf = true) (k : Nat) (hk : 64 < k) : louverref01_Within.f k a l = some (wi a l) := by
  obtain ⟨x, rfl⟩ := B64.u64_exists (B64.wf_u64 ha)
  obtain ⟨y, rfl⟩ := B64.u64_exists (B64.wf_u64 hl)
  obtain ⟨b, hb, hbi⟩ := within_l0 x y 64 0 k (by omega) hk
  unfold louverref01_Within.f
  have hb' : louverref01_Within.l0 k (x.toNat : Int) (y.toNat : Int) 0 = some b := hb
  rw [hb']
  congr 1
  have hwi : wi (x.toNat : Int) (y.toNat : Int) = true ↔ ∀ j, 0 ≤ j → j < 64 → x.getLsbD j = true → y.getLsbD j = true := by
    unfold wi
    rw [B64.andNot_u64]
    constructor
    · intro h j _ hj hx
      have h1 : x &&& ~~~y = 0#64 := by
        apply BitVec.eq_of_toNat_eq
        have : ((x &&& ~~~y).toNat : Int) = 0 := by simpa using h
        simpa using Int.ofNat.inj this
      have h2 := congrArg (fun v => v.getLsbD j) h1
      simp only [BitVec.getLsbD_and, BitVec.getLsbD_not, BitVec.getLsbD_zero, hj, decide_true, Bool.true_and, hx] at h2
      cases hy : y.getLsbD j
      · rw [hy] at h2; simp at h2
      · rfl
    · intro h
      have h1 : x &&& ~~~y = 0#64 := by
        apply BitVec.eq_of_getLsbD_eq
        intro j hj
        simp only [BitVec.getLsbD_and, BitVec.getLsbD_not, BitVec.getLsbD_zero, hj, decide_true, Bool.true_and]
        cases hx : x.getLsbD j
        · rfl
        · rw [h j (by omega) hj hx]; rfl
      rw [h1]
      rfl
  cases b
  · cases hw : wi (x.toNat : Int) (y.toNat : Int)
    · rfl
    · exact absurd (hbi.mpr (hwi.mp hw)) (by decide)
  · exact (hwi.mpr (hbi.mp rfl)).symm
/-- What a label lets see is the same. -/
def numL (l : Int) : List Int → List Int → List Int → Bool
  | a :: gs, x :: xs, y :: ys => (!wi a l || decide (x = y)) && numL l gs xs ys
  | _, _, _ => true
theorem numL_seen (l : Int) : ∀ gs xs ys, xs.length = gs.length → ys.length = gs.length → numL l gs xs ys = decide (seenG l gs xs = seenG l gs ys)
  | [], xs, ys, h1, h2 => by
    cases xs with
    | nil => cases ys with
      | nil => simp [numL, seenG]
      | cons => simp at h2
    | cons => simp at h1
  | a :: gs, [], _, h1, _ => by simp at h1
  | a :: gs, x :: xs, [], _, h2 => by simp at h2
  | a :: gs, x :: xs, y :: ys, h1, h2 => by
    have ih := numL_seen l gs xs ys (by simpa using h1) (by simpa using h2)
    unfold numL
    rw [ih]
    unfold seenG
    simp only [List.zipWith_cons_cons, List.cons.injEq]
    cases wi a l <;> simp
theorem numL_cons {l : Int} {gs xs ys : List Int} {i : Nat} (h0 : i < gs.length) (h1 : i < xs.length) (h2 : i < ys.length) : numL l (gs.drop i) (xs.drop i) (ys.drop i) = ((!wi gs[i] l || decide (xs[i] = ys[i])) && numL l (gs.drop (i + 1)) (xs.drop (i + 1)) (ys.drop (i + 1))) := by
  rw [List.drop_eq_getElem_cons h0, List.drop_eq_getElem_cons h1, List.drop_eq_getElem_cons h2, numL]
theorem numbers_l0 (l : Int) (hl : (Lit.int .u64 l).wf = true) (gs xs ys : List Int) (hg : ∀ a ∈ gs, (Lit.int .u64 a).wf = true) (h1 : xs.length = gs.length) (h2 : ys.length = gs.length) (hm : gs.length ≤ 9223372036854775807) : ∀ d i k, i + d = gs.length → d + 66 < k →
    louverref20_numbers.l0 k gs l xs ys (i : Int) = some (numL l (gs.drop i) (xs.drop i) (ys.drop i)) := by
  intro d
  induction d with
  | zero =>
    intro i k hi hk
    obtain ⟨m, rfl⟩ : ∃ m, k = m + 1 := ⟨k - 1, by omega⟩
    rw [louverref20_numbers.l0, if_neg (by omega), List.drop_eq_nil_of_le (by omega), numL]
    intros; simp_all
  | succ d ih =>
    intro i k hi hk
    obtain ⟨m, rfl⟩ : ∃ m, k = m + 1 := ⟨k - 1, by omega⟩
    have q0 : i < gs.length := by omega
    have q1 : i < xs.length := by omega
    have q2 : i < ys.length := by omega
    rw [louverref20_numbers.l0, if_pos (by omega), if_pos (by omega), rd_get q0, within_f (hg _ (List.getElem_mem q0)) hl m (by omega), Option.bind_some, if_pos (show (i : Int) < (xs.length : Int) by omega), if_pos (show (i : Int) < (ys.length : Int) by omega), rd_get q1, rd_get q2, wrap_succ q0 hm, ih (i + 1) m (by omega) (by omega), numL_cons q0 q1 q2]
    cases hw : wi gs[i] l
    · rw [if_neg (by decide)]; simp
    · rw [if_pos rfl]
      by_cases c : xs[i] = ys[i]
      · rw [if_pos c]; simp [c]
      · rw [if_neg c]; simp [c]
/-- Two lists of numbers, by the labels. -/
def numsB (l : Int) (gs xs ys : List Int) : Bool := decide (xs.length = gs.length) && (decide (ys.length = gs.length) && numL l gs xs ys)
theorem numbers_f (l : Int) (hl : (Lit.int .u64 l).wf = true) (gs xs ys : List Int) (hg : ∀ a ∈ gs, (Lit.int .u64 a).wf = true) (hm : gs.length ≤ 9223372036854775807) (k : Nat) (hk : gs.length + 67 < k) : louverref20_numbers.f k gs l xs ys = some (numsB l gs xs ys) := by
  obtain ⟨m, rfl⟩ : ∃ m, k = m + 1 := ⟨k - 1, by omega⟩
  unfold louverref20_numbers.f numsB
  by_cases c1 : xs.length = gs.length
  · rw [if_pos (by omega)]
    by_cases c2 : ys.length = gs.length
    · rw [louverref20_numbers.j0, if_neg (by simp [c2]), show (0 : Int) = ((0 : Nat) : Int) from rfl, numbers_l0 l hl gs xs ys hg c1 c2 hm gs.length 0 m (by omega) (by omega)]
      simp [c1, c2]
    · rw [louverref20_numbers.j0, if_pos (by simp; omega)]
      simp [c2]
  · rw [if_neg (by omega), louverref20_numbers.j0, if_pos rfl]
    simp [c1]
theorem valike_l0 (l : Int) (gs xs ys : List Int) (h1 : xs.length = gs.length) (h2 : ys.length = gs.length) (hm : gs.length ≤ 9223372036854775807) : ∀ d i k, i + d = gs.length → d < k →
    view_alike.l0 k l xs ys gs (gs.length : Int) (i : Int) = some (numL l (gs.drop i) (xs.drop i) (ys.drop i)) := by
  intro d
  induction d with
  | zero =>
    intro i k hi hk
    obtain ⟨m, rfl⟩ : ∃ m, k = m + 1 := ⟨k - 1, by omega⟩
    rw [view_alike.l0, if_neg (by omega), List.drop_eq_nil_of_le (by omega), numL]
    intros; simp_all
  | succ d ih =>
    intro i k hi hk
    obtain ⟨m, rfl⟩ : ∃ m, k = m + 1 := ⟨k - 1, by omega⟩
    have q0 : i < gs.length := by omega
    have q1 : i < xs.length := by omega
    have q2 : i < ys.length := by omega
    rw [view_alike.l0, if_pos (by omega), if_pos (by omega), if_pos (by omega), rd_get q0, show bits_Within.f gs[i] l = some (wi gs[i] l) from rfl, Option.bind_some, if_pos (show (i : Int) < (xs.length : Int) by omega), if_pos (show (i : Int) < (ys.length : Int) by omega), rd_get q1, rd_get q2, wrap_succ q0 hm, ih (i + 1) m (by omega) (by omega), numL_cons q0 q1 q2]
    cases hw : wi gs[i] l
    · rw [if_neg (by decide)]; simp
    · rw [if_pos rfl]
      by_cases c : xs[i] = ys[i]
      · rw [if_pos c]; simp [c]
      · rw [if_neg c]; simp [c]
theorem valike_f (l : Int) (gs xs ys : List Int) (hm : gs.length ≤ 9223372036854775807) (k : Nat) (hk : gs.length + 1 < k) : view_alike.f k gs l xs ys = some (numsB l gs xs ys) := by
  obtain ⟨m, rfl⟩ : ∃ m, k = m + 1 := ⟨k - 1, by omega⟩
  unfold view_alike.f numsB
  by_cases c1 : xs.length = gs.length
  · rw [if_pos (by omega)]
    by_cases c2 : ys.length = gs.length
    · rw [view_alike.j0, if_neg (by simp [c2]), show (0 : Int) = ((0 : Nat) : Int) from rfl, valike_l0 l gs xs ys c1 c2 hm gs.length 0 m (by omega) (by omega)]
      simp [c1, c2]
    · rw [view_alike.j0, if_pos (by simp; omega)]
      simp [c2]
  · rw [if_neg (by omega), view_alike.j0, if_pos rfl]
    simp [c1]
theorem fitsRef_l0 (gs : List Int) (arr : List S57) (l2 : List Int) (l3 : List S48) (g : List Int) (r : List (List Int)) (h1 : arr.length = r.length) (hm : arr.length ≤ 9223372036854775807) : ∀ d i k, i + d = arr.length → d < k →
    louverref20_Fits.l0 k (i : Int) gs arr l2 l3 g r = some (decide ((arr.drop i).map (fun a => a.f0) = (r.drop i).map (fun x => (x.length : Int)))) := by
  intro d
  induction d with
  | zero =>
    intro i k hi hk
    obtain ⟨m, rfl⟩ : ∃ m, k = m + 1 := ⟨k - 1, by omega⟩
    rw [louverref20_Fits.l0, if_neg (by omega), List.drop_eq_nil_of_le (by omega), List.drop_eq_nil_of_le (by omega)]
    simp
  | succ d ih =>
    intro i k hi hk
    obtain ⟨m, rfl⟩ : ∃ m, k = m + 1 := ⟨k - 1, by omega⟩
    have q0 : i < arr.length := by omega
    have q1 : i < r.length := by omega
    have e0 : rd_T57 arr (i : Int) = arr[i] := by simp [rd_T57, List.getD_eq_getElem?_getD, q0]
    rw [louverref20_Fits.l0, if_pos (by omega), if_pos (by omega), if_pos (by omega), rdL_get q1, e0, wrap_succ q0 hm, ih (i + 1) m (by omega) (by omega), List.drop_eq_getElem_cons q0, List.drop_eq_getElem_cons q1]
    by_cases c : arr[i].f0 = (r[i].length : Int)
    · rw [if_pos c]; simp only [List.map_cons, List.cons.injEq, c, true_and]
    · rw [if_neg c]; simp only [List.map_cons, List.cons.injEq, c, false_and, decide_false]
theorem fitsRef_f (gs : List Int) (arr : List S57) (l2 : List Int) (l3 : List S48) (g : List Int) (r : List (List Int)) (hm : arr.length ≤ 9223372036854775807) (k : Nat) (hk : arr.length + 1 < k) : louverref20_Fits.f k gs arr l2 l3 g r = some (fitsB gs arr g r) := by
  obtain ⟨m, rfl⟩ : ∃ m, k = m + 1 := ⟨k - 1, by omega⟩
  unfold louverref20_Fits.f fitsB
  by_cases c1 : g.length = gs.length
  · rw [if_pos (by omega)]
    by_cases c2 : arr.length = r.length
    · rw [louverref20_Fits.j0, if_neg (by simp [c2]), show (0 : Int) = ((0 : Nat) : Int) from rfl, fitsRef_l0 gs arr l2 l3 g r c2 hm arr.length 0 m (by omega) (by omega)]
      simp [c1]
    · rw [louverref20_Fits.j0, if_pos (by simp; omega)]
      have : ¬ arr.map (fun a => a.f0) = r.map (fun x => (x.length : Int)) := fun h => c2 (by simpa using congrArg List.length h)
      simp [this]
  · rw [if_neg (by omega), louverref20_Fits.j0, if_pos rfl]
    simp [c1]
/-- The arrays a label lets see. -/
def rowsL (l : Int) : List S57 → List (List Int) → List (List Int) → Bool
  | a :: arr, x :: xs, y :: ys => (!wi a.f1 l || decide (x = y)) && rowsL l arr xs ys
  | _, _, _ => true
theorem rowsL_seen (l : Int) : ∀ arr r1 r2, arr.map (fun (a : S57) => a.f0) = r1.map (fun x => (x.length : Int)) → arr.map (fun (a : S57) => a.f0) = r2.map (fun x => (x.length : Int)) → rowsL l arr r1 r2 = decide (seenR l arr r1 = seenR l arr r2)
  | [], r1, r2, h1, h2 => by
    cases r1 with
    | nil => cases r2 with
      | nil => simp [rowsL, seenR]
      | cons => simp at h2
    | cons => simp at h1
  | a :: arr, [], _, h1, _ => by simp at h1
  | a :: arr, x :: r1, [], _, h2 => by simp at h2
  | a :: arr, x :: r1, y :: r2, h1, h2 => by
    simp only [List.map_cons, List.cons.injEq] at h1 h2
    have ih := rowsL_seen l arr r1 r2 h1.2 h2.2
    have hxy : x.length = y.length := by have := h1.1; have := h2.1; omega
    unfold rowsL
    rw [ih, show seenR l (a :: arr) (x :: r1) = blot (wi a.f1 l) x :: seenR l arr r1 from rfl, show seenR l (a :: arr) (y :: r2) = blot (wi a.f1 l) y :: seenR l arr r2 from rfl]
    generalize seenR l arr r1 = P
    generalize seenR l arr r2 = Q
    cases hw : wi a.f1 l
    · by_cases e : P = Q <;> simp [blot, hxy, e]
    · by_cases e : P = Q <;> by_cases e2 : x = y <;> simp [blot, e, e2]
theorem rowsL_cons {l : Int} {arr : List S57} {xs ys : List (List Int)} {i : Nat} (h0 : i < arr.length) (h1 : i < xs.length) (h2 : i < ys.length) : rowsL l (arr.drop i) (xs.drop i) (ys.drop i) = ((!wi arr[i].f1 l || decide (xs[i] = ys[i])) && rowsL l (arr.drop (i + 1)) (xs.drop (i + 1)) (ys.drop (i + 1))) := by
  rw [List.drop_eq_getElem_cons h0, List.drop_eq_getElem_cons h1, List.drop_eq_getElem_cons h2, rowsL]
section
variable (gs : List Int) (arr : List S57) (l2 : List Int) (l3 : List S48) (l : Int) (g1 : List Int) (r1 : List (List Int)) (g2 : List Int) (r2 : List (List Int))
theorem alike_l1 (j : Nat) (V : Bool) (F B : Nat) (hl : (Lit.int .u64 l).wf = true) (q0 : j < arr.length) (q1 : j < r1.length) (q2 : j < r2.length) (ha : (Lit.int .u64 arr[j].f1).wf = true) (hlen : r1[j].length = r2[j].length) (hm : arr.length ≤ 9223372036854775807) (hm2 : r1[j].length ≤ 9223372036854775807)
    (hV : ∀ k, F ≤ k → louverref20_Alike.l0 k l ((j + 1 : Nat) : Int) gs arr l2 l3 g1 r1 g2 r2 = some V) : ∀ d i k, i + d = r1[j].length → F + d + 66 < k →
    louverref20_Alike.l1 k l (j : Int) (i : Int) gs arr l2 l3 g1 r1 g2 r2 = some ((!wi arr[j].f1 l || decide (r1[j].drop i = r2[j].drop i)) && V) := by
  intro d
  have e0 : rd_T57 arr (j : Int) = arr[j] := by simp [rd_T57, List.getD_eq_getElem?_getD, q0]
  induction d with
  | zero =>
    intro i k hi hk
    obtain ⟨m, rfl⟩ : ∃ m, k = m + 1 := ⟨k - 1, by omega⟩
    rw [louverref20_Alike.l1, if_pos (by omega), if_pos (by omega), rdL_get q1, if_neg (by omega), wrap_succ q0 hm, hV m (by omega), List.drop_eq_nil_of_le (by omega), List.drop_eq_nil_of_le (by omega)]
    simp
  | succ d ih =>
    intro i k hi hk
    obtain ⟨m, rfl⟩ : ∃ m, k = m + 1 := ⟨k - 1, by omega⟩
    have p1 : i < r1[j].length := by omega
    have p2 : i < r2[j].length := by omega
    rw [louverref20_Alike.l1, if_pos (by omega), if_pos (by omega), rdL_get q1, if_pos (by omega), if_pos (by omega), e0, within_f ha hl m (by omega), Option.bind_some, if_pos (show 0 ≤ (i : Int) by omega), if_pos (show (j : Int) < (r2.length : Int) by omega), rdL_get q2, if_pos (show (i : Int) < (r2[j].length : Int) by omega), rd_get p1, rd_get p2, wrap_succ p1 hm2, ih (i + 1) m (by omega) (by omega)]
    cases hw : wi arr[j].f1 l
    · rw [if_neg (by decide)]; simp
    · rw [if_pos rfl, drop_dec p1 p2]
      by_cases c : r1[j][i] = r2[j][i]
      · rw [if_pos c]; simp [c]
      · rw [if_neg c]; simp [c]
theorem alike_l0 (B : Nat) (hl : (Lit.int .u64 l).wf = true) (ha : ∀ a ∈ arr, (Lit.int .u64 a.f1).wf = true) (h1 : arr.map (fun a => a.f0) = r1.map (fun x => (x.length : Int))) (h2 : arr.map (fun a => a.f0) = r2.map (fun x => (x.length : Int))) (hm : arr.length ≤ 9223372036854775807) (hB : B ≤ 9223372036854775807) (hr : ∀ x ∈ r1, x.length ≤ B) : ∀ d j k, j + d = arr.length → d * (B + 70) < k →
    louverref20_Alike.l0 k l (j : Int) gs arr l2 l3 g1 r1 g2 r2 = some (rowsL l (arr.drop j) (r1.drop j) (r2.drop j)) := by
  have n1 : arr.length = r1.length := by simpa using congrArg List.length h1
  have n2 : arr.length = r2.length := by simpa using congrArg List.length h2
  intro d
  induction d with
  | zero =>
    intro j k hi hk
    obtain ⟨m, rfl⟩ : ∃ m, k = m + 1 := ⟨k - 1, by omega⟩
    rw [louverref20_Alike.l0, if_neg (by omega), List.drop_eq_nil_of_le (by omega), rowsL]
    intros; simp_all
  | succ d ih =>
    intro j k hi hk
    obtain ⟨m, rfl⟩ : ∃ m, k = m + 1 := ⟨k - 1, by omega⟩
    have q0 : j < arr.length := by omega
    have q1 : j < r1.length := by omega
    have q2 : j < r2.length := by omega
    have hlen : r1[j].length = r2[j].length := by
      have e1 : (arr.map (fun a => a.f0))[j]? = (r1.map (fun x => (x.length : Int)))[j]? := by rw [h1]
      have e2 : (arr.map (fun a => a.f0))[j]? = (r2.map (fun x => (x.length : Int)))[j]? := by rw [h2]
      simp [q0, q1] at e1
      simp [q0, q2] at e2
      omega
    have hb := hr _ (List.getElem_mem q1)
    have hk2 : d * (B + 70) + (B + 70) < m + 1 := by
      have : (d + 1) * (B + 70) = d * (B + 70) + (B + 70) := by rw [Nat.add_mul, Nat.one_mul]
      omega
    rw [louverref20_Alike.l0, if_pos (by omega), show (0 : Int) = ((0 : Nat) : Int) from rfl,
      alike_l1 gs arr l2 l3 l g1 r1 g2 r2 j (rowsL l (arr.drop (j + 1)) (r1.drop (j + 1)) (r2.drop (j + 1))) (d * (B + 70) + 1) B hl q0 q1 q2 (ha _ (List.getElem_mem q0)) hlen hm (by omega) (fun k hk => ih (j + 1) k (by omega) (by omega)) r1[j].length 0 m (by omega) (by omega),
      rowsL_cons q0 q1 q2, List.drop_zero, List.drop_zero]
theorem refAlike_f (B : Nat) (hl : (Lit.int .u64 l).wf = true) (hg : ∀ a ∈ gs, (Lit.int .u64 a).wf = true) (ha : ∀ a ∈ arr, (Lit.int .u64 a.f1).wf = true) (hm0 : gs.length ≤ 9223372036854775807) (hm : arr.length ≤ 9223372036854775807) (hB : B ≤ 9223372036854775807) (hr : ∀ x ∈ r1, x.length ≤ B) (k : Nat) (hk : arr.length * (B + 70) + gs.length + arr.length + 80 < k) :
    louverref20_Alike.f k gs arr l2 l3 l g1 r1 g2 r2 = some (alikeB gs arr l g1 r1 g2 r2) := by
  obtain ⟨m, rfl⟩ : ∃ m, k = m + 1 := ⟨k - 1, by omega⟩
  unfold louverref20_Alike.f alikeB
  rw [fitsRef_f gs arr l2 l3 g1 r1 hm _ (by omega), Option.bind_some]
  cases f1 : fitsB gs arr g1 r1
  · rw [if_neg (by decide), louverref20_Alike.j0, if_pos rfl]; rfl
  rw [if_pos rfl, fitsRef_f gs arr l2 l3 g2 r2 hm _ (by omega), Option.bind_some]
  cases f2 : fitsB gs arr g2 r2
  · rw [louverref20_Alike.j0, if_pos (show (!false) = true from rfl)]; rfl
  obtain ⟨a1, _, a3⟩ := fitsB_parts f1
  obtain ⟨b1, _, b3⟩ := fitsB_parts f2
  rw [louverref20_Alike.j0, if_neg (by decide), numbers_f l hl gs g1 g2 hg hm0 m (by omega), Option.bind_some, show (0 : Int) = ((0 : Nat) : Int) from rfl, alike_l0 gs arr l2 l3 l g1 r1 g2 r2 B hl ha a3 b3 hm hB hr arr.length 0 m (by omega) (by omega)]
  simp only [List.drop_zero, Bool.true_and]
  rw [rowsL_seen l arr r1 r2 a3 b3]
  unfold numsB sameB
  rw [numL_seen l gs g1 g2 a1 b1, decide_eq_true a1, decide_eq_true b1, Bool.true_and, Bool.true_and]
  by_cases c : seenG l gs g1 = seenG l gs g2
  · simp [c]
  · simp [c]
end
end Go.Proofs.Ytlnccdgclaalbaa.PJ
