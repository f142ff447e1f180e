/- The document's Alike, Args, Results answer as package view's do (no program). -/
import Derived.Test.YtlnccdgclaalbaaPJx0
import Derived.Test.YtlnccdgclaalbaaPJx2
import Derived.Test.YtlnccdgclaalbaaPJx3
import Derived.Test.YtlnccdgclaalbaaPJx8
import Derived.Test.YtlnccdgclaalbaaPJx9
import Derived.Test.YtlnccdgclaalbaaPJx10
import Derived.Test.YtlnccdgclaalbaaViewPure
import Derived.Test.YtlnccdgclaalbaaB64
namespace Go.Proofs.Ytlnccdgclaalbaa.PJ
open Go.RowKit Go.Proofs.YtlnccdgclaalbaaW.PrintWords Go.Proofs.YtlnccdgclaalbaaW.PrintLast Go.Proofs.YtlnccdgclaalbaaW.PrintMore
set_option linter.unusedVariables false
set_option linter.unusedSimpArgs false
theorem has_f (x : BitVec 64) (n : Nat) (hn : n < 64) : louverref01_Has.f (x.toNat : Int) (n : Int) = some (x.getLsbD n) := by
  have hw : IntKind.u64.wrap (n : Int) = (n : Int) := by
    have := B64.u64_toNat (BitVec.ofNat 64 n)
    rwa [show (BitVec.ofNat 64 n).toNat = n by simp; omega] at this
  unfold louverref01_Has.f
  rw [hw, if_pos (show (n : Int) ≥ 0 by omega), if_pos (show (n : Int) ≤ 63 by omega), if_pos (show 0 ≤ (n : Int) by omega), B64.shr_u64 x n ⟨by omega, by omega⟩]
  have h1 := B64.and_u64 (x >>> ((n : Int).toNat)) 1#64
  rw [show ((1#64).toNat : Int) = 1 by decide] at h1
  rw [h1, Int.toNat_natCast]
  congr 1
  have h2 : ((x >>> n) &&& 1#64).toNat = (x.getLsbD n).toNat := by
    rw [BitVec.toNat_and, BitVec.toNat_ushiftRight, show (1#64).toNat = 1 by decide, BitVec.getLsbD, Nat.testBit]
    rw [Nat.and_comm, Nat.one_and_eq_mod_two]
    rcases Nat.mod_two_eq_zero_or_one (x.toNat >>> n) with h | h <;> simp [h]
  rw [h2]
  cases x.getLsbD n <;> rfl
theorem within_l0 (x y : BitVec 64) : ∀ d i k : Nat, i + d = 64 → d < k → ∃ b, louverref01_Within.l0 k (x.toNat : Int) (y.toNat : Int) (i : Int) = some b ∧ (b = true ↔ ∀ j, i ≤ j → j < 64 → x.getLsbD j = true → y.getLsbD j = true) := by
  intro d
  induction d with
  | zero =>
    intro i k hi hk
    obtain ⟨m, rfl⟩ : ∃ m, k = m + 1 := ⟨k - 1, by omega⟩
    rw [louverref01_Within.l0, if_neg (by omega)]
    exact ⟨true, rfl, by simp; intro j h1 h2; omega⟩
  | succ d ih =>
    intro i k hi hk
    obtain ⟨m, rfl⟩ : ∃ m, k = m + 1 := ⟨k - 1, by omega⟩
    obtain ⟨b, hb, hbi⟩ := ih (i + 1) m (by omega) (by omega)
    have hw : wrap64 ((i : Int) + 1) = ((i + 1 : Nat) : Int) := wrap_succ (n := 64) (by omega) (by omega)
    rw [louverref01_Within.l0, if_pos (by omega), has_f x i (by omega), Option.bind_some, has_f y i (by omega), Option.bind_some, hw, hb]
    have key : (∀ j, i ≤ j → j < 64 → x.getLsbD j = true → y.getLsbD j = true) ↔ ((x.getLsbD i = true → y.getLsbD i = true) ∧ ∀ j, i + 1 ≤ j → j < 64 → x.getLsbD j = true → y.getLsbD j = true) := by
      constructor
      · intro h
        exact ⟨h i (Nat.le_refl _) (by omega), fun j h1 h2 => h j (by omega) h2⟩
      · rintro ⟨h0, h⟩ j h1 h2
        by_cases e : j = i
        · subst e; exact h0
        · exact h j (by omega) h2
    cases hx : x.getLsbD i
    · rw [if_neg (by decide)]
      refine ⟨b, rfl, ?_⟩
      rw [key, hbi, hx]
      simp
    · rw [if_pos rfl]
      cases hy : y.getLsbD i
      · rw [if_neg (by decide)]
        refine ⟨false, rfl, ?_⟩
        rw [key, hx, hy]
        simp
      · rw [if_pos rfl]
        refine ⟨b, rfl, ?_⟩
        rw [key, hbi, hx, hy]
        simp
theorem within_f {a l : Int} (ha : (Lit.int .u64 a).wf = true) (hl : (Lit.int .u64 l).wf = true) (k : Nat) (hk : 64 < k) : louverref01_Within.f k a l = some (wi a l) := by
  obtain ⟨x, rfl⟩ := B64.u64_exists (B64.wf_u64 ha)
  obtain ⟨y, rfl⟩ := B64.u64_exists (B64.wf_u64 hl)
  obtain ⟨b, hb, hbi⟩ := within_l0 x y 64 0 k (by omega) hk
  unfold louverref01_Within.f
  have hb' : louverref01_Within.l0 k (x.toNat : Int) (y.toNat : Int) 0 = some b := hb
  rw [hb']
  congr 1
  have hwi : wi (x.toNat : Int) (y.toNat : Int) = true ↔ ∀ j, 0 ≤ j → j < 64 → x.getLsbD j = true → y.getLsbD j = true := by
    unfold wi
    rw [B64.andNot_u64]
    constructor
    · intro h j _ hj hx
      have h1 : x &&& ~~~y = 0#64 := by
        apply BitVec.eq_of_toNat_eq
        have : ((x &&& ~~~y).toNat : Int) = 0 := by simpa using h
        simpa using Int.ofNat.inj this
      have h2 := congrArg (fun v => v.getLsbD j) h1
      simp only [BitVec.getLsbD_and, BitVec.getLsbD_not, BitVec.getLsbD_zero, hj, decide_true, Bool.true_and, hx] at h2
      cases hy : y.getLsbD j
      · rw [hy] at h2; simp at h2
      · rfl
    · intro h
      have h1 : x &&& ~~~y = 0#64 := by
        apply BitVec.eq_of_getLsbD_eq
        intro j hj
        simp only [BitVec.getLsbD_and, BitVec.getLsbD_not, BitVec.getLsbD_zero, hj, decide_true, Bool.true_and]
        cases hx : x.getLsbD j
        · rfl
        · rw [h j (by omega) hj hx]; rfl
      rw [h1]
      rfl
  cases b
  · cases hw : wi (x.toNat : Int) (y.toNat : Int)
    · rfl
    · exact absurd (hbi.mpr (hwi.mp hw)) (by decide)
  · exact (hwi.mpr (hbi.mp rfl)).symm
theorem fitsRef_l0 (gs : List Int) (arr : List S57) (l2 : List Int) (l3 : List S48) (g : List Int) (r : List (List Int)) (h1 : arr.length = r.length) (hm : arr.length ≤ 9223372036854775807) : ∀ d i k, i + d = arr.length → d < k →
    louverref20_Fits.l0 k (i : Int) gs arr l2 l3 g r = some (decide ((arr.drop i).map (fun a => a.f0) = (r.drop i).map (fun x => (x.length : Int)))) := by
  intro d
  induction d with
  | zero =>
    intro i k hi hk
    obtain ⟨m, rfl⟩ : ∃ m, k = m + 1 := ⟨k - 1, by omega⟩
    rw [louverref20_Fits.l0, if_neg (by omega), List.drop_eq_nil_of_le (by omega), List.drop_eq_nil_of_le (by omega)]
    simp
  | succ d ih =>
    intro i k hi hk
    obtain ⟨m, rfl⟩ : ∃ m, k = m + 1 := ⟨k - 1, by omega⟩
    have q0 : i < arr.length := by omega
    have q1 : i < r.length := by omega
    have e0 : rd_T57 arr (i : Int) = arr[i] := by simp [rd_T57, List.getD_eq_getElem?_getD, q0]
    rw [louverref20_Fits.l0, if_pos (by omega), if_pos (by omega), if_pos (by omega), rdL_get q1, e0, wrap_succ q0 hm, ih (i + 1) m (by omega) (by omega), List.drop_eq_getElem_cons q0, List.drop_eq_getElem_cons q1]
    by_cases c : arr[i].f0 = (r[i].length : Int)
    · rw [if_pos c]; simp only [List.map_cons, List.cons.injEq, c, true_and]
    · rw [if_neg c]; simp only [List.map_cons, List.cons.injEq, c, false_and, decide_false]
theorem fitsRef_f (gs : List Int) (arr : List S57) (l2 : List Int) (l3 : List S48) (g : List Int) (r : List (List Int)) (hm : arr.length ≤ 9223372036854775807) (k : Nat) (hk : arr.length + 1 < k) : louverref20_Fits.f k gs arr l2 l3 g r = some (fitsB gs arr g r) := by
  obtain ⟨m, rfl⟩ : ∃ m, k = m + 1 := ⟨k - 1, by omega⟩
  unfold louverref20_Fits.f fitsB
  by_cases c1 : g.length = gs.length
  · rw [if_pos (by omega)]
    by_cases c2 : arr.length = r.length
    · rw [louverref20_Fits.j0, if_neg (by simp [c2]), show (0 : Int) = ((0 : Nat) : Int) from rfl, fitsRef_l0 gs arr l2 l3 g r c2 hm arr.length 0 m (by omega) (by omega)]
      simp [c1]
    · rw [louverref20_Fits.j0, if_pos (by simp; omega)]
      have : ¬ arr.map (fun a => a.f0) = r.map (fun x => (x.length : Int)) := fun h => c2 (by simpa using congrArg List.length h)
      simp [this]
  · rw [if_neg (by omega), louverref20_Fits.j0, if_pos rfl]
    simp [c1]
section
variable (gs : List Int) (arr : List S57) (l2 : List Int) (l3 : List S48) (l : Int) (g1 : List Int) (r1 : List (List Int)) (g2 : List Int) (r2 : List (List Int))
end
end Go.Proofs.Ytlnccdgclaalbaa.PJ
