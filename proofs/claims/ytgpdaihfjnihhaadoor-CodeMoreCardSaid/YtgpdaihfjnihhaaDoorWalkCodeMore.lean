/- The law CodeMore from its row's form: an effect that there was stays. -/
import Derived.Test.YtgpdaihfjnihhaaDoorPJx0
import Derived.Test.YtgpdaihfjnihhaaDoorHandCodeMore
import Derived.Test.YtgpdaihfjnihhaaDoorHandTab
import Derived.Test.YtgpdaihfjnihhaaDoorOpenCode
namespace Go.Proofs.YtgpdaihfjnihhaaDoor.PJ
open Go.RowKit Go.Proofs.YtgpdaihfjnihhaaDoorW.PrintWords Go.Proofs.YtgpdaihfjnihhaaDoorW.PrintLast Go.Proofs.YtgpdaihfjnihhaaDoorW.PrintMore
theorem found_more {op a : Int} {ng na nc nf : Nat} {F : S41} (h : foundOf op a ng na nc nf F = true) : foundOf op a (ng + 1) (na + 1) (nc + 1) (nf + 1) F = true := by
  unfold foundOf at h ⊢
  by_cases c1 : op = 33 ∨ op = 34
  · rw [if_pos c1] at h ⊢
    exact h
  rw [if_neg c1] at h ⊢
  by_cases c2 : op = 35 ∨ op = 36
  · rw [if_pos c2] at h ⊢
    exact decide_eq_true (by have := of_decide_eq_true h; omega)
  rw [if_neg c2] at h ⊢
  by_cases c3 : op = 37 ∨ op = 38
  · rw [if_pos c3] at h ⊢
    exact decide_eq_true (by have := of_decide_eq_true h; omega)
  rw [if_neg c3] at h ⊢
  by_cases c4 : op = 43 ∨ op = 44
  · rw [if_pos c4] at h ⊢
    exact h
  rw [if_neg c4] at h ⊢
  by_cases c5 : op = 45
  · rw [if_pos c5] at h ⊢
    exact decide_eq_true (by have := of_decide_eq_true h; omega)
  rw [if_neg c5] at h ⊢
  by_cases c6 : op = 47
  · rw [if_pos c6] at h ⊢
    exact decide_eq_true (by have := of_decide_eq_true h; omega)
  rw [if_neg c6]
theorem rd_app {l : List S41} {z : S41} {i : Int} (h0 : 0 ≤ i) (h1 : i < (l.length : Int)) : rd_T41 (l ++ [z]) i = rd_T41 l i := by
  unfold rd_T41
  rw [List.getD_eq_getElem?_getD, List.getD_eq_getElem?_getD, List.getElem?_append_left (by omega)]
theorem effect_more {op a f x y : Int} {n0 n1 n2 : Nat} {l : List S41} {z : S41} (h : effectOf op a f n0 n1 n2 l = (x, y, true)) :
    effectOf op a f (n0 + 1) (n1 + 1) (n2 + 1) (l ++ [z]) = (x, y, true) ∧ mayOf op a = true ∧ 0 ≤ f ∧ f < (l.length : Int) := by
  unfold effectOf at h
  by_cases hf : f < 0 ∨ (l.length : Int) ≤ f
  · rw [if_pos hf] at h
    simp at h
  rw [if_neg hf] at h
  by_cases hm : mayOf op a = true ∧ foundOf op a n0 n1 n2 l.length (rd_T41 l f) = true
  · rw [if_pos hm] at h
    refine ⟨?_, hm.1, by omega, by omega⟩
    have hlen : (l ++ [z]).length = l.length + 1 := by simp
    unfold effectOf
    rw [hlen, rd_app (by omega) (by omega), if_neg (by omega), if_pos ⟨hm.1, found_more hm.2⟩]
    by_cases c : op = 45
    · have hfo := hm.2
      have hma := hm.1
      subst c
      have ha1 : a < (l.length : Int) := by
        unfold foundOf at hfo
        rw [if_neg (by decide), if_neg (by decide), if_neg (by decide), if_neg (by decide), if_pos rfl] at hfo
        exact of_decide_eq_true hfo
      have ha0 : 0 ≤ a := by
        unfold mayOf at hma
        rw [Bool.and_eq_true] at hma
        have := hma.2
        rw [if_pos (by decide)] at this
        have := of_decide_eq_true this
        omega
      rw [rd_app ha0 ha1]
      exact h
    · simp only [if_neg c] at h ⊢
      exact h
  · rw [if_neg hm] at h
    simp at h
theorem effect_no {op a f x y : Int} {n0 n1 n2 : Nat} {l : List S41} (h : effectOf op a f n0 n1 n2 l = (x, y, false)) : x = 0 ∧ y = 0 := by
  unfold effectOf at h
  repeat' split at h
  all_goals
    simp only [Prod.mk.injEq] at h
    first
    | exact ⟨h.1.symm, h.2.1.symm⟩
    | exact absurd h.2.2 (by decide)
theorem louverlaw10_CodeMore.walk (cs0 : Array Value) (z0 : List Int × List S38 × List Int × List S41) (a1 : Int) (cs2 : Array Value) (z2 : S44) (w : World) (w0 : kMod.K w z0 cs0.toList)
    (y0 : ((∀ y ∈ z0.1, (Lit.int .u64 y).wf = true) ∧ z0.1.length * 8 ≤ 140737488351232) ∧ ((∀ x ∈ z0.2.1, (Lit.int .i64 x.f0).wf = true ∧ (Lit.int .u64 x.f1).wf = true) ∧ z0.2.1.length * 16 ≤ 140737488351232) ∧ ((∀ y ∈ z0.2.2.1, (Lit.int .u64 y).wf = true) ∧ z0.2.2.1.length * 8 ≤ 140737488351232) ∧ ((∀ x ∈ z0.2.2.2, okFunc x) ∧ z0.2.2.2.length * 96 ≤ 140737488351232))
    (_w1 : (Lit.int .i64 a1).wf = true) (w2 : k44.K w z2 cs2.toList) (_y2 : (Lit.int .i64 z2.f0).wf = true ∧ (Lit.int .i64 z2.f1).wf = true) (hL : laidMetH Tryd.prog Rows.codeMoreRow.laid w) :
    Calls Tryd.prog 7 #[.agg cs0, .int .i64 a1, .agg cs2] w fun e w' => e = .returned (.bool true) ∧ Below w.heap.size w w' := by
  obtain ⟨l0, l1, l2, l3⟩ := z0
  have e2 := k44_open w2
  obtain rfl : cs2 = #[.int .i64 z2.f0, .int .i64 z2.f1] := by
    apply Array.toList_inj.mp
    simpa using e2
  obtain ⟨_, _, e, ⟨A0, c0, rfl, h0, g0⟩, ⟨_, _, rfl, ⟨A1, c1, rfl, h1, g1⟩, ⟨_, _, rfl, ⟨A2, c2, rfl, h2, g2⟩, ⟨A3, c3, rfl, h3, g3⟩⟩⟩⟩ := w0
  obtain rfl : cs0 = #[.slice A0 l0.length c0, .slice A1 l1.length c1, .slice A2 l2.length c2, .slice A3 l3.length c3] := by
    apply Array.toList_inj.mp
    simpa using e
  obtain ⟨x, y, ok, he⟩ : ∃ x y ok, effectOf z2.f0 z2.f1 a1 l0.length l1.length l2.length l3 = (x, y, ok) := ⟨_, _, _, rfl⟩
  cases ok with
  | false =>
    obtain ⟨rfl, rfl⟩ := effect_no he
    exact codeMore.no a1 z2.f0 z2.f1 A0 A1 A2 A3 c0 c1 c2 c3 l0 l1 l2 l3 w (tab_of_laid hL) g0 g1 g2 g3 he
  | true =>
    obtain ⟨he2, hm, hf0, hf1⟩ := effect_more (z := addedFn) he
    exact codeMore.yes a1 z2.f0 z2.f1 x y A0 A1 A2 A3 c0 c1 c2 c3 l0 l1 l2 l3 _ w (tab_of_laid hL) g0 g1 g2 g3 y0.1.2 y0.2.1.2 y0.2.2.1.2 y0.2.2.2.2 he rfl he2 hm hf0 hf1
end Go.Proofs.YtgpdaihfjnihhaaDoor.PJ
