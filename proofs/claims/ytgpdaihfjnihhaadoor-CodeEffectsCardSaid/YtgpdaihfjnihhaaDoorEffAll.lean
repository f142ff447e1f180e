/- Texts of this claim, joined: TablePure, CodeEffPure, HandCodeEffects, WalkCodeEffects. -/
import Derived.Test.YtgpdaihfjnihhaaDoorPJx3
import Derived.Test.YtgpdaihfjnihhaaDoorHandCode6
import Derived.Test.YtgpdaihfjnihhaaDoorPJx0
import Derived.Test.YtgpdaihfjnihhaaDoorPJx8
import Derived.Test.YtgpdaihfjnihhaaDoorPJx9
import Derived.Test.YtgpdaihfjnihhaaDoorLentAll
import Derived.Test.YtgpdaihfjnihhaaDoorHandTab
import Derived.Test.YtgpdaihfjnihhaaDoorOpenCode
namespace Go.Proofs.YtgpdaihfjnihhaaDoor.PJ
open Go.RowKit Go.Proofs.YtgpdaihfjnihhaaDoorW.PrintWords Go.Proofs.YtgpdaihfjnihhaaDoorW.PrintLast Go.Proofs.YtgpdaihfjnihhaaDoorW.PrintMore
set_option linter.unusedSimpArgs false
set_option maxRecDepth 100000
def rowOk (op : Int) : Bool := match louverref10_Table.f 3 op with
  | some (nm, _, _, kd, ok) => decide (nm.data = (nameOf op).data) && (ok == validOp op) && (operandOp op == (ok && decide (0 < kd))) && ((ok && kd == 1) == (op == 32)) && decide (0 ≤ kd)
  | none => false
theorem row_small : (List.range 48).all (fun n => rowOk (n : Int)) = true := by kernel_rfl
theorem table_far (op : Int) (h : op < 1 ∨ 47 < op) : louverref10_Table.f 3 op = some (ByteArray.empty, 0, 0, 0, false) := by
  unfold louverref10_Table.f
  by_cases h1 : op ≥ 1
  · rw [if_pos h1, decide_eq_false (show ¬ op ≤ 17 by omega)]
    unfold louverref10_Table.j0
    simp only [show ¬ op = 32 by omega, show ¬ op = 33 by omega, show ¬ op = 34 by omega, show ¬ op = 35 by omega, show ¬ op = 36 by omega, show ¬ op = 37 by omega, show ¬ op = 38 by omega, show ¬ op = 39 by omega, show ¬ op = 40 by omega, show ¬ op = 41 by omega, show ¬ op = 42 by omega, show ¬ op = 43 by omega, show ¬ op = 44 by omega, show ¬ op = 45 by omega, show ¬ op = 46 by omega, show ¬ op = 47 by omega, if_false, Bool.false_eq_true]
    rfl
  · rw [if_neg h1]
    unfold louverref10_Table.j0
    simp only [show ¬ op = 32 by omega, show ¬ op = 33 by omega, show ¬ op = 34 by omega, show ¬ op = 35 by omega, show ¬ op = 36 by omega, show ¬ op = 37 by omega, show ¬ op = 38 by omega, show ¬ op = 39 by omega, show ¬ op = 40 by omega, show ¬ op = 41 by omega, show ¬ op = 42 by omega, show ¬ op = 43 by omega, show ¬ op = 44 by omega, show ¬ op = 45 by omega, show ¬ op = 46 by omega, show ¬ op = 47 by omega, if_false, Bool.false_eq_true]
    rfl
theorem table_all (op : Int) : ∃ p q kd, louverref10_Table.f 3 op = some (nameOf op, p, q, kd, validOp op) ∧ operandOp op = (validOp op && decide (0 < kd)) ∧ (validOp op = true → (kd = 1 ↔ op = 32)) ∧ 0 ≤ kd := by
  by_cases h : op < 1 ∨ 47 < op
  · refine ⟨0, 0, 0, ?_, ?_, ?_, by decide⟩
    · rw [table_far op h, show nameOf op = ByteArray.empty by unfold nameOf; rw [if_neg (by omega), if_neg (by omega)], show validOp op = false by unfold validOp; exact decide_eq_false (by omega)]
    · rw [show validOp op = false by unfold validOp; exact decide_eq_false (by omega), show operandOp op = false by unfold operandOp; exact decide_eq_false (by omega)]
      rfl
    · intro hv
      rw [show validOp op = false by unfold validOp; exact decide_eq_false (by omega)] at hv
      cases hv
  · obtain ⟨n, rfl⟩ : ∃ n : Nat, op = (n : Int) := ⟨op.toNat, by omega⟩
    have hr := List.all_eq_true.mp row_small n (List.mem_range.mpr (by omega))
    unfold rowOk at hr
    cases hT : louverref10_Table.f 3 (n : Int) with
    | none => rw [hT] at hr; cases hr
    | some v =>
      obtain ⟨nm, p, q, kd, ok⟩ := v
      rw [hT] at hr
      simp only [Bool.and_eq_true, decide_eq_true_eq] at hr
      obtain ⟨⟨⟨⟨h1, h2⟩, h3⟩, h4⟩, h5⟩ := hr
      have h1 : nm = nameOf (n : Int) := by
        cases nm
        cases hq : nameOf (n : Int)
        rw [hq] at h1
        simp only at h1
        rw [h1]
      have h2 : ok = validOp (n : Int) := eq_of_beq h2
      have h3 := eq_of_beq h3
      have h4 := eq_of_beq h4
      refine ⟨p, q, kd, by rw [h1, h2], by rw [h3, h2], fun hv => ?_, h5⟩
      rw [h2, hv, Bool.true_and] at h4
      constructor
      · intro e
        rw [e] at h4
        exact eq_of_beq h4.symm
      · intro e
        rw [e] at h4
        exact eq_of_beq h4
theorem refMay_f (op a : Int) : louverref10_May.f 3 op a = some (mayOf op a) := by
  obtain ⟨p, q, kd, hT, ho, h32, h0⟩ := table_all op
  unfold louverref10_May.f mayOf
  rw [hT, Option.bind_some, ho]
  by_cases hv : validOp op = true
  · have e32 := h32 hv
    rw [hv]
    by_cases hk : kd = 0
    · subst hk
      simp
      by_cases ha : a = 0 <;> simp [ha]
    · have hk2 : 0 < kd := by omega
      by_cases h1 : kd = 1
      · have := e32.mp h1
        simp [h1, this]
      · have : ¬ op = 32 := fun e => h1 (e32.mpr e)
        simp [hk, h1, hk2, this]
  · have hv2 : validOp op = false := by simpa using hv
    rw [hv2]
    simp
end Go.Proofs.YtgpdaihfjnihhaaDoor.PJ

namespace Go.Proofs.YtgpdaihfjnihhaaDoor.PJ
open Go.RowKit Go.Proofs.YtgpdaihfjnihhaaDoorW.PrintWords Go.Proofs.YtgpdaihfjnihhaaDoorW.PrintLast Go.Proofs.YtgpdaihfjnihhaaDoorW.PrintMore
set_option linter.unusedSimpArgs false
set_option linter.unusedVariables false
set_option maxRecDepth 100000
def kdOf (op : Int) : Int := if op = 33 ∨ op = 34 then 2 else if op = 35 ∨ op = 36 then 3 else if op = 37 ∨ op = 38 then 4 else if op = 43 ∨ op = 44 then 5 else if op = 45 then 6 else if op = 47 then 7 else if op = 32 then 1 else 0
def effP (op : Int) : Int × Int := if op ≤ 14 then (2, 1) else if op ≤ 17 then (1, 1) else effL.getD (op - 32).toNat (0, 0)
def effRow (n : Nat) : Bool := !validOp (n : Int) || (match louverref10_Table.f 3 (n : Int) with
  | some (_, p, q, kd, ok) => decide (kd = kdOf (n : Int)) && ok && (decide (n = 45) || decide (n = 46) || (decide (p = (effP (n : Int)).1) && decide (q = (effP (n : Int)).2)))
  | none => false)
theorem effRows : (List.range 48).all effRow = true := by kernel_rfl
theorem table_eff (op : Int) (hv : validOp op = true) : ∃ nm p q, louverref10_Table.f 3 op = some (nm, p, q, kdOf op, true) ∧ (op = 45 ∨ op = 46 ∨ (p = (effP op).1 ∧ q = (effP op).2)) := by
  obtain ⟨n, rfl, hn⟩ : ∃ n : Nat, op = (n : Int) ∧ n < 48 := by
    have := of_decide_eq_true hv
    exact ⟨op.toNat, by omega, by omega⟩
  have hr := List.all_eq_true.mp effRows n (List.mem_range.mpr hn)
  unfold effRow at hr
  rw [hv] at hr
  cases hT : louverref10_Table.f 3 (n : Int) with
  | none => rw [hT] at hr; cases hr
  | some v =>
    obtain ⟨nm, p, q, kd, ok⟩ := v
    rw [hT] at hr
    simp only [Bool.not_true, Bool.false_or, Bool.and_eq_true, Bool.or_eq_true, decide_eq_true_eq] at hr
    obtain ⟨⟨h1, h2⟩, h3⟩ := hr
    subst h1 h2
    refine ⟨nm, p, q, rfl, ?_⟩
    rcases h3 with (h | h) | h
    · exact .inl (by omega)
    · exact .inr (.inl (by omega))
    · exact .inr (.inr h)
theorem there_found (l0 : List Int) (l1 : List S38) (l2 : List Int) (l3 : List S41) (F : S41) (op a : Int) :
    louverref10_there.f l0 l1 l2 l3 F.f0 F.f1 F.f2 F.f3 F.f4 F.f5 (kdOf op) a = some (foundOf op a l0.length l1.length l2.length l3.length F) := by
  unfold louverref10_there.f foundOf kdOf
  by_cases c1 : op = 33 ∨ op = 34
  · rw [if_pos c1, if_pos c1, if_pos rfl]
    by_cases ha : a < (F.f1.length : Int)
    · rw [if_pos ha, decide_eq_true ha]; rfl
    · rw [if_neg ha, decide_eq_false ha]; rfl
  rw [if_neg c1, if_neg c1]
  by_cases c2 : op = 35 ∨ op = 36
  · rw [if_pos c2, if_pos c2, if_neg (by decide), if_pos rfl]
  rw [if_neg c2, if_neg c2]
  by_cases c3 : op = 37 ∨ op = 38
  · rw [if_pos c3, if_pos c3, if_neg (by decide), if_neg (by decide), if_pos rfl]
  rw [if_neg c3, if_neg c3]
  by_cases c4 : op = 43 ∨ op = 44
  · rw [if_pos c4, if_pos c4, if_neg (by decide), if_neg (by decide), if_neg (by decide), if_pos rfl]
  rw [if_neg c4, if_neg c4]
  by_cases c5 : op = 45
  · rw [if_pos c5, if_pos c5, if_neg (by decide), if_neg (by decide), if_neg (by decide), if_neg (by decide), if_pos rfl]
  rw [if_neg c5, if_neg c5]
  by_cases c6 : op = 47
  · rw [if_pos c6, if_pos c6, if_neg (by decide), if_neg (by decide), if_neg (by decide), if_neg (by decide), if_neg (by decide), if_pos rfl]
  rw [if_neg c6, if_neg c6]
  by_cases c7 : op = 32
  · rw [if_pos c7]; rfl
  · rw [if_neg c7]; rfl
theorem effMay_f (op a : Int) : louverref10_May.f 4 op a = some (mayOf op a) := louverref10_May.mono op a 3 _ (refMay_f op a)
theorem refEffect_f (l0 : List Int) (l1 : List S38) (l2 : List Int) (l3 : List S41) (f op a : Int) :
    louverref10_Effect.f 4 l0 l1 l2 l3 f op a = some (effectOf op a f l0.length l1.length l2.length l3) := by
  unfold louverref10_Effect.f effectOf
  by_cases f0 : f < 0
  · rw [if_pos f0, if_pos (.inl f0), louverref10_Effect.j0, if_pos rfl]
  rw [if_neg f0]
  by_cases f1 : f ≥ (l3.length : Int)
  · rw [if_pos f1, if_pos (.inr f1), louverref10_Effect.j0, if_pos rfl]
  rw [if_neg f1, if_neg (by omega), effMay_f, Option.bind_some, louverref10_Effect.j0]
  by_cases hm : mayOf op a = true
  · have hv : validOp op = true := by
      unfold mayOf at hm
      rw [Bool.and_eq_true] at hm
      exact hm.1
    obtain ⟨nm, p, q, hT, hpq⟩ := table_eff op hv
    rw [hm, if_neg (by decide), hT, Option.bind_some, if_pos (by omega), if_pos (by omega), there_found, Option.bind_some]
    by_cases hf : foundOf op a l0.length l1.length l2.length l3.length (rd_T41 l3 f) = true
    · have hX : (true = true ∧ foundOf op a l0.length l1.length l2.length l3.length (rd_T41 l3 f) = true) := ⟨rfl, hf⟩
      rw [if_pos hf, if_pos hX]
      clear hX
      by_cases h45 : op = 45
      · subst h45
        have h1 : 0 ≤ a := by simpa [mayOf, validOp, operandOp] using hm
        have h2 : a < (l3.length : Int) := by simpa [foundOf] using hf
        rw [if_pos (show (45 : Int) = 45 from rfl), if_pos h1, if_pos h2, if_neg (show ¬ (45 : Int) ≤ 14 by decide), if_neg (show ¬ (45 : Int) ≤ 17 by decide), if_pos (show (45 : Int) = 45 from rfl)]
      · rw [if_neg h45]
        by_cases h46 : op = 46
        · subst h46
          rw [if_pos (show (46 : Int) = 46 from rfl), if_neg (show ¬ (46 : Int) ≤ 14 by decide), if_neg (show ¬ (46 : Int) ≤ 17 by decide), if_neg (show ¬ (46 : Int) = 45 by decide), if_pos (show (46 : Int) = 46 from rfl)]
        · rw [if_neg h46]
          have hpq : p = (effP op).1 ∧ q = (effP op).2 := by
            rcases hpq with h | h | h
            · exact absurd h h45
            · exact absurd h h46
            · exact h
          obtain ⟨e1, e2⟩ := hpq
          subst e1 e2
          unfold effP
          by_cases h14 : op ≤ 14
          · rw [if_pos h14, if_pos h14]
          rw [if_neg h14, if_neg h14]
          by_cases h17 : op ≤ 17
          · rw [if_pos h17, if_pos h17]
          rw [if_neg h17, if_neg h17, if_neg h45, if_neg h46]
    · rw [if_neg hf, if_neg (fun h => hf h.2)]
  · have hm2 : mayOf op a = false := by simpa using hm
    rw [hm2, if_pos (show (!false) = true from rfl), if_neg (fun h => by simp at h)]
end Go.Proofs.YtgpdaihfjnihhaaDoor.PJ

namespace Go.Proofs.YtgpdaihfjnihhaaDoor.PJ
open Go.RowKit Go.Proofs.YtgpdaihfjnihhaaDoorW.PrintWords Go.Proofs.YtgpdaihfjnihhaaDoorW.PrintLast Go.Proofs.YtgpdaihfjnihhaaDoorW.PrintMore
set_option linter.unusedSimpArgs false
set_option linter.unusedVariables false
theorem and_eq3 (x y : Int) (z : Bool) : ((x == x && y == y) && z == z) = true := by simp
set_option maxHeartbeats 16000000 in
set_option maxRecDepth 100000 in
theorem codeEffects.calls (f op a : Int) (A0 A1 A2 A3 : Option Addr) (c0 c1 c2 c3 : Nat) (l0 : List Int) (l1 : List S38) (l2 : List Int) (l3 : List S41) (w : World) (ht : Lib.TabIs Tryd.prog w "strings.asciiSpace" .u8 Lib.asciiSpaceTab)
    (hr0 : Kd.C (Kd.int .u64) w A0 l0.length l0) (hc0 : l0.length ≤ c0) (hr1 : Kd.C k38 w A1 l1.length l1) (hc1 : l1.length ≤ c1) (hr2 : Kd.C (Kd.int .u64) w A2 l2.length l2) (hc2 : l2.length ≤ c2) (hr3 : Kd.C k41 w A3 l3.length l3) (hc3 : l3.length ≤ c3)
    (hs0 : (l0.length + 1) * 8 ≤ 140737488355328) (hs1 : (l1.length + 1) * 16 ≤ 140737488355328) (hs2 : (l2.length + 1) * 8 ≤ 140737488355328) (hs3 : (l3.length + 1) * 96 ≤ 140737488355328)
    (hsf : ∀ x ∈ l3, (x.f1.length + 1) * 8 ≤ 140737488355328 ∧ (x.f2.length + 1) * 8 ≤ 140737488355328 ∧ (x.f5.length + 1) * 16 ≤ 140737488355328) :
    Calls Tryd.prog 6 #[.agg #[.slice A0 l0.length c0, .slice A1 l1.length c1, .slice A2 l2.length c2, .slice A3 l3.length c3], .int .i64 f, .agg #[.int .i64 op, .int .i64 a]] w fun e w' => e = .returned (.bool true) ∧ Below w.heap.size w w' := by
  obtain ⟨x, y, ok, he⟩ : ∃ x y ok, effectOf op a f l0.length l1.length l2.length l3 = (x, y, ok) := ⟨_, _, _, rfl⟩
  have hE := refEffect_f l0 l1 l2 l3 f op a
  rw [he] at hE
  have HE := Aside0.mk he
  have HEF := Aside0.mk hE
  have HT := Aside0.mk ht
  have HR0 := Aside0.mk hr0
  have HR1 := Aside0.mk hr1
  have HR2 := Aside0.mk hr2
  have HR3 := Aside0.mk hr3
  have HC := Aside0.mk (And.intro hc0 (And.intro hc1 (And.intro hc2 hc3)))
  have HS := Aside0.mk (And.intro hs0 (And.intro hs1 (And.intro hs2 (And.intro hs3 hsf))))
  clear he hE ht hr0 hr1 hr2 hr3 hc0 hc1 hc2 hc3 hs0 hs1 hs2 hs3 hsf
  have HB := Aside0.mk (below_alloc (below_alloc (Below.refl w.heap.size w) (.cells #[.slice A0 l0.length c0, .slice A1 l1.length c1, .slice A2 l2.length c2, .slice A3 l3.length c3] 26)) (.cells #[.int .i64 op, .int .i64 a] 44))
  have HGm := Aside0.mk (blk_alloc (heap_alloc_new w (.cells #[.slice A0 l0.length c0, .slice A1 l1.length c1, .slice A2 l2.length c2, .slice A3 l3.length c3] 26)) (.cells #[.int .i64 op, .int .i64 a] 44))
  have HGi := Aside0.mk (show ((w.alloc (.cells #[.slice A0 l0.length c0, .slice A1 l1.length c1, .slice A2 l2.length c2, .slice A3 l3.length c3] 26)).alloc (.cells #[.int .i64 op, .int .i64 a] 44)).heap[w.heap.size + 1]? = some (.cells #[.int .i64 op, .int .i64 a] 44 (0, 0)) by
    have := heap_alloc_new (w.alloc (.cells #[.slice A0 l0.length c0, .slice A1 l1.length c1, .slice A2 l2.length c2, .slice A3 l3.length c3] 26)) (.cells #[.int .i64 op, .int .i64 a] 44)
    simpa using this)
  obtain ⟨m0, m1, m2, m3⟩ := facts4 HGm.out
  obtain ⟨i0, i1, _, _⟩ := facts2 HGi.out
  go_enter Tryd.func6, Tryd.ntmps6
  go_wp2_with fail
  refine (lentModC A0 A1 A2 A3 c0 c1 c2 c3 l0 l1 l2 l3 _ (Kd.C_below HR0.out HB.out) (Kd.C_below HR1.out HB.out) (Kd.C_below HR2.out HB.out) (Kd.C_below HR3.out HB.out) HS.out.1 HS.out.2.1 HS.out.2.2.1 HS.out.2.2.2.1 HS.out.2.2.2.2).mono ?_
  rintro e w1 ⟨v, rfl, hL, hb⟩
  have HL := Aside0.mk hL
  obtain ⟨B0, d0, B1, d1, B2, d2, B3, d3, rfl, ⟨p0, q0⟩, ⟨p1, q1⟩, ⟨p2, q2⟩, ⟨p3, q3⟩⟩ := hL
  have HQ3 := Aside0.mk (C_LF q3)
  clear p0 q0 p1 q1 p2 q2 p3 q3
  replace HGm := Aside0.mk (blk_below HGm.out hb)
  replace HGi := Aside0.mk (blk_below HGi.out hb)
  replace HB := Aside0.mk (below_step HB.out hb)
  clear hb m0 m1 m2 m3 i0 i1
  have HN := Aside0.mk (heap_alloc_new w1 (.cells #[.slice B0 l0.length d0, .slice B1 l1.length d1, .slice B2 l2.length d2, .slice B3 l3.length d3] 26))
  have hb := below_alloc (Below.refl w1.heap.size w1) (.cells #[.slice B0 l0.length d0, .slice B1 l1.length d1, .slice B2 l2.length d2, .slice B3 l3.length d3] 26)
  replace HGm := Aside0.mk (blk_alloc HGm.out (.cells #[.slice B0 l0.length d0, .slice B1 l1.length d1, .slice B2 l2.length d2, .slice B3 l3.length d3] 26))
  replace HGi := Aside0.mk (blk_alloc HGi.out (.cells #[.slice B0 l0.length d0, .slice B1 l1.length d1, .slice B2 l2.length d2, .slice B3 l3.length d3] 26))
  replace HL := Aside0.mk (HL.out.below hb)
  replace HQ3 := Aside0.mk (Kd.C_below HQ3.out hb)
  replace HB := Aside0.mk (below_step HB.out hb)
  clear hb
  obtain ⟨m0, m1, m2, m3⟩ := facts4 HGm.out
  obtain ⟨i0, i1, _, _⟩ := facts2 HGi.out
  obtain ⟨n0, n1, n2, n3⟩ := facts4 HN.out
  go_wp2_with fail
  refine (code_Effect.calls B0 d0 l0.length B1 d1 l1.length B2 d2 l2.length B3 d3 l3 f op a _ (tab_below HT.out HB.out) HQ3.out).mono ?_
  rintro e w2 ⟨rfl, hb⟩
  rw [HE.out]
  clear HQ3
  replace HGm := Aside0.mk (blk_below HGm.out hb)
  replace HGi := Aside0.mk (blk_below HGi.out hb)
  replace HN := Aside0.mk (blk_below HN.out hb)
  replace HL := Aside0.mk (HL.out.below hb)
  replace HB := Aside0.mk (below_step HB.out hb)
  clear hb m0 m1 m2 m3 i0 i1 n0 n1 n2 n3
  obtain ⟨m0, m1, m2, m3⟩ := facts4 HGm.out
  obtain ⟨i0, i1, _, _⟩ := facts2 HGi.out
  obtain ⟨n0, n1, n2, n3⟩ := facts4 HN.out
  go_wp2_with fail
  refine (louverref10_Effect.calls 4 A0 c0 l0 A1 c1 l1 A2 c2 l2 A3 c3 l3 f op a x y ok _ (Kd.C_below HR0.out HB.out) HC.out.1 (Kd.C_below HR1.out HB.out) HC.out.2.1 (Kd.C_below HR2.out HB.out) HC.out.2.2.1 (Kd.C_below HR3.out HB.out) HC.out.2.2.2 HEF.out).mono ?_
  rintro e w3 ⟨rfl, hb⟩
  replace HGm := Aside0.mk (blk_below HGm.out hb)
  replace HGi := Aside0.mk (blk_below HGi.out hb)
  replace HN := Aside0.mk (blk_below HN.out hb)
  replace HL := Aside0.mk (HL.out.below hb)
  replace HB := Aside0.mk (below_step HB.out hb)
  clear hb m0 m1 m2 m3 i0 i1 n0 n1 n2 n3
  obtain ⟨m0, m1, m2, m3⟩ := facts4 HGm.out
  obtain ⟨i0, i1, _, _⟩ := facts2 HGi.out
  obtain ⟨n0, n1, n2, n3⟩ := facts4 HN.out
  go_wp2_with fail
  refine (louverkit_KeptModuleC.calls _ A0 A1 A2 A3 c0 c1 c2 c3 l0 l1 l2 l3 _ HL.out (Kd.C_below HR0.out HB.out) HC.out.1 (Kd.C_below HR1.out HB.out) HC.out.2.1 (Kd.C_below HR2.out HB.out) HC.out.2.2.1 (Kd.C_below HR3.out HB.out) HC.out.2.2.2).mono ?_
  rintro e w4 ⟨rfl, hb⟩
  replace HB := Aside0.mk (below_step HB.out hb)
  clear hb
  go_wp2_with fail
  refine (code_awake.calls _ (tab_below HT.out HB.out)).mono ?_
  rintro e w5 ⟨rfl, hb⟩
  replace HB := Aside0.mk (below_step HB.out hb)
  clear hb
  go_wp2
  go_ret
  exact ⟨rfl, HB.out⟩
end Go.Proofs.YtgpdaihfjnihhaaDoor.PJ

namespace Go.Proofs.YtgpdaihfjnihhaaDoor.PJ
open Go.RowKit Go.Proofs.YtgpdaihfjnihhaaDoorW.PrintWords Go.Proofs.YtgpdaihfjnihhaaDoorW.PrintLast Go.Proofs.YtgpdaihfjnihhaaDoorW.PrintMore
theorem louverlaw10_CodeEffects.walk (cs0 : Array Value) (z0 : List Int × List S38 × List Int × List S41) (a1 : Int) (cs2 : Array Value) (z2 : S44) (w : World) (w0 : kMod.K w z0 cs0.toList)
    (y0 : ((∀ y ∈ z0.1, (Lit.int .u64 y).wf = true) ∧ z0.1.length * 8 ≤ 140737488351232) ∧ ((∀ x ∈ z0.2.1, (Lit.int .i64 x.f0).wf = true ∧ (Lit.int .u64 x.f1).wf = true) ∧ z0.2.1.length * 16 ≤ 140737488351232) ∧ ((∀ y ∈ z0.2.2.1, (Lit.int .u64 y).wf = true) ∧ z0.2.2.1.length * 8 ≤ 140737488351232) ∧ ((∀ x ∈ z0.2.2.2, okFunc x) ∧ z0.2.2.2.length * 96 ≤ 140737488351232))
    (_w1 : (Lit.int .i64 a1).wf = true) (w2 : k44.K w z2 cs2.toList) (_y2 : (Lit.int .i64 z2.f0).wf = true ∧ (Lit.int .i64 z2.f1).wf = true) (hL : laidMetH Tryd.prog Rows.codeEffectsRow.laid w) :
    Calls Tryd.prog 6 #[.agg cs0, .int .i64 a1, .agg cs2] w fun e w' => e = .returned (.bool true) ∧ Below w.heap.size w w' := by
  obtain ⟨l0, l1, l2, l3⟩ := z0
  have e2 := k44_open w2
  obtain rfl : cs2 = #[.int .i64 z2.f0, .int .i64 z2.f1] := by
    apply Array.toList_inj.mp
    simpa using e2
  obtain ⟨_, _, e, ⟨A0, c0, rfl, h0, g0⟩, ⟨_, _, rfl, ⟨A1, c1, rfl, h1, g1⟩, ⟨_, _, rfl, ⟨A2, c2, rfl, h2, g2⟩, ⟨A3, c3, rfl, h3, g3⟩⟩⟩⟩ := w0
  obtain rfl : cs0 = #[.slice A0 l0.length c0, .slice A1 l1.length c1, .slice A2 l2.length c2, .slice A3 l3.length c3] := by
    apply Array.toList_inj.mp
    simpa using e
  obtain ⟨⟨_, s0⟩, ⟨_, s1⟩, ⟨_, s2⟩, ⟨sf, s3⟩⟩ := y0
  refine codeEffects.calls a1 z2.f0 z2.f1 A0 A1 A2 A3 c0 c1 c2 c3 l0 l1 l2 l3 w (tab_of_laid hL) g0 h0 g1 h1 g2 h2 g3 h3 ?_ ?_ ?_ ?_ ?_
  · have : l0.length * 8 ≤ 140737488351232 := s0
    omega
  · have : l1.length * 16 ≤ 140737488351232 := s1
    omega
  · have : l2.length * 8 ≤ 140737488351232 := s2
    omega
  · have : l3.length * 96 ≤ 140737488351232 := s3
    omega
  · intro x hx
    obtain ⟨_, ⟨_, t1⟩, ⟨_, t2⟩, _, _, ⟨_, t3⟩⟩ := sf x hx
    exact ⟨by omega, by omega, by omega⟩
end Go.Proofs.YtgpdaihfjnihhaaDoor.PJ
