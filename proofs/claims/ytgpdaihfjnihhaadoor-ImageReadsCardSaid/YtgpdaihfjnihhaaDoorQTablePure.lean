/- Package code without a program: names lead to operations as the document's loop does; the table by its rows. -/
import Derived.Test.YtgpdaihfjnihhaaDoorQPA
import Derived.Test.YtgpdaihfjnihhaaDoorQHandCode3
namespace Go.Proofs.YtgpdaihfjnihhaaDoor.PJ
open Go.RowKit Go.Proofs.YtgpdaihfjnihhaaDoorW.PrintWords Go.Proofs.YtgpdaihfjnihhaaDoorW.PrintLast Go.Proofs.YtgpdaihfjnihhaaDoorW.PrintMore
set_option linter.unusedSimpArgs false
set_option maxRecDepth 100000
def rowOk (op : Int) : Bool := match louverref10_Table.f 3 op with
 | some (nm, _, _, kd, ok) => decide (nm.data = (nameOf op).data) && (ok == validOp op) && (operandOp op == (ok && decide (0 < kd))) && ((ok && kd == 1) == (op == 32)) && decide (0 ≤ kd)
 | none => false
theorem row_small : (List.range 48).all (fun n => rowOk (n : Int)) = true := by kernel_rfl
theorem table_far (op : Int) (h : op < 1 ∨ 47 < op) : louverref10_Table.f 3 op = some (ByteArray.empty, 0, 0, 0, false) := by
 unfold louverref10_Table.f
 by_cases h1 : op ≥ 1
 ·
  rw [if_pos h1, decide_eq_false (show ¬ op ≤ 17 by omega)]
  unfold louverref10_Table.j0
  simp only [show ¬ op = 32 by omega, show ¬ op = 33 by omega, show ¬ op = 34 by omega, show ¬ op = 35 by omega, show ¬ op = 36 by omega, show ¬ op = 37 by omega, show ¬ op = 38 by omega, show ¬ op = 39 by omega, show ¬ op = 40 by omega, show ¬ op = 41 by omega, show ¬ op = 42 by omega, show ¬ op = 43 by omega, show ¬ op = 44 by omega, show ¬ op = 45 by omega, show ¬ op = 46 by omega, show ¬ op = 47 by omega, if_false, Bool.false_eq_true]
  rfl
 ·
  rw [if_neg h1]
  unfold louverref10_Table.j0
  simp only [show ¬ op = 32 by omega, show ¬ op = 33 by omega, show ¬ op = 34 by omega, show ¬ op = 35 by omega, show ¬ op = 36 by omega, show ¬ op = 37 by omega, show ¬ op = 38 by omega, show ¬ op = 39 by omega, show ¬ op = 40 by omega, show ¬ op = 41 by omega, show ¬ op = 42 by omega, show ¬ op = 43 by omega, show ¬ op = 44 by omega, show ¬ op = 45 by omega, show ¬ op = 46 by omega, show ¬ op = 47 by omega, if_false, Bool.false_eq_true]
  rfl
theorem table_all (op : Int) : ∃ p q kd, louverref10_Table.f 3 op = some (nameOf op, p, q, kd, validOp op) ∧ operandOp op = (validOp op && decide (0 < kd)) ∧ (validOp op = true → (kd = 1 ↔ op = 32)) ∧ 0 ≤ kd := by
 by_cases h : op < 1 ∨ 47 < op
 ·
  refine ⟨0, 0, 0, ?_, ?_, ?_, by decide⟩
  ·
   rw [table_far op h, show nameOf op = ByteArray.empty by unfold nameOf; rw [if_neg (by omega), if_neg (by omega)], show validOp op = false by unfold validOp; exact decide_eq_false (by omega)]
  ·
   rw [show validOp op = false by unfold validOp; exact decide_eq_false (by omega), show operandOp op = false by unfold operandOp; exact decide_eq_false (by omega)]
   rfl
  ·
   intro hv
   rw [show validOp op = false by unfold validOp; exact decide_eq_false (by omega)] at hv
   cases hv
 ·
  obtain ⟨n, rfl⟩ : ∃ n : Nat, op = (n : Int) := ⟨op.toNat, by omega⟩
  have hr := List.all_eq_true.mp row_small n (List.mem_range.mpr (by omega))
  unfold rowOk at hr
  cases hT : louverref10_Table.f 3 (n : Int) with
  | none => rw [hT] at hr; cases hr
  | some v =>
   obtain ⟨nm, p, q, kd, ok⟩ := v
   rw [hT] at hr
   simp only [Bool.and_eq_true, decide_eq_true_eq] at hr
   obtain ⟨⟨⟨⟨h1, h2⟩, h3⟩, h4⟩, h5⟩ := hr
   have h1 : nm = nameOf (n : Int) := by
    cases nm
    cases hq : nameOf (n : Int)
    rw [hq] at h1
    simp only at h1
    rw [h1]
   have h2 : ok = validOp (n : Int) := eq_of_beq h2
   have h3 := eq_of_beq h3
   have h4 := eq_of_beq h4
   refine ⟨p, q, kd, by rw [h1, h2], by rw [h3, h2], fun hv => ?_, h5⟩
   rw [h2, hv, Bool.true_and] at h4
   constructor
   ·
    intro e
    rw [e] at h4
    exact eq_of_beq h4.symm
   ·
    intro e
    rw [e] at h4
    exact eq_of_beq h4
end Go.Proofs.YtgpdaihfjnihhaaDoor.PJ
