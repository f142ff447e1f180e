/- The parameters of the laws of package view, opened: a memory. -/
import Derived.Test.YtlnccdgclaalbaaOpenMod
namespace Go.Proofs.Ytlnccdgclaalbaa.PJ
open Go.RowKit Go.Proofs.YtlnccdgclaalbaaW.PrintWords Go.Proofs.YtlnccdgclaalbaaW.PrintLast Go.Proofs.YtlnccdgclaalbaaW.PrintMore
set_option linter.unusedVariables false
theorem opensInt64s : Opens Try.prog 27 (Kd.slice 2 (Kd.int .i64)) (fun l => (∀ x ∈ l, (Lit.int .i64 x).wf = true) ∧ l.length * 8 ≤ 140737488351232) :=
  (opens_slice Try.underlying27 (by kernel_rfl) opensInt64).imp (fun x h => ⟨h.1, by rw [show Program.bytesOf Try.prog 2 = 8 by kernel_rfl] at h; exact h.2⟩)
theorem opensRows : Opens Try.prog 28 (Kd.slice 27 (Kd.slice 2 (Kd.int .i64))) (fun l => (∀ x ∈ l, (∀ y ∈ x, (Lit.int .i64 y).wf = true) ∧ x.length * 8 ≤ 140737488351232) ∧ l.length * 24 ≤ 140737488351232) :=
  (opens_slice Try.underlying28 (by kernel_rfl) opensInt64s).imp (fun x h => ⟨h.1, by rw [show Program.bytesOf Try.prog 27 = 24 by kernel_rfl] at h; exact h.2⟩)
abbrev kMem : Kd (List Int × List (List Int)) := Kd.pair (Kd.slice 2 (Kd.int .i64)) (Kd.slice 27 (Kd.slice 2 (Kd.int .i64)))
def okMem (m : List Int × List (List Int)) : Prop := ((∀ y ∈ m.1, (Lit.int .i64 y).wf = true) ∧ m.1.length * 8 ≤ 140737488351232) ∧ ((∀ x ∈ m.2, (∀ y ∈ x, (Lit.int .i64 y).wf = true) ∧ x.length * 8 ≤ 140737488351232) ∧ m.2.length * 24 ≤ 140737488351232)
theorem opens30 : Opens Try.prog 30 kMem okMem :=
  (opens_struct (d := kMem) Try.underlying30 (by kernel_rfl) (opensF_cons rfl opensInt64s (opensF_one rfl opensRows))).imp (fun _ h => h)
end Go.Proofs.Ytlnccdgclaalbaa.PJ
