/- The parameters of the laws of package code, opened: an instruction, a module. -/
import Derived.Test.YtlnccdgclaalbaaHandOpen
import Derived.Test.YtlnccdgclaalbaaPJx0
namespace Go.Proofs.Ytlnccdgclaalbaa.PJ
open Go.RowKit Go.Proofs.YtlnccdgclaalbaaW.PrintWords Go.Proofs.YtlnccdgclaalbaaW.PrintLast Go.Proofs.YtlnccdgclaalbaaW.PrintMore
set_option linter.unusedVariables false
theorem opensI64 : Opens Try.prog 3 (Kd.int .i64) (fun n => (Lit.int .i64 n).wf = true) := opens_int Try.underlying3 (by kernel_rfl)
theorem opensInt64 : Opens Try.prog 2 (Kd.int .i64) (fun n => (Lit.int .i64 n).wf = true) := opens_int Try.underlying2 (by kernel_rfl)
theorem opensLabel : Opens Try.prog 32 (Kd.int .u64) (fun n => (Lit.int .u64 n).wf = true) := opens_int Try.underlying32 (by kernel_rfl)
theorem opens77 : Opens Try.prog 77 k77 (fun x => (Lit.int .i64 x.f0).wf = true ∧ (Lit.int .i64 x.f1).wf = true) :=
  opens_iso (fun x : S77 => (x.f0, x.f1)) (fun y => ⟨y.1, y.2⟩) (fun _ => rfl) (opens_struct Try.underlying77 (by kernel_rfl) (opensF_cons rfl opensI64 (opensF_one rfl opensInt64)))
theorem opens57 : Opens Try.prog 57 k57 (fun x => (Lit.int .i64 x.f0).wf = true ∧ (Lit.int .u64 x.f1).wf = true) :=
  opens_iso (fun x : S57 => (x.f0, x.f1)) (fun y => ⟨y.1, y.2⟩) (fun _ => rfl) (opens_struct Try.underlying57 (by kernel_rfl) (opensF_cons rfl opensI64 (opensF_one rfl opensLabel)))
theorem opensLabels : Opens Try.prog 22 (Kd.slice 32 (Kd.int .u64)) (fun l => (∀ x ∈ l, (Lit.int .u64 x).wf = true) ∧ l.length * 8 ≤ 140737488351232) :=
  (opens_slice Try.underlying22 (by kernel_rfl) opensLabel).imp (fun x h => ⟨h.1, by rw [show Program.bytesOf Try.prog 32 = 8 by kernel_rfl] at h; exact h.2⟩)
theorem opensCode : Opens Try.prog 46 (Kd.slice 77 k77) (fun l => (∀ x ∈ l, (Lit.int .i64 x.f0).wf = true ∧ (Lit.int .i64 x.f1).wf = true) ∧ l.length * 16 ≤ 140737488351232) :=
  (opens_slice Try.underlying46 (by kernel_rfl) opens77).imp (fun x h => ⟨h.1, by rw [show Program.bytesOf Try.prog 77 = 16 by kernel_rfl] at h; exact h.2⟩)
def okFunc (x : S48) : Prop := (Lit.int .u64 x.f0).wf = true ∧ ((∀ y ∈ x.f1, (Lit.int .u64 y).wf = true) ∧ x.f1.length * 8 ≤ 140737488351232) ∧ ((∀ y ∈ x.f2, (Lit.int .u64 y).wf = true) ∧ x.f2.length * 8 ≤ 140737488351232) ∧ (Lit.int .i64 x.f3).wf = true ∧ (Lit.int .i64 x.f4).wf = true ∧ ((∀ y ∈ x.f5, (Lit.int .i64 y.f0).wf = true ∧ (Lit.int .i64 y.f1).wf = true) ∧ x.f5.length * 16 ≤ 140737488351232)
theorem opens48 : Opens Try.prog 48 k48 okFunc :=
  opens_iso (fun x : S48 => (x.f0, x.f1, x.f2, x.f3, x.f4, x.f5)) (fun y => ⟨y.1, y.2.1, y.2.2.1, y.2.2.2.1, y.2.2.2.2.1, y.2.2.2.2.2⟩) (fun _ => rfl)
    (opens_struct Try.underlying48 (by kernel_rfl) (opensF_cons rfl opensLabel (opensF_cons rfl opensLabels (opensF_cons rfl opensLabels (opensF_cons rfl opensI64 (opensF_cons rfl opensI64 (opensF_one rfl opensCode)))))))
theorem opensArrays : Opens Try.prog 23 (Kd.slice 57 k57) (fun l => (∀ x ∈ l, (Lit.int .i64 x.f0).wf = true ∧ (Lit.int .u64 x.f1).wf = true) ∧ l.length * 16 ≤ 140737488351232) :=
  (opens_slice Try.underlying23 (by kernel_rfl) opens57).imp (fun x h => ⟨h.1, by rw [show Program.bytesOf Try.prog 57 = 16 by kernel_rfl] at h; exact h.2⟩)
theorem opensFuncs : Opens Try.prog 24 (Kd.slice 48 k48) (fun l => (∀ x ∈ l, okFunc x) ∧ l.length * 96 ≤ 140737488351232) :=
  (opens_slice Try.underlying24 (by kernel_rfl) opens48).imp (fun x h => ⟨h.1, by rw [show Program.bytesOf Try.prog 48 = 96 by kernel_rfl] at h; exact h.2⟩)
/-- A module: globals, arrays, channels, functions. -/
abbrev kMod : Kd (List Int × List S57 × List Int × List S48) := Kd.pair (Kd.slice 32 (Kd.int .u64)) (Kd.pair (Kd.slice 57 k57) (Kd.pair (Kd.slice 32 (Kd.int .u64)) (Kd.slice 48 k48)))
theorem opens26 : Opens Try.prog 26 kMod (fun m => ((∀ y ∈ m.1, (Lit.int .u64 y).wf = true) ∧ m.1.length * 8 ≤ 140737488351232) ∧ ((∀ x ∈ m.2.1, (Lit.int .i64 x.f0).wf = true ∧ (Lit.int .u64 x.f1).wf = true) ∧ m.2.1.length * 16 ≤ 140737488351232) ∧ ((∀ y ∈ m.2.2.1, (Lit.int .u64 y).wf = true) ∧ m.2.2.1.length * 8 ≤ 140737488351232) ∧ ((∀ x ∈ m.2.2.2, okFunc x) ∧ m.2.2.2.length * 96 ≤ 140737488351232)) :=
  (opens_struct (d := kMod) Try.underlying26 (by kernel_rfl) (opensF_cons rfl opensLabels (opensF_cons rfl opensArrays (opensF_cons rfl opensLabels (opensF_one rfl opensFuncs))))).imp (fun _ h => h)

end Go.Proofs.Ytlnccdgclaalbaa.PJ
