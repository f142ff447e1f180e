/- The parameters of the laws of package code, opened: an instruction, a module. -/
import Derived.Test.YtgpdaihfjnihhaaDoorHandOpen
import Derived.Test.YtgpdaihfjnihhaaDoorPJx0
namespace Go.Proofs.YtgpdaihfjnihhaaDoor.PJ
open Go.RowKit Go.Proofs.YtgpdaihfjnihhaaDoorW.PrintWords Go.Proofs.YtgpdaihfjnihhaaDoorW.PrintLast Go.Proofs.YtgpdaihfjnihhaaDoorW.PrintMore
set_option linter.unusedVariables false
theorem opensI64 : Opens Tryd.prog 3 (Kd.int .i64) (fun n => (Lit.int .i64 n).wf = true) := opens_int Tryd.underlying3 (by kernel_rfl)
theorem opensInt64 : Opens Tryd.prog 2 (Kd.int .i64) (fun n => (Lit.int .i64 n).wf = true) := opens_int Tryd.underlying2 (by kernel_rfl)
theorem opensLabel : Opens Tryd.prog 36 (Kd.int .u64) (fun n => (Lit.int .u64 n).wf = true) := opens_int Tryd.underlying36 (by kernel_rfl)
theorem opens44 : Opens Tryd.prog 44 k44 (fun x => (Lit.int .i64 x.f0).wf = true ∧ (Lit.int .i64 x.f1).wf = true) :=
  opens_iso (fun x : S44 => (x.f0, x.f1)) (fun y => ⟨y.1, y.2⟩) (fun _ => rfl) (opens_struct Tryd.underlying44 (by kernel_rfl) (opensF_cons rfl opensI64 (opensF_one rfl opensInt64)))
theorem opens38 : Opens Tryd.prog 38 k38 (fun x => (Lit.int .i64 x.f0).wf = true ∧ (Lit.int .u64 x.f1).wf = true) :=
  opens_iso (fun x : S38 => (x.f0, x.f1)) (fun y => ⟨y.1, y.2⟩) (fun _ => rfl) (opens_struct Tryd.underlying38 (by kernel_rfl) (opensF_cons rfl opensI64 (opensF_one rfl opensLabel)))
theorem opensLabels : Opens Tryd.prog 22 (Kd.slice 36 (Kd.int .u64)) (fun l => (∀ x ∈ l, (Lit.int .u64 x).wf = true) ∧ l.length * 8 ≤ 140737488351232) :=
  (opens_slice Tryd.underlying22 (by kernel_rfl) opensLabel).imp (fun x h => ⟨h.1, by rw [show Program.bytesOf Tryd.prog 36 = 8 by kernel_rfl] at h; exact h.2⟩)
theorem opensCode : Opens Tryd.prog 39 (Kd.slice 44 k44) (fun l => (∀ x ∈ l, (Lit.int .i64 x.f0).wf = true ∧ (Lit.int .i64 x.f1).wf = true) ∧ l.length * 16 ≤ 140737488351232) :=
  (opens_slice Tryd.underlying39 (by kernel_rfl) opens44).imp (fun x h => ⟨h.1, by rw [show Program.bytesOf Tryd.prog 44 = 16 by kernel_rfl] at h; exact h.2⟩)
def okFunc (x : S41) : Prop := (Lit.int .u64 x.f0).wf = true ∧ ((∀ y ∈ x.f1, (Lit.int .u64 y).wf = true) ∧ x.f1.length * 8 ≤ 140737488351232) ∧ ((∀ y ∈ x.f2, (Lit.int .u64 y).wf = true) ∧ x.f2.length * 8 ≤ 140737488351232) ∧ (Lit.int .i64 x.f3).wf = true ∧ (Lit.int .i64 x.f4).wf = true ∧ ((∀ y ∈ x.f5, (Lit.int .i64 y.f0).wf = true ∧ (Lit.int .i64 y.f1).wf = true) ∧ x.f5.length * 16 ≤ 140737488351232)
theorem opens41 : Opens Tryd.prog 41 k41 okFunc :=
  opens_iso (fun x : S41 => (x.f0, x.f1, x.f2, x.f3, x.f4, x.f5)) (fun y => ⟨y.1, y.2.1, y.2.2.1, y.2.2.2.1, y.2.2.2.2.1, y.2.2.2.2.2⟩) (fun _ => rfl)
    (opens_struct Tryd.underlying41 (by kernel_rfl) (opensF_cons rfl opensLabel (opensF_cons rfl opensLabels (opensF_cons rfl opensLabels (opensF_cons rfl opensI64 (opensF_cons rfl opensI64 (opensF_one rfl opensCode)))))))
theorem opensArrays : Opens Tryd.prog 23 (Kd.slice 38 k38) (fun l => (∀ x ∈ l, (Lit.int .i64 x.f0).wf = true ∧ (Lit.int .u64 x.f1).wf = true) ∧ l.length * 16 ≤ 140737488351232) :=
  (opens_slice Tryd.underlying23 (by kernel_rfl) opens38).imp (fun x h => ⟨h.1, by rw [show Program.bytesOf Tryd.prog 38 = 16 by kernel_rfl] at h; exact h.2⟩)
theorem opensFuncs : Opens Tryd.prog 24 (Kd.slice 41 k41) (fun l => (∀ x ∈ l, okFunc x) ∧ l.length * 96 ≤ 140737488351232) :=
  (opens_slice Tryd.underlying24 (by kernel_rfl) opens41).imp (fun x h => ⟨h.1, by rw [show Program.bytesOf Tryd.prog 41 = 96 by kernel_rfl] at h; exact h.2⟩)
/-- A module: globals, arrays, channels, functions. -/
abbrev kMod : Kd (List Int × List S38 × List Int × List S41) := Kd.pair (Kd.slice 36 (Kd.int .u64)) (Kd.pair (Kd.slice 38 k38) (Kd.pair (Kd.slice 36 (Kd.int .u64)) (Kd.slice 41 k41)))
theorem opens26 : Opens Tryd.prog 26 kMod (fun m => ((∀ y ∈ m.1, (Lit.int .u64 y).wf = true) ∧ m.1.length * 8 ≤ 140737488351232) ∧ ((∀ x ∈ m.2.1, (Lit.int .i64 x.f0).wf = true ∧ (Lit.int .u64 x.f1).wf = true) ∧ m.2.1.length * 16 ≤ 140737488351232) ∧ ((∀ y ∈ m.2.2.1, (Lit.int .u64 y).wf = true) ∧ m.2.2.1.length * 8 ≤ 140737488351232) ∧ ((∀ x ∈ m.2.2.2, okFunc x) ∧ m.2.2.2.length * 96 ≤ 140737488351232)) :=
  (opens_struct (d := kMod) Tryd.underlying26 (by kernel_rfl) (opensF_cons rfl opensLabels (opensF_cons rfl opensArrays (opensF_cons rfl opensLabels (opensF_one rfl opensFuncs))))).imp (fun _ h => h)
end Go.Proofs.YtgpdaihfjnihhaaDoor.PJ
