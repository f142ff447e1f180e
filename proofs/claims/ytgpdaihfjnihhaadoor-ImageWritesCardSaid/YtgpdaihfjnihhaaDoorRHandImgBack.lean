/- The law ImageBack: by hand, from its row's form. -/
import Derived.Test.YtgpdaihfjnihhaaDoorRPJx0
import Derived.Test.YtgpdaihfjnihhaaDoorRPJx4
import Derived.Test.YtgpdaihfjnihhaaDoorRHandAwake12
import Derived.Test.YtgpdaihfjnihhaaDoorRNamesAll
namespace Go.Proofs.YtgpdaihfjnihhaaDoor.PJ
open Go.RowKit Go.Proofs.YtgpdaihfjnihhaaDoorW.PrintWords Go.Proofs.YtgpdaihfjnihhaaDoorW.PrintLast Go.Proofs.YtgpdaihfjnihhaaDoorW.PrintMore Go.Proofs.YtgpdaihfjnihhaaDoor.LebPure Go.Proofs.YtgpdaihfjnihhaaDoor.LebForm Go.Proofs.YtgpdaihfjnihhaaDoor.B64
set_option linter.unusedSimpArgs false
set_option linter.unusedVariables false
theorem wf_open {l0 : List Int} {l1 : List S38} {l2 : List Int} {l3 : List S41} (y0 : ((∀ y ∈ l0, (Lit.int .u64 y).wf = true) ∧ l0.length * 8 ≤ 140737488351232) ∧ ((∀ x ∈ l1, (Lit.int .i64 x.f0).wf = true ∧ (Lit.int .u64 x.f1).wf = true) ∧ l1.length * 16 ≤ 140737488351232) ∧ ((∀ y ∈ l2, (Lit.int .u64 y).wf = true) ∧ l2.length * 8 ≤ 140737488351232) ∧ ((∀ x ∈ l3, okFunc x) ∧ l3.length * 96 ≤ 140737488351232)) : wfW l0 l1 l2 l3 ∧ wfMod (l0, l1, l2, l3) := by
 obtain ⟨⟨p0, q0⟩, ⟨p1, q1⟩, ⟨p2, q2⟩, ⟨p3, q3⟩⟩ := y0
 refine ⟨⟨fun x hx => wf_u64 (p0 x hx), fun x hx => wf_u64 (p1 x hx).2, fun x hx => wf_u64 (p2 x hx), fun x hx => ?_⟩, ⟨⟨?_, fun x hx => wf_u64 (p0 x hx)⟩, ⟨?_, fun x hx => ⟨(wf_i64 (p1 x hx).1).2, wf_u64 (p1 x hx).2⟩⟩, ⟨?_, fun x hx => wf_u64 (p2 x hx)⟩, ⟨?_, fun x hx => ?_⟩⟩⟩
 ·
  obtain ⟨r0, ⟨r1, _⟩, ⟨r2, _⟩, r3, r4, ⟨r5, _⟩⟩ := p3 x hx
  exact ⟨wf_u64 r0, fun y hy => wf_u64 (r1 y hy), fun y hy => wf_u64 (r2 y hy), fun y hy => wf_i64 (r5 y hy).2⟩
 ·
  show l0.length ≤ _
  omega
 ·
  show l1.length ≤ _
  omega
 ·
  show l2.length ≤ _
  omega
 ·
  show l3.length ≤ _
  omega
 ·
  obtain ⟨r0, ⟨r1, s1⟩, ⟨r2, s2⟩, r3, r4, ⟨r5, s5⟩⟩ := p3 x hx
  exact ⟨wf_u64 r0, ⟨by omega, fun y hy => wf_u64 (r1 y hy)⟩, ⟨by omega, fun y hy => wf_u64 (r2 y hy)⟩, (wf_i64 r3).2, (wf_i64 r4).2, by omega, fun y hy => wf_i64 (r5 y hy).2⟩
end Go.Proofs.YtgpdaihfjnihhaaDoor.PJ
