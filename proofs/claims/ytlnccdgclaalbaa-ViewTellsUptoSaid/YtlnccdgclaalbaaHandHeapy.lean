/- A row that came in, read with its footprint: what hangs on the memory alone stays while the memory stays. -/
import Derived.Test.YtlnccdgclaalbaaPJx0
namespace Go.Proofs.Ytlnccdgclaalbaa.PJ
open Go.RowKit Go.Proofs.YtlnccdgclaalbaaW.PrintWords Go.Proofs.YtlnccdgclaalbaaW.PrintLast Go.Proofs.YtlnccdgclaalbaaW.PrintMore
set_option linter.unusedVariables false
theorem cell_heap {w w' : World} (h : w'.heap = w.heap) (a : Addr) : w'.cell? a = w.cell? a := by unfold World.cell?; rw [h]
theorem pairK {α β : Type} {d : Kd α} {d' : Kd β} {w : World} {a : α} {b : β} {c1 c2 : List Value} (h1 : d.K w a c1) (h2 : d'.K w b c2) : (Kd.pair d d').K w (a, b) (c1 ++ c2) := ⟨_, _, rfl, h1, h2⟩
theorem C_lit1 {k : IntKind} {W : World} {g t : Nat} {y : Int} (h : W.heap[g]? = some (.cells #[.int k y] t (0, 0))) : Kd.C (Kd.int k) W (some ⟨g, 0, none⟩) 1 [y] := by
  refine ⟨rfl, by decide, fun _ => ⟨_, rfl, fun j p hj => ?_⟩⟩
  match j with
  | 0 =>
    obtain rfl : y = p := by simpa using hj
    refine ⟨[.int k y], rfl, rfl, fun i u hu => ?_⟩
    match i with
    | 0 =>
      obtain rfl : (Value.int k y) = u := by simpa using hu
      exact blk_cell h 0
    | i + 1 => simp at hu
  | j + 1 => simp at hj
theorem below_low {B B' : Nat} {w w' : World} (h : Below B w w') (hb : B' ≤ B) : Below B' w w' := ⟨h.os, h.tape, h.output, h.size, fun k hk => h.block k (by omega)⟩
end Go.Proofs.Ytlnccdgclaalbaa.PJ
