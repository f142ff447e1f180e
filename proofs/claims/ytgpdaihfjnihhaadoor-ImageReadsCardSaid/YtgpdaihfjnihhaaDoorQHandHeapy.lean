/- A row that came in, read with its footprint: what hangs on the memory alone stays while the memory stays. -/
import Derived.Test.YtgpdaihfjnihhaaDoorQPJx0
namespace Go.Proofs.YtgpdaihfjnihhaaDoor.PJ
open Go.RowKit Go.Proofs.YtgpdaihfjnihhaaDoorW.PrintWords Go.Proofs.YtgpdaihfjnihhaaDoorW.PrintLast Go.Proofs.YtgpdaihfjnihhaaDoorW.PrintMore
set_option linter.unusedVariables false
def Heapy {α : Type} (d : Kd α) : Prop := ∀ (w w' : World) (x : α) (cs : List Value), w'.heap = w.heap → d.K w x cs → d.K w' x cs
theorem cell_heap {w w' : World} (h : w'.heap = w.heap) (a : Addr) : w'.cell? a = w.cell? a := by unfold World.cell?; rw [h]
theorem C_heapy {α : Type} {d : Kd α} (hd : Heapy d) {w w' : World} {A : Option Addr} {n : Nat} {xs : List α} (h : w'.heap = w.heap) (hc : d.C w A n xs) : d.C w' A n xs := by
 refine ⟨hc.1, hc.2.1, fun hn => ?_⟩
 obtain ⟨ad, e, hr⟩ := hc.2.2 hn
 refine ⟨ad, e, fun j p hj => ?_⟩
 obtain ⟨c, h1, h2, h3⟩ := hr j p hj
 exact ⟨c, h1, hd _ _ _ _ h h2, fun i u hu => by rw [cell_heap h]; exact h3 i u hu⟩
theorem heapy_int (k : IntKind) : Heapy (Kd.int k) := fun _ _ _ _ _ h => h
theorem F_of_C {α : Type} {d : Kd α} (hd : Heapy d) {w : World} {A : Option Addr} {n : Nat} {xs : List α} (h : d.C w A n xs) : Kd.F d w (fun k => k < w.heap.size) A n xs := by
 intro W' hW
 have hs : w.heap.size ≤ W'.heap.size := by
  rcases Nat.eq_zero_or_pos w.heap.size with h0 | h0
  ·
   omega
  ·
   have hlt : w.heap.size - 1 < w.heap.size := by omega
   have := hW (w.heap.size - 1) hlt hlt
   rw [Array.getElem?_eq_getElem hlt] at this
   have := (Array.getElem?_eq_some_iff.1 this).1
   omega
 have hb : Below w.heap.size w { w with heap := W'.heap } := ⟨rfl, rfl, rfl, hs, fun k hk => hW k hk hk⟩
 exact C_heapy (w := { w with heap := W'.heap }) hd rfl (Kd.C_below h hb)
theorem below_low {B B' : Nat} {w w' : World} (h : Below B w w') (hb : B' ≤ B) : Below B' w w' := ⟨h.os, h.tape, h.output, h.size, fun k hk => h.block k (by omega)⟩
end Go.Proofs.YtgpdaihfjnihhaaDoor.PJ
