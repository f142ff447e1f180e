/- Lists that are lent out with a mark behind them: what the kit's Lent function makes of a list (new memory, the list, the mark in the next place), and that its Kept function finds list and mark. The lists are shorter than 2^47 less one. -/
import Derived.Test.YtgpdaihfjnihhaaDoorKPJx0
import Derived.Test.YtgpdaihfjnihhaaDoorKPKit
import Derived.WalkKit
namespace Go.Proofs.YtgpdaihfjnihhaaDoor.PJ
open Go.RowKit Go.Proofs.YtgpdaihfjnihhaaDoorW.PrintWords Go.Proofs.YtgpdaihfjnihhaaDoorW.PrintLast Go.Proofs.YtgpdaihfjnihhaaDoorW.PrintMore
def Lent (k : IntKind) (e : Nat) (W : World) (base : Nat) (v : Value) (l : List Int) (m : Int) : Prop :=
 ∃ A c, v = .slice A l.length c ∧ Kd.R (Kd.int k) e W base (fun _ => True) (.slice A (l ++ [m]).length c) (l ++ [m])
theorem Lent.below {k : IntKind} {e : Nat} {W W1 : World} {base : Nat} {v : Value} {l : List Int} {m : Int} (h : Lent k e W base v l m) (hb : Below W.heap.size W W1) : Lent k e W1 base v l m := by
 obtain ⟨A, c, rfl, hR⟩ := h
 exact ⟨A, c, rfl, Kd.R_below hR hb⟩
theorem Lent.reads {k : IntKind} {e : Nat} {W : World} {base : Nat} {v : Value} {l : List Int} {m : Int} (h : Lent k e W base v l m) :
  ∃ ad c, v = .slice (some ad) l.length c ∧ l.length + 1 ≤ c ∧ Kd.C (Kd.int k) W (some ad) l.length l ∧ W.cell? (ad.add l.length) = some (.int k m) := by
 obtain ⟨A, c, rfl, hR⟩ := h
 obtain ⟨_, hc, hC⟩ := Kd.R_reads' hR
 have hlen : (l ++ [m]).length = l.length + 1 := by simp
 obtain ⟨ad, rfl, hcell⟩ := hC.2.2 (by omega)
 refine ⟨ad, c, rfl, by omega, ?_, ?_⟩
 ·
  have := Kd.C_take (m := l.length) hC (by omega)
  rw [List.take_left'] at this
  ·
   exact this
  ·
   rfl
 ·
  obtain ⟨cs, h1, h2, h3⟩ := hcell l.length m (by simp)
  have e2 : cs = [.int k m] := h2
  have := h3 0 (.int k m) (by rw [e2]; rfl)
  have e3 : l.length * (Kd.int k).sz + 0 = l.length := by show l.length * 1 + 0 = l.length; omega
  rw [e3] at this
  exact this
theorem cut_up {P : Program} (t e : TypeId) {i : TypeInfo} (ht : P.underlying t = some (.slice e)) (hi : P.info? e = some i) (A : Option Addr) (n c : Nat) (j : Int) (h0 : 0 ≤ j) (hc : j ≤ c) :
  ∀ W : World, (Instr.slice t (.slice A n c) none (some (.int .i64 j)) none).run P W = .ok (.slice A j.toNat c) W := by
 intro W
 have hel : P.elem t = e := by simp [Program.elem, ht]
 have hu : P.underlying t = some (.slice (P.elem t)) := by rw [hel]; exact ht
 have ha : (A.map fun x => x.add 0) = A := by cases A <;> simp [Addr.add]
 rw [run_slice_h W t A n c hu .i64 j h0 hc, hel]
 simp [sizeOf, typeInfo, hi, sliced, Result.andThen, ha]
end Go.Proofs.YtgpdaihfjnihhaaDoor.PJ
