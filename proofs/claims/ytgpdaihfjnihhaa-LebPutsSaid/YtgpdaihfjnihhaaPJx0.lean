-- WRITTEN BY A PROGRAM OF THIS PROJECT (a turned copy of the print)
import Derived.Test.YtgpdaihfjnihhaaProg
import Derived.Below
import Derived.Deep.Draws
import Derived.Deep.AppendLies
import Derived.Maps.AppendAt
import Derived.OwnWalk
import Derived.Laws.BytesArg
import Derived.Laws.MakeOwn
import Derived.Laws.OwnMore
import Derived.Deep.OwnRows
import Derived.Tactics
import Derived.Lib.ConvBytes
import Derived.Laws.Slices
import Derived.WalkKit
import Derived.KernelRfl
import Derived.RowKit3
import Derived.Deep.LoopGhost
import Derived.Deep.QuietTactic
import Derived.BigQuiet
import Derived.WideLaws
import Derived.Deep.DeepCutAuto
import Derived.Deep.CutBlock
import Derived.Deep.RegionHeld3
import Derived.Laws.Rows
import Derived.Lib.AppendStr
import Derived.ArgAppend
import Derived.Laws.IdiomCopy
import Derived.OrdersHeld
import Derived.Laws.BitsLemmas
import Derived.RowKit
import Derived.Test.YtgpdaihfjnihhaaWWords
import Derived.Test.YtgpdaihfjnihhaaWLast
import Derived.Test.YtgpdaihfjnihhaaWTab
import Derived.Test.YtgpdaihfjnihhaaWFour
import Derived.Test.YtgpdaihfjnihhaaWQPut
import Derived.Test.YtgpdaihfjnihhaaWApart
import Derived.Test.YtgpdaihfjnihhaaWArr
import Derived.Test.YtgpdaihfjnihhaaWZeros
import Derived.Test.YtgpdaihfjnihhaaWFoot
import Derived.Test.YtgpdaihfjnihhaaWKept
import Derived.Test.YtgpdaihfjnihhaaWShare
import Derived.Test.YtgpdaihfjnihhaaWN
import Derived.Test.YtgpdaihfjnihhaaWFootNe
import Derived.Test.YtgpdaihfjnihhaaWAt
import Derived.Test.YtgpdaihfjnihhaaWEqStruct
import Derived.Test.YtgpdaihfjnihhaaWRepsOne
import Derived.Test.YtgpdaihfjnihhaaWInv
import Derived.Test.YtgpdaihfjnihhaaWInvWords
import Derived.Test.YtgpdaihfjnihhaaWGuard
import Derived.Test.YtgpdaihfjnihhaaWNEv
import Derived.Test.YtgpdaihfjnihhaaWMore
namespace Go.Proofs.Ytgpdaihfjnihhaa.PJ
open Go.RowKit Go.Proofs.YtgpdaihfjnihhaaW.PrintWords Go.Proofs.YtgpdaihfjnihhaaW.PrintLast Go.Proofs.YtgpdaihfjnihhaaW.PrintMore
attribute [local go_sem] max2_int min2_int max_two min_two max_three min_three max_four min_four   -- for this text's walks alone
set_option linter.unusedVariables false
set_option linter.unusedSimpArgs false



def errW : Option Int → Value
  | none => .nilIface
  | some c => .iface 0 (.int .i64 c)
theorem errW_none : errW none = .nilIface := rfl
theorem errW_some (c : Int) : errW (some c) = .iface 0 (.int .i64 c) := rfl

theorem clip_V {α : Type} {d : Kd α} {e : Nat} {W : World} {base : Nat} {ok : Nat → Prop} {A : Option Addr} {n c : Nat} {xs : List α} (h : Kd.V d e W base ok (.slice A n c) xs) : Kd.V d e W base ok (.slice A n n) xs := by
  obtain ⟨rfl, _, hf⟩ := Kd.V_at h
  exact Kd.V_mk (Nat.le_refl _) hf
theorem clip_run {P : Program} (t e : TypeId) {i : TypeInfo} (ht : P.underlying t = some (.slice e)) (hi : P.info? e = some i) (A : Option Addr) (n c : Nat) (hc : n ≤ c) :
    ∀ W : World, (Instr.slice t (.slice A n c) none (some (.int .i64 (n : Int))) (some (.int .i64 (n : Int)))).run P W = .ok (.slice A n n) W := by
  intro W
  have hel : P.elem t = e := by simp [Program.elem, ht]
  have hu : P.underlying t = some (.slice (P.elem t)) := by rw [hel]; exact ht
  have ha : (A.map fun x => x.add 0) = A := by cases A <;> simp [Addr.add]
  rw [run_slice_any W t A n c hu, hel]
  simp [Instr.sliceBounds, run_sliceBound, hc, sizeOf, typeInfo, hi, sliced, Result.andThen, ha]
theorem info5 : (Try.prog.info? 5).map (fun i => (i.zero, i.size, i.bytes)) = some (some (.int .u8 0), 1, 1) := by kernel_rfl
-- the values' own types
def rd_L1 (xs : List (List Int)) (i : Int) : (List Int) := xs.getD i.toNat ([] : List Int)
theorem at_L1 {w : World} {A : Option Addr} {n : Nat} {xs : List (List Int)} (h : Kd.C (Kd.slice 5 (Kd.int .u8)) w A n xs) (i : Int) (h0 : 0 ≤ i) (h1 : i < n) : ∃ ad A0 c0, A = some ad ∧ w.cell? (ad.add i.toNat) = some (.slice A0 (rd_L1 xs i).length c0) ∧ (rd_L1 xs i).length ≤ c0 ∧ (Kd.int .u8).C w A0 (rd_L1 xs i).length (rd_L1 xs i) := by
  obtain ⟨ad, c, e, _, hK, hc0⟩ := Kd.C_get h ([] : List Int) i h0 h1
  have hc : ∀ j u, c[j]? = some u → w.cell? (ad.add (i.toNat * 1 + j)) = some u := hc0
  obtain ⟨A0, c0, rfl, l0, g0⟩ := hK
  exact ⟨ad, A0, c0, e, by have hq := hc 0 _ rfl; rwa [Nat.mul_one, Nat.add_zero] at hq, l0, g0⟩

end Go.Proofs.Ytgpdaihfjnihhaa.PJ
