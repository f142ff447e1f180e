-- WRITTEN BY A PROGRAM OF THIS PROJECT (a turned copy of the print)
import Derived.Test.YtblhmmhhjkjcgaaProg
import Derived.Below
import Derived.Deep.Draws
import Derived.Deep.AppendLies
import Derived.Maps.AppendAt
import Derived.OwnWalk
import Derived.Laws.BytesArg
import Derived.Laws.MakeOwn
import Derived.Laws.OwnMore
import Derived.Deep.OwnRows
import Derived.Tactics
import Derived.Lib.ConvBytes
import Derived.Laws.Slices
import Derived.WalkKit
import Derived.KernelRfl
import Derived.RowKit3
import Derived.Deep.LoopGhost
import Derived.Deep.QuietTactic
import Derived.BigQuiet
import Derived.WideLaws
import Derived.Deep.DeepCutAuto
import Derived.Deep.CutBlock
import Derived.Deep.RegionHeld3
import Derived.Laws.Rows
import Derived.Lib.AppendStr
import Derived.ArgAppend
import Derived.Laws.IdiomCopy
import Derived.OrdersHeld
import Derived.Laws.BitsLemmas
import Derived.RowKit
import Derived.Test.YtblhmmhhjkjcgaaWWords
import Derived.Test.YtblhmmhhjkjcgaaWLast
import Derived.Test.YtblhmmhhjkjcgaaWTab
import Derived.Test.YtblhmmhhjkjcgaaWFour
import Derived.Test.YtblhmmhhjkjcgaaWQPut
import Derived.Test.YtblhmmhhjkjcgaaWApart
import Derived.Test.YtblhmmhhjkjcgaaWArr
import Derived.Test.YtblhmmhhjkjcgaaWZeros
import Derived.Test.YtblhmmhhjkjcgaaWFoot
import Derived.Test.YtblhmmhhjkjcgaaWKept
import Derived.Test.YtblhmmhhjkjcgaaWShare
import Derived.Test.YtblhmmhhjkjcgaaWN
import Derived.Test.YtblhmmhhjkjcgaaWFootNe
import Derived.Test.YtblhmmhhjkjcgaaWAt
import Derived.Test.YtblhmmhhjkjcgaaWEqStruct
import Derived.Test.YtblhmmhhjkjcgaaWRepsOne
import Derived.Test.YtblhmmhhjkjcgaaWInv
import Derived.Test.YtblhmmhhjkjcgaaWInvWords
import Derived.Test.YtblhmmhhjkjcgaaWGuard
import Derived.Test.YtblhmmhhjkjcgaaWNEv
import Derived.Test.YtblhmmhhjkjcgaaWMore
namespace Go.Proofs.Ytblhmmhhjkjcgaa.PJ
open Go.RowKit Go.Proofs.YtblhmmhhjkjcgaaW.PrintWords Go.Proofs.YtblhmmhhjkjcgaaW.PrintLast Go.Proofs.YtblhmmhhjkjcgaaW.PrintMore
attribute [local go_sem] max2_int min2_int max_two min_two max_three min_three max_four min_four   -- for this text's walks alone
set_option linter.unusedVariables false
set_option linter.unusedSimpArgs false



def errW : Option Int → Value
  | none => .nilIface
  | some c => .iface 0 (.int .i64 c)
theorem errW_none : errW none = .nilIface := rfl
theorem errW_some (c : Int) : errW (some c) = .iface 0 (.int .i64 c) := rfl

theorem clip_V {α : Type} {d : Kd α} {e : Nat} {W : World} {base : Nat} {ok : Nat → Prop} {A : Option Addr} {n c : Nat} {xs : List α} (h : Kd.V d e W base ok (.slice A n c) xs) : Kd.V d e W base ok (.slice A n n) xs := by
  obtain ⟨rfl, _, hf⟩ := Kd.V_at h
  exact Kd.V_mk (Nat.le_refl _) hf
theorem clip_run {P : Program} (t e : TypeId) {i : TypeInfo} (ht : P.underlying t = some (.slice e)) (hi : P.info? e = some i) (A : Option Addr) (n c : Nat) (hc : n ≤ c) :
    ∀ W : World, (Instr.slice t (.slice A n c) none (some (.int .i64 (n : Int))) (some (.int .i64 (n : Int)))).run P W = .ok (.slice A n n) W := by
  intro W
  have hel : P.elem t = e := by simp [Program.elem, ht]
  have hu : P.underlying t = some (.slice (P.elem t)) := by rw [hel]; exact ht
  have ha : (A.map fun x => x.add 0) = A := by cases A <;> simp [Addr.add]
  rw [run_slice_any W t A n c hu, hel]
  simp [Instr.sliceBounds, run_sliceBound, hc, sizeOf, typeInfo, hi, sliced, Result.andThen, ha]
theorem info2 : (Try.prog.info? 2).map (fun i => (i.zero, i.size, i.bytes)) = some (some (.int .i64 0), 1, 8) := by kernel_rfl
-- the values' own types

end Go.Proofs.Ytblhmmhhjkjcgaa.PJ
