/-
  No cell of these rows narrows 'for every input' (looked for: loops, veiled, ifaces, maps, wideKeys, modest, calm, conditions, laid).
  DERIVED. THE GIVEN ROWS OF THIS SEAT. 3 by the template 'for every input the law returns true; each argument reads behind the call as it read before'; 0 by the template 'total and deterministic' (their statements: YtblhmmhhjkjcgaaTotals.lean).
  GIVEN WITH THE SEED: the statements are not yours to turn. If you find one false, say at which input.
  Laid BY PROGRAM, IN A SANDBOX (cutbox-rows.mjs): the forced cells as the released guide's own fill.sh prints them over the translation 9d08abbeb7f5b3fb… (all of the seat's roots in one cut). By AI agents, Wed Nov 11 2026. No macro, syntax, notation, axiom, sorry.
-/
import Derived.Test.YtblhmmhhjkjcgaaChecked
import GoSem.Claim
import GoSem.ClaimJoined
import GoSem.ClaimMapViews
import Derived.JoinedTies
import Derived.KernelRfl
namespace Go.Proofs.Ytblhmmhhjkjcgaa
/- THE CELL 'sum', in the pinned program and in every row, IS THE sha256 OF THE DUMP (.gsa) THAT YtblhmmhhjkjcgaaProg.lean LOADS. Nothing in Lean hashes anything: it is a label: what it is worth is what the hold of that sum in a sandbox is worth. -/
noncomputable def Try.pinned : Pinned := { name := "ytblhmmhhjkjcgaa", sum := "9d08abbeb7f5b3fbe38a89a92a8ed073e46e2dc6339f2cd8387fcfd0baf2af0f", checked := Try.checked }
namespace Rows
def none {H : Type} : Left H := { results := [], args := [] }

/-- 'louverlaw02.OpsAll': WHATEVER THE INPUT: true; the input reads as it did. -/
def opsAllSpec : ChangeSpec := { name := "opsAll", fn := fun _ => fun
  | [d1, d2, d3] => { results := [.lit (.bool true)], args := [d1, d2, d3] }
  | _ => none }
def opsAllRow : OpenClaim := { program := "ytblhmmhhjkjcgaa", sum := "9d08abbeb7f5b3fbe38a89a92a8ed073e46e2dc6339f2cd8387fcfd0baf2af0f", func := "louver/louverlaw02.OpsAll", spec := "opsAll", apart := false }
def OpsAllSaid : Prop := opsAllRow.holds Try.pinned (OpenSpec.ofChange opsAllSpec)

/-- ITS FALSE NEIGHBOUR: 'it returns false'. Refute it at one input. -/
def opsAllWrong : ChangeSpec := { name := "opsAll", fn := fun _ => fun
  | [d1, d2, d3] => { results := [.lit (.bool false)], args := [d1, d2, d3] }
  | _ => none }
def OpsAllWrongFalsely : Prop := opsAllRow.holds Try.pinned (OpenSpec.ofChange opsAllWrong)

/-- 'louverlaw02.OpsLaws': WHATEVER THE INPUT: true; the input reads as it did. -/
def opsLawsSpec : ChangeSpec := { name := "opsLaws", fn := fun _ => fun
  | [d1, d2] => { results := [.lit (.bool true)], args := [d1, d2] }
  | _ => none }
def opsLawsRow : OpenClaim := { program := "ytblhmmhhjkjcgaa", sum := "9d08abbeb7f5b3fbe38a89a92a8ed073e46e2dc6339f2cd8387fcfd0baf2af0f", func := "louver/louverlaw02.OpsLaws", spec := "opsLaws", apart := false }
def OpsLawsSaid : Prop := opsLawsRow.holds Try.pinned (OpenSpec.ofChange opsLawsSpec)

/-- ITS FALSE NEIGHBOUR: 'it returns false'. Refute it at one input. -/
def opsLawsWrong : ChangeSpec := { name := "opsLaws", fn := fun _ => fun
  | [d1, d2] => { results := [.lit (.bool false)], args := [d1, d2] }
  | _ => none }
def OpsLawsWrongFalsely : Prop := opsLawsRow.holds Try.pinned (OpenSpec.ofChange opsLawsWrong)

/-- 'louverlaw02.OpsFolds': WHATEVER THE INPUT: true; the input reads as it did. -/
def opsFoldsSpec : ChangeSpec := { name := "opsFolds", fn := fun _ => fun
  | [d1, d2] => { results := [.lit (.bool true)], args := [d1, d2] }
  | _ => none }
def opsFoldsRow : OpenClaim := { program := "ytblhmmhhjkjcgaa", sum := "9d08abbeb7f5b3fbe38a89a92a8ed073e46e2dc6339f2cd8387fcfd0baf2af0f", func := "louver/louverlaw02.OpsFolds", spec := "opsFolds", apart := false }
def OpsFoldsSaid : Prop := opsFoldsRow.holds Try.pinned (OpenSpec.ofChange opsFoldsSpec)

/-- ITS FALSE NEIGHBOUR: 'it returns false'. Refute it at one input. -/
def opsFoldsWrong : ChangeSpec := { name := "opsFolds", fn := fun _ => fun
  | [d1, d2] => { results := [.lit (.bool false)], args := [d1, d2] }
  | _ => none }
def OpsFoldsWrongFalsely : Prop := opsFoldsRow.holds Try.pinned (OpenSpec.ofChange opsFoldsWrong)

/- THE SECOND FORM. 'bulk': how many values and letters a reading holds, each counted each time it is reached (what is shared counts as often as it is met; a slice's spare places count too). A statement '..UptoSaid' is the law's where the arguments, and the package variables that the reading takes, are together of bulk at most 1048576: NARROWER than '..Said'. Prove '..Said' where nothing that the law and all that it calls make is longer than what came in: it says more and counts as full. Else prove '..UptoSaid'. A law counts once. -/
mutual
def uptoBulk {H : Type} : DataW H → Nat
  | .lit (.string bytes) => bytes.length + 1
  | .lit _ => 1
  | .nil => 1
  | .ptr d => uptoBulk d + 1
  | .slice elems spare => uptoBulkAll elems + uptoBulkAll spare + 1
  | .agg parts => uptoBulkAll parts + 1
  | .iface _ d => uptoBulk d + 1
  | .map entries => uptoBulkEntries entries + 1
  | .held _ => 1
def uptoBulkAll {H : Type} : List (DataW H) → Nat
  | [] => 0
  | d :: r => uptoBulk d + uptoBulkAll r
def uptoBulkEntries {H : Type} : List (Lit × DataW H) → Nat
  | [] => 0
  | x :: r => uptoBulkEntry x + uptoBulkEntries r
def uptoBulkEntry {H : Type} : Lit × DataW H → Nat
  | (.string bytes, d) => bytes.length + uptoBulk d + 1
  | (_, d) => uptoBulk d + 1
 end
def uptoSmall : (H : Type) → List (DataW H) → Bool := fun _ ds => decide (uptoBulkAll ds ≤ 1048576)
def OpenSpec.upto (s : _root_.Go.ChangeSpec) : _root_.Go.OpenSpec := { _root_.Go.OpenSpec.ofChange s with cond := some uptoSmall }

/-- 'louverlaw02.OpsAll', WHERE WHAT IT READS IS OF BULK AT MOST 1048576: true; the input reads as it did. -/
def opsAllUptoRow : OpenClaim := { program := "ytblhmmhhjkjcgaa", sum := "9d08abbeb7f5b3fbe38a89a92a8ed073e46e2dc6339f2cd8387fcfd0baf2af0f", func := "louver/louverlaw02.OpsAll", spec := "opsAll", apart := false, narrowed := true }
def OpsAllUptoSaid : Prop := opsAllUptoRow.holds Try.pinned (OpenSpec.upto opsAllSpec)

/-- 'louverlaw02.OpsLaws', WHERE WHAT IT READS IS OF BULK AT MOST 1048576: true; the input reads as it did. -/
def opsLawsUptoRow : OpenClaim := { program := "ytblhmmhhjkjcgaa", sum := "9d08abbeb7f5b3fbe38a89a92a8ed073e46e2dc6339f2cd8387fcfd0baf2af0f", func := "louver/louverlaw02.OpsLaws", spec := "opsLaws", apart := false, narrowed := true }
def OpsLawsUptoSaid : Prop := opsLawsUptoRow.holds Try.pinned (OpenSpec.upto opsLawsSpec)

/-- 'louverlaw02.OpsFolds', WHERE WHAT IT READS IS OF BULK AT MOST 1048576: true; the input reads as it did. -/
def opsFoldsUptoRow : OpenClaim := { program := "ytblhmmhhjkjcgaa", sum := "9d08abbeb7f5b3fbe38a89a92a8ed073e46e2dc6339f2cd8387fcfd0baf2af0f", func := "louver/louverlaw02.OpsFolds", spec := "opsFolds", apart := false, narrowed := true }
def OpsFoldsUptoSaid : Prop := opsFoldsUptoRow.holds Try.pinned (OpenSpec.upto opsFoldsSpec)

end Rows
end Go.Proofs.Ytblhmmhhjkjcgaa
