/-
  DERIVED. GIVEN WITH THE SEED: THE CARDS: each row of YtblhmmhhjkjcgaaDoorRows.lean that lists a variable, with what it lists TIED to the program's text (the seventh form; the later family's looks); each row that meets fmt, with fmt's text TOLD by the authors' own Lean function (tested against real Go, not proved from fmt's source: count such statements apart). THE CARD IS WHAT COUNTS. Prove the row's statement (the work); the ties are given (YtblhmmhhjkjcgaaDoorTie.lean); close each card by the builder's one call (the guide's Derived/Test/ToyasCard.lean, 'card_holds'). Laid BY PROGRAM, IN A SANDBOX (cutbox-door.mjs). By AI agents, Wed Nov 11 2026. No macro, syntax, notation, axiom, sorry.
-/
import Derived.Test.YtblhmmhhjkjcgaaDoorRows
import GoSem.ClaimSeven
namespace Go.Proofs.YtblhmmhhjkjcgaaDoor
namespace Rows

/-- THE TIED CARD OF 'louverlaw02.OpsSigns'. -/
def opsSignsCard : Claim7 := { stood := { row := opsSignsRow, standIns := [], harness := (true, "f8067a19fdbf51420fd63de82a639cdb85503cfea8cb8f077f05655305114be4"), looks := false }, kinds := [], alts := [], laidByText := true, laidKinds := [.listed, .data], laidTests := true, laidLooks := .later }
def OpsSignsCardSaid : Prop := Claim7.holds Tryd.pinned (.plain (OpenSpec.ofChange opsSignsSpec)) opsSignsCard

/-- THE TIED CARD OF 'louverlaw02.OpsKnown'. -/
def opsKnownCard : Claim7 := { stood := { row := opsKnownRow, standIns := [], harness := (true, "f8067a19fdbf51420fd63de82a639cdb85503cfea8cb8f077f05655305114be4"), looks := false }, kinds := [], alts := [], laidByText := true, laidKinds := [.listed, .data], laidTests := true, laidLooks := .later }
def OpsKnownCardSaid : Prop := Claim7.holds Tryd.pinned (.plain (OpenSpec.ofChange opsKnownSpec)) opsKnownCard

/-- THE SECOND FORM's CARD OF 'louverlaw02.OpsSigns'. -/
def opsSignsUptoCard : Claim7 := { stood := { row := opsSignsUptoRow, standIns := [], harness := (true, "f8067a19fdbf51420fd63de82a639cdb85503cfea8cb8f077f05655305114be4"), looks := false }, kinds := [], alts := [], laidByText := true, laidKinds := [.listed, .data], laidTests := true, laidLooks := .later }
def OpsSignsUptoCardSaid : Prop := Claim7.holds Tryd.pinned (.plain (OpenSpec.upto opsSignsSpec)) opsSignsUptoCard

/-- THE SECOND FORM's CARD OF 'louverlaw02.OpsKnown'. -/
def opsKnownUptoCard : Claim7 := { stood := { row := opsKnownUptoRow, standIns := [], harness := (true, "f8067a19fdbf51420fd63de82a639cdb85503cfea8cb8f077f05655305114be4"), looks := false }, kinds := [], alts := [], laidByText := true, laidKinds := [.listed, .data], laidTests := true, laidLooks := .later }
def OpsKnownUptoCardSaid : Prop := Claim7.holds Tryd.pinned (.plain (OpenSpec.upto opsKnownSpec)) opsKnownUptoCard
end Rows
end Go.Proofs.YtblhmmhhjkjcgaaDoor
