/-
  DERIVED. GIVEN WITH THE SEED: THE CARDS: each row of YtgpdaihfjnihhaaDoorRows.lean that lists a variable, with what it lists TIED to the program's text (the seventh form; the later family's looks); each row that meets fmt, with fmt's text TOLD by the authors' own Lean function (tested against real Go, not proved from fmt's source: count such statements apart). THE CARD IS WHAT COUNTS. Prove the row's statement (the work); the ties are given (YtgpdaihfjnihhaaDoorTie.lean); close each card by the builder's one call (the guide's Derived/Test/ToyasCard.lean, 'card_holds'). Laid BY PROGRAM, IN A SANDBOX (cutbox-door.mjs). By AI agents, Wed Nov 11 2026. No macro, syntax, notation, axiom, sorry.
-/
import Derived.Test.YtgpdaihfjnihhaaDoorRows
import GoSem.ClaimSeven
namespace Go.Proofs.YtgpdaihfjnihhaaDoor
namespace Rows

/-- THE TIED CARD OF 'louverlaw12.ImageTold'. -/
def imageToldCard : Claim7 := { stood := { row := imageToldRow, standIns := [], harness := (true, "28a38dea549f812472ccf79122cdc2dcc53bbe4fde2fd48ae28ca218f8cf68c3"), looks := true }, kinds := [], alts := [], laidByText := true, laidKinds := [.listed, .data], laidTests := true, laidLooks := .later }
def ImageToldCardSaid : Prop := Claim7.holds Tryd.pinned (.plain (OpenSpec.ofChange imageToldSpec)) imageToldCard

/-- THE TIED CARD OF 'louverlaw12.ImageMay'. -/
def imageMayCard : Claim7 := { stood := { row := imageMayRow, standIns := [], harness := (true, "28a38dea549f812472ccf79122cdc2dcc53bbe4fde2fd48ae28ca218f8cf68c3"), looks := true }, kinds := [], alts := [], laidByText := true, laidKinds := [.listed, .data], laidTests := true, laidLooks := .later }
def ImageMayCardSaid : Prop := Claim7.holds Tryd.pinned (.plain (OpenSpec.ofChange imageMaySpec)) imageMayCard

/-- THE TIED CARD OF 'louverlaw10.CodeBytes'. -/
def codeBytesCard : Claim7 := { stood := { row := codeBytesRow, standIns := [], harness := (true, "28a38dea549f812472ccf79122cdc2dcc53bbe4fde2fd48ae28ca218f8cf68c3"), looks := true }, kinds := [], alts := [], laidByText := true, laidKinds := [.listed, .data], laidTests := true, laidLooks := .later }
def CodeBytesCardSaid : Prop := Claim7.holds Tryd.pinned (.plain (OpenSpec.ofChange codeBytesSpec)) codeBytesCard

/-- THE TIED CARD OF 'louverlaw10.CodeEffects'. -/
def codeEffectsCard : Claim7 := { stood := { row := codeEffectsRow, standIns := [], harness := (true, "28a38dea549f812472ccf79122cdc2dcc53bbe4fde2fd48ae28ca218f8cf68c3"), looks := true }, kinds := [], alts := [], laidByText := true, laidKinds := [.listed, .data], laidTests := true, laidLooks := .later }
def CodeEffectsCardSaid : Prop := Claim7.holds Tryd.pinned (.plain (OpenSpec.ofChange codeEffectsSpec)) codeEffectsCard

/-- THE TIED CARD OF 'louverlaw10.CodeMore'. -/
def codeMoreCard : Claim7 := { stood := { row := codeMoreRow, standIns := [], harness := (true, "28a38dea549f812472ccf79122cdc2dcc53bbe4fde2fd48ae28ca218f8cf68c3"), looks := true }, kinds := [], alts := [], laidByText := true, laidKinds := [.listed, .data], laidTests := true, laidLooks := .later }
def CodeMoreCardSaid : Prop := Claim7.holds Tryd.pinned (.plain (OpenSpec.ofChange codeMoreSpec)) codeMoreCard

/-- THE TIED CARD OF 'louverlaw10.CodeNames'. -/
def codeNamesCard : Claim7 := { stood := { row := codeNamesRow, standIns := [], harness := (true, "28a38dea549f812472ccf79122cdc2dcc53bbe4fde2fd48ae28ca218f8cf68c3"), looks := true }, kinds := [], alts := [], laidByText := true, laidKinds := [.listed, .data], laidTests := true, laidLooks := .later }
def CodeNamesCardSaid : Prop := Claim7.holds Tryd.pinned (.plain (OpenSpec.ofChange codeNamesSpec)) codeNamesCard

/-- THE TIED CARD OF 'louverlaw10.CodeKnown'. -/
def codeKnownCard : Claim7 := { stood := { row := codeKnownRow, standIns := [], harness := (true, "28a38dea549f812472ccf79122cdc2dcc53bbe4fde2fd48ae28ca218f8cf68c3"), looks := true }, kinds := [], alts := [], laidByText := true, laidKinds := [.listed, .data], laidTests := true, laidLooks := .later }
def CodeKnownCardSaid : Prop := Claim7.holds Tryd.pinned (.plain (OpenSpec.ofChange codeKnownSpec)) codeKnownCard

/-- THE TIED CARD OF 'louverlaw10.CodeBack'. -/
def codeBackCard : Claim7 := { stood := { row := codeBackRow, standIns := [], harness := (true, "28a38dea549f812472ccf79122cdc2dcc53bbe4fde2fd48ae28ca218f8cf68c3"), looks := true }, kinds := [], alts := [], laidByText := true, laidKinds := [.listed, .data], laidTests := true, laidLooks := .later }
def CodeBackCardSaid : Prop := Claim7.holds Tryd.pinned (.plain (OpenSpec.ofChange codeBackSpec)) codeBackCard

/-- THE TIED CARD OF 'louverlaw12.ImageWrites'. -/
def imageWritesCard : Claim7 := { stood := { row := imageWritesRow, standIns := [], harness := (true, "28a38dea549f812472ccf79122cdc2dcc53bbe4fde2fd48ae28ca218f8cf68c3"), looks := true }, kinds := [], alts := [], laidByText := true, laidKinds := [.listed, .data], laidTests := true, laidLooks := .later }
def ImageWritesCardSaid : Prop := Claim7.holds Tryd.pinned (.plain (OpenSpec.ofChange imageWritesSpec)) imageWritesCard

/-- THE TIED CARD OF 'louverlaw12.ImageReads'. -/
def imageReadsCard : Claim7 := { stood := { row := imageReadsRow, standIns := [], harness := (true, "28a38dea549f812472ccf79122cdc2dcc53bbe4fde2fd48ae28ca218f8cf68c3"), looks := true }, kinds := [], alts := [], laidByText := true, laidKinds := [.listed, .data], laidTests := true, laidLooks := .later }
def ImageReadsCardSaid : Prop := Claim7.holds Tryd.pinned (.plain (OpenSpec.ofChange imageReadsSpec)) imageReadsCard

/-- THE TIED CARD OF 'louverlaw12.ImageSums'. -/
def imageSumsCard : Claim7 := { stood := { row := imageSumsRow, standIns := [], harness := (true, "28a38dea549f812472ccf79122cdc2dcc53bbe4fde2fd48ae28ca218f8cf68c3"), looks := true }, kinds := [], alts := [], laidByText := true, laidKinds := [.listed, .data], laidTests := true, laidLooks := .later }
def ImageSumsCardSaid : Prop := Claim7.holds Tryd.pinned (.plain (OpenSpec.ofChange imageSumsSpec)) imageSumsCard

/-- THE TIED CARD OF 'louverlaw12.ImageKnown'. -/
def imageKnownCard : Claim7 := { stood := { row := imageKnownRow, standIns := [], harness := (true, "28a38dea549f812472ccf79122cdc2dcc53bbe4fde2fd48ae28ca218f8cf68c3"), looks := true }, kinds := [], alts := [], laidByText := true, laidKinds := [.listed, .data], laidTests := true, laidLooks := .later }
def ImageKnownCardSaid : Prop := Claim7.holds Tryd.pinned (.plain (OpenSpec.ofChange imageKnownSpec)) imageKnownCard

/-- THE TIED CARD OF 'louverlaw12.ImageBack'. -/
def imageBackCard : Claim7 := { stood := { row := imageBackRow, standIns := [], harness := (true, "28a38dea549f812472ccf79122cdc2dcc53bbe4fde2fd48ae28ca218f8cf68c3"), looks := true }, kinds := [], alts := [], laidByText := true, laidKinds := [.listed, .data], laidTests := true, laidLooks := .later }
def ImageBackCardSaid : Prop := Claim7.holds Tryd.pinned (.plain (OpenSpec.ofChange imageBackSpec)) imageBackCard

/-- THE SECOND FORM's CARD OF 'louverlaw12.ImageTold'. -/
def imageToldUptoCard : Claim7 := { stood := { row := imageToldUptoRow, standIns := [], harness := (true, "28a38dea549f812472ccf79122cdc2dcc53bbe4fde2fd48ae28ca218f8cf68c3"), looks := true }, kinds := [], alts := [], laidByText := true, laidKinds := [.listed, .data], laidTests := true, laidLooks := .later }
def ImageToldUptoCardSaid : Prop := Claim7.holds Tryd.pinned (.plain (OpenSpec.upto imageToldSpec)) imageToldUptoCard

/-- THE SECOND FORM's CARD OF 'louverlaw12.ImageMay'. -/
def imageMayUptoCard : Claim7 := { stood := { row := imageMayUptoRow, standIns := [], harness := (true, "28a38dea549f812472ccf79122cdc2dcc53bbe4fde2fd48ae28ca218f8cf68c3"), looks := true }, kinds := [], alts := [], laidByText := true, laidKinds := [.listed, .data], laidTests := true, laidLooks := .later }
def ImageMayUptoCardSaid : Prop := Claim7.holds Tryd.pinned (.plain (OpenSpec.upto imageMaySpec)) imageMayUptoCard

/-- THE SECOND FORM's CARD OF 'louverlaw10.CodeBytes'. -/
def codeBytesUptoCard : Claim7 := { stood := { row := codeBytesUptoRow, standIns := [], harness := (true, "28a38dea549f812472ccf79122cdc2dcc53bbe4fde2fd48ae28ca218f8cf68c3"), looks := true }, kinds := [], alts := [], laidByText := true, laidKinds := [.listed, .data], laidTests := true, laidLooks := .later }
def CodeBytesUptoCardSaid : Prop := Claim7.holds Tryd.pinned (.plain (OpenSpec.upto codeBytesSpec)) codeBytesUptoCard

/-- THE SECOND FORM's CARD OF 'louverlaw10.CodeEffects'. -/
def codeEffectsUptoCard : Claim7 := { stood := { row := codeEffectsUptoRow, standIns := [], harness := (true, "28a38dea549f812472ccf79122cdc2dcc53bbe4fde2fd48ae28ca218f8cf68c3"), looks := true }, kinds := [], alts := [], laidByText := true, laidKinds := [.listed, .data], laidTests := true, laidLooks := .later }
def CodeEffectsUptoCardSaid : Prop := Claim7.holds Tryd.pinned (.plain (OpenSpec.upto codeEffectsSpec)) codeEffectsUptoCard

/-- THE SECOND FORM's CARD OF 'louverlaw10.CodeMore'. -/
def codeMoreUptoCard : Claim7 := { stood := { row := codeMoreUptoRow, standIns := [], harness := (true, "28a38dea549f812472ccf79122cdc2dcc53bbe4fde2fd48ae28ca218f8cf68c3"), looks := true }, kinds := [], alts := [], laidByText := true, laidKinds := [.listed, .data], laidTests := true, laidLooks := .later }
def CodeMoreUptoCardSaid : Prop := Claim7.holds Tryd.pinned (.plain (OpenSpec.upto codeMoreSpec)) codeMoreUptoCard

/-- THE SECOND FORM's CARD OF 'louverlaw10.CodeNames'. -/
def codeNamesUptoCard : Claim7 := { stood := { row := codeNamesUptoRow, standIns := [], harness := (true, "28a38dea549f812472ccf79122cdc2dcc53bbe4fde2fd48ae28ca218f8cf68c3"), looks := true }, kinds := [], alts := [], laidByText := true, laidKinds := [.listed, .data], laidTests := true, laidLooks := .later }
def CodeNamesUptoCardSaid : Prop := Claim7.holds Tryd.pinned (.plain (OpenSpec.upto codeNamesSpec)) codeNamesUptoCard

/-- THE SECOND FORM's CARD OF 'louverlaw10.CodeKnown'. -/
def codeKnownUptoCard : Claim7 := { stood := { row := codeKnownUptoRow, standIns := [], harness := (true, "28a38dea549f812472ccf79122cdc2dcc53bbe4fde2fd48ae28ca218f8cf68c3"), looks := true }, kinds := [], alts := [], laidByText := true, laidKinds := [.listed, .data], laidTests := true, laidLooks := .later }
def CodeKnownUptoCardSaid : Prop := Claim7.holds Tryd.pinned (.plain (OpenSpec.upto codeKnownSpec)) codeKnownUptoCard

/-- THE SECOND FORM's CARD OF 'louverlaw10.CodeBack'. -/
def codeBackUptoCard : Claim7 := { stood := { row := codeBackUptoRow, standIns := [], harness := (true, "28a38dea549f812472ccf79122cdc2dcc53bbe4fde2fd48ae28ca218f8cf68c3"), looks := true }, kinds := [], alts := [], laidByText := true, laidKinds := [.listed, .data], laidTests := true, laidLooks := .later }
def CodeBackUptoCardSaid : Prop := Claim7.holds Tryd.pinned (.plain (OpenSpec.upto codeBackSpec)) codeBackUptoCard

/-- THE SECOND FORM's CARD OF 'louverlaw12.ImageWrites'. -/
def imageWritesUptoCard : Claim7 := { stood := { row := imageWritesUptoRow, standIns := [], harness := (true, "28a38dea549f812472ccf79122cdc2dcc53bbe4fde2fd48ae28ca218f8cf68c3"), looks := true }, kinds := [], alts := [], laidByText := true, laidKinds := [.listed, .data], laidTests := true, laidLooks := .later }
def ImageWritesUptoCardSaid : Prop := Claim7.holds Tryd.pinned (.plain (OpenSpec.upto imageWritesSpec)) imageWritesUptoCard

/-- THE SECOND FORM's CARD OF 'louverlaw12.ImageReads'. -/
def imageReadsUptoCard : Claim7 := { stood := { row := imageReadsUptoRow, standIns := [], harness := (true, "28a38dea549f812472ccf79122cdc2dcc53bbe4fde2fd48ae28ca218f8cf68c3"), looks := true }, kinds := [], alts := [], laidByText := true, laidKinds := [.listed, .data], laidTests := true, laidLooks := .later }
def ImageReadsUptoCardSaid : Prop := Claim7.holds Tryd.pinned (.plain (OpenSpec.upto imageReadsSpec)) imageReadsUptoCard

/-- THE SECOND FORM's CARD OF 'louverlaw12.ImageSums'. -/
def imageSumsUptoCard : Claim7 := { stood := { row := imageSumsUptoRow, standIns := [], harness := (true, "28a38dea549f812472ccf79122cdc2dcc53bbe4fde2fd48ae28ca218f8cf68c3"), looks := true }, kinds := [], alts := [], laidByText := true, laidKinds := [.listed, .data], laidTests := true, laidLooks := .later }
def ImageSumsUptoCardSaid : Prop := Claim7.holds Tryd.pinned (.plain (OpenSpec.upto imageSumsSpec)) imageSumsUptoCard

/-- THE SECOND FORM's CARD OF 'louverlaw12.ImageKnown'. -/
def imageKnownUptoCard : Claim7 := { stood := { row := imageKnownUptoRow, standIns := [], harness := (true, "28a38dea549f812472ccf79122cdc2dcc53bbe4fde2fd48ae28ca218f8cf68c3"), looks := true }, kinds := [], alts := [], laidByText := true, laidKinds := [.listed, .data], laidTests := true, laidLooks := .later }
def ImageKnownUptoCardSaid : Prop := Claim7.holds Tryd.pinned (.plain (OpenSpec.upto imageKnownSpec)) imageKnownUptoCard

/-- THE SECOND FORM's CARD OF 'louverlaw12.ImageBack'. -/
def imageBackUptoCard : Claim7 := { stood := { row := imageBackUptoRow, standIns := [], harness := (true, "28a38dea549f812472ccf79122cdc2dcc53bbe4fde2fd48ae28ca218f8cf68c3"), looks := true }, kinds := [], alts := [], laidByText := true, laidKinds := [.listed, .data], laidTests := true, laidLooks := .later }
def ImageBackUptoCardSaid : Prop := Claim7.holds Tryd.pinned (.plain (OpenSpec.upto imageBackSpec)) imageBackUptoCard
end Rows
end Go.Proofs.YtgpdaihfjnihhaaDoor
