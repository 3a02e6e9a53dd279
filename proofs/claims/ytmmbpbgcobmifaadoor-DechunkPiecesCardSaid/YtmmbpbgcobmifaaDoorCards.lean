/-
  DERIVED. GIVEN WITH THE SEED: THE CARDS: each row of YtmmbpbgcobmifaaDoorRows.lean that lists a variable, with what it lists TIED to the program's text (the seventh form; the later family's looks); each row that meets fmt, with fmt's text TOLD by the authors' own Lean function (tested against real Go, not proved from fmt's source: count such statements apart). THE CARD IS WHAT COUNTS. Prove the row's statement (the work); the ties are given (YtmmbpbgcobmifaaDoorTie.lean); close each card by the builder's one call (the guide's Derived/Test/ToyasCard.lean, 'card_holds'). Laid BY PROGRAM, IN A SANDBOX (cutbox-door.mjs). By AI agents, Wed Nov 11 2026. No macro, syntax, notation, axiom, sorry.
-/
import Derived.Test.YtmmbpbgcobmifaaDoorRows
import GoSem.ClaimSeven
namespace Go.Proofs.YtmmbpbgcobmifaaDoor
namespace Rows

/-- THE TIED CARD OF 'catchpitlaw09.DechunkStays'. -/
def dechunkStaysCard : Claim7 := { stood := { row := dechunkStaysRow, standIns := [], harness := (true, "6ba35a767f24765752376922994358ab233ab8fbd8ec8dd403f9bab52b247d76"), looks := true }, kinds := [], alts := [], laidByText := true, laidKinds := [.data, .data, .pinned], laidTests := true, laidLooks := .later }
def DechunkStaysCardSaid : Prop := Claim7.holds Tryd.pinned (.plain (OpenSpec.ofChange dechunkStaysSpec)) dechunkStaysCard

/-- THE TIED CARD OF 'catchpitlaw09.DechunkCounts'. -/
def dechunkCountsCard : Claim7 := { stood := { row := dechunkCountsRow, standIns := [], harness := (true, "6ba35a767f24765752376922994358ab233ab8fbd8ec8dd403f9bab52b247d76"), looks := true }, kinds := [], alts := [], laidByText := true, laidKinds := [.data, .data, .pinned], laidTests := true, laidLooks := .later }
def DechunkCountsCardSaid : Prop := Claim7.holds Tryd.pinned (.plain (OpenSpec.ofChange dechunkCountsSpec)) dechunkCountsCard

/-- THE TIED CARD OF 'catchpitlaw09.DechunkBytes'. -/
def dechunkBytesCard : Claim7 := { stood := { row := dechunkBytesRow, standIns := [], harness := (true, "6ba35a767f24765752376922994358ab233ab8fbd8ec8dd403f9bab52b247d76"), looks := true }, kinds := [], alts := [], laidByText := true, laidKinds := [.data, .data, .pinned], laidTests := true, laidLooks := .later }
def DechunkBytesCardSaid : Prop := Claim7.holds Tryd.pinned (.plain (OpenSpec.ofChange dechunkBytesSpec)) dechunkBytesCard

/-- THE TIED CARD OF 'catchpitlaw09.DechunkPieces'. -/
def dechunkPiecesCard : Claim7 := { stood := { row := dechunkPiecesRow, standIns := [], harness := (true, "6ba35a767f24765752376922994358ab233ab8fbd8ec8dd403f9bab52b247d76"), looks := true }, kinds := [], alts := [], laidByText := true, laidKinds := [.data, .data, .pinned], laidTests := true, laidLooks := .later }
def DechunkPiecesCardSaid : Prop := Claim7.holds Tryd.pinned (.plain (OpenSpec.ofChange dechunkPiecesSpec)) dechunkPiecesCard

/-- THE TIED CARD OF 'catchpitlaw08.BodyPuts'. -/
def bodyPutsCard : Claim7 := { stood := { row := bodyPutsRow, standIns := [], harness := (true, "6ba35a767f24765752376922994358ab233ab8fbd8ec8dd403f9bab52b247d76"), looks := true }, kinds := [], alts := [], laidByText := true, laidKinds := [.data, .data, .pinned], laidTests := true, laidLooks := .later }
def BodyPutsCardSaid : Prop := Claim7.holds Tryd.pinned (.plain (OpenSpec.ofChange bodyPutsSpec)) bodyPutsCard

/-- THE TIED CARD OF 'catchpitlaw08.BodyLimits'. -/
def bodyLimitsCard : Claim7 := { stood := { row := bodyLimitsRow, standIns := [], harness := (true, "6ba35a767f24765752376922994358ab233ab8fbd8ec8dd403f9bab52b247d76"), looks := true }, kinds := [], alts := [], laidByText := true, laidKinds := [.data, .data, .pinned], laidTests := true, laidLooks := .later }
def BodyLimitsCardSaid : Prop := Claim7.holds Tryd.pinned (.plain (OpenSpec.ofChange bodyLimitsSpec)) bodyLimitsCard

/-- THE TIED CARD OF 'catchpitlaw08.BodyExtensions'. -/
def bodyExtensionsCard : Claim7 := { stood := { row := bodyExtensionsRow, standIns := [], harness := (true, "6ba35a767f24765752376922994358ab233ab8fbd8ec8dd403f9bab52b247d76"), looks := true }, kinds := [], alts := [], laidByText := true, laidKinds := [.data, .data, .pinned], laidTests := true, laidLooks := .later }
def BodyExtensionsCardSaid : Prop := Claim7.holds Tryd.pinned (.plain (OpenSpec.ofChange bodyExtensionsSpec)) bodyExtensionsCard

/-- THE TIED CARD OF 'catchpitlaw08.BodyChunkings'. -/
def bodyChunkingsCard : Claim7 := { stood := { row := bodyChunkingsRow, standIns := [], harness := (true, "6ba35a767f24765752376922994358ab233ab8fbd8ec8dd403f9bab52b247d76"), looks := true }, kinds := [], alts := [], laidByText := true, laidKinds := [.data, .data, .pinned], laidTests := true, laidLooks := .later }
def BodyChunkingsCardSaid : Prop := Claim7.holds Tryd.pinned (.plain (OpenSpec.ofChange bodyChunkingsSpec)) bodyChunkingsCard

/-- THE TIED CARD OF 'catchpitlaw08.BodyCuts'. -/
def bodyCutsCard : Claim7 := { stood := { row := bodyCutsRow, standIns := [], harness := (true, "6ba35a767f24765752376922994358ab233ab8fbd8ec8dd403f9bab52b247d76"), looks := true }, kinds := [], alts := [], laidByText := true, laidKinds := [.data, .data, .pinned], laidTests := true, laidLooks := .later }
def BodyCutsCardSaid : Prop := Claim7.holds Tryd.pinned (.plain (OpenSpec.ofChange bodyCutsSpec)) bodyCutsCard

/-- THE TIED CARD OF 'catchpitlaw08.BodyScans'. -/
def bodyScansCard : Claim7 := { stood := { row := bodyScansRow, standIns := [], harness := (true, "6ba35a767f24765752376922994358ab233ab8fbd8ec8dd403f9bab52b247d76"), looks := true }, kinds := [], alts := [], laidByText := true, laidKinds := [.data, .data, .pinned], laidTests := true, laidLooks := .later }
def BodyScansCardSaid : Prop := Claim7.holds Tryd.pinned (.plain (OpenSpec.ofChange bodyScansSpec)) bodyScansCard

/-- THE SECOND FORM's CARD OF 'catchpitlaw09.DechunkStays'. -/
def dechunkStaysUptoCard : Claim7 := { stood := { row := dechunkStaysUptoRow, standIns := [], harness := (true, "6ba35a767f24765752376922994358ab233ab8fbd8ec8dd403f9bab52b247d76"), looks := true }, kinds := [], alts := [], laidByText := true, laidKinds := [.data, .data, .pinned], laidTests := true, laidLooks := .later }
def DechunkStaysUptoCardSaid : Prop := Claim7.holds Tryd.pinned (.plain (OpenSpec.upto dechunkStaysSpec)) dechunkStaysUptoCard

/-- THE SECOND FORM's CARD OF 'catchpitlaw09.DechunkCounts'. -/
def dechunkCountsUptoCard : Claim7 := { stood := { row := dechunkCountsUptoRow, standIns := [], harness := (true, "6ba35a767f24765752376922994358ab233ab8fbd8ec8dd403f9bab52b247d76"), looks := true }, kinds := [], alts := [], laidByText := true, laidKinds := [.data, .data, .pinned], laidTests := true, laidLooks := .later }
def DechunkCountsUptoCardSaid : Prop := Claim7.holds Tryd.pinned (.plain (OpenSpec.upto dechunkCountsSpec)) dechunkCountsUptoCard

/-- THE SECOND FORM's CARD OF 'catchpitlaw09.DechunkBytes'. -/
def dechunkBytesUptoCard : Claim7 := { stood := { row := dechunkBytesUptoRow, standIns := [], harness := (true, "6ba35a767f24765752376922994358ab233ab8fbd8ec8dd403f9bab52b247d76"), looks := true }, kinds := [], alts := [], laidByText := true, laidKinds := [.data, .data, .pinned], laidTests := true, laidLooks := .later }
def DechunkBytesUptoCardSaid : Prop := Claim7.holds Tryd.pinned (.plain (OpenSpec.upto dechunkBytesSpec)) dechunkBytesUptoCard

/-- THE SECOND FORM's CARD OF 'catchpitlaw09.DechunkPieces'. -/
def dechunkPiecesUptoCard : Claim7 := { stood := { row := dechunkPiecesUptoRow, standIns := [], harness := (true, "6ba35a767f24765752376922994358ab233ab8fbd8ec8dd403f9bab52b247d76"), looks := true }, kinds := [], alts := [], laidByText := true, laidKinds := [.data, .data, .pinned], laidTests := true, laidLooks := .later }
def DechunkPiecesUptoCardSaid : Prop := Claim7.holds Tryd.pinned (.plain (OpenSpec.upto dechunkPiecesSpec)) dechunkPiecesUptoCard

/-- THE SECOND FORM's CARD OF 'catchpitlaw08.BodyPuts'. -/
def bodyPutsUptoCard : Claim7 := { stood := { row := bodyPutsUptoRow, standIns := [], harness := (true, "6ba35a767f24765752376922994358ab233ab8fbd8ec8dd403f9bab52b247d76"), looks := true }, kinds := [], alts := [], laidByText := true, laidKinds := [.data, .data, .pinned], laidTests := true, laidLooks := .later }
def BodyPutsUptoCardSaid : Prop := Claim7.holds Tryd.pinned (.plain (OpenSpec.upto bodyPutsSpec)) bodyPutsUptoCard

/-- THE SECOND FORM's CARD OF 'catchpitlaw08.BodyLimits'. -/
def bodyLimitsUptoCard : Claim7 := { stood := { row := bodyLimitsUptoRow, standIns := [], harness := (true, "6ba35a767f24765752376922994358ab233ab8fbd8ec8dd403f9bab52b247d76"), looks := true }, kinds := [], alts := [], laidByText := true, laidKinds := [.data, .data, .pinned], laidTests := true, laidLooks := .later }
def BodyLimitsUptoCardSaid : Prop := Claim7.holds Tryd.pinned (.plain (OpenSpec.upto bodyLimitsSpec)) bodyLimitsUptoCard

/-- THE SECOND FORM's CARD OF 'catchpitlaw08.BodyExtensions'. -/
def bodyExtensionsUptoCard : Claim7 := { stood := { row := bodyExtensionsUptoRow, standIns := [], harness := (true, "6ba35a767f24765752376922994358ab233ab8fbd8ec8dd403f9bab52b247d76"), looks := true }, kinds := [], alts := [], laidByText := true, laidKinds := [.data, .data, .pinned], laidTests := true, laidLooks := .later }
def BodyExtensionsUptoCardSaid : Prop := Claim7.holds Tryd.pinned (.plain (OpenSpec.upto bodyExtensionsSpec)) bodyExtensionsUptoCard

/-- THE SECOND FORM's CARD OF 'catchpitlaw08.BodyChunkings'. -/
def bodyChunkingsUptoCard : Claim7 := { stood := { row := bodyChunkingsUptoRow, standIns := [], harness := (true, "6ba35a767f24765752376922994358ab233ab8fbd8ec8dd403f9bab52b247d76"), looks := true }, kinds := [], alts := [], laidByText := true, laidKinds := [.data, .data, .pinned], laidTests := true, laidLooks := .later }
def BodyChunkingsUptoCardSaid : Prop := Claim7.holds Tryd.pinned (.plain (OpenSpec.upto bodyChunkingsSpec)) bodyChunkingsUptoCard

/-- THE SECOND FORM's CARD OF 'catchpitlaw08.BodyCuts'. -/
def bodyCutsUptoCard : Claim7 := { stood := { row := bodyCutsUptoRow, standIns := [], harness := (true, "6ba35a767f24765752376922994358ab233ab8fbd8ec8dd403f9bab52b247d76"), looks := true }, kinds := [], alts := [], laidByText := true, laidKinds := [.data, .data, .pinned], laidTests := true, laidLooks := .later }
def BodyCutsUptoCardSaid : Prop := Claim7.holds Tryd.pinned (.plain (OpenSpec.upto bodyCutsSpec)) bodyCutsUptoCard

/-- THE SECOND FORM's CARD OF 'catchpitlaw08.BodyScans'. -/
def bodyScansUptoCard : Claim7 := { stood := { row := bodyScansUptoRow, standIns := [], harness := (true, "6ba35a767f24765752376922994358ab233ab8fbd8ec8dd403f9bab52b247d76"), looks := true }, kinds := [], alts := [], laidByText := true, laidKinds := [.data, .data, .pinned], laidTests := true, laidLooks := .later }
def BodyScansUptoCardSaid : Prop := Claim7.holds Tryd.pinned (.plain (OpenSpec.upto bodyScansSpec)) bodyScansUptoCard
end Rows
end Go.Proofs.YtmmbpbgcobmifaaDoor
