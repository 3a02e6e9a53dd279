/-
  DERIVED. GIVEN WITH THE SEED: THE CARDS: each row of YtoanmbhenmlboaaDoorRows.lean that lists a variable, with what it lists TIED to the program's text (the seventh form; the later family's looks); each row that meets fmt, with fmt's text TOLD by the authors' own Lean function (tested against real Go, not proved from fmt's source: count such statements apart). THE CARD IS WHAT COUNTS. Prove the row's statement (the work); the ties are given (YtoanmbhenmlboaaDoorTie.lean); close each card by the builder's one call (the guide's Derived/Test/ToyasCard.lean, 'card_holds'). Laid BY PROGRAM, IN A SANDBOX (cutbox-door.mjs). By AI agents, Wed Nov 11 2026. No macro, syntax, notation, axiom, sorry.
-/
import Derived.Test.YtoanmbhenmlboaaDoorRows
import GoSem.ClaimSeven
namespace Go.Proofs.YtoanmbhenmlboaaDoor
namespace Rows

/-- THE TIED CARD OF 'catchpitlaw20.ExpectPatience'. -/
def expectPatienceCard : Claim7 := { stood := { row := expectPatienceRow, standIns := [], harness := (true, "d7a25b2a201ab114acfe3a6338a17043fe0221c03c01696f96c8c4a485cc7c93"), looks := false }, kinds := [], alts := [], laidByText := true, laidKinds := [.data, .data, .pinned], laidTests := true, laidLooks := .later }
def ExpectPatienceCardSaid : Prop := Claim7.holds Tryd.pinned (.plain (OpenSpec.ofChange expectPatienceSpec)) expectPatienceCard

/-- THE TIED CARD OF 'catchpitlaw20.ExpectActs'. -/
def expectActsCard : Claim7 := { stood := { row := expectActsRow, standIns := [], harness := (true, "d7a25b2a201ab114acfe3a6338a17043fe0221c03c01696f96c8c4a485cc7c93"), looks := false }, kinds := [], alts := [], laidByText := true, laidKinds := [.data, .data, .pinned], laidTests := true, laidLooks := .later }
def ExpectActsCardSaid : Prop := Claim7.holds Tryd.pinned (.plain (OpenSpec.ofChange expectActsSpec)) expectActsCard

/-- THE TIED CARD OF 'catchpitlaw20.ExpectNever'. -/
def expectNeverCard : Claim7 := { stood := { row := expectNeverRow, standIns := [], harness := (true, "d7a25b2a201ab114acfe3a6338a17043fe0221c03c01696f96c8c4a485cc7c93"), looks := false }, kinds := [], alts := [], laidByText := true, laidKinds := [.data, .data, .pinned], laidTests := true, laidLooks := .later }
def ExpectNeverCardSaid : Prop := Claim7.holds Tryd.pinned (.plain (OpenSpec.ofChange expectNeverSpec)) expectNeverCard

/-- THE TIED CARD OF 'catchpitlaw20.ExpectNone'. -/
def expectNoneCard : Claim7 := { stood := { row := expectNoneRow, standIns := [], harness := (true, "d7a25b2a201ab114acfe3a6338a17043fe0221c03c01696f96c8c4a485cc7c93"), looks := false }, kinds := [], alts := [], laidByText := true, laidKinds := [.data, .data, .pinned], laidTests := true, laidLooks := .later }
def ExpectNoneCardSaid : Prop := Claim7.holds Tryd.pinned (.plain (OpenSpec.ofChange expectNoneSpec)) expectNoneCard

/-- THE TIED CARD OF 'catchpitlaw11.FramingRequests'. -/
def framingRequestsCard : Claim7 := { stood := { row := framingRequestsRow, standIns := [], harness := (true, "d7a25b2a201ab114acfe3a6338a17043fe0221c03c01696f96c8c4a485cc7c93"), looks := false }, kinds := [], alts := [], laidByText := true, laidKinds := [.data, .data, .pinned], laidTests := true, laidLooks := .later }
def FramingRequestsCardSaid : Prop := Claim7.holds Tryd.pinned (.plain (OpenSpec.ofChange framingRequestsSpec)) framingRequestsCard

/-- THE TIED CARD OF 'catchpitlaw11.FramingResponses'. -/
def framingResponsesCard : Claim7 := { stood := { row := framingResponsesRow, standIns := [], harness := (true, "d7a25b2a201ab114acfe3a6338a17043fe0221c03c01696f96c8c4a485cc7c93"), looks := false }, kinds := [], alts := [], laidByText := true, laidKinds := [.data, .data, .pinned], laidTests := true, laidLooks := .later }
def FramingResponsesCardSaid : Prop := Claim7.holds Tryd.pinned (.plain (OpenSpec.ofChange framingResponsesSpec)) framingResponsesCard

/-- THE TIED CARD OF 'catchpitlaw11.FramingNeverBoth'. -/
def framingNeverBothCard : Claim7 := { stood := { row := framingNeverBothRow, standIns := [], harness := (true, "d7a25b2a201ab114acfe3a6338a17043fe0221c03c01696f96c8c4a485cc7c93"), looks := false }, kinds := [], alts := [], laidByText := true, laidKinds := [.data, .data, .pinned], laidTests := true, laidLooks := .later }
def FramingNeverBothCardSaid : Prop := Claim7.holds Tryd.pinned (.plain (OpenSpec.ofChange framingNeverBothSpec)) framingNeverBothCard

/-- THE TIED CARD OF 'catchpitlaw11.FramingPlain'. -/
def framingPlainCard : Claim7 := { stood := { row := framingPlainRow, standIns := [], harness := (true, "d7a25b2a201ab114acfe3a6338a17043fe0221c03c01696f96c8c4a485cc7c93"), looks := false }, kinds := [], alts := [], laidByText := true, laidKinds := [.data, .data, .pinned], laidTests := true, laidLooks := .later }
def FramingPlainCardSaid : Prop := Claim7.holds Tryd.pinned (.plain (OpenSpec.ofChange framingPlainSpec)) framingPlainCard

/-- THE TIED CARD OF 'catchpitlaw11.FramingSays'. -/
def framingSaysCard : Claim7 := { stood := { row := framingSaysRow, standIns := [], harness := (true, "d7a25b2a201ab114acfe3a6338a17043fe0221c03c01696f96c8c4a485cc7c93"), looks := false }, kinds := [], alts := [], laidByText := true, laidKinds := [.data, .data, .pinned], laidTests := true, laidLooks := .later }
def FramingSaysCardSaid : Prop := Claim7.holds Tryd.pinned (.plain (OpenSpec.ofChange framingSaysSpec)) framingSaysCard

/-- THE SECOND FORM's CARD OF 'catchpitlaw20.ExpectPatience'. -/
def expectPatienceUptoCard : Claim7 := { stood := { row := expectPatienceUptoRow, standIns := [], harness := (true, "d7a25b2a201ab114acfe3a6338a17043fe0221c03c01696f96c8c4a485cc7c93"), looks := false }, kinds := [], alts := [], laidByText := true, laidKinds := [.data, .data, .pinned], laidTests := true, laidLooks := .later }
def ExpectPatienceUptoCardSaid : Prop := Claim7.holds Tryd.pinned (.plain (OpenSpec.upto expectPatienceSpec)) expectPatienceUptoCard

/-- THE SECOND FORM's CARD OF 'catchpitlaw20.ExpectActs'. -/
def expectActsUptoCard : Claim7 := { stood := { row := expectActsUptoRow, standIns := [], harness := (true, "d7a25b2a201ab114acfe3a6338a17043fe0221c03c01696f96c8c4a485cc7c93"), looks := false }, kinds := [], alts := [], laidByText := true, laidKinds := [.data, .data, .pinned], laidTests := true, laidLooks := .later }
def ExpectActsUptoCardSaid : Prop := Claim7.holds Tryd.pinned (.plain (OpenSpec.upto expectActsSpec)) expectActsUptoCard

/-- THE SECOND FORM's CARD OF 'catchpitlaw20.ExpectNever'. -/
def expectNeverUptoCard : Claim7 := { stood := { row := expectNeverUptoRow, standIns := [], harness := (true, "d7a25b2a201ab114acfe3a6338a17043fe0221c03c01696f96c8c4a485cc7c93"), looks := false }, kinds := [], alts := [], laidByText := true, laidKinds := [.data, .data, .pinned], laidTests := true, laidLooks := .later }
def ExpectNeverUptoCardSaid : Prop := Claim7.holds Tryd.pinned (.plain (OpenSpec.upto expectNeverSpec)) expectNeverUptoCard

/-- THE SECOND FORM's CARD OF 'catchpitlaw20.ExpectNone'. -/
def expectNoneUptoCard : Claim7 := { stood := { row := expectNoneUptoRow, standIns := [], harness := (true, "d7a25b2a201ab114acfe3a6338a17043fe0221c03c01696f96c8c4a485cc7c93"), looks := false }, kinds := [], alts := [], laidByText := true, laidKinds := [.data, .data, .pinned], laidTests := true, laidLooks := .later }
def ExpectNoneUptoCardSaid : Prop := Claim7.holds Tryd.pinned (.plain (OpenSpec.upto expectNoneSpec)) expectNoneUptoCard

/-- THE SECOND FORM's CARD OF 'catchpitlaw11.FramingRequests'. -/
def framingRequestsUptoCard : Claim7 := { stood := { row := framingRequestsUptoRow, standIns := [], harness := (true, "d7a25b2a201ab114acfe3a6338a17043fe0221c03c01696f96c8c4a485cc7c93"), looks := false }, kinds := [], alts := [], laidByText := true, laidKinds := [.data, .data, .pinned], laidTests := true, laidLooks := .later }
def FramingRequestsUptoCardSaid : Prop := Claim7.holds Tryd.pinned (.plain (OpenSpec.upto framingRequestsSpec)) framingRequestsUptoCard

/-- THE SECOND FORM's CARD OF 'catchpitlaw11.FramingResponses'. -/
def framingResponsesUptoCard : Claim7 := { stood := { row := framingResponsesUptoRow, standIns := [], harness := (true, "d7a25b2a201ab114acfe3a6338a17043fe0221c03c01696f96c8c4a485cc7c93"), looks := false }, kinds := [], alts := [], laidByText := true, laidKinds := [.data, .data, .pinned], laidTests := true, laidLooks := .later }
def FramingResponsesUptoCardSaid : Prop := Claim7.holds Tryd.pinned (.plain (OpenSpec.upto framingResponsesSpec)) framingResponsesUptoCard

/-- THE SECOND FORM's CARD OF 'catchpitlaw11.FramingNeverBoth'. -/
def framingNeverBothUptoCard : Claim7 := { stood := { row := framingNeverBothUptoRow, standIns := [], harness := (true, "d7a25b2a201ab114acfe3a6338a17043fe0221c03c01696f96c8c4a485cc7c93"), looks := false }, kinds := [], alts := [], laidByText := true, laidKinds := [.data, .data, .pinned], laidTests := true, laidLooks := .later }
def FramingNeverBothUptoCardSaid : Prop := Claim7.holds Tryd.pinned (.plain (OpenSpec.upto framingNeverBothSpec)) framingNeverBothUptoCard

/-- THE SECOND FORM's CARD OF 'catchpitlaw11.FramingPlain'. -/
def framingPlainUptoCard : Claim7 := { stood := { row := framingPlainUptoRow, standIns := [], harness := (true, "d7a25b2a201ab114acfe3a6338a17043fe0221c03c01696f96c8c4a485cc7c93"), looks := false }, kinds := [], alts := [], laidByText := true, laidKinds := [.data, .data, .pinned], laidTests := true, laidLooks := .later }
def FramingPlainUptoCardSaid : Prop := Claim7.holds Tryd.pinned (.plain (OpenSpec.upto framingPlainSpec)) framingPlainUptoCard

/-- THE SECOND FORM's CARD OF 'catchpitlaw11.FramingSays'. -/
def framingSaysUptoCard : Claim7 := { stood := { row := framingSaysUptoRow, standIns := [], harness := (true, "d7a25b2a201ab114acfe3a6338a17043fe0221c03c01696f96c8c4a485cc7c93"), looks := false }, kinds := [], alts := [], laidByText := true, laidKinds := [.data, .data, .pinned], laidTests := true, laidLooks := .later }
def FramingSaysUptoCardSaid : Prop := Claim7.holds Tryd.pinned (.plain (OpenSpec.upto framingSaysSpec)) framingSaysUptoCard
end Rows
end Go.Proofs.YtoanmbhenmlboaaDoor
