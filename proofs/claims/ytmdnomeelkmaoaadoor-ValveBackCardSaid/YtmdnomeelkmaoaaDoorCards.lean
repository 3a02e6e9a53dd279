/-
  DERIVED. GIVEN WITH THE SEED: THE CARDS: each row of YtmdnomeelkmaoaaDoorRows.lean that lists a variable, with what it lists TIED to the program's text (the seventh form; the later family's looks); each row that meets fmt, with fmt's text TOLD by the authors' own Lean function (tested against real Go, not proved from fmt's source: count such statements apart). THE CARD IS WHAT COUNTS. Prove the row's statement (the work); the ties are given (YtmdnomeelkmaoaaDoorTie.lean); close each card by the builder's one call (the guide's Derived/Test/ToyasCard.lean, 'card_holds'). Laid BY PROGRAM, IN A SANDBOX (cutbox-door.mjs). By AI agents, Wed Nov 11 2026. No macro, syntax, notation, axiom, sorry.
-/
import Derived.Test.YtmdnomeelkmaoaaDoorRows
import GoSem.ClaimSeven
namespace Go.Proofs.YtmdnomeelkmaoaaDoor
namespace Rows

/-- THE TIED CARD OF 'catchpitlaw19.ValveBack'. -/
def valveBackCard : Claim7 := { stood := { row := valveBackRow, standIns := [], harness := (true, "d0a9ff24bf86361d3f3319c4f301c511060d4e79d3ecae0088b114e9dd748872"), looks := false }, kinds := [], alts := [], laidByText := true, laidKinds := [.widerDeep], laidTests := true, laidLooks := .later }
def ValveBackCardSaid : Prop := Claim7.holds Tryd.pinned (.plain (OpenSpec.ofChange valveBackSpec)) valveBackCard

/-- THE TIED CARD OF 'catchpitlaw19.ValveWords'. -/
def valveWordsCard : Claim7 := { stood := { row := valveWordsRow, standIns := [], harness := (true, "d0a9ff24bf86361d3f3319c4f301c511060d4e79d3ecae0088b114e9dd748872"), looks := false }, kinds := [], alts := [], laidByText := true, laidKinds := [.widerDeep], laidTests := true, laidLooks := .later }
def ValveWordsCardSaid : Prop := Claim7.holds Tryd.pinned (.plain (OpenSpec.ofChange valveWordsSpec)) valveWordsCard

/-- THE TIED CARD OF 'catchpitlaw02.OctetJoins'. -/
def octetJoinsCard : Claim7 := { stood := { row := octetJoinsRow, standIns := [], harness := (true, "d0a9ff24bf86361d3f3319c4f301c511060d4e79d3ecae0088b114e9dd748872"), looks := false }, kinds := [], alts := [], laidByText := true, laidKinds := [.data, .data, .pinned], laidTests := true, laidLooks := .later }
def OctetJoinsCardSaid : Prop := Claim7.holds Tryd.pinned (.plain (OpenSpec.ofChange octetJoinsSpec)) octetJoinsCard

/-- THE TIED CARD OF 'catchpitlaw02.OctetKinds'. -/
def octetKindsCard : Claim7 := { stood := { row := octetKindsRow, standIns := [], harness := (true, "d0a9ff24bf86361d3f3319c4f301c511060d4e79d3ecae0088b114e9dd748872"), looks := false }, kinds := [], alts := [], laidByText := true, laidKinds := [.data, .data, .pinned], laidTests := true, laidLooks := .later }
def OctetKindsCardSaid : Prop := Claim7.holds Tryd.pinned (.plain (OpenSpec.ofChange octetKindsSpec)) octetKindsCard

/-- THE TIED CARD OF 'catchpitlaw02.OctetBytes'. -/
def octetBytesCard : Claim7 := { stood := { row := octetBytesRow, standIns := [], harness := (true, "d0a9ff24bf86361d3f3319c4f301c511060d4e79d3ecae0088b114e9dd748872"), looks := false }, kinds := [], alts := [], laidByText := true, laidKinds := [.data, .data, .pinned], laidTests := true, laidLooks := .later }
def OctetBytesCardSaid : Prop := Claim7.holds Tryd.pinned (.plain (OpenSpec.ofChange octetBytesSpec)) octetBytesCard

/-- THE TIED CARD OF 'catchpitlaw02.OctetAlike'. -/
def octetAlikeCard : Claim7 := { stood := { row := octetAlikeRow, standIns := [], harness := (true, "d0a9ff24bf86361d3f3319c4f301c511060d4e79d3ecae0088b114e9dd748872"), looks := false }, kinds := [], alts := [], laidByText := true, laidKinds := [.data, .data, .pinned], laidTests := true, laidLooks := .later }
def OctetAlikeCardSaid : Prop := Claim7.holds Tryd.pinned (.plain (OpenSpec.ofChange octetAlikeSpec)) octetAlikeCard

/-- THE TIED CARD OF 'catchpitlaw02.OctetTrims'. -/
def octetTrimsCard : Claim7 := { stood := { row := octetTrimsRow, standIns := [], harness := (true, "d0a9ff24bf86361d3f3319c4f301c511060d4e79d3ecae0088b114e9dd748872"), looks := false }, kinds := [], alts := [], laidByText := true, laidKinds := [.data, .data, .pinned], laidTests := true, laidLooks := .later }
def OctetTrimsCardSaid : Prop := Claim7.holds Tryd.pinned (.plain (OpenSpec.ofChange octetTrimsSpec)) octetTrimsCard

/-- THE SECOND FORM's CARD OF 'catchpitlaw19.ValveBack'. -/
def valveBackUptoCard : Claim7 := { stood := { row := valveBackUptoRow, standIns := [], harness := (true, "d0a9ff24bf86361d3f3319c4f301c511060d4e79d3ecae0088b114e9dd748872"), looks := false }, kinds := [], alts := [], laidByText := true, laidKinds := [.widerDeep], laidTests := true, laidLooks := .later }
def ValveBackUptoCardSaid : Prop := Claim7.holds Tryd.pinned (.plain (OpenSpec.upto valveBackSpec)) valveBackUptoCard

/-- THE SECOND FORM's CARD OF 'catchpitlaw19.ValveWords'. -/
def valveWordsUptoCard : Claim7 := { stood := { row := valveWordsUptoRow, standIns := [], harness := (true, "d0a9ff24bf86361d3f3319c4f301c511060d4e79d3ecae0088b114e9dd748872"), looks := false }, kinds := [], alts := [], laidByText := true, laidKinds := [.widerDeep], laidTests := true, laidLooks := .later }
def ValveWordsUptoCardSaid : Prop := Claim7.holds Tryd.pinned (.plain (OpenSpec.upto valveWordsSpec)) valveWordsUptoCard

/-- THE SECOND FORM's CARD OF 'catchpitlaw02.OctetJoins'. -/
def octetJoinsUptoCard : Claim7 := { stood := { row := octetJoinsUptoRow, standIns := [], harness := (true, "d0a9ff24bf86361d3f3319c4f301c511060d4e79d3ecae0088b114e9dd748872"), looks := false }, kinds := [], alts := [], laidByText := true, laidKinds := [.data, .data, .pinned], laidTests := true, laidLooks := .later }
def OctetJoinsUptoCardSaid : Prop := Claim7.holds Tryd.pinned (.plain (OpenSpec.upto octetJoinsSpec)) octetJoinsUptoCard

/-- THE SECOND FORM's CARD OF 'catchpitlaw02.OctetKinds'. -/
def octetKindsUptoCard : Claim7 := { stood := { row := octetKindsUptoRow, standIns := [], harness := (true, "d0a9ff24bf86361d3f3319c4f301c511060d4e79d3ecae0088b114e9dd748872"), looks := false }, kinds := [], alts := [], laidByText := true, laidKinds := [.data, .data, .pinned], laidTests := true, laidLooks := .later }
def OctetKindsUptoCardSaid : Prop := Claim7.holds Tryd.pinned (.plain (OpenSpec.upto octetKindsSpec)) octetKindsUptoCard

/-- THE SECOND FORM's CARD OF 'catchpitlaw02.OctetBytes'. -/
def octetBytesUptoCard : Claim7 := { stood := { row := octetBytesUptoRow, standIns := [], harness := (true, "d0a9ff24bf86361d3f3319c4f301c511060d4e79d3ecae0088b114e9dd748872"), looks := false }, kinds := [], alts := [], laidByText := true, laidKinds := [.data, .data, .pinned], laidTests := true, laidLooks := .later }
def OctetBytesUptoCardSaid : Prop := Claim7.holds Tryd.pinned (.plain (OpenSpec.upto octetBytesSpec)) octetBytesUptoCard

/-- THE SECOND FORM's CARD OF 'catchpitlaw02.OctetAlike'. -/
def octetAlikeUptoCard : Claim7 := { stood := { row := octetAlikeUptoRow, standIns := [], harness := (true, "d0a9ff24bf86361d3f3319c4f301c511060d4e79d3ecae0088b114e9dd748872"), looks := false }, kinds := [], alts := [], laidByText := true, laidKinds := [.data, .data, .pinned], laidTests := true, laidLooks := .later }
def OctetAlikeUptoCardSaid : Prop := Claim7.holds Tryd.pinned (.plain (OpenSpec.upto octetAlikeSpec)) octetAlikeUptoCard

/-- THE SECOND FORM's CARD OF 'catchpitlaw02.OctetTrims'. -/
def octetTrimsUptoCard : Claim7 := { stood := { row := octetTrimsUptoRow, standIns := [], harness := (true, "d0a9ff24bf86361d3f3319c4f301c511060d4e79d3ecae0088b114e9dd748872"), looks := false }, kinds := [], alts := [], laidByText := true, laidKinds := [.data, .data, .pinned], laidTests := true, laidLooks := .later }
def OctetTrimsUptoCardSaid : Prop := Claim7.holds Tryd.pinned (.plain (OpenSpec.upto octetTrimsSpec)) octetTrimsUptoCard
end Rows
end Go.Proofs.YtmdnomeelkmaoaaDoor
