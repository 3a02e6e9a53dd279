/-
  DERIVED. GIVEN WITH THE SEED: THE CARDS: each row of YtdkecmjoenfjdaaDoorRows.lean that lists a variable, with what it lists TIED to the program's text (the seventh form; the later family's looks); each row that meets fmt, with fmt's text TOLD by the authors' own Lean function (tested against real Go, not proved from fmt's source: count such statements apart). THE CARD IS WHAT COUNTS. Prove the row's statement (the work); the ties are given (YtdkecmjoenfjdaaDoorTie.lean); close each card by the builder's one call (the guide's Derived/Test/ToyasCard.lean, 'card_holds'). Laid BY PROGRAM, IN A SANDBOX (cutbox-door.mjs). By AI agents, Wed Nov 11 2026. No macro, syntax, notation, axiom, sorry.
-/
import Derived.Test.YtdkecmjoenfjdaaDoorRows
import GoSem.ClaimSeven
namespace Go.Proofs.YtdkecmjoenfjdaaDoor
namespace Rows

/-- THE TIED CARD OF 'catchpitlaw05.FieldParses'. -/
def fieldParsesCard : Claim7 := { stood := { row := fieldParsesRow, standIns := [], harness := (true, "2ba4103f92c02f6129f46a9f7962f10a59cc2de9d6764b53aa6443d6480489f4"), looks := false }, kinds := [], alts := [], laidByText := true, laidKinds := [.data, .data, .pinned], laidTests := true, laidLooks := .later }
def FieldParsesCardSaid : Prop := Claim7.holds Tryd.pinned (.plain (OpenSpec.ofChange fieldParsesSpec)) fieldParsesCard

/-- THE TIED CARD OF 'catchpitlaw05.FieldBlanks'. -/
def fieldBlanksCard : Claim7 := { stood := { row := fieldBlanksRow, standIns := [], harness := (true, "2ba4103f92c02f6129f46a9f7962f10a59cc2de9d6764b53aa6443d6480489f4"), looks := false }, kinds := [], alts := [], laidByText := true, laidKinds := [.data, .data, .pinned], laidTests := true, laidLooks := .later }
def FieldBlanksCardSaid : Prop := Claim7.holds Tryd.pinned (.plain (OpenSpec.ofChange fieldBlanksSpec)) fieldBlanksCard

/-- THE TIED CARD OF 'catchpitlaw05.FieldPuts'. -/
def fieldPutsCard : Claim7 := { stood := { row := fieldPutsRow, standIns := [], harness := (true, "2ba4103f92c02f6129f46a9f7962f10a59cc2de9d6764b53aa6443d6480489f4"), looks := false }, kinds := [], alts := [], laidByText := true, laidKinds := [.data, .data, .pinned], laidTests := true, laidLooks := .later }
def FieldPutsCardSaid : Prop := Claim7.holds Tryd.pinned (.plain (OpenSpec.ofChange fieldPutsSpec)) fieldPutsCard

/-- THE TIED CARD OF 'catchpitlaw05.FieldGets'. -/
def fieldGetsCard : Claim7 := { stood := { row := fieldGetsRow, standIns := [], harness := (true, "2ba4103f92c02f6129f46a9f7962f10a59cc2de9d6764b53aa6443d6480489f4"), looks := false }, kinds := [], alts := [], laidByText := true, laidKinds := [.data, .data, .pinned], laidTests := true, laidLooks := .later }
def FieldGetsCardSaid : Prop := Claim7.holds Tryd.pinned (.plain (OpenSpec.ofChange fieldGetsSpec)) fieldGetsCard

/-- THE TIED CARD OF 'catchpitlaw05.FieldJoins'. -/
def fieldJoinsCard : Claim7 := { stood := { row := fieldJoinsRow, standIns := [], harness := (true, "2ba4103f92c02f6129f46a9f7962f10a59cc2de9d6764b53aa6443d6480489f4"), looks := false }, kinds := [], alts := [], laidByText := true, laidKinds := [.data, .data, .pinned], laidTests := true, laidLooks := .later }
def FieldJoinsCardSaid : Prop := Claim7.holds Tryd.pinned (.plain (OpenSpec.ofChange fieldJoinsSpec)) fieldJoinsCard

/-- THE TIED CARD OF 'catchpitlaw06.BlockScans'. -/
def blockScansCard : Claim7 := { stood := { row := blockScansRow, standIns := [], harness := (true, "2ba4103f92c02f6129f46a9f7962f10a59cc2de9d6764b53aa6443d6480489f4"), looks := false }, kinds := [], alts := [], laidByText := true, laidKinds := [.data, .data, .pinned], laidTests := true, laidLooks := .later }
def BlockScansCardSaid : Prop := Claim7.holds Tryd.pinned (.plain (OpenSpec.ofChange blockScansSpec)) blockScansCard

/-- THE TIED CARD OF 'catchpitlaw06.BlockCuts'. -/
def blockCutsCard : Claim7 := { stood := { row := blockCutsRow, standIns := [], harness := (true, "2ba4103f92c02f6129f46a9f7962f10a59cc2de9d6764b53aa6443d6480489f4"), looks := false }, kinds := [], alts := [], laidByText := true, laidKinds := [.data, .data, .pinned], laidTests := true, laidLooks := .later }
def BlockCutsCardSaid : Prop := Claim7.holds Tryd.pinned (.plain (OpenSpec.ofChange blockCutsSpec)) blockCutsCard

/-- THE TIED CARD OF 'catchpitlaw06.BlockLines'. -/
def blockLinesCard : Claim7 := { stood := { row := blockLinesRow, standIns := [], harness := (true, "2ba4103f92c02f6129f46a9f7962f10a59cc2de9d6764b53aa6443d6480489f4"), looks := false }, kinds := [], alts := [], laidByText := true, laidKinds := [.data, .data, .pinned], laidTests := true, laidLooks := .later }
def BlockLinesCardSaid : Prop := Claim7.holds Tryd.pinned (.plain (OpenSpec.ofChange blockLinesSpec)) blockLinesCard

/-- THE TIED CARD OF 'catchpitlaw06.BlockJoins'. -/
def blockJoinsCard : Claim7 := { stood := { row := blockJoinsRow, standIns := [], harness := (true, "2ba4103f92c02f6129f46a9f7962f10a59cc2de9d6764b53aa6443d6480489f4"), looks := false }, kinds := [], alts := [], laidByText := true, laidKinds := [.data, .data, .pinned], laidTests := true, laidLooks := .later }
def BlockJoinsCardSaid : Prop := Claim7.holds Tryd.pinned (.plain (OpenSpec.ofChange blockJoinsSpec)) blockJoinsCard

/-- THE TIED CARD OF 'catchpitlaw06.BlockPuts'. -/
def blockPutsCard : Claim7 := { stood := { row := blockPutsRow, standIns := [], harness := (true, "2ba4103f92c02f6129f46a9f7962f10a59cc2de9d6764b53aa6443d6480489f4"), looks := false }, kinds := [], alts := [], laidByText := true, laidKinds := [.data, .data, .pinned], laidTests := true, laidLooks := .later }
def BlockPutsCardSaid : Prop := Claim7.holds Tryd.pinned (.plain (OpenSpec.ofChange blockPutsSpec)) blockPutsCard

/-- THE TIED CARD OF 'catchpitlaw06.BlockSizes'. -/
def blockSizesCard : Claim7 := { stood := { row := blockSizesRow, standIns := [], harness := (true, "2ba4103f92c02f6129f46a9f7962f10a59cc2de9d6764b53aa6443d6480489f4"), looks := false }, kinds := [], alts := [], laidByText := true, laidKinds := [.data, .data, .pinned], laidTests := true, laidLooks := .later }
def BlockSizesCardSaid : Prop := Claim7.holds Tryd.pinned (.plain (OpenSpec.ofChange blockSizesSpec)) blockSizesCard

/-- THE SECOND FORM's CARD OF 'catchpitlaw05.FieldParses'. -/
def fieldParsesUptoCard : Claim7 := { stood := { row := fieldParsesUptoRow, standIns := [], harness := (true, "2ba4103f92c02f6129f46a9f7962f10a59cc2de9d6764b53aa6443d6480489f4"), looks := false }, kinds := [], alts := [], laidByText := true, laidKinds := [.data, .data, .pinned], laidTests := true, laidLooks := .later }
def FieldParsesUptoCardSaid : Prop := Claim7.holds Tryd.pinned (.plain (OpenSpec.upto fieldParsesSpec)) fieldParsesUptoCard

/-- THE SECOND FORM's CARD OF 'catchpitlaw05.FieldBlanks'. -/
def fieldBlanksUptoCard : Claim7 := { stood := { row := fieldBlanksUptoRow, standIns := [], harness := (true, "2ba4103f92c02f6129f46a9f7962f10a59cc2de9d6764b53aa6443d6480489f4"), looks := false }, kinds := [], alts := [], laidByText := true, laidKinds := [.data, .data, .pinned], laidTests := true, laidLooks := .later }
def FieldBlanksUptoCardSaid : Prop := Claim7.holds Tryd.pinned (.plain (OpenSpec.upto fieldBlanksSpec)) fieldBlanksUptoCard

/-- THE SECOND FORM's CARD OF 'catchpitlaw05.FieldPuts'. -/
def fieldPutsUptoCard : Claim7 := { stood := { row := fieldPutsUptoRow, standIns := [], harness := (true, "2ba4103f92c02f6129f46a9f7962f10a59cc2de9d6764b53aa6443d6480489f4"), looks := false }, kinds := [], alts := [], laidByText := true, laidKinds := [.data, .data, .pinned], laidTests := true, laidLooks := .later }
def FieldPutsUptoCardSaid : Prop := Claim7.holds Tryd.pinned (.plain (OpenSpec.upto fieldPutsSpec)) fieldPutsUptoCard

/-- THE SECOND FORM's CARD OF 'catchpitlaw05.FieldGets'. -/
def fieldGetsUptoCard : Claim7 := { stood := { row := fieldGetsUptoRow, standIns := [], harness := (true, "2ba4103f92c02f6129f46a9f7962f10a59cc2de9d6764b53aa6443d6480489f4"), looks := false }, kinds := [], alts := [], laidByText := true, laidKinds := [.data, .data, .pinned], laidTests := true, laidLooks := .later }
def FieldGetsUptoCardSaid : Prop := Claim7.holds Tryd.pinned (.plain (OpenSpec.upto fieldGetsSpec)) fieldGetsUptoCard

/-- THE SECOND FORM's CARD OF 'catchpitlaw05.FieldJoins'. -/
def fieldJoinsUptoCard : Claim7 := { stood := { row := fieldJoinsUptoRow, standIns := [], harness := (true, "2ba4103f92c02f6129f46a9f7962f10a59cc2de9d6764b53aa6443d6480489f4"), looks := false }, kinds := [], alts := [], laidByText := true, laidKinds := [.data, .data, .pinned], laidTests := true, laidLooks := .later }
def FieldJoinsUptoCardSaid : Prop := Claim7.holds Tryd.pinned (.plain (OpenSpec.upto fieldJoinsSpec)) fieldJoinsUptoCard

/-- THE SECOND FORM's CARD OF 'catchpitlaw06.BlockScans'. -/
def blockScansUptoCard : Claim7 := { stood := { row := blockScansUptoRow, standIns := [], harness := (true, "2ba4103f92c02f6129f46a9f7962f10a59cc2de9d6764b53aa6443d6480489f4"), looks := false }, kinds := [], alts := [], laidByText := true, laidKinds := [.data, .data, .pinned], laidTests := true, laidLooks := .later }
def BlockScansUptoCardSaid : Prop := Claim7.holds Tryd.pinned (.plain (OpenSpec.upto blockScansSpec)) blockScansUptoCard

/-- THE SECOND FORM's CARD OF 'catchpitlaw06.BlockCuts'. -/
def blockCutsUptoCard : Claim7 := { stood := { row := blockCutsUptoRow, standIns := [], harness := (true, "2ba4103f92c02f6129f46a9f7962f10a59cc2de9d6764b53aa6443d6480489f4"), looks := false }, kinds := [], alts := [], laidByText := true, laidKinds := [.data, .data, .pinned], laidTests := true, laidLooks := .later }
def BlockCutsUptoCardSaid : Prop := Claim7.holds Tryd.pinned (.plain (OpenSpec.upto blockCutsSpec)) blockCutsUptoCard

/-- THE SECOND FORM's CARD OF 'catchpitlaw06.BlockLines'. -/
def blockLinesUptoCard : Claim7 := { stood := { row := blockLinesUptoRow, standIns := [], harness := (true, "2ba4103f92c02f6129f46a9f7962f10a59cc2de9d6764b53aa6443d6480489f4"), looks := false }, kinds := [], alts := [], laidByText := true, laidKinds := [.data, .data, .pinned], laidTests := true, laidLooks := .later }
def BlockLinesUptoCardSaid : Prop := Claim7.holds Tryd.pinned (.plain (OpenSpec.upto blockLinesSpec)) blockLinesUptoCard

/-- THE SECOND FORM's CARD OF 'catchpitlaw06.BlockJoins'. -/
def blockJoinsUptoCard : Claim7 := { stood := { row := blockJoinsUptoRow, standIns := [], harness := (true, "2ba4103f92c02f6129f46a9f7962f10a59cc2de9d6764b53aa6443d6480489f4"), looks := false }, kinds := [], alts := [], laidByText := true, laidKinds := [.data, .data, .pinned], laidTests := true, laidLooks := .later }
def BlockJoinsUptoCardSaid : Prop := Claim7.holds Tryd.pinned (.plain (OpenSpec.upto blockJoinsSpec)) blockJoinsUptoCard

/-- THE SECOND FORM's CARD OF 'catchpitlaw06.BlockPuts'. -/
def blockPutsUptoCard : Claim7 := { stood := { row := blockPutsUptoRow, standIns := [], harness := (true, "2ba4103f92c02f6129f46a9f7962f10a59cc2de9d6764b53aa6443d6480489f4"), looks := false }, kinds := [], alts := [], laidByText := true, laidKinds := [.data, .data, .pinned], laidTests := true, laidLooks := .later }
def BlockPutsUptoCardSaid : Prop := Claim7.holds Tryd.pinned (.plain (OpenSpec.upto blockPutsSpec)) blockPutsUptoCard

/-- THE SECOND FORM's CARD OF 'catchpitlaw06.BlockSizes'. -/
def blockSizesUptoCard : Claim7 := { stood := { row := blockSizesUptoRow, standIns := [], harness := (true, "2ba4103f92c02f6129f46a9f7962f10a59cc2de9d6764b53aa6443d6480489f4"), looks := false }, kinds := [], alts := [], laidByText := true, laidKinds := [.data, .data, .pinned], laidTests := true, laidLooks := .later }
def BlockSizesUptoCardSaid : Prop := Claim7.holds Tryd.pinned (.plain (OpenSpec.upto blockSizesSpec)) blockSizesUptoCard
end Rows
end Go.Proofs.YtdkecmjoenfjdaaDoor
