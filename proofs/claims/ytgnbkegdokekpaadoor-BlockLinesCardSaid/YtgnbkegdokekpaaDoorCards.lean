/-
  DERIVED. GIVEN WITH THE SEED: THE CARDS: each row of YtgnbkegdokekpaaDoorRows.lean that lists a variable, with what it lists TIED to the program's text (the seventh form; the later family's looks); each row that meets fmt, with fmt's text TOLD by the authors' own Lean function (tested against real Go, not proved from fmt's source: count such statements apart). THE CARD IS WHAT COUNTS. Prove the row's statement (the work); the ties are given (YtgnbkegdokekpaaDoorTie.lean); close each card by the builder's one call (the guide's Derived/Test/ToyasCard.lean, 'card_holds'). Laid BY PROGRAM, IN A SANDBOX (cutbox-door.mjs). By AI agents, Wed Nov 11 2026. No macro, syntax, notation, axiom, sorry.
-/
import Derived.Test.YtgnbkegdokekpaaDoorRows
import GoSem.ClaimSeven
namespace Go.Proofs.YtgnbkegdokekpaaDoor
namespace Rows

/-- THE TIED CARD OF 'catchpitlaw06.BlockLines'. -/
def blockLinesCard : Claim7 := { stood := { row := blockLinesRow, standIns := [], harness := (true, "66a4b9eb8af856e8153229b94f08bbd6905c48d600a1165b0a68f4a341ab426e"), looks := false }, kinds := [], alts := [], laidByText := true, laidKinds := [.data, .data, .pinned], laidTests := true, laidLooks := .later }
def BlockLinesCardSaid : Prop := Claim7.holds Tryd.pinned (.plain (OpenSpec.ofChange blockLinesSpec)) blockLinesCard

/-- THE SECOND FORM's CARD OF 'catchpitlaw06.BlockLines'. -/
def blockLinesUptoCard : Claim7 := { stood := { row := blockLinesUptoRow, standIns := [], harness := (true, "66a4b9eb8af856e8153229b94f08bbd6905c48d600a1165b0a68f4a341ab426e"), looks := false }, kinds := [], alts := [], laidByText := true, laidKinds := [.data, .data, .pinned], laidTests := true, laidLooks := .later }
def BlockLinesUptoCardSaid : Prop := Claim7.holds Tryd.pinned (.plain (OpenSpec.upto blockLinesSpec)) blockLinesUptoCard
end Rows
end Go.Proofs.YtgnbkegdokekpaaDoor
