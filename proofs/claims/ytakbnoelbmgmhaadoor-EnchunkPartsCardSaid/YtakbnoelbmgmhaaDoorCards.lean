/-
  DERIVED. GIVEN WITH THE SEED: THE CARDS: each row of YtakbnoelbmgmhaaDoorRows.lean that lists a variable, with what it lists TIED to the program's text (the seventh form; the later family's looks); each row that meets fmt, with fmt's text TOLD by the authors' own Lean function (tested against real Go, not proved from fmt's source: count such statements apart). THE CARD IS WHAT COUNTS. Prove the row's statement (the work); the ties are given (YtakbnoelbmgmhaaDoorTie.lean); close each card by the builder's one call (the guide's Derived/Test/ToyasCard.lean, 'card_holds'). Laid BY PROGRAM, IN A SANDBOX (cutbox-door.mjs). By AI agents, Wed Nov 11 2026. No macro, syntax, notation, axiom, sorry.
-/
import Derived.Test.YtakbnoelbmgmhaaDoorRows
import GoSem.ClaimSeven
namespace Go.Proofs.YtakbnoelbmgmhaaDoor
namespace Rows

/-- THE TIED CARD OF 'catchpitlaw10.EnchunkCosts'. -/
def enchunkCostsCard : Claim7 := { stood := { row := enchunkCostsRow, standIns := [], harness := (true, "87ae2030225facd6749f87f0026fd9ca47e1006f33995af350d20a4ecab0067b"), looks := false }, kinds := [], alts := [], laidByText := true, laidKinds := [.data, .data, .data], laidTests := true, laidLooks := .later }
def EnchunkCostsCardSaid : Prop := Claim7.holds Tryd.pinned (.plain (OpenSpec.ofChange enchunkCostsSpec)) enchunkCostsCard

/-- THE TIED CARD OF 'catchpitlaw10.EnchunkParts'. -/
def enchunkPartsCard : Claim7 := { stood := { row := enchunkPartsRow, standIns := [], harness := (true, "87ae2030225facd6749f87f0026fd9ca47e1006f33995af350d20a4ecab0067b"), looks := false }, kinds := [], alts := [], laidByText := true, laidKinds := [.data, .data, .data, .data, .data, .pinned], laidTests := true, laidLooks := .later }
def EnchunkPartsCardSaid : Prop := Claim7.holds Tryd.pinned (.plain (OpenSpec.ofChange enchunkPartsSpec)) enchunkPartsCard

/-- THE TIED CARD OF 'catchpitlaw10.EnchunkFixed'. -/
def enchunkFixedCard : Claim7 := { stood := { row := enchunkFixedRow, standIns := [], harness := (true, "87ae2030225facd6749f87f0026fd9ca47e1006f33995af350d20a4ecab0067b"), looks := false }, kinds := [], alts := [], laidByText := true, laidKinds := [.data, .data, .data], laidTests := true, laidLooks := .later }
def EnchunkFixedCardSaid : Prop := Claim7.holds Tryd.pinned (.plain (OpenSpec.ofChange enchunkFixedSpec)) enchunkFixedCard

/-- THE TIED CARD OF 'catchpitlaw10.EnchunkActs'. -/
def enchunkActsCard : Claim7 := { stood := { row := enchunkActsRow, standIns := [], harness := (true, "87ae2030225facd6749f87f0026fd9ca47e1006f33995af350d20a4ecab0067b"), looks := false }, kinds := [], alts := [], laidByText := true, laidKinds := [.data, .data, .data], laidTests := true, laidLooks := .later }
def EnchunkActsCardSaid : Prop := Claim7.holds Tryd.pinned (.plain (OpenSpec.ofChange enchunkActsSpec)) enchunkActsCard

/-- THE TIED CARD OF 'catchpitlaw14.OutletKeeps'. -/
def outletKeepsCard : Claim7 := { stood := { row := outletKeepsRow, standIns := [], harness := (true, "87ae2030225facd6749f87f0026fd9ca47e1006f33995af350d20a4ecab0067b"), looks := false }, kinds := [], alts := [], laidByText := true, laidKinds := [.data, .data], laidTests := true, laidLooks := .later }
def OutletKeepsCardSaid : Prop := Claim7.holds Tryd.pinned (.plain (OpenSpec.ofChange outletKeepsSpec)) outletKeepsCard

/-- THE SECOND FORM's CARD OF 'catchpitlaw10.EnchunkCosts'. -/
def enchunkCostsUptoCard : Claim7 := { stood := { row := enchunkCostsUptoRow, standIns := [], harness := (true, "87ae2030225facd6749f87f0026fd9ca47e1006f33995af350d20a4ecab0067b"), looks := false }, kinds := [], alts := [], laidByText := true, laidKinds := [.data, .data, .data], laidTests := true, laidLooks := .later }
def EnchunkCostsUptoCardSaid : Prop := Claim7.holds Tryd.pinned (.plain (OpenSpec.upto enchunkCostsSpec)) enchunkCostsUptoCard

/-- THE SECOND FORM's CARD OF 'catchpitlaw10.EnchunkParts'. -/
def enchunkPartsUptoCard : Claim7 := { stood := { row := enchunkPartsUptoRow, standIns := [], harness := (true, "87ae2030225facd6749f87f0026fd9ca47e1006f33995af350d20a4ecab0067b"), looks := false }, kinds := [], alts := [], laidByText := true, laidKinds := [.data, .data, .data, .data, .data, .pinned], laidTests := true, laidLooks := .later }
def EnchunkPartsUptoCardSaid : Prop := Claim7.holds Tryd.pinned (.plain (OpenSpec.upto enchunkPartsSpec)) enchunkPartsUptoCard

/-- THE SECOND FORM's CARD OF 'catchpitlaw10.EnchunkFixed'. -/
def enchunkFixedUptoCard : Claim7 := { stood := { row := enchunkFixedUptoRow, standIns := [], harness := (true, "87ae2030225facd6749f87f0026fd9ca47e1006f33995af350d20a4ecab0067b"), looks := false }, kinds := [], alts := [], laidByText := true, laidKinds := [.data, .data, .data], laidTests := true, laidLooks := .later }
def EnchunkFixedUptoCardSaid : Prop := Claim7.holds Tryd.pinned (.plain (OpenSpec.upto enchunkFixedSpec)) enchunkFixedUptoCard

/-- THE SECOND FORM's CARD OF 'catchpitlaw10.EnchunkActs'. -/
def enchunkActsUptoCard : Claim7 := { stood := { row := enchunkActsUptoRow, standIns := [], harness := (true, "87ae2030225facd6749f87f0026fd9ca47e1006f33995af350d20a4ecab0067b"), looks := false }, kinds := [], alts := [], laidByText := true, laidKinds := [.data, .data, .data], laidTests := true, laidLooks := .later }
def EnchunkActsUptoCardSaid : Prop := Claim7.holds Tryd.pinned (.plain (OpenSpec.upto enchunkActsSpec)) enchunkActsUptoCard

/-- THE SECOND FORM's CARD OF 'catchpitlaw14.OutletKeeps'. -/
def outletKeepsUptoCard : Claim7 := { stood := { row := outletKeepsUptoRow, standIns := [], harness := (true, "87ae2030225facd6749f87f0026fd9ca47e1006f33995af350d20a4ecab0067b"), looks := false }, kinds := [], alts := [], laidByText := true, laidKinds := [.data, .data], laidTests := true, laidLooks := .later }
def OutletKeepsUptoCardSaid : Prop := Claim7.holds Tryd.pinned (.plain (OpenSpec.upto outletKeepsSpec)) outletKeepsUptoCard
end Rows
end Go.Proofs.YtakbnoelbmgmhaaDoor
