/-
  DERIVED. GIVEN WITH THE SEED: THE CARDS: each row of YtmmbpbgcobmifaaGreatDoorRows.lean that lists a variable, with what it lists TIED to the program's text (the seventh form; the later family's looks); each row that meets fmt, with fmt's text TOLD by the authors' own Lean function (tested against real Go, not proved from fmt's source: count such statements apart). THE CARD IS WHAT COUNTS. Prove the row's statement (the work); the ties are given (YtmmbpbgcobmifaaGreatDoorTie.lean); close each card by the builder's one call (the guide's Derived/Test/ToyasCard.lean, 'card_holds'). Laid BY PROGRAM, IN A SANDBOX (cutbox-door.mjs). By AI agents, Wed Nov 11 2026. No macro, syntax, notation, axiom, sorry.
-/
import Derived.Test.YtmmbpbgcobmifaaGreatDoorRows
import GoSem.ClaimSeven
namespace Go.Proofs.YtmmbpbgcobmifaaGreatDoor
namespace Rows

/-- THE TIED CARD OF 'catchpitlaw10.EnchunkBody'. -/
def enchunkBodyCard : Claim7 := { stood := { row := enchunkBodyRow, standIns := [], harness := (true, "1595330e4fa909cf4e05666513844ad2b771543d69a391db63a6ddacfec9ba47"), looks := true }, kinds := [], alts := [], laidByText := true, laidKinds := [.data, .data, .data, .data, .data, .pinned], laidTests := true, laidLooks := .later }
def EnchunkBodyCardSaid : Prop := Claim7.holds Tryz.pinned (.plain (OpenSpec.ofChange enchunkBodySpec)) enchunkBodyCard

/-- THE TIED CARD OF 'catchpitlaw14.OutletWholes'. -/
def outletWholesCard : Claim7 := { stood := { row := outletWholesRow, standIns := [], harness := (true, "1595330e4fa909cf4e05666513844ad2b771543d69a391db63a6ddacfec9ba47"), looks := true }, kinds := [], alts := [], laidByText := true, laidKinds := [.data, .data, .data, .pinned], laidTests := true, laidLooks := .later }
def OutletWholesCardSaid : Prop := Claim7.holds Tryz.pinned (.plain (OpenSpec.ofChange outletWholesSpec)) outletWholesCard

/-- THE SECOND FORM's CARD OF 'catchpitlaw10.EnchunkBody'. -/
def enchunkBodyUptoCard : Claim7 := { stood := { row := enchunkBodyUptoRow, standIns := [], harness := (true, "1595330e4fa909cf4e05666513844ad2b771543d69a391db63a6ddacfec9ba47"), looks := true }, kinds := [], alts := [], laidByText := true, laidKinds := [.data, .data, .data, .data, .data, .pinned], laidTests := true, laidLooks := .later }
def EnchunkBodyUptoCardSaid : Prop := Claim7.holds Tryz.pinned (.plain (OpenSpec.upto enchunkBodySpec)) enchunkBodyUptoCard

/-- THE SECOND FORM's CARD OF 'catchpitlaw14.OutletWholes'. -/
def outletWholesUptoCard : Claim7 := { stood := { row := outletWholesUptoRow, standIns := [], harness := (true, "1595330e4fa909cf4e05666513844ad2b771543d69a391db63a6ddacfec9ba47"), looks := true }, kinds := [], alts := [], laidByText := true, laidKinds := [.data, .data, .data, .pinned], laidTests := true, laidLooks := .later }
def OutletWholesUptoCardSaid : Prop := Claim7.holds Tryz.pinned (.plain (OpenSpec.upto outletWholesSpec)) outletWholesUptoCard
end Rows
end Go.Proofs.YtmmbpbgcobmifaaGreatDoor
