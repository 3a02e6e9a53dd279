/-
  DERIVED. GIVEN WITH THE SEED: THE CARDS: each row of YtofegjgiocljlaaDoorRows.lean that lists a variable, with what it lists TIED to the program's text (the seventh form; the later family's looks); each row that meets fmt, with fmt's text TOLD by the authors' own Lean function (tested against real Go, not proved from fmt's source: count such statements apart). THE CARD IS WHAT COUNTS. Prove the row's statement (the work); the ties are given (YtofegjgiocljlaaDoorTie.lean); close each card by the builder's one call (the guide's Derived/Test/ToyasCard.lean, 'card_holds'). Laid BY PROGRAM, IN A SANDBOX (cutbox-door.mjs). By AI agents, Wed Nov 11 2026. No macro, syntax, notation, axiom, sorry.
-/
import Derived.Test.YtofegjgiocljlaaDoorRows
import GoSem.ClaimSeven
namespace Go.Proofs.YtofegjgiocljlaaDoor
namespace Rows

/-- THE TIED CARD OF 'catchpitlaw25.ReuseWell'. -/
def reuseWellCard : Claim7 := { stood := { row := reuseWellRow, standIns := [], harness := (true, "401a7b574105a336cea074d90596666bcd41ec0d3cb7302fdf639f0f80970048"), looks := false }, kinds := [], alts := [], laidByText := true, laidKinds := [.data, .data, .pinned], laidTests := true, laidLooks := .later }
def ReuseWellCardSaid : Prop := Claim7.holds Tryd.pinned (.plain (OpenSpec.ofChange reuseWellSpec)) reuseWellCard

/-- THE TIED CARD OF 'catchpitlaw25.ReuseCloses'. -/
def reuseClosesCard : Claim7 := { stood := { row := reuseClosesRow, standIns := [], harness := (true, "401a7b574105a336cea074d90596666bcd41ec0d3cb7302fdf639f0f80970048"), looks := false }, kinds := [], alts := [], laidByText := true, laidKinds := [.data, .data, .pinned], laidTests := true, laidLooks := .later }
def ReuseClosesCardSaid : Prop := Claim7.holds Tryd.pinned (.plain (OpenSpec.ofChange reuseClosesSpec)) reuseClosesCard

/-- THE TIED CARD OF 'catchpitlaw25.ReuseJudges'. -/
def reuseJudgesCard : Claim7 := { stood := { row := reuseJudgesRow, standIns := [], harness := (true, "401a7b574105a336cea074d90596666bcd41ec0d3cb7302fdf639f0f80970048"), looks := false }, kinds := [], alts := [], laidByText := true, laidKinds := [.data, .data, .pinned], laidTests := true, laidLooks := .later }
def ReuseJudgesCardSaid : Prop := Claim7.holds Tryd.pinned (.plain (OpenSpec.ofChange reuseJudgesSpec)) reuseJudgesCard

/-- THE TIED CARD OF 'catchpitlaw25.ReuseBoth'. -/
def reuseBothCard : Claim7 := { stood := { row := reuseBothRow, standIns := [], harness := (true, "401a7b574105a336cea074d90596666bcd41ec0d3cb7302fdf639f0f80970048"), looks := false }, kinds := [], alts := [], laidByText := true, laidKinds := [.data, .data, .pinned], laidTests := true, laidLooks := .later }
def ReuseBothCardSaid : Prop := Claim7.holds Tryd.pinned (.plain (OpenSpec.ofChange reuseBothSpec)) reuseBothCard

/-- THE TIED CARD OF 'catchpitlaw25.ReuseReasons'. -/
def reuseReasonsCard : Claim7 := { stood := { row := reuseReasonsRow, standIns := [], harness := (true, "401a7b574105a336cea074d90596666bcd41ec0d3cb7302fdf639f0f80970048"), looks := false }, kinds := [], alts := [], laidByText := true, laidKinds := [.data, .data, .pinned], laidTests := true, laidLooks := .later }
def ReuseReasonsCardSaid : Prop := Claim7.holds Tryd.pinned (.plain (OpenSpec.ofChange reuseReasonsSpec)) reuseReasonsCard

/-- THE TIED CARD OF 'catchpitlaw07.ListLengths'. -/
def listLengthsCard : Claim7 := { stood := { row := listLengthsRow, standIns := [], harness := (true, "401a7b574105a336cea074d90596666bcd41ec0d3cb7302fdf639f0f80970048"), looks := false }, kinds := [], alts := [], laidByText := true, laidKinds := [.data, .data, .pinned], laidTests := true, laidLooks := .later }
def ListLengthsCardSaid : Prop := Claim7.holds Tryd.pinned (.plain (OpenSpec.ofChange listLengthsSpec)) listLengthsCard

/-- THE TIED CARD OF 'catchpitlaw07.ListCodings'. -/
def listCodingsCard : Claim7 := { stood := { row := listCodingsRow, standIns := [], harness := (true, "401a7b574105a336cea074d90596666bcd41ec0d3cb7302fdf639f0f80970048"), looks := false }, kinds := [], alts := [], laidByText := true, laidKinds := [.data, .data, .pinned], laidTests := true, laidLooks := .later }
def ListCodingsCardSaid : Prop := Claim7.holds Tryd.pinned (.plain (OpenSpec.ofChange listCodingsSpec)) listCodingsCard

/-- THE TIED CARD OF 'catchpitlaw07.ListAgain'. -/
def listAgainCard : Claim7 := { stood := { row := listAgainRow, standIns := [], harness := (true, "401a7b574105a336cea074d90596666bcd41ec0d3cb7302fdf639f0f80970048"), looks := false }, kinds := [], alts := [], laidByText := true, laidKinds := [.data, .data, .pinned], laidTests := true, laidLooks := .later }
def ListAgainCardSaid : Prop := Claim7.holds Tryd.pinned (.plain (OpenSpec.ofChange listAgainSpec)) listAgainCard

/-- THE TIED CARD OF 'catchpitlaw07.ListJoins'. -/
def listJoinsCard : Claim7 := { stood := { row := listJoinsRow, standIns := [], harness := (true, "401a7b574105a336cea074d90596666bcd41ec0d3cb7302fdf639f0f80970048"), looks := false }, kinds := [], alts := [], laidByText := true, laidKinds := [.data, .data, .pinned], laidTests := true, laidLooks := .later }
def ListJoinsCardSaid : Prop := Claim7.holds Tryd.pinned (.plain (OpenSpec.ofChange listJoinsSpec)) listJoinsCard

/-- THE TIED CARD OF 'catchpitlaw07.ListItems'. -/
def listItemsCard : Claim7 := { stood := { row := listItemsRow, standIns := [], harness := (true, "401a7b574105a336cea074d90596666bcd41ec0d3cb7302fdf639f0f80970048"), looks := false }, kinds := [], alts := [], laidByText := true, laidKinds := [.data, .data, .pinned], laidTests := true, laidLooks := .later }
def ListItemsCardSaid : Prop := Claim7.holds Tryd.pinned (.plain (OpenSpec.ofChange listItemsSpec)) listItemsCard

/-- THE SECOND FORM's CARD OF 'catchpitlaw25.ReuseWell'. -/
def reuseWellUptoCard : Claim7 := { stood := { row := reuseWellUptoRow, standIns := [], harness := (true, "401a7b574105a336cea074d90596666bcd41ec0d3cb7302fdf639f0f80970048"), looks := false }, kinds := [], alts := [], laidByText := true, laidKinds := [.data, .data, .pinned], laidTests := true, laidLooks := .later }
def ReuseWellUptoCardSaid : Prop := Claim7.holds Tryd.pinned (.plain (OpenSpec.upto reuseWellSpec)) reuseWellUptoCard

/-- THE SECOND FORM's CARD OF 'catchpitlaw25.ReuseCloses'. -/
def reuseClosesUptoCard : Claim7 := { stood := { row := reuseClosesUptoRow, standIns := [], harness := (true, "401a7b574105a336cea074d90596666bcd41ec0d3cb7302fdf639f0f80970048"), looks := false }, kinds := [], alts := [], laidByText := true, laidKinds := [.data, .data, .pinned], laidTests := true, laidLooks := .later }
def ReuseClosesUptoCardSaid : Prop := Claim7.holds Tryd.pinned (.plain (OpenSpec.upto reuseClosesSpec)) reuseClosesUptoCard

/-- THE SECOND FORM's CARD OF 'catchpitlaw25.ReuseJudges'. -/
def reuseJudgesUptoCard : Claim7 := { stood := { row := reuseJudgesUptoRow, standIns := [], harness := (true, "401a7b574105a336cea074d90596666bcd41ec0d3cb7302fdf639f0f80970048"), looks := false }, kinds := [], alts := [], laidByText := true, laidKinds := [.data, .data, .pinned], laidTests := true, laidLooks := .later }
def ReuseJudgesUptoCardSaid : Prop := Claim7.holds Tryd.pinned (.plain (OpenSpec.upto reuseJudgesSpec)) reuseJudgesUptoCard

/-- THE SECOND FORM's CARD OF 'catchpitlaw25.ReuseBoth'. -/
def reuseBothUptoCard : Claim7 := { stood := { row := reuseBothUptoRow, standIns := [], harness := (true, "401a7b574105a336cea074d90596666bcd41ec0d3cb7302fdf639f0f80970048"), looks := false }, kinds := [], alts := [], laidByText := true, laidKinds := [.data, .data, .pinned], laidTests := true, laidLooks := .later }
def ReuseBothUptoCardSaid : Prop := Claim7.holds Tryd.pinned (.plain (OpenSpec.upto reuseBothSpec)) reuseBothUptoCard

/-- THE SECOND FORM's CARD OF 'catchpitlaw25.ReuseReasons'. -/
def reuseReasonsUptoCard : Claim7 := { stood := { row := reuseReasonsUptoRow, standIns := [], harness := (true, "401a7b574105a336cea074d90596666bcd41ec0d3cb7302fdf639f0f80970048"), looks := false }, kinds := [], alts := [], laidByText := true, laidKinds := [.data, .data, .pinned], laidTests := true, laidLooks := .later }
def ReuseReasonsUptoCardSaid : Prop := Claim7.holds Tryd.pinned (.plain (OpenSpec.upto reuseReasonsSpec)) reuseReasonsUptoCard

/-- THE SECOND FORM's CARD OF 'catchpitlaw07.ListLengths'. -/
def listLengthsUptoCard : Claim7 := { stood := { row := listLengthsUptoRow, standIns := [], harness := (true, "401a7b574105a336cea074d90596666bcd41ec0d3cb7302fdf639f0f80970048"), looks := false }, kinds := [], alts := [], laidByText := true, laidKinds := [.data, .data, .pinned], laidTests := true, laidLooks := .later }
def ListLengthsUptoCardSaid : Prop := Claim7.holds Tryd.pinned (.plain (OpenSpec.upto listLengthsSpec)) listLengthsUptoCard

/-- THE SECOND FORM's CARD OF 'catchpitlaw07.ListCodings'. -/
def listCodingsUptoCard : Claim7 := { stood := { row := listCodingsUptoRow, standIns := [], harness := (true, "401a7b574105a336cea074d90596666bcd41ec0d3cb7302fdf639f0f80970048"), looks := false }, kinds := [], alts := [], laidByText := true, laidKinds := [.data, .data, .pinned], laidTests := true, laidLooks := .later }
def ListCodingsUptoCardSaid : Prop := Claim7.holds Tryd.pinned (.plain (OpenSpec.upto listCodingsSpec)) listCodingsUptoCard

/-- THE SECOND FORM's CARD OF 'catchpitlaw07.ListAgain'. -/
def listAgainUptoCard : Claim7 := { stood := { row := listAgainUptoRow, standIns := [], harness := (true, "401a7b574105a336cea074d90596666bcd41ec0d3cb7302fdf639f0f80970048"), looks := false }, kinds := [], alts := [], laidByText := true, laidKinds := [.data, .data, .pinned], laidTests := true, laidLooks := .later }
def ListAgainUptoCardSaid : Prop := Claim7.holds Tryd.pinned (.plain (OpenSpec.upto listAgainSpec)) listAgainUptoCard

/-- THE SECOND FORM's CARD OF 'catchpitlaw07.ListJoins'. -/
def listJoinsUptoCard : Claim7 := { stood := { row := listJoinsUptoRow, standIns := [], harness := (true, "401a7b574105a336cea074d90596666bcd41ec0d3cb7302fdf639f0f80970048"), looks := false }, kinds := [], alts := [], laidByText := true, laidKinds := [.data, .data, .pinned], laidTests := true, laidLooks := .later }
def ListJoinsUptoCardSaid : Prop := Claim7.holds Tryd.pinned (.plain (OpenSpec.upto listJoinsSpec)) listJoinsUptoCard

/-- THE SECOND FORM's CARD OF 'catchpitlaw07.ListItems'. -/
def listItemsUptoCard : Claim7 := { stood := { row := listItemsUptoRow, standIns := [], harness := (true, "401a7b574105a336cea074d90596666bcd41ec0d3cb7302fdf639f0f80970048"), looks := false }, kinds := [], alts := [], laidByText := true, laidKinds := [.data, .data, .pinned], laidTests := true, laidLooks := .later }
def ListItemsUptoCardSaid : Prop := Claim7.holds Tryd.pinned (.plain (OpenSpec.upto listItemsSpec)) listItemsUptoCard
end Rows
end Go.Proofs.YtofegjgiocljlaaDoor
