/-
  NARROWER THAN 'FOR EVERY INPUT', by the rows' own cells (each row's printed sentence says how): ReuseWell: laid · ReuseCloses: laid · ReuseJudges: laid · ReuseBoth: laid · ReuseReasons: laid · ListLengths: laid · ListCodings: laid · ListAgain: laid · ListJoins: laid · ListItems: laid.
  DERIVED. THE GIVEN ROWS OF THIS SEAT. 10 by the template 'for every input the law returns true; each argument reads behind the call as it read before'; 0 by the template 'total and deterministic' (their statements: YtofegjgiocljlaaDoorTotals.lean).
  GIVEN WITH THE SEED: the statements are not yours to turn. If you find one false, say at which input.
  Laid BY PROGRAM, IN A SANDBOX (cutbox-rows.mjs): the forced cells as the released guide's own fill.sh prints them over the translation 82b9623647079a65… (all of the seat's roots in one cut). By AI agents, Wed Nov 11 2026. No macro, syntax, notation, axiom, sorry.
-/
import Derived.Test.YtofegjgiocljlaaDoorChecked
import GoSem.PinnedTables
import GoSem.Claim
import GoSem.ClaimJoined
import GoSem.ClaimMapViews
import Derived.JoinedTies
import Derived.KernelRfl
namespace Go.Proofs.YtofegjgiocljlaaDoor
/- THE CELL 'sum', in the pinned program and in every row, IS THE sha256 OF THE DUMP (.gsa) THAT YtofegjgiocljlaaDoorProg.lean LOADS. Nothing in Lean hashes anything: it is a label: what it is worth is what the hold of that sum in a sandbox is worth. -/
noncomputable def Tryd.pinned : Pinned := { name := "ytofegjgiocljlaadoor", sum := "82b9623647079a658f3817e502bab1959303d4184c44dcb8aa0a8e3b346d377e", checked := Tryd.checked }
namespace Rows
def none {H : Type} : Left H := { results := [], args := [] }

/- WHAT THE LISTED PACKAGE-LEVEL VARIABLES READ AS WHEN THE CALL BEGINS. Each datum BY PROGRAM (the guide's laid-datum.mjs) off the statement by which the dump's own 'gosem.cut.vars' lays the variable. In a bare row this is a premise. The card (YtofegjgiocljlaaDoorCards.lean) ties it to the program's text. -/
def laid_unicode_utf8_acceptRanges {H : Type} : DataW H := .agg [.agg [.lit (.int .u8 128), .lit (.int .u8 191)], .agg [.lit (.int .u8 160), .lit (.int .u8 191)], .agg [.lit (.int .u8 128), .lit (.int .u8 159)], .agg [.lit (.int .u8 144), .lit (.int .u8 191)], .agg [.lit (.int .u8 128), .lit (.int .u8 143)], .agg [.lit (.int .u8 0), .lit (.int .u8 0)], .agg [.lit (.int .u8 0), .lit (.int .u8 0)], .agg [.lit (.int .u8 0), .lit (.int .u8 0)], .agg [.lit (.int .u8 0), .lit (.int .u8 0)], .agg [.lit (.int .u8 0), .lit (.int .u8 0)], .agg [.lit (.int .u8 0), .lit (.int .u8 0)], .agg [.lit (.int .u8 0), .lit (.int .u8 0)], .agg [.lit (.int .u8 0), .lit (.int .u8 0)], .agg [.lit (.int .u8 0), .lit (.int .u8 0)], .agg [.lit (.int .u8 0), .lit (.int .u8 0)], .agg [.lit (.int .u8 0), .lit (.int .u8 0)]]
def laid_catchpit_octet_ends {H : Type} : DataW H := .agg [.agg [.lit (.int .u8 48), .lit (.int .u8 57)], .agg [.lit (.int .u8 65), .lit (.int .u8 90)], .agg [.lit (.int .u8 97), .lit (.int .u8 122)]]
/-- One of Go's own tables, pinned by name: the form's constant. -/
def laid_unicode_utf8_first : DataW Unit := Go.Pinned.utf8First

/-- 'catchpitlaw25.ReuseWell': WHATEVER THE INPUT: true; the input reads as it did. -/
def reuseWellSpec : ChangeSpec := { name := "reuseWell", fn := fun _ => fun
  | [d1, d2] => { results := [.lit (.bool true)], args := [d1, d2] }
  | _ => none }
def reuseWellRow : OpenClaim := { program := "ytofegjgiocljlaadoor", sum := "82b9623647079a658f3817e502bab1959303d4184c44dcb8aa0a8e3b346d377e", func := "catchpit/catchpitlaw25.ReuseWell", spec := "reuseWell", inPlace := ["internal/bytealg.IndexByteString", "internal/bytealg.IndexString"], unfollowed := true, recurses := true, named := ["catchpit/octet.ends", "unicode/utf8.first", "unicode/utf8.acceptRanges", "internal/bytealg.MaxLen"], apart := false, laid := [("unicode/utf8.acceptRanges", laid_unicode_utf8_acceptRanges), ("catchpit/octet.ends", laid_catchpit_octet_ends), ("unicode/utf8.first", laid_unicode_utf8_first)] }
def ReuseWellSaid : Prop := reuseWellRow.holds Tryd.pinned (OpenSpec.ofChange reuseWellSpec)

/-- ITS FALSE NEIGHBOUR: 'it returns false'. Refute it at one input. -/
def reuseWellWrong : ChangeSpec := { name := "reuseWell", fn := fun _ => fun
  | [d1, d2] => { results := [.lit (.bool false)], args := [d1, d2] }
  | _ => none }
def ReuseWellWrongFalsely : Prop := reuseWellRow.holds Tryd.pinned (OpenSpec.ofChange reuseWellWrong)

/-- 'catchpitlaw25.ReuseCloses': WHATEVER THE INPUT: true; the input reads as it did. -/
def reuseClosesSpec : ChangeSpec := { name := "reuseCloses", fn := fun _ => fun
  | [d1, d2, d3] => { results := [.lit (.bool true)], args := [d1, d2, d3] }
  | _ => none }
def reuseClosesRow : OpenClaim := { program := "ytofegjgiocljlaadoor", sum := "82b9623647079a658f3817e502bab1959303d4184c44dcb8aa0a8e3b346d377e", func := "catchpit/catchpitlaw25.ReuseCloses", spec := "reuseCloses", inPlace := ["internal/bytealg.IndexByteString", "internal/bytealg.IndexString"], unfollowed := true, recurses := true, named := ["catchpit/octet.ends", "unicode/utf8.first", "unicode/utf8.acceptRanges", "internal/bytealg.MaxLen"], apart := false, laid := [("unicode/utf8.acceptRanges", laid_unicode_utf8_acceptRanges), ("catchpit/octet.ends", laid_catchpit_octet_ends), ("unicode/utf8.first", laid_unicode_utf8_first)] }
def ReuseClosesSaid : Prop := reuseClosesRow.holds Tryd.pinned (OpenSpec.ofChange reuseClosesSpec)

/-- ITS FALSE NEIGHBOUR: 'it returns false'. Refute it at one input. -/
def reuseClosesWrong : ChangeSpec := { name := "reuseCloses", fn := fun _ => fun
  | [d1, d2, d3] => { results := [.lit (.bool false)], args := [d1, d2, d3] }
  | _ => none }
def ReuseClosesWrongFalsely : Prop := reuseClosesRow.holds Tryd.pinned (OpenSpec.ofChange reuseClosesWrong)

/-- 'catchpitlaw25.ReuseJudges': WHATEVER THE INPUT: true; the input reads as it did. -/
def reuseJudgesSpec : ChangeSpec := { name := "reuseJudges", fn := fun _ => fun
  | [d1, d2] => { results := [.lit (.bool true)], args := [d1, d2] }
  | _ => none }
def reuseJudgesRow : OpenClaim := { program := "ytofegjgiocljlaadoor", sum := "82b9623647079a658f3817e502bab1959303d4184c44dcb8aa0a8e3b346d377e", func := "catchpit/catchpitlaw25.ReuseJudges", spec := "reuseJudges", inPlace := ["internal/bytealg.IndexByteString", "internal/bytealg.IndexString"], unfollowed := true, recurses := true, named := ["catchpit/octet.ends", "unicode/utf8.first", "unicode/utf8.acceptRanges", "internal/bytealg.MaxLen"], apart := false, laid := [("unicode/utf8.acceptRanges", laid_unicode_utf8_acceptRanges), ("catchpit/octet.ends", laid_catchpit_octet_ends), ("unicode/utf8.first", laid_unicode_utf8_first)] }
def ReuseJudgesSaid : Prop := reuseJudgesRow.holds Tryd.pinned (OpenSpec.ofChange reuseJudgesSpec)

/-- ITS FALSE NEIGHBOUR: 'it returns false'. Refute it at one input. -/
def reuseJudgesWrong : ChangeSpec := { name := "reuseJudges", fn := fun _ => fun
  | [d1, d2] => { results := [.lit (.bool false)], args := [d1, d2] }
  | _ => none }
def ReuseJudgesWrongFalsely : Prop := reuseJudgesRow.holds Tryd.pinned (OpenSpec.ofChange reuseJudgesWrong)

/-- 'catchpitlaw25.ReuseBoth': WHATEVER THE INPUT: true; the input reads as it did. -/
def reuseBothSpec : ChangeSpec := { name := "reuseBoth", fn := fun _ => fun
  | [d1, d2] => { results := [.lit (.bool true)], args := [d1, d2] }
  | _ => none }
def reuseBothRow : OpenClaim := { program := "ytofegjgiocljlaadoor", sum := "82b9623647079a658f3817e502bab1959303d4184c44dcb8aa0a8e3b346d377e", func := "catchpit/catchpitlaw25.ReuseBoth", spec := "reuseBoth", inPlace := ["internal/bytealg.IndexByteString", "internal/bytealg.IndexString"], unfollowed := true, recurses := true, named := ["catchpit/octet.ends", "unicode/utf8.first", "unicode/utf8.acceptRanges", "internal/bytealg.MaxLen"], apart := false, laid := [("unicode/utf8.acceptRanges", laid_unicode_utf8_acceptRanges), ("catchpit/octet.ends", laid_catchpit_octet_ends), ("unicode/utf8.first", laid_unicode_utf8_first)] }
def ReuseBothSaid : Prop := reuseBothRow.holds Tryd.pinned (OpenSpec.ofChange reuseBothSpec)

/-- ITS FALSE NEIGHBOUR: 'it returns false'. Refute it at one input. -/
def reuseBothWrong : ChangeSpec := { name := "reuseBoth", fn := fun _ => fun
  | [d1, d2] => { results := [.lit (.bool false)], args := [d1, d2] }
  | _ => none }
def ReuseBothWrongFalsely : Prop := reuseBothRow.holds Tryd.pinned (OpenSpec.ofChange reuseBothWrong)

/-- 'catchpitlaw25.ReuseReasons': WHATEVER THE INPUT: true; the input reads as it did. -/
def reuseReasonsSpec : ChangeSpec := { name := "reuseReasons", fn := fun _ => fun
  | [d] => { results := [.lit (.bool true)], args := [d] }
  | _ => none }
def reuseReasonsRow : OpenClaim := { program := "ytofegjgiocljlaadoor", sum := "82b9623647079a658f3817e502bab1959303d4184c44dcb8aa0a8e3b346d377e", func := "catchpit/catchpitlaw25.ReuseReasons", spec := "reuseReasons", inPlace := ["internal/bytealg.IndexByteString", "internal/bytealg.IndexString"], unfollowed := true, recurses := true, named := ["catchpit/octet.ends", "unicode/utf8.first", "unicode/utf8.acceptRanges", "internal/bytealg.MaxLen"], apart := false, laid := [("unicode/utf8.acceptRanges", laid_unicode_utf8_acceptRanges), ("catchpit/octet.ends", laid_catchpit_octet_ends), ("unicode/utf8.first", laid_unicode_utf8_first)] }
def ReuseReasonsSaid : Prop := reuseReasonsRow.holds Tryd.pinned (OpenSpec.ofChange reuseReasonsSpec)

/-- ITS FALSE NEIGHBOUR: 'it returns false'. Refute it at one input. -/
def reuseReasonsWrong : ChangeSpec := { name := "reuseReasons", fn := fun _ => fun
  | [d] => { results := [.lit (.bool false)], args := [d] }
  | _ => none }
def ReuseReasonsWrongFalsely : Prop := reuseReasonsRow.holds Tryd.pinned (OpenSpec.ofChange reuseReasonsWrong)

/-- 'catchpitlaw07.ListLengths': WHATEVER THE INPUT: true; the input reads as it did. -/
def listLengthsSpec : ChangeSpec := { name := "listLengths", fn := fun _ => fun
  | [d1, d2] => { results := [.lit (.bool true)], args := [d1, d2] }
  | _ => none }
def listLengthsRow : OpenClaim := { program := "ytofegjgiocljlaadoor", sum := "82b9623647079a658f3817e502bab1959303d4184c44dcb8aa0a8e3b346d377e", func := "catchpit/catchpitlaw07.ListLengths", spec := "listLengths", inPlace := ["internal/bytealg.IndexByteString", "internal/bytealg.IndexString"], unfollowed := true, recurses := true, named := ["unicode/utf8.first", "unicode/utf8.acceptRanges", "internal/bytealg.MaxLen", "catchpit/octet.ends"], apart := false, laid := [("unicode/utf8.acceptRanges", laid_unicode_utf8_acceptRanges), ("catchpit/octet.ends", laid_catchpit_octet_ends), ("unicode/utf8.first", laid_unicode_utf8_first)] }
def ListLengthsSaid : Prop := listLengthsRow.holds Tryd.pinned (OpenSpec.ofChange listLengthsSpec)

/-- ITS FALSE NEIGHBOUR: 'it returns false'. Refute it at one input. -/
def listLengthsWrong : ChangeSpec := { name := "listLengths", fn := fun _ => fun
  | [d1, d2] => { results := [.lit (.bool false)], args := [d1, d2] }
  | _ => none }
def ListLengthsWrongFalsely : Prop := listLengthsRow.holds Tryd.pinned (OpenSpec.ofChange listLengthsWrong)

/-- 'catchpitlaw07.ListCodings': WHATEVER THE INPUT: true; the input reads as it did. -/
def listCodingsSpec : ChangeSpec := { name := "listCodings", fn := fun _ => fun
  | [d] => { results := [.lit (.bool true)], args := [d] }
  | _ => none }
def listCodingsRow : OpenClaim := { program := "ytofegjgiocljlaadoor", sum := "82b9623647079a658f3817e502bab1959303d4184c44dcb8aa0a8e3b346d377e", func := "catchpit/catchpitlaw07.ListCodings", spec := "listCodings", inPlace := ["internal/bytealg.IndexByteString", "internal/bytealg.IndexString"], unfollowed := true, recurses := true, named := ["unicode/utf8.first", "unicode/utf8.acceptRanges", "internal/bytealg.MaxLen", "catchpit/octet.ends"], apart := false, laid := [("unicode/utf8.acceptRanges", laid_unicode_utf8_acceptRanges), ("catchpit/octet.ends", laid_catchpit_octet_ends), ("unicode/utf8.first", laid_unicode_utf8_first)] }
def ListCodingsSaid : Prop := listCodingsRow.holds Tryd.pinned (OpenSpec.ofChange listCodingsSpec)

/-- ITS FALSE NEIGHBOUR: 'it returns false'. Refute it at one input. -/
def listCodingsWrong : ChangeSpec := { name := "listCodings", fn := fun _ => fun
  | [d] => { results := [.lit (.bool false)], args := [d] }
  | _ => none }
def ListCodingsWrongFalsely : Prop := listCodingsRow.holds Tryd.pinned (OpenSpec.ofChange listCodingsWrong)

/-- 'catchpitlaw07.ListAgain': WHATEVER THE INPUT: true; the input reads as it did. -/
def listAgainSpec : ChangeSpec := { name := "listAgain", fn := fun _ => fun
  | [d1, d2] => { results := [.lit (.bool true)], args := [d1, d2] }
  | _ => none }
def listAgainRow : OpenClaim := { program := "ytofegjgiocljlaadoor", sum := "82b9623647079a658f3817e502bab1959303d4184c44dcb8aa0a8e3b346d377e", func := "catchpit/catchpitlaw07.ListAgain", spec := "listAgain", inPlace := ["internal/bytealg.IndexByteString", "internal/bytealg.IndexString"], unfollowed := true, recurses := true, named := ["unicode/utf8.first", "unicode/utf8.acceptRanges", "internal/bytealg.MaxLen", "catchpit/octet.ends"], apart := false, laid := [("unicode/utf8.acceptRanges", laid_unicode_utf8_acceptRanges), ("catchpit/octet.ends", laid_catchpit_octet_ends), ("unicode/utf8.first", laid_unicode_utf8_first)] }
def ListAgainSaid : Prop := listAgainRow.holds Tryd.pinned (OpenSpec.ofChange listAgainSpec)

/-- ITS FALSE NEIGHBOUR: 'it returns false'. Refute it at one input. -/
def listAgainWrong : ChangeSpec := { name := "listAgain", fn := fun _ => fun
  | [d1, d2] => { results := [.lit (.bool false)], args := [d1, d2] }
  | _ => none }
def ListAgainWrongFalsely : Prop := listAgainRow.holds Tryd.pinned (OpenSpec.ofChange listAgainWrong)

/-- 'catchpitlaw07.ListJoins': WHATEVER THE INPUT: true; the input reads as it did. -/
def listJoinsSpec : ChangeSpec := { name := "listJoins", fn := fun _ => fun
  | [d1, d2] => { results := [.lit (.bool true)], args := [d1, d2] }
  | _ => none }
def listJoinsRow : OpenClaim := { program := "ytofegjgiocljlaadoor", sum := "82b9623647079a658f3817e502bab1959303d4184c44dcb8aa0a8e3b346d377e", func := "catchpit/catchpitlaw07.ListJoins", spec := "listJoins", inPlace := ["internal/bytealg.IndexByteString", "internal/bytealg.IndexString"], unfollowed := true, recurses := true, named := ["unicode/utf8.first", "unicode/utf8.acceptRanges", "internal/bytealg.MaxLen", "catchpit/octet.ends"], apart := false, laid := [("unicode/utf8.acceptRanges", laid_unicode_utf8_acceptRanges), ("catchpit/octet.ends", laid_catchpit_octet_ends), ("unicode/utf8.first", laid_unicode_utf8_first)] }
def ListJoinsSaid : Prop := listJoinsRow.holds Tryd.pinned (OpenSpec.ofChange listJoinsSpec)

/-- ITS FALSE NEIGHBOUR: 'it returns false'. Refute it at one input. -/
def listJoinsWrong : ChangeSpec := { name := "listJoins", fn := fun _ => fun
  | [d1, d2] => { results := [.lit (.bool false)], args := [d1, d2] }
  | _ => none }
def ListJoinsWrongFalsely : Prop := listJoinsRow.holds Tryd.pinned (OpenSpec.ofChange listJoinsWrong)

/-- 'catchpitlaw07.ListItems': WHATEVER THE INPUT: true; the input reads as it did. -/
def listItemsSpec : ChangeSpec := { name := "listItems", fn := fun _ => fun
  | [d1, d2] => { results := [.lit (.bool true)], args := [d1, d2] }
  | _ => none }
def listItemsRow : OpenClaim := { program := "ytofegjgiocljlaadoor", sum := "82b9623647079a658f3817e502bab1959303d4184c44dcb8aa0a8e3b346d377e", func := "catchpit/catchpitlaw07.ListItems", spec := "listItems", inPlace := ["internal/bytealg.IndexByteString", "internal/bytealg.IndexString"], unfollowed := true, recurses := true, named := ["unicode/utf8.first", "unicode/utf8.acceptRanges", "internal/bytealg.MaxLen", "catchpit/octet.ends"], apart := false, laid := [("unicode/utf8.acceptRanges", laid_unicode_utf8_acceptRanges), ("catchpit/octet.ends", laid_catchpit_octet_ends), ("unicode/utf8.first", laid_unicode_utf8_first)] }
def ListItemsSaid : Prop := listItemsRow.holds Tryd.pinned (OpenSpec.ofChange listItemsSpec)

/-- ITS FALSE NEIGHBOUR: 'it returns false'. Refute it at one input. -/
def listItemsWrong : ChangeSpec := { name := "listItems", fn := fun _ => fun
  | [d1, d2] => { results := [.lit (.bool false)], args := [d1, d2] }
  | _ => none }
def ListItemsWrongFalsely : Prop := listItemsRow.holds Tryd.pinned (OpenSpec.ofChange listItemsWrong)

/- THE SECOND FORM. 'bulk': how many values and letters a reading holds, each counted each time it is reached (what is shared counts as often as it is met; a slice's spare places count too). A statement '..UptoSaid' is the law's where the arguments, and the package variables that the reading takes, are together of bulk at most 1048576: NARROWER than '..Said'. Prove '..Said' where nothing that the law and all that it calls make is longer than what came in: it says more and counts as full. Else prove '..UptoSaid'. A law counts once. -/
mutual
def uptoBulk {H : Type} : DataW H → Nat
  | .lit (.string bytes) => bytes.length + 1
  | .lit _ => 1
  | .nil => 1
  | .ptr d => uptoBulk d + 1
  | .slice elems spare => uptoBulkAll elems + uptoBulkAll spare + 1
  | .agg parts => uptoBulkAll parts + 1
  | .iface _ d => uptoBulk d + 1
  | .map entries => uptoBulkEntries entries + 1
  | .held _ => 1
def uptoBulkAll {H : Type} : List (DataW H) → Nat
  | [] => 0
  | d :: r => uptoBulk d + uptoBulkAll r
def uptoBulkEntries {H : Type} : List (Lit × DataW H) → Nat
  | [] => 0
  | x :: r => uptoBulkEntry x + uptoBulkEntries r
def uptoBulkEntry {H : Type} : Lit × DataW H → Nat
  | (.string bytes, d) => bytes.length + uptoBulk d + 1
  | (_, d) => uptoBulk d + 1
 end
def uptoSmall : (H : Type) → List (DataW H) → Bool := fun _ ds => decide (uptoBulkAll ds ≤ 1048576)
def OpenSpec.upto (s : _root_.Go.ChangeSpec) : _root_.Go.OpenSpec := { _root_.Go.OpenSpec.ofChange s with cond := some uptoSmall }

/-- 'catchpitlaw25.ReuseWell', WHERE WHAT IT READS IS OF BULK AT MOST 1048576: true; the input reads as it did. -/
def reuseWellUptoRow : OpenClaim := { program := "ytofegjgiocljlaadoor", sum := "82b9623647079a658f3817e502bab1959303d4184c44dcb8aa0a8e3b346d377e", func := "catchpit/catchpitlaw25.ReuseWell", spec := "reuseWell", inPlace := ["internal/bytealg.IndexByteString", "internal/bytealg.IndexString"], unfollowed := true, recurses := true, named := ["catchpit/octet.ends", "unicode/utf8.first", "unicode/utf8.acceptRanges", "internal/bytealg.MaxLen"], apart := false, laid := [("unicode/utf8.acceptRanges", laid_unicode_utf8_acceptRanges), ("catchpit/octet.ends", laid_catchpit_octet_ends), ("unicode/utf8.first", laid_unicode_utf8_first)], narrowed := true }
def ReuseWellUptoSaid : Prop := reuseWellUptoRow.holds Tryd.pinned (OpenSpec.upto reuseWellSpec)

/-- 'catchpitlaw25.ReuseCloses', WHERE WHAT IT READS IS OF BULK AT MOST 1048576: true; the input reads as it did. -/
def reuseClosesUptoRow : OpenClaim := { program := "ytofegjgiocljlaadoor", sum := "82b9623647079a658f3817e502bab1959303d4184c44dcb8aa0a8e3b346d377e", func := "catchpit/catchpitlaw25.ReuseCloses", spec := "reuseCloses", inPlace := ["internal/bytealg.IndexByteString", "internal/bytealg.IndexString"], unfollowed := true, recurses := true, named := ["catchpit/octet.ends", "unicode/utf8.first", "unicode/utf8.acceptRanges", "internal/bytealg.MaxLen"], apart := false, laid := [("unicode/utf8.acceptRanges", laid_unicode_utf8_acceptRanges), ("catchpit/octet.ends", laid_catchpit_octet_ends), ("unicode/utf8.first", laid_unicode_utf8_first)], narrowed := true }
def ReuseClosesUptoSaid : Prop := reuseClosesUptoRow.holds Tryd.pinned (OpenSpec.upto reuseClosesSpec)

/-- 'catchpitlaw25.ReuseJudges', WHERE WHAT IT READS IS OF BULK AT MOST 1048576: true; the input reads as it did. -/
def reuseJudgesUptoRow : OpenClaim := { program := "ytofegjgiocljlaadoor", sum := "82b9623647079a658f3817e502bab1959303d4184c44dcb8aa0a8e3b346d377e", func := "catchpit/catchpitlaw25.ReuseJudges", spec := "reuseJudges", inPlace := ["internal/bytealg.IndexByteString", "internal/bytealg.IndexString"], unfollowed := true, recurses := true, named := ["catchpit/octet.ends", "unicode/utf8.first", "unicode/utf8.acceptRanges", "internal/bytealg.MaxLen"], apart := false, laid := [("unicode/utf8.acceptRanges", laid_unicode_utf8_acceptRanges), ("catchpit/octet.ends", laid_catchpit_octet_ends), ("unicode/utf8.first", laid_unicode_utf8_first)], narrowed := true }
def ReuseJudgesUptoSaid : Prop := reuseJudgesUptoRow.holds Tryd.pinned (OpenSpec.upto reuseJudgesSpec)

/-- 'catchpitlaw25.ReuseBoth', WHERE WHAT IT READS IS OF BULK AT MOST 1048576: true; the input reads as it did. -/
def reuseBothUptoRow : OpenClaim := { program := "ytofegjgiocljlaadoor", sum := "82b9623647079a658f3817e502bab1959303d4184c44dcb8aa0a8e3b346d377e", func := "catchpit/catchpitlaw25.ReuseBoth", spec := "reuseBoth", inPlace := ["internal/bytealg.IndexByteString", "internal/bytealg.IndexString"], unfollowed := true, recurses := true, named := ["catchpit/octet.ends", "unicode/utf8.first", "unicode/utf8.acceptRanges", "internal/bytealg.MaxLen"], apart := false, laid := [("unicode/utf8.acceptRanges", laid_unicode_utf8_acceptRanges), ("catchpit/octet.ends", laid_catchpit_octet_ends), ("unicode/utf8.first", laid_unicode_utf8_first)], narrowed := true }
def ReuseBothUptoSaid : Prop := reuseBothUptoRow.holds Tryd.pinned (OpenSpec.upto reuseBothSpec)

/-- 'catchpitlaw25.ReuseReasons', WHERE WHAT IT READS IS OF BULK AT MOST 1048576: true; the input reads as it did. -/
def reuseReasonsUptoRow : OpenClaim := { program := "ytofegjgiocljlaadoor", sum := "82b9623647079a658f3817e502bab1959303d4184c44dcb8aa0a8e3b346d377e", func := "catchpit/catchpitlaw25.ReuseReasons", spec := "reuseReasons", inPlace := ["internal/bytealg.IndexByteString", "internal/bytealg.IndexString"], unfollowed := true, recurses := true, named := ["catchpit/octet.ends", "unicode/utf8.first", "unicode/utf8.acceptRanges", "internal/bytealg.MaxLen"], apart := false, laid := [("unicode/utf8.acceptRanges", laid_unicode_utf8_acceptRanges), ("catchpit/octet.ends", laid_catchpit_octet_ends), ("unicode/utf8.first", laid_unicode_utf8_first)], narrowed := true }
def ReuseReasonsUptoSaid : Prop := reuseReasonsUptoRow.holds Tryd.pinned (OpenSpec.upto reuseReasonsSpec)

/-- 'catchpitlaw07.ListLengths', WHERE WHAT IT READS IS OF BULK AT MOST 1048576: true; the input reads as it did. -/
def listLengthsUptoRow : OpenClaim := { program := "ytofegjgiocljlaadoor", sum := "82b9623647079a658f3817e502bab1959303d4184c44dcb8aa0a8e3b346d377e", func := "catchpit/catchpitlaw07.ListLengths", spec := "listLengths", inPlace := ["internal/bytealg.IndexByteString", "internal/bytealg.IndexString"], unfollowed := true, recurses := true, named := ["unicode/utf8.first", "unicode/utf8.acceptRanges", "internal/bytealg.MaxLen", "catchpit/octet.ends"], apart := false, laid := [("unicode/utf8.acceptRanges", laid_unicode_utf8_acceptRanges), ("catchpit/octet.ends", laid_catchpit_octet_ends), ("unicode/utf8.first", laid_unicode_utf8_first)], narrowed := true }
def ListLengthsUptoSaid : Prop := listLengthsUptoRow.holds Tryd.pinned (OpenSpec.upto listLengthsSpec)

/-- 'catchpitlaw07.ListCodings', WHERE WHAT IT READS IS OF BULK AT MOST 1048576: true; the input reads as it did. -/
def listCodingsUptoRow : OpenClaim := { program := "ytofegjgiocljlaadoor", sum := "82b9623647079a658f3817e502bab1959303d4184c44dcb8aa0a8e3b346d377e", func := "catchpit/catchpitlaw07.ListCodings", spec := "listCodings", inPlace := ["internal/bytealg.IndexByteString", "internal/bytealg.IndexString"], unfollowed := true, recurses := true, named := ["unicode/utf8.first", "unicode/utf8.acceptRanges", "internal/bytealg.MaxLen", "catchpit/octet.ends"], apart := false, laid := [("unicode/utf8.acceptRanges", laid_unicode_utf8_acceptRanges), ("catchpit/octet.ends", laid_catchpit_octet_ends), ("unicode/utf8.first", laid_unicode_utf8_first)], narrowed := true }
def ListCodingsUptoSaid : Prop := listCodingsUptoRow.holds Tryd.pinned (OpenSpec.upto listCodingsSpec)

/-- 'catchpitlaw07.ListAgain', WHERE WHAT IT READS IS OF BULK AT MOST 1048576: true; the input reads as it did. -/
def listAgainUptoRow : OpenClaim := { program := "ytofegjgiocljlaadoor", sum := "82b9623647079a658f3817e502bab1959303d4184c44dcb8aa0a8e3b346d377e", func := "catchpit/catchpitlaw07.ListAgain", spec := "listAgain", inPlace := ["internal/bytealg.IndexByteString", "internal/bytealg.IndexString"], unfollowed := true, recurses := true, named := ["unicode/utf8.first", "unicode/utf8.acceptRanges", "internal/bytealg.MaxLen", "catchpit/octet.ends"], apart := false, laid := [("unicode/utf8.acceptRanges", laid_unicode_utf8_acceptRanges), ("catchpit/octet.ends", laid_catchpit_octet_ends), ("unicode/utf8.first", laid_unicode_utf8_first)], narrowed := true }
def ListAgainUptoSaid : Prop := listAgainUptoRow.holds Tryd.pinned (OpenSpec.upto listAgainSpec)

/-- 'catchpitlaw07.ListJoins', WHERE WHAT IT READS IS OF BULK AT MOST 1048576: true; the input reads as it did. -/
def listJoinsUptoRow : OpenClaim := { program := "ytofegjgiocljlaadoor", sum := "82b9623647079a658f3817e502bab1959303d4184c44dcb8aa0a8e3b346d377e", func := "catchpit/catchpitlaw07.ListJoins", spec := "listJoins", inPlace := ["internal/bytealg.IndexByteString", "internal/bytealg.IndexString"], unfollowed := true, recurses := true, named := ["unicode/utf8.first", "unicode/utf8.acceptRanges", "internal/bytealg.MaxLen", "catchpit/octet.ends"], apart := false, laid := [("unicode/utf8.acceptRanges", laid_unicode_utf8_acceptRanges), ("catchpit/octet.ends", laid_catchpit_octet_ends), ("unicode/utf8.first", laid_unicode_utf8_first)], narrowed := true }
def ListJoinsUptoSaid : Prop := listJoinsUptoRow.holds Tryd.pinned (OpenSpec.upto listJoinsSpec)

/-- 'catchpitlaw07.ListItems', WHERE WHAT IT READS IS OF BULK AT MOST 1048576: true; the input reads as it did. -/
def listItemsUptoRow : OpenClaim := { program := "ytofegjgiocljlaadoor", sum := "82b9623647079a658f3817e502bab1959303d4184c44dcb8aa0a8e3b346d377e", func := "catchpit/catchpitlaw07.ListItems", spec := "listItems", inPlace := ["internal/bytealg.IndexByteString", "internal/bytealg.IndexString"], unfollowed := true, recurses := true, named := ["unicode/utf8.first", "unicode/utf8.acceptRanges", "internal/bytealg.MaxLen", "catchpit/octet.ends"], apart := false, laid := [("unicode/utf8.acceptRanges", laid_unicode_utf8_acceptRanges), ("catchpit/octet.ends", laid_catchpit_octet_ends), ("unicode/utf8.first", laid_unicode_utf8_first)], narrowed := true }
def ListItemsUptoSaid : Prop := listItemsUptoRow.holds Tryd.pinned (OpenSpec.upto listItemsSpec)

end Rows
end Go.Proofs.YtofegjgiocljlaaDoor
