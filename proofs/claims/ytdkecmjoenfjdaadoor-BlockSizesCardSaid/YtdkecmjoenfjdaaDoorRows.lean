/-
  NARROWER THAN 'FOR EVERY INPUT', by the rows' own cells (each row's printed sentence says how): FieldParses: laid · FieldBlanks: laid · FieldPuts: laid · FieldGets: laid · FieldJoins: laid · BlockScans: laid · BlockCuts: laid · BlockLines: laid · BlockJoins: laid · BlockPuts: laid · BlockSizes: laid.
  DERIVED. THE GIVEN ROWS OF THIS SEAT. 11 by the template 'for every input the law returns true; each argument reads behind the call as it read before'; 0 by the template 'total and deterministic' (their statements: YtdkecmjoenfjdaaDoorTotals.lean).
  GIVEN WITH THE SEED: the statements are not yours to turn. If you find one false, say at which input.
  Laid BY PROGRAM, IN A SANDBOX (cutbox-rows.mjs): the forced cells as the released guide's own fill.sh prints them over the translation 907d3e52d16ef931… (all of the seat's roots in one cut). By AI agents, Wed Nov 11 2026. No macro, syntax, notation, axiom, sorry.
-/
import Derived.Test.YtdkecmjoenfjdaaDoorChecked
import GoSem.PinnedTables
import GoSem.Claim
import GoSem.ClaimJoined
import GoSem.ClaimMapViews
import Derived.JoinedTies
import Derived.KernelRfl
namespace Go.Proofs.YtdkecmjoenfjdaaDoor
/- THE CELL 'sum', in the pinned program and in every row, IS THE sha256 OF THE DUMP (.gsa) THAT YtdkecmjoenfjdaaDoorProg.lean LOADS. Nothing in Lean hashes anything: it is a label: what it is worth is what the hold of that sum in a sandbox is worth. -/
noncomputable def Tryd.pinned : Pinned := { name := "ytdkecmjoenfjdaadoor", sum := "907d3e52d16ef93103c7fffda8e8cdfa2bd1c8179686861fe09bd040a0e7fcde", checked := Tryd.checked }
namespace Rows
def none {H : Type} : Left H := { results := [], args := [] }

/- WHAT THE LISTED PACKAGE-LEVEL VARIABLES READ AS WHEN THE CALL BEGINS. Each datum BY PROGRAM (the guide's laid-datum.mjs) off the statement by which the dump's own 'gosem.cut.vars' lays the variable. In a bare row this is a premise. The card (YtdkecmjoenfjdaaDoorCards.lean) ties it to the program's text. -/
def laid_unicode_utf8_acceptRanges {H : Type} : DataW H := .agg [.agg [.lit (.int .u8 128), .lit (.int .u8 191)], .agg [.lit (.int .u8 160), .lit (.int .u8 191)], .agg [.lit (.int .u8 128), .lit (.int .u8 159)], .agg [.lit (.int .u8 144), .lit (.int .u8 191)], .agg [.lit (.int .u8 128), .lit (.int .u8 143)], .agg [.lit (.int .u8 0), .lit (.int .u8 0)], .agg [.lit (.int .u8 0), .lit (.int .u8 0)], .agg [.lit (.int .u8 0), .lit (.int .u8 0)], .agg [.lit (.int .u8 0), .lit (.int .u8 0)], .agg [.lit (.int .u8 0), .lit (.int .u8 0)], .agg [.lit (.int .u8 0), .lit (.int .u8 0)], .agg [.lit (.int .u8 0), .lit (.int .u8 0)], .agg [.lit (.int .u8 0), .lit (.int .u8 0)], .agg [.lit (.int .u8 0), .lit (.int .u8 0)], .agg [.lit (.int .u8 0), .lit (.int .u8 0)], .agg [.lit (.int .u8 0), .lit (.int .u8 0)]]
def laid_catchpit_octet_ends {H : Type} : DataW H := .agg [.agg [.lit (.int .u8 48), .lit (.int .u8 57)], .agg [.lit (.int .u8 65), .lit (.int .u8 90)], .agg [.lit (.int .u8 97), .lit (.int .u8 122)]]
/-- One of Go's own tables, pinned by name: the form's constant. -/
def laid_unicode_utf8_first : DataW Unit := Go.Pinned.utf8First

/-- 'catchpitlaw05.FieldParses': WHATEVER THE INPUT: true; the input reads as it did. -/
def fieldParsesSpec : ChangeSpec := { name := "fieldParses", fn := fun _ => fun
  | [d] => { results := [.lit (.bool true)], args := [d] }
  | _ => none }
def fieldParsesRow : OpenClaim := { program := "ytdkecmjoenfjdaadoor", sum := "907d3e52d16ef93103c7fffda8e8cdfa2bd1c8179686861fe09bd040a0e7fcde", func := "catchpit/catchpitlaw05.FieldParses", spec := "fieldParses", inPlace := ["internal/bytealg.IndexByteString", "internal/bytealg.IndexString"], unfollowed := true, recurses := true, named := ["internal/bytealg.MaxLen", "unicode/utf8.first", "unicode/utf8.acceptRanges", "catchpit/octet.ends"], apart := false, laid := [("unicode/utf8.acceptRanges", laid_unicode_utf8_acceptRanges), ("catchpit/octet.ends", laid_catchpit_octet_ends), ("unicode/utf8.first", laid_unicode_utf8_first)] }
def FieldParsesSaid : Prop := fieldParsesRow.holds Tryd.pinned (OpenSpec.ofChange fieldParsesSpec)

/-- ITS FALSE NEIGHBOUR: 'it returns false'. Refute it at one input. -/
def fieldParsesWrong : ChangeSpec := { name := "fieldParses", fn := fun _ => fun
  | [d] => { results := [.lit (.bool false)], args := [d] }
  | _ => none }
def FieldParsesWrongFalsely : Prop := fieldParsesRow.holds Tryd.pinned (OpenSpec.ofChange fieldParsesWrong)

/-- 'catchpitlaw05.FieldBlanks': WHATEVER THE INPUT: true; the input reads as it did. -/
def fieldBlanksSpec : ChangeSpec := { name := "fieldBlanks", fn := fun _ => fun
  | [d1, d2, d3] => { results := [.lit (.bool true)], args := [d1, d2, d3] }
  | _ => none }
def fieldBlanksRow : OpenClaim := { program := "ytdkecmjoenfjdaadoor", sum := "907d3e52d16ef93103c7fffda8e8cdfa2bd1c8179686861fe09bd040a0e7fcde", func := "catchpit/catchpitlaw05.FieldBlanks", spec := "fieldBlanks", inPlace := ["internal/bytealg.IndexByteString", "internal/bytealg.IndexString"], unfollowed := true, recurses := true, named := ["internal/bytealg.MaxLen", "unicode/utf8.first", "unicode/utf8.acceptRanges", "catchpit/octet.ends"], apart := false, laid := [("unicode/utf8.acceptRanges", laid_unicode_utf8_acceptRanges), ("catchpit/octet.ends", laid_catchpit_octet_ends), ("unicode/utf8.first", laid_unicode_utf8_first)] }
def FieldBlanksSaid : Prop := fieldBlanksRow.holds Tryd.pinned (OpenSpec.ofChange fieldBlanksSpec)

/-- ITS FALSE NEIGHBOUR: 'it returns false'. Refute it at one input. -/
def fieldBlanksWrong : ChangeSpec := { name := "fieldBlanks", fn := fun _ => fun
  | [d1, d2, d3] => { results := [.lit (.bool false)], args := [d1, d2, d3] }
  | _ => none }
def FieldBlanksWrongFalsely : Prop := fieldBlanksRow.holds Tryd.pinned (OpenSpec.ofChange fieldBlanksWrong)

/-- 'catchpitlaw05.FieldPuts': WHATEVER THE INPUT: true; the input reads as it did. -/
def fieldPutsSpec : ChangeSpec := { name := "fieldPuts", fn := fun _ => fun
  | [d] => { results := [.lit (.bool true)], args := [d] }
  | _ => none }
def fieldPutsRow : OpenClaim := { program := "ytdkecmjoenfjdaadoor", sum := "907d3e52d16ef93103c7fffda8e8cdfa2bd1c8179686861fe09bd040a0e7fcde", func := "catchpit/catchpitlaw05.FieldPuts", spec := "fieldPuts", inPlace := ["internal/bytealg.IndexByteString", "internal/bytealg.IndexString"], unfollowed := true, recurses := true, named := ["internal/bytealg.MaxLen", "unicode/utf8.first", "unicode/utf8.acceptRanges", "catchpit/octet.ends"], apart := false, laid := [("unicode/utf8.acceptRanges", laid_unicode_utf8_acceptRanges), ("catchpit/octet.ends", laid_catchpit_octet_ends), ("unicode/utf8.first", laid_unicode_utf8_first)] }
def FieldPutsSaid : Prop := fieldPutsRow.holds Tryd.pinned (OpenSpec.ofChange fieldPutsSpec)

/-- ITS FALSE NEIGHBOUR: 'it returns false'. Refute it at one input. -/
def fieldPutsWrong : ChangeSpec := { name := "fieldPuts", fn := fun _ => fun
  | [d] => { results := [.lit (.bool false)], args := [d] }
  | _ => none }
def FieldPutsWrongFalsely : Prop := fieldPutsRow.holds Tryd.pinned (OpenSpec.ofChange fieldPutsWrong)

/-- 'catchpitlaw05.FieldGets': WHATEVER THE INPUT: true; the input reads as it did. -/
def fieldGetsSpec : ChangeSpec := { name := "fieldGets", fn := fun _ => fun
  | [d1, d2, d3] => { results := [.lit (.bool true)], args := [d1, d2, d3] }
  | _ => none }
def fieldGetsRow : OpenClaim := { program := "ytdkecmjoenfjdaadoor", sum := "907d3e52d16ef93103c7fffda8e8cdfa2bd1c8179686861fe09bd040a0e7fcde", func := "catchpit/catchpitlaw05.FieldGets", spec := "fieldGets", inPlace := ["internal/bytealg.IndexByteString", "internal/bytealg.IndexString"], unfollowed := true, recurses := true, named := ["internal/bytealg.MaxLen", "unicode/utf8.first", "unicode/utf8.acceptRanges", "catchpit/octet.ends"], apart := false, laid := [("unicode/utf8.acceptRanges", laid_unicode_utf8_acceptRanges), ("catchpit/octet.ends", laid_catchpit_octet_ends), ("unicode/utf8.first", laid_unicode_utf8_first)] }
def FieldGetsSaid : Prop := fieldGetsRow.holds Tryd.pinned (OpenSpec.ofChange fieldGetsSpec)

/-- ITS FALSE NEIGHBOUR: 'it returns false'. Refute it at one input. -/
def fieldGetsWrong : ChangeSpec := { name := "fieldGets", fn := fun _ => fun
  | [d1, d2, d3] => { results := [.lit (.bool false)], args := [d1, d2, d3] }
  | _ => none }
def FieldGetsWrongFalsely : Prop := fieldGetsRow.holds Tryd.pinned (OpenSpec.ofChange fieldGetsWrong)

/-- 'catchpitlaw05.FieldJoins': WHATEVER THE INPUT: true; the input reads as it did. -/
def fieldJoinsSpec : ChangeSpec := { name := "fieldJoins", fn := fun _ => fun
  | [d1, d2, d3] => { results := [.lit (.bool true)], args := [d1, d2, d3] }
  | _ => none }
def fieldJoinsRow : OpenClaim := { program := "ytdkecmjoenfjdaadoor", sum := "907d3e52d16ef93103c7fffda8e8cdfa2bd1c8179686861fe09bd040a0e7fcde", func := "catchpit/catchpitlaw05.FieldJoins", spec := "fieldJoins", inPlace := ["internal/bytealg.IndexByteString", "internal/bytealg.IndexString"], unfollowed := true, recurses := true, named := ["internal/bytealg.MaxLen", "unicode/utf8.first", "unicode/utf8.acceptRanges", "catchpit/octet.ends"], apart := false, laid := [("unicode/utf8.acceptRanges", laid_unicode_utf8_acceptRanges), ("catchpit/octet.ends", laid_catchpit_octet_ends), ("unicode/utf8.first", laid_unicode_utf8_first)] }
def FieldJoinsSaid : Prop := fieldJoinsRow.holds Tryd.pinned (OpenSpec.ofChange fieldJoinsSpec)

/-- ITS FALSE NEIGHBOUR: 'it returns false'. Refute it at one input. -/
def fieldJoinsWrong : ChangeSpec := { name := "fieldJoins", fn := fun _ => fun
  | [d1, d2, d3] => { results := [.lit (.bool false)], args := [d1, d2, d3] }
  | _ => none }
def FieldJoinsWrongFalsely : Prop := fieldJoinsRow.holds Tryd.pinned (OpenSpec.ofChange fieldJoinsWrong)

/-- 'catchpitlaw06.BlockScans': WHATEVER THE INPUT: true; the input reads as it did. -/
def blockScansSpec : ChangeSpec := { name := "blockScans", fn := fun _ => fun
  | [d] => { results := [.lit (.bool true)], args := [d] }
  | _ => none }
def blockScansRow : OpenClaim := { program := "ytdkecmjoenfjdaadoor", sum := "907d3e52d16ef93103c7fffda8e8cdfa2bd1c8179686861fe09bd040a0e7fcde", func := "catchpit/catchpitlaw06.BlockScans", spec := "blockScans", inPlace := ["internal/bytealg.IndexByteString", "internal/bytealg.IndexString"], unfollowed := true, recurses := true, named := ["catchpit/octet.ends", "internal/bytealg.MaxLen", "unicode/utf8.first", "unicode/utf8.acceptRanges"], apart := false, laid := [("unicode/utf8.acceptRanges", laid_unicode_utf8_acceptRanges), ("catchpit/octet.ends", laid_catchpit_octet_ends), ("unicode/utf8.first", laid_unicode_utf8_first)] }
def BlockScansSaid : Prop := blockScansRow.holds Tryd.pinned (OpenSpec.ofChange blockScansSpec)

/-- ITS FALSE NEIGHBOUR: 'it returns false'. Refute it at one input. -/
def blockScansWrong : ChangeSpec := { name := "blockScans", fn := fun _ => fun
  | [d] => { results := [.lit (.bool false)], args := [d] }
  | _ => none }
def BlockScansWrongFalsely : Prop := blockScansRow.holds Tryd.pinned (OpenSpec.ofChange blockScansWrong)

/-- 'catchpitlaw06.BlockCuts': WHATEVER THE INPUT: true; the input reads as it did. -/
def blockCutsSpec : ChangeSpec := { name := "blockCuts", fn := fun _ => fun
  | [d1, d2] => { results := [.lit (.bool true)], args := [d1, d2] }
  | _ => none }
def blockCutsRow : OpenClaim := { program := "ytdkecmjoenfjdaadoor", sum := "907d3e52d16ef93103c7fffda8e8cdfa2bd1c8179686861fe09bd040a0e7fcde", func := "catchpit/catchpitlaw06.BlockCuts", spec := "blockCuts", inPlace := ["internal/bytealg.IndexByteString", "internal/bytealg.IndexString"], unfollowed := true, recurses := true, named := ["catchpit/octet.ends", "internal/bytealg.MaxLen", "unicode/utf8.first", "unicode/utf8.acceptRanges"], apart := false, laid := [("unicode/utf8.acceptRanges", laid_unicode_utf8_acceptRanges), ("catchpit/octet.ends", laid_catchpit_octet_ends), ("unicode/utf8.first", laid_unicode_utf8_first)] }
def BlockCutsSaid : Prop := blockCutsRow.holds Tryd.pinned (OpenSpec.ofChange blockCutsSpec)

/-- ITS FALSE NEIGHBOUR: 'it returns false'. Refute it at one input. -/
def blockCutsWrong : ChangeSpec := { name := "blockCuts", fn := fun _ => fun
  | [d1, d2] => { results := [.lit (.bool false)], args := [d1, d2] }
  | _ => none }
def BlockCutsWrongFalsely : Prop := blockCutsRow.holds Tryd.pinned (OpenSpec.ofChange blockCutsWrong)

/-- 'catchpitlaw06.BlockLines': WHATEVER THE INPUT: true; the input reads as it did. -/
def blockLinesSpec : ChangeSpec := { name := "blockLines", fn := fun _ => fun
  | [d1, d2] => { results := [.lit (.bool true)], args := [d1, d2] }
  | _ => none }
def blockLinesRow : OpenClaim := { program := "ytdkecmjoenfjdaadoor", sum := "907d3e52d16ef93103c7fffda8e8cdfa2bd1c8179686861fe09bd040a0e7fcde", func := "catchpit/catchpitlaw06.BlockLines", spec := "blockLines", inPlace := ["internal/bytealg.IndexByteString", "internal/bytealg.IndexString"], unfollowed := true, recurses := true, named := ["catchpit/octet.ends", "internal/bytealg.MaxLen", "unicode/utf8.first", "unicode/utf8.acceptRanges"], apart := false, laid := [("unicode/utf8.acceptRanges", laid_unicode_utf8_acceptRanges), ("catchpit/octet.ends", laid_catchpit_octet_ends), ("unicode/utf8.first", laid_unicode_utf8_first)] }
def BlockLinesSaid : Prop := blockLinesRow.holds Tryd.pinned (OpenSpec.ofChange blockLinesSpec)

/-- ITS FALSE NEIGHBOUR: 'it returns false'. Refute it at one input. -/
def blockLinesWrong : ChangeSpec := { name := "blockLines", fn := fun _ => fun
  | [d1, d2] => { results := [.lit (.bool false)], args := [d1, d2] }
  | _ => none }
def BlockLinesWrongFalsely : Prop := blockLinesRow.holds Tryd.pinned (OpenSpec.ofChange blockLinesWrong)

/-- 'catchpitlaw06.BlockJoins': WHATEVER THE INPUT: true; the input reads as it did. -/
def blockJoinsSpec : ChangeSpec := { name := "blockJoins", fn := fun _ => fun
  | [d1, d2] => { results := [.lit (.bool true)], args := [d1, d2] }
  | _ => none }
def blockJoinsRow : OpenClaim := { program := "ytdkecmjoenfjdaadoor", sum := "907d3e52d16ef93103c7fffda8e8cdfa2bd1c8179686861fe09bd040a0e7fcde", func := "catchpit/catchpitlaw06.BlockJoins", spec := "blockJoins", inPlace := ["internal/bytealg.IndexByteString", "internal/bytealg.IndexString"], unfollowed := true, recurses := true, named := ["catchpit/octet.ends", "internal/bytealg.MaxLen", "unicode/utf8.first", "unicode/utf8.acceptRanges"], apart := false, laid := [("unicode/utf8.acceptRanges", laid_unicode_utf8_acceptRanges), ("catchpit/octet.ends", laid_catchpit_octet_ends), ("unicode/utf8.first", laid_unicode_utf8_first)] }
def BlockJoinsSaid : Prop := blockJoinsRow.holds Tryd.pinned (OpenSpec.ofChange blockJoinsSpec)

/-- ITS FALSE NEIGHBOUR: 'it returns false'. Refute it at one input. -/
def blockJoinsWrong : ChangeSpec := { name := "blockJoins", fn := fun _ => fun
  | [d1, d2] => { results := [.lit (.bool false)], args := [d1, d2] }
  | _ => none }
def BlockJoinsWrongFalsely : Prop := blockJoinsRow.holds Tryd.pinned (OpenSpec.ofChange blockJoinsWrong)

/-- 'catchpitlaw06.BlockPuts': WHATEVER THE INPUT: true; the input reads as it did. -/
def blockPutsSpec : ChangeSpec := { name := "blockPuts", fn := fun _ => fun
  | [d1, d2] => { results := [.lit (.bool true)], args := [d1, d2] }
  | _ => none }
def blockPutsRow : OpenClaim := { program := "ytdkecmjoenfjdaadoor", sum := "907d3e52d16ef93103c7fffda8e8cdfa2bd1c8179686861fe09bd040a0e7fcde", func := "catchpit/catchpitlaw06.BlockPuts", spec := "blockPuts", inPlace := ["internal/bytealg.IndexByteString", "internal/bytealg.IndexString", "internal/abi.NoEscape"], unfollowed := true, recurses := true, named := ["catchpit/octet.ends", "internal/bytealg.MaxLen", "unicode/utf8.first", "unicode/utf8.acceptRanges"], apart := false, laid := [("unicode/utf8.acceptRanges", laid_unicode_utf8_acceptRanges), ("catchpit/octet.ends", laid_catchpit_octet_ends), ("unicode/utf8.first", laid_unicode_utf8_first)] }
def BlockPutsSaid : Prop := blockPutsRow.holds Tryd.pinned (OpenSpec.ofChange blockPutsSpec)

/-- ITS FALSE NEIGHBOUR: 'it returns false'. Refute it at one input. -/
def blockPutsWrong : ChangeSpec := { name := "blockPuts", fn := fun _ => fun
  | [d1, d2] => { results := [.lit (.bool false)], args := [d1, d2] }
  | _ => none }
def BlockPutsWrongFalsely : Prop := blockPutsRow.holds Tryd.pinned (OpenSpec.ofChange blockPutsWrong)

/-- 'catchpitlaw06.BlockSizes': WHATEVER THE INPUT: true; the input reads as it did. -/
def blockSizesSpec : ChangeSpec := { name := "blockSizes", fn := fun _ => fun
  | [d] => { results := [.lit (.bool true)], args := [d] }
  | _ => none }
def blockSizesRow : OpenClaim := { program := "ytdkecmjoenfjdaadoor", sum := "907d3e52d16ef93103c7fffda8e8cdfa2bd1c8179686861fe09bd040a0e7fcde", func := "catchpit/catchpitlaw06.BlockSizes", spec := "blockSizes", inPlace := ["internal/bytealg.IndexByteString", "internal/bytealg.IndexString", "internal/abi.NoEscape"], unfollowed := true, recurses := true, named := ["catchpit/octet.ends", "internal/bytealg.MaxLen", "unicode/utf8.first", "unicode/utf8.acceptRanges"], apart := false, laid := [("unicode/utf8.acceptRanges", laid_unicode_utf8_acceptRanges), ("catchpit/octet.ends", laid_catchpit_octet_ends), ("unicode/utf8.first", laid_unicode_utf8_first)] }
def BlockSizesSaid : Prop := blockSizesRow.holds Tryd.pinned (OpenSpec.ofChange blockSizesSpec)

/-- ITS FALSE NEIGHBOUR: 'it returns false'. Refute it at one input. -/
def blockSizesWrong : ChangeSpec := { name := "blockSizes", fn := fun _ => fun
  | [d] => { results := [.lit (.bool false)], args := [d] }
  | _ => none }
def BlockSizesWrongFalsely : Prop := blockSizesRow.holds Tryd.pinned (OpenSpec.ofChange blockSizesWrong)

/- THE SECOND FORM. 'bulk': how many values and letters a reading holds, each counted each time it is reached (what is shared counts as often as it is met; a slice's spare places count too). A statement '..UptoSaid' is the law's where the arguments, and the package variables that the reading takes, are together of bulk at most 1048576: NARROWER than '..Said'. Prove '..Said' where nothing that the law and all that it calls make is longer than what came in: it says more and counts as full. Else prove '..UptoSaid'. A law counts once. -/
mutual
def uptoBulk {H : Type} : DataW H → Nat
  | .lit (.string bytes) => bytes.length + 1
  | .lit _ => 1
  | .nil => 1
  | .ptr d => uptoBulk d + 1
  | .slice elems spare => uptoBulkAll elems + uptoBulkAll spare + 1
  | .agg parts => uptoBulkAll parts + 1
  | .iface _ d => uptoBulk d + 1
  | .map entries => uptoBulkEntries entries + 1
  | .held _ => 1
def uptoBulkAll {H : Type} : List (DataW H) → Nat
  | [] => 0
  | d :: r => uptoBulk d + uptoBulkAll r
def uptoBulkEntries {H : Type} : List (Lit × DataW H) → Nat
  | [] => 0
  | x :: r => uptoBulkEntry x + uptoBulkEntries r
def uptoBulkEntry {H : Type} : Lit × DataW H → Nat
  | (.string bytes, d) => bytes.length + uptoBulk d + 1
  | (_, d) => uptoBulk d + 1
 end
def uptoSmall : (H : Type) → List (DataW H) → Bool := fun _ ds => decide (uptoBulkAll ds ≤ 1048576)
def OpenSpec.upto (s : _root_.Go.ChangeSpec) : _root_.Go.OpenSpec := { _root_.Go.OpenSpec.ofChange s with cond := some uptoSmall }

/-- 'catchpitlaw05.FieldParses', WHERE WHAT IT READS IS OF BULK AT MOST 1048576: true; the input reads as it did. -/
def fieldParsesUptoRow : OpenClaim := { program := "ytdkecmjoenfjdaadoor", sum := "907d3e52d16ef93103c7fffda8e8cdfa2bd1c8179686861fe09bd040a0e7fcde", func := "catchpit/catchpitlaw05.FieldParses", spec := "fieldParses", inPlace := ["internal/bytealg.IndexByteString", "internal/bytealg.IndexString"], unfollowed := true, recurses := true, named := ["internal/bytealg.MaxLen", "unicode/utf8.first", "unicode/utf8.acceptRanges", "catchpit/octet.ends"], apart := false, laid := [("unicode/utf8.acceptRanges", laid_unicode_utf8_acceptRanges), ("catchpit/octet.ends", laid_catchpit_octet_ends), ("unicode/utf8.first", laid_unicode_utf8_first)], narrowed := true }
def FieldParsesUptoSaid : Prop := fieldParsesUptoRow.holds Tryd.pinned (OpenSpec.upto fieldParsesSpec)

/-- 'catchpitlaw05.FieldBlanks', WHERE WHAT IT READS IS OF BULK AT MOST 1048576: true; the input reads as it did. -/
def fieldBlanksUptoRow : OpenClaim := { program := "ytdkecmjoenfjdaadoor", sum := "907d3e52d16ef93103c7fffda8e8cdfa2bd1c8179686861fe09bd040a0e7fcde", func := "catchpit/catchpitlaw05.FieldBlanks", spec := "fieldBlanks", inPlace := ["internal/bytealg.IndexByteString", "internal/bytealg.IndexString"], unfollowed := true, recurses := true, named := ["internal/bytealg.MaxLen", "unicode/utf8.first", "unicode/utf8.acceptRanges", "catchpit/octet.ends"], apart := false, laid := [("unicode/utf8.acceptRanges", laid_unicode_utf8_acceptRanges), ("catchpit/octet.ends", laid_catchpit_octet_ends), ("unicode/utf8.first", laid_unicode_utf8_first)], narrowed := true }
def FieldBlanksUptoSaid : Prop := fieldBlanksUptoRow.holds Tryd.pinned (OpenSpec.upto fieldBlanksSpec)

/-- 'catchpitlaw05.FieldPuts', WHERE WHAT IT READS IS OF BULK AT MOST 1048576: true; the input reads as it did. -/
def fieldPutsUptoRow : OpenClaim := { program := "ytdkecmjoenfjdaadoor", sum := "907d3e52d16ef93103c7fffda8e8cdfa2bd1c8179686861fe09bd040a0e7fcde", func := "catchpit/catchpitlaw05.FieldPuts", spec := "fieldPuts", inPlace := ["internal/bytealg.IndexByteString", "internal/bytealg.IndexString"], unfollowed := true, recurses := true, named := ["internal/bytealg.MaxLen", "unicode/utf8.first", "unicode/utf8.acceptRanges", "catchpit/octet.ends"], apart := false, laid := [("unicode/utf8.acceptRanges", laid_unicode_utf8_acceptRanges), ("catchpit/octet.ends", laid_catchpit_octet_ends), ("unicode/utf8.first", laid_unicode_utf8_first)], narrowed := true }
def FieldPutsUptoSaid : Prop := fieldPutsUptoRow.holds Tryd.pinned (OpenSpec.upto fieldPutsSpec)

/-- 'catchpitlaw05.FieldGets', WHERE WHAT IT READS IS OF BULK AT MOST 1048576: true; the input reads as it did. -/
def fieldGetsUptoRow : OpenClaim := { program := "ytdkecmjoenfjdaadoor", sum := "907d3e52d16ef93103c7fffda8e8cdfa2bd1c8179686861fe09bd040a0e7fcde", func := "catchpit/catchpitlaw05.FieldGets", spec := "fieldGets", inPlace := ["internal/bytealg.IndexByteString", "internal/bytealg.IndexString"], unfollowed := true, recurses := true, named := ["internal/bytealg.MaxLen", "unicode/utf8.first", "unicode/utf8.acceptRanges", "catchpit/octet.ends"], apart := false, laid := [("unicode/utf8.acceptRanges", laid_unicode_utf8_acceptRanges), ("catchpit/octet.ends", laid_catchpit_octet_ends), ("unicode/utf8.first", laid_unicode_utf8_first)], narrowed := true }
def FieldGetsUptoSaid : Prop := fieldGetsUptoRow.holds Tryd.pinned (OpenSpec.upto fieldGetsSpec)

/-- 'catchpitlaw05.FieldJoins', WHERE WHAT IT READS IS OF BULK AT MOST 1048576: true; the input reads as it did. -/
def fieldJoinsUptoRow : OpenClaim := { program := "ytdkecmjoenfjdaadoor", sum := "907d3e52d16ef93103c7fffda8e8cdfa2bd1c8179686861fe09bd040a0e7fcde", func := "catchpit/catchpitlaw05.FieldJoins", spec := "fieldJoins", inPlace := ["internal/bytealg.IndexByteString", "internal/bytealg.IndexString"], unfollowed := true, recurses := true, named := ["internal/bytealg.MaxLen", "unicode/utf8.first", "unicode/utf8.acceptRanges", "catchpit/octet.ends"], apart := false, laid := [("unicode/utf8.acceptRanges", laid_unicode_utf8_acceptRanges), ("catchpit/octet.ends", laid_catchpit_octet_ends), ("unicode/utf8.first", laid_unicode_utf8_first)], narrowed := true }
def FieldJoinsUptoSaid : Prop := fieldJoinsUptoRow.holds Tryd.pinned (OpenSpec.upto fieldJoinsSpec)

/-- 'catchpitlaw06.BlockScans', WHERE WHAT IT READS IS OF BULK AT MOST 1048576: true; the input reads as it did. -/
def blockScansUptoRow : OpenClaim := { program := "ytdkecmjoenfjdaadoor", sum := "907d3e52d16ef93103c7fffda8e8cdfa2bd1c8179686861fe09bd040a0e7fcde", func := "catchpit/catchpitlaw06.BlockScans", spec := "blockScans", inPlace := ["internal/bytealg.IndexByteString", "internal/bytealg.IndexString"], unfollowed := true, recurses := true, named := ["catchpit/octet.ends", "internal/bytealg.MaxLen", "unicode/utf8.first", "unicode/utf8.acceptRanges"], apart := false, laid := [("unicode/utf8.acceptRanges", laid_unicode_utf8_acceptRanges), ("catchpit/octet.ends", laid_catchpit_octet_ends), ("unicode/utf8.first", laid_unicode_utf8_first)], narrowed := true }
def BlockScansUptoSaid : Prop := blockScansUptoRow.holds Tryd.pinned (OpenSpec.upto blockScansSpec)

/-- 'catchpitlaw06.BlockCuts', WHERE WHAT IT READS IS OF BULK AT MOST 1048576: true; the input reads as it did. -/
def blockCutsUptoRow : OpenClaim := { program := "ytdkecmjoenfjdaadoor", sum := "907d3e52d16ef93103c7fffda8e8cdfa2bd1c8179686861fe09bd040a0e7fcde", func := "catchpit/catchpitlaw06.BlockCuts", spec := "blockCuts", inPlace := ["internal/bytealg.IndexByteString", "internal/bytealg.IndexString"], unfollowed := true, recurses := true, named := ["catchpit/octet.ends", "internal/bytealg.MaxLen", "unicode/utf8.first", "unicode/utf8.acceptRanges"], apart := false, laid := [("unicode/utf8.acceptRanges", laid_unicode_utf8_acceptRanges), ("catchpit/octet.ends", laid_catchpit_octet_ends), ("unicode/utf8.first", laid_unicode_utf8_first)], narrowed := true }
def BlockCutsUptoSaid : Prop := blockCutsUptoRow.holds Tryd.pinned (OpenSpec.upto blockCutsSpec)

/-- 'catchpitlaw06.BlockLines', WHERE WHAT IT READS IS OF BULK AT MOST 1048576: true; the input reads as it did. -/
def blockLinesUptoRow : OpenClaim := { program := "ytdkecmjoenfjdaadoor", sum := "907d3e52d16ef93103c7fffda8e8cdfa2bd1c8179686861fe09bd040a0e7fcde", func := "catchpit/catchpitlaw06.BlockLines", spec := "blockLines", inPlace := ["internal/bytealg.IndexByteString", "internal/bytealg.IndexString"], unfollowed := true, recurses := true, named := ["catchpit/octet.ends", "internal/bytealg.MaxLen", "unicode/utf8.first", "unicode/utf8.acceptRanges"], apart := false, laid := [("unicode/utf8.acceptRanges", laid_unicode_utf8_acceptRanges), ("catchpit/octet.ends", laid_catchpit_octet_ends), ("unicode/utf8.first", laid_unicode_utf8_first)], narrowed := true }
def BlockLinesUptoSaid : Prop := blockLinesUptoRow.holds Tryd.pinned (OpenSpec.upto blockLinesSpec)

/-- 'catchpitlaw06.BlockJoins', WHERE WHAT IT READS IS OF BULK AT MOST 1048576: true; the input reads as it did. -/
def blockJoinsUptoRow : OpenClaim := { program := "ytdkecmjoenfjdaadoor", sum := "907d3e52d16ef93103c7fffda8e8cdfa2bd1c8179686861fe09bd040a0e7fcde", func := "catchpit/catchpitlaw06.BlockJoins", spec := "blockJoins", inPlace := ["internal/bytealg.IndexByteString", "internal/bytealg.IndexString"], unfollowed := true, recurses := true, named := ["catchpit/octet.ends", "internal/bytealg.MaxLen", "unicode/utf8.first", "unicode/utf8.acceptRanges"], apart := false, laid := [("unicode/utf8.acceptRanges", laid_unicode_utf8_acceptRanges), ("catchpit/octet.ends", laid_catchpit_octet_ends), ("unicode/utf8.first", laid_unicode_utf8_first)], narrowed := true }
def BlockJoinsUptoSaid : Prop := blockJoinsUptoRow.holds Tryd.pinned (OpenSpec.upto blockJoinsSpec)

/-- 'catchpitlaw06.BlockPuts', WHERE WHAT IT READS IS OF BULK AT MOST 1048576: true; the input reads as it did. -/
def blockPutsUptoRow : OpenClaim := { program := "ytdkecmjoenfjdaadoor", sum := "907d3e52d16ef93103c7fffda8e8cdfa2bd1c8179686861fe09bd040a0e7fcde", func := "catchpit/catchpitlaw06.BlockPuts", spec := "blockPuts", inPlace := ["internal/bytealg.IndexByteString", "internal/bytealg.IndexString", "internal/abi.NoEscape"], unfollowed := true, recurses := true, named := ["catchpit/octet.ends", "internal/bytealg.MaxLen", "unicode/utf8.first", "unicode/utf8.acceptRanges"], apart := false, laid := [("unicode/utf8.acceptRanges", laid_unicode_utf8_acceptRanges), ("catchpit/octet.ends", laid_catchpit_octet_ends), ("unicode/utf8.first", laid_unicode_utf8_first)], narrowed := true }
def BlockPutsUptoSaid : Prop := blockPutsUptoRow.holds Tryd.pinned (OpenSpec.upto blockPutsSpec)

/-- 'catchpitlaw06.BlockSizes', WHERE WHAT IT READS IS OF BULK AT MOST 1048576: true; the input reads as it did. -/
def blockSizesUptoRow : OpenClaim := { program := "ytdkecmjoenfjdaadoor", sum := "907d3e52d16ef93103c7fffda8e8cdfa2bd1c8179686861fe09bd040a0e7fcde", func := "catchpit/catchpitlaw06.BlockSizes", spec := "blockSizes", inPlace := ["internal/bytealg.IndexByteString", "internal/bytealg.IndexString", "internal/abi.NoEscape"], unfollowed := true, recurses := true, named := ["catchpit/octet.ends", "internal/bytealg.MaxLen", "unicode/utf8.first", "unicode/utf8.acceptRanges"], apart := false, laid := [("unicode/utf8.acceptRanges", laid_unicode_utf8_acceptRanges), ("catchpit/octet.ends", laid_catchpit_octet_ends), ("unicode/utf8.first", laid_unicode_utf8_first)], narrowed := true }
def BlockSizesUptoSaid : Prop := blockSizesUptoRow.holds Tryd.pinned (OpenSpec.upto blockSizesSpec)

end Rows
end Go.Proofs.YtdkecmjoenfjdaaDoor
