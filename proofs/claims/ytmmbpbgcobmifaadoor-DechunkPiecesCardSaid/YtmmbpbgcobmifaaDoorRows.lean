/-
  NARROWER THAN 'FOR EVERY INPUT', by the rows' own cells (each row's printed sentence says how): DechunkStays: laid · DechunkCounts: laid · DechunkBytes: laid · DechunkPieces: laid · BodyPuts: laid · BodyLimits: laid · BodyExtensions: laid · BodyChunkings: laid · BodyCuts: laid · BodyScans: laid.
  DERIVED. THE GIVEN ROWS OF THIS SEAT. 10 by the template 'for every input the law returns true; each argument reads behind the call as it read before'; 0 by the template 'total and deterministic' (their statements: YtmmbpbgcobmifaaDoorTotals.lean).
  GIVEN WITH THE SEED: the statements are not yours to turn. If you find one false, say at which input.
  Laid BY PROGRAM, IN A SANDBOX (cutbox-rows.mjs): the forced cells as the released guide's own fill.sh prints them over the translation 4bb942945d42aafe… (all of the seat's roots in one cut). By AI agents, Wed Nov 11 2026. No macro, syntax, notation, axiom, sorry.
-/
import Derived.Test.YtmmbpbgcobmifaaDoorChecked
import GoSem.PinnedTables
import GoSem.Claim
import GoSem.ClaimJoined
import GoSem.ClaimMapViews
import Derived.JoinedTies
import Derived.KernelRfl
namespace Go.Proofs.YtmmbpbgcobmifaaDoor
/- THE CELL 'sum', in the pinned program and in every row, IS THE sha256 OF THE DUMP (.gsa) THAT YtmmbpbgcobmifaaDoorProg.lean LOADS. Nothing in Lean hashes anything: it is a label: what it is worth is what the hold of that sum in a sandbox is worth. -/
noncomputable def Tryd.pinned : Pinned := { name := "ytmmbpbgcobmifaadoor", sum := "4bb942945d42aafeea1a22d00ebf4309205649ede0501de389f2ef404c00ec8e", checked := Tryd.checked }
namespace Rows
def none {H : Type} : Left H := { results := [], args := [] }

/- WHAT THE LISTED PACKAGE-LEVEL VARIABLES READ AS WHEN THE CALL BEGINS. Each datum BY PROGRAM (the guide's laid-datum.mjs) off the statement by which the dump's own 'gosem.cut.vars' lays the variable. In a bare row this is a premise. The card (YtmmbpbgcobmifaaDoorCards.lean) ties it to the program's text. -/
def laid_unicode_utf8_acceptRanges {H : Type} : DataW H := .agg [.agg [.lit (.int .u8 128), .lit (.int .u8 191)], .agg [.lit (.int .u8 160), .lit (.int .u8 191)], .agg [.lit (.int .u8 128), .lit (.int .u8 159)], .agg [.lit (.int .u8 144), .lit (.int .u8 191)], .agg [.lit (.int .u8 128), .lit (.int .u8 143)], .agg [.lit (.int .u8 0), .lit (.int .u8 0)], .agg [.lit (.int .u8 0), .lit (.int .u8 0)], .agg [.lit (.int .u8 0), .lit (.int .u8 0)], .agg [.lit (.int .u8 0), .lit (.int .u8 0)], .agg [.lit (.int .u8 0), .lit (.int .u8 0)], .agg [.lit (.int .u8 0), .lit (.int .u8 0)], .agg [.lit (.int .u8 0), .lit (.int .u8 0)], .agg [.lit (.int .u8 0), .lit (.int .u8 0)], .agg [.lit (.int .u8 0), .lit (.int .u8 0)], .agg [.lit (.int .u8 0), .lit (.int .u8 0)], .agg [.lit (.int .u8 0), .lit (.int .u8 0)]]
def laid_catchpit_octet_ends {H : Type} : DataW H := .agg [.agg [.lit (.int .u8 48), .lit (.int .u8 57)], .agg [.lit (.int .u8 65), .lit (.int .u8 90)], .agg [.lit (.int .u8 97), .lit (.int .u8 122)]]
/-- One of Go's own tables, pinned by name: the form's constant. -/
def laid_unicode_utf8_first : DataW Unit := Go.Pinned.utf8First

/-- 'catchpitlaw09.DechunkStays': WHATEVER THE INPUT: true; the input reads as it did. -/
def dechunkStaysSpec : ChangeSpec := { name := "dechunkStays", fn := fun _ => fun
  | [d1, d2, d3] => { results := [.lit (.bool true)], args := [d1, d2, d3] }
  | _ => none }
def dechunkStaysRow : OpenClaim := { program := "ytmmbpbgcobmifaadoor", sum := "4bb942945d42aafeea1a22d00ebf4309205649ede0501de389f2ef404c00ec8e", func := "catchpit/catchpitlaw09.DechunkStays", spec := "dechunkStays", inPlace := ["internal/bytealg.IndexByteString", "internal/bytealg.IndexString"], unfollowed := true, recurses := true, named := ["catchpit/octet.ends", "internal/bytealg.MaxLen", "unicode/utf8.first", "unicode/utf8.acceptRanges"], apart := false, laid := [("unicode/utf8.acceptRanges", laid_unicode_utf8_acceptRanges), ("catchpit/octet.ends", laid_catchpit_octet_ends), ("unicode/utf8.first", laid_unicode_utf8_first)] }
def DechunkStaysSaid : Prop := dechunkStaysRow.holds Tryd.pinned (OpenSpec.ofChange dechunkStaysSpec)

/-- ITS FALSE NEIGHBOUR: 'it returns false'. Refute it at one input. -/
def dechunkStaysWrong : ChangeSpec := { name := "dechunkStays", fn := fun _ => fun
  | [d1, d2, d3] => { results := [.lit (.bool false)], args := [d1, d2, d3] }
  | _ => none }
def DechunkStaysWrongFalsely : Prop := dechunkStaysRow.holds Tryd.pinned (OpenSpec.ofChange dechunkStaysWrong)

/-- 'catchpitlaw09.DechunkCounts': WHATEVER THE INPUT: true; the input reads as it did. -/
def dechunkCountsSpec : ChangeSpec := { name := "dechunkCounts", fn := fun _ => fun
  | [d1, d2] => { results := [.lit (.bool true)], args := [d1, d2] }
  | _ => none }
def dechunkCountsRow : OpenClaim := { program := "ytmmbpbgcobmifaadoor", sum := "4bb942945d42aafeea1a22d00ebf4309205649ede0501de389f2ef404c00ec8e", func := "catchpit/catchpitlaw09.DechunkCounts", spec := "dechunkCounts", inPlace := ["internal/bytealg.IndexByteString", "internal/bytealg.IndexString"], unfollowed := true, recurses := true, named := ["catchpit/octet.ends", "internal/bytealg.MaxLen", "unicode/utf8.first", "unicode/utf8.acceptRanges"], apart := false, laid := [("unicode/utf8.acceptRanges", laid_unicode_utf8_acceptRanges), ("catchpit/octet.ends", laid_catchpit_octet_ends), ("unicode/utf8.first", laid_unicode_utf8_first)] }
def DechunkCountsSaid : Prop := dechunkCountsRow.holds Tryd.pinned (OpenSpec.ofChange dechunkCountsSpec)

/-- ITS FALSE NEIGHBOUR: 'it returns false'. Refute it at one input. -/
def dechunkCountsWrong : ChangeSpec := { name := "dechunkCounts", fn := fun _ => fun
  | [d1, d2] => { results := [.lit (.bool false)], args := [d1, d2] }
  | _ => none }
def DechunkCountsWrongFalsely : Prop := dechunkCountsRow.holds Tryd.pinned (OpenSpec.ofChange dechunkCountsWrong)

/-- 'catchpitlaw09.DechunkBytes': WHATEVER THE INPUT: true; the input reads as it did. -/
def dechunkBytesSpec : ChangeSpec := { name := "dechunkBytes", fn := fun _ => fun
  | [d1, d2] => { results := [.lit (.bool true)], args := [d1, d2] }
  | _ => none }
def dechunkBytesRow : OpenClaim := { program := "ytmmbpbgcobmifaadoor", sum := "4bb942945d42aafeea1a22d00ebf4309205649ede0501de389f2ef404c00ec8e", func := "catchpit/catchpitlaw09.DechunkBytes", spec := "dechunkBytes", inPlace := ["internal/bytealg.IndexByteString", "internal/bytealg.IndexString"], unfollowed := true, recurses := true, named := ["catchpit/octet.ends", "internal/bytealg.MaxLen", "unicode/utf8.first", "unicode/utf8.acceptRanges"], apart := false, laid := [("unicode/utf8.acceptRanges", laid_unicode_utf8_acceptRanges), ("catchpit/octet.ends", laid_catchpit_octet_ends), ("unicode/utf8.first", laid_unicode_utf8_first)] }
def DechunkBytesSaid : Prop := dechunkBytesRow.holds Tryd.pinned (OpenSpec.ofChange dechunkBytesSpec)

/-- ITS FALSE NEIGHBOUR: 'it returns false'. Refute it at one input. -/
def dechunkBytesWrong : ChangeSpec := { name := "dechunkBytes", fn := fun _ => fun
  | [d1, d2] => { results := [.lit (.bool false)], args := [d1, d2] }
  | _ => none }
def DechunkBytesWrongFalsely : Prop := dechunkBytesRow.holds Tryd.pinned (OpenSpec.ofChange dechunkBytesWrong)

/-- 'catchpitlaw09.DechunkPieces': WHATEVER THE INPUT: true; the input reads as it did. -/
def dechunkPiecesSpec : ChangeSpec := { name := "dechunkPieces", fn := fun _ => fun
  | [d1, d2] => { results := [.lit (.bool true)], args := [d1, d2] }
  | _ => none }
def dechunkPiecesRow : OpenClaim := { program := "ytmmbpbgcobmifaadoor", sum := "4bb942945d42aafeea1a22d00ebf4309205649ede0501de389f2ef404c00ec8e", func := "catchpit/catchpitlaw09.DechunkPieces", spec := "dechunkPieces", inPlace := ["internal/bytealg.IndexByteString", "internal/bytealg.IndexString"], unfollowed := true, recurses := true, named := ["catchpit/octet.ends", "internal/bytealg.MaxLen", "unicode/utf8.first", "unicode/utf8.acceptRanges"], apart := false, laid := [("unicode/utf8.acceptRanges", laid_unicode_utf8_acceptRanges), ("catchpit/octet.ends", laid_catchpit_octet_ends), ("unicode/utf8.first", laid_unicode_utf8_first)] }
def DechunkPiecesSaid : Prop := dechunkPiecesRow.holds Tryd.pinned (OpenSpec.ofChange dechunkPiecesSpec)

/-- ITS FALSE NEIGHBOUR: 'it returns false'. Refute it at one input. -/
def dechunkPiecesWrong : ChangeSpec := { name := "dechunkPieces", fn := fun _ => fun
  | [d1, d2] => { results := [.lit (.bool false)], args := [d1, d2] }
  | _ => none }
def DechunkPiecesWrongFalsely : Prop := dechunkPiecesRow.holds Tryd.pinned (OpenSpec.ofChange dechunkPiecesWrong)

/-- 'catchpitlaw08.BodyPuts': WHATEVER THE INPUT: true; the input reads as it did. -/
def bodyPutsSpec : ChangeSpec := { name := "bodyPuts", fn := fun _ => fun
  | [d1, d2, d3] => { results := [.lit (.bool true)], args := [d1, d2, d3] }
  | _ => none }
def bodyPutsRow : OpenClaim := { program := "ytmmbpbgcobmifaadoor", sum := "4bb942945d42aafeea1a22d00ebf4309205649ede0501de389f2ef404c00ec8e", func := "catchpit/catchpitlaw08.BodyPuts", spec := "bodyPuts", inPlace := ["internal/bytealg.IndexByteString", "internal/bytealg.IndexString", "internal/bytealg.IndexByte"], unfollowed := true, recurses := true, named := ["catchpit/octet.ends", "internal/bytealg.MaxLen", "unicode/utf8.first", "unicode/utf8.acceptRanges"], apart := false, laid := [("unicode/utf8.acceptRanges", laid_unicode_utf8_acceptRanges), ("catchpit/octet.ends", laid_catchpit_octet_ends), ("unicode/utf8.first", laid_unicode_utf8_first)] }
def BodyPutsSaid : Prop := bodyPutsRow.holds Tryd.pinned (OpenSpec.ofChange bodyPutsSpec)

/-- ITS FALSE NEIGHBOUR: 'it returns false'. Refute it at one input. -/
def bodyPutsWrong : ChangeSpec := { name := "bodyPuts", fn := fun _ => fun
  | [d1, d2, d3] => { results := [.lit (.bool false)], args := [d1, d2, d3] }
  | _ => none }
def BodyPutsWrongFalsely : Prop := bodyPutsRow.holds Tryd.pinned (OpenSpec.ofChange bodyPutsWrong)

/-- 'catchpitlaw08.BodyLimits': WHATEVER THE INPUT: true; the input reads as it did. -/
def bodyLimitsSpec : ChangeSpec := { name := "bodyLimits", fn := fun _ => fun
  | [d1, d2, d3] => { results := [.lit (.bool true)], args := [d1, d2, d3] }
  | _ => none }
def bodyLimitsRow : OpenClaim := { program := "ytmmbpbgcobmifaadoor", sum := "4bb942945d42aafeea1a22d00ebf4309205649ede0501de389f2ef404c00ec8e", func := "catchpit/catchpitlaw08.BodyLimits", spec := "bodyLimits", inPlace := ["internal/bytealg.IndexByteString", "internal/bytealg.IndexString", "internal/bytealg.IndexByte"], unfollowed := true, recurses := true, named := ["catchpit/octet.ends", "internal/bytealg.MaxLen", "unicode/utf8.first", "unicode/utf8.acceptRanges"], apart := false, laid := [("unicode/utf8.acceptRanges", laid_unicode_utf8_acceptRanges), ("catchpit/octet.ends", laid_catchpit_octet_ends), ("unicode/utf8.first", laid_unicode_utf8_first)] }
def BodyLimitsSaid : Prop := bodyLimitsRow.holds Tryd.pinned (OpenSpec.ofChange bodyLimitsSpec)

/-- ITS FALSE NEIGHBOUR: 'it returns false'. Refute it at one input. -/
def bodyLimitsWrong : ChangeSpec := { name := "bodyLimits", fn := fun _ => fun
  | [d1, d2, d3] => { results := [.lit (.bool false)], args := [d1, d2, d3] }
  | _ => none }
def BodyLimitsWrongFalsely : Prop := bodyLimitsRow.holds Tryd.pinned (OpenSpec.ofChange bodyLimitsWrong)

/-- 'catchpitlaw08.BodyExtensions': WHATEVER THE INPUT: true; the input reads as it did. -/
def bodyExtensionsSpec : ChangeSpec := { name := "bodyExtensions", fn := fun _ => fun
  | [d1, d2, d3] => { results := [.lit (.bool true)], args := [d1, d2, d3] }
  | _ => none }
def bodyExtensionsRow : OpenClaim := { program := "ytmmbpbgcobmifaadoor", sum := "4bb942945d42aafeea1a22d00ebf4309205649ede0501de389f2ef404c00ec8e", func := "catchpit/catchpitlaw08.BodyExtensions", spec := "bodyExtensions", inPlace := ["internal/bytealg.IndexByteString", "internal/bytealg.IndexString", "internal/bytealg.IndexByte"], unfollowed := true, recurses := true, named := ["catchpit/octet.ends", "internal/bytealg.MaxLen", "unicode/utf8.first", "unicode/utf8.acceptRanges"], apart := false, laid := [("unicode/utf8.acceptRanges", laid_unicode_utf8_acceptRanges), ("catchpit/octet.ends", laid_catchpit_octet_ends), ("unicode/utf8.first", laid_unicode_utf8_first)] }
def BodyExtensionsSaid : Prop := bodyExtensionsRow.holds Tryd.pinned (OpenSpec.ofChange bodyExtensionsSpec)

/-- ITS FALSE NEIGHBOUR: 'it returns false'. Refute it at one input. -/
def bodyExtensionsWrong : ChangeSpec := { name := "bodyExtensions", fn := fun _ => fun
  | [d1, d2, d3] => { results := [.lit (.bool false)], args := [d1, d2, d3] }
  | _ => none }
def BodyExtensionsWrongFalsely : Prop := bodyExtensionsRow.holds Tryd.pinned (OpenSpec.ofChange bodyExtensionsWrong)

/-- 'catchpitlaw08.BodyChunkings': WHATEVER THE INPUT: true; the input reads as it did. -/
def bodyChunkingsSpec : ChangeSpec := { name := "bodyChunkings", fn := fun _ => fun
  | [d1, d2] => { results := [.lit (.bool true)], args := [d1, d2] }
  | _ => none }
def bodyChunkingsRow : OpenClaim := { program := "ytmmbpbgcobmifaadoor", sum := "4bb942945d42aafeea1a22d00ebf4309205649ede0501de389f2ef404c00ec8e", func := "catchpit/catchpitlaw08.BodyChunkings", spec := "bodyChunkings", inPlace := ["internal/bytealg.IndexByteString", "internal/bytealg.IndexString", "internal/bytealg.IndexByte"], unfollowed := true, recurses := true, named := ["catchpit/octet.ends", "internal/bytealg.MaxLen", "unicode/utf8.first", "unicode/utf8.acceptRanges"], apart := false, laid := [("unicode/utf8.acceptRanges", laid_unicode_utf8_acceptRanges), ("catchpit/octet.ends", laid_catchpit_octet_ends), ("unicode/utf8.first", laid_unicode_utf8_first)] }
def BodyChunkingsSaid : Prop := bodyChunkingsRow.holds Tryd.pinned (OpenSpec.ofChange bodyChunkingsSpec)

/-- ITS FALSE NEIGHBOUR: 'it returns false'. Refute it at one input. -/
def bodyChunkingsWrong : ChangeSpec := { name := "bodyChunkings", fn := fun _ => fun
  | [d1, d2] => { results := [.lit (.bool false)], args := [d1, d2] }
  | _ => none }
def BodyChunkingsWrongFalsely : Prop := bodyChunkingsRow.holds Tryd.pinned (OpenSpec.ofChange bodyChunkingsWrong)

/-- 'catchpitlaw08.BodyCuts': WHATEVER THE INPUT: true; the input reads as it did. -/
def bodyCutsSpec : ChangeSpec := { name := "bodyCuts", fn := fun _ => fun
  | [d1, d2, d3] => { results := [.lit (.bool true)], args := [d1, d2, d3] }
  | _ => none }
def bodyCutsRow : OpenClaim := { program := "ytmmbpbgcobmifaadoor", sum := "4bb942945d42aafeea1a22d00ebf4309205649ede0501de389f2ef404c00ec8e", func := "catchpit/catchpitlaw08.BodyCuts", spec := "bodyCuts", inPlace := ["internal/bytealg.IndexByteString", "internal/bytealg.IndexString", "internal/bytealg.IndexByte"], unfollowed := true, recurses := true, named := ["catchpit/octet.ends", "internal/bytealg.MaxLen", "unicode/utf8.first", "unicode/utf8.acceptRanges"], apart := false, laid := [("unicode/utf8.acceptRanges", laid_unicode_utf8_acceptRanges), ("catchpit/octet.ends", laid_catchpit_octet_ends), ("unicode/utf8.first", laid_unicode_utf8_first)] }
def BodyCutsSaid : Prop := bodyCutsRow.holds Tryd.pinned (OpenSpec.ofChange bodyCutsSpec)

/-- ITS FALSE NEIGHBOUR: 'it returns false'. Refute it at one input. -/
def bodyCutsWrong : ChangeSpec := { name := "bodyCuts", fn := fun _ => fun
  | [d1, d2, d3] => { results := [.lit (.bool false)], args := [d1, d2, d3] }
  | _ => none }
def BodyCutsWrongFalsely : Prop := bodyCutsRow.holds Tryd.pinned (OpenSpec.ofChange bodyCutsWrong)

/-- 'catchpitlaw08.BodyScans': WHATEVER THE INPUT: true; the input reads as it did. -/
def bodyScansSpec : ChangeSpec := { name := "bodyScans", fn := fun _ => fun
  | [d1, d2] => { results := [.lit (.bool true)], args := [d1, d2] }
  | _ => none }
def bodyScansRow : OpenClaim := { program := "ytmmbpbgcobmifaadoor", sum := "4bb942945d42aafeea1a22d00ebf4309205649ede0501de389f2ef404c00ec8e", func := "catchpit/catchpitlaw08.BodyScans", spec := "bodyScans", inPlace := ["internal/bytealg.IndexByteString", "internal/bytealg.IndexString", "internal/bytealg.IndexByte"], unfollowed := true, recurses := true, named := ["catchpit/octet.ends", "internal/bytealg.MaxLen", "unicode/utf8.first", "unicode/utf8.acceptRanges"], apart := false, laid := [("unicode/utf8.acceptRanges", laid_unicode_utf8_acceptRanges), ("catchpit/octet.ends", laid_catchpit_octet_ends), ("unicode/utf8.first", laid_unicode_utf8_first)] }
def BodyScansSaid : Prop := bodyScansRow.holds Tryd.pinned (OpenSpec.ofChange bodyScansSpec)

/-- ITS FALSE NEIGHBOUR: 'it returns false'. Refute it at one input. -/
def bodyScansWrong : ChangeSpec := { name := "bodyScans", fn := fun _ => fun
  | [d1, d2] => { results := [.lit (.bool false)], args := [d1, d2] }
  | _ => none }
def BodyScansWrongFalsely : Prop := bodyScansRow.holds Tryd.pinned (OpenSpec.ofChange bodyScansWrong)

/- THE SECOND FORM. 'bulk': how many values and letters a reading holds, each counted each time it is reached (what is shared counts as often as it is met; a slice's spare places count too). A statement '..UptoSaid' is the law's where the arguments, and the package variables that the reading takes, are together of bulk at most 1048576: NARROWER than '..Said'. Prove '..Said' where nothing that the law and all that it calls make is longer than what came in: it says more and counts as full. Else prove '..UptoSaid'. A law counts once. -/
mutual
def uptoBulk {H : Type} : DataW H → Nat
  | .lit (.string bytes) => bytes.length + 1
  | .lit _ => 1
  | .nil => 1
  | .ptr d => uptoBulk d + 1
  | .slice elems spare => uptoBulkAll elems + uptoBulkAll spare + 1
  | .agg parts => uptoBulkAll parts + 1
  | .iface _ d => uptoBulk d + 1
  | .map entries => uptoBulkEntries entries + 1
  | .held _ => 1
def uptoBulkAll {H : Type} : List (DataW H) → Nat
  | [] => 0
  | d :: r => uptoBulk d + uptoBulkAll r
def uptoBulkEntries {H : Type} : List (Lit × DataW H) → Nat
  | [] => 0
  | x :: r => uptoBulkEntry x + uptoBulkEntries r
def uptoBulkEntry {H : Type} : Lit × DataW H → Nat
  | (.string bytes, d) => bytes.length + uptoBulk d + 1
  | (_, d) => uptoBulk d + 1
 end
def uptoSmall : (H : Type) → List (DataW H) → Bool := fun _ ds => decide (uptoBulkAll ds ≤ 1048576)
def OpenSpec.upto (s : _root_.Go.ChangeSpec) : _root_.Go.OpenSpec := { _root_.Go.OpenSpec.ofChange s with cond := some uptoSmall }

/-- 'catchpitlaw09.DechunkStays', WHERE WHAT IT READS IS OF BULK AT MOST 1048576: true; the input reads as it did. -/
def dechunkStaysUptoRow : OpenClaim := { program := "ytmmbpbgcobmifaadoor", sum := "4bb942945d42aafeea1a22d00ebf4309205649ede0501de389f2ef404c00ec8e", func := "catchpit/catchpitlaw09.DechunkStays", spec := "dechunkStays", inPlace := ["internal/bytealg.IndexByteString", "internal/bytealg.IndexString"], unfollowed := true, recurses := true, named := ["catchpit/octet.ends", "internal/bytealg.MaxLen", "unicode/utf8.first", "unicode/utf8.acceptRanges"], apart := false, laid := [("unicode/utf8.acceptRanges", laid_unicode_utf8_acceptRanges), ("catchpit/octet.ends", laid_catchpit_octet_ends), ("unicode/utf8.first", laid_unicode_utf8_first)], narrowed := true }
def DechunkStaysUptoSaid : Prop := dechunkStaysUptoRow.holds Tryd.pinned (OpenSpec.upto dechunkStaysSpec)

/-- 'catchpitlaw09.DechunkCounts', WHERE WHAT IT READS IS OF BULK AT MOST 1048576: true; the input reads as it did. -/
def dechunkCountsUptoRow : OpenClaim := { program := "ytmmbpbgcobmifaadoor", sum := "4bb942945d42aafeea1a22d00ebf4309205649ede0501de389f2ef404c00ec8e", func := "catchpit/catchpitlaw09.DechunkCounts", spec := "dechunkCounts", inPlace := ["internal/bytealg.IndexByteString", "internal/bytealg.IndexString"], unfollowed := true, recurses := true, named := ["catchpit/octet.ends", "internal/bytealg.MaxLen", "unicode/utf8.first", "unicode/utf8.acceptRanges"], apart := false, laid := [("unicode/utf8.acceptRanges", laid_unicode_utf8_acceptRanges), ("catchpit/octet.ends", laid_catchpit_octet_ends), ("unicode/utf8.first", laid_unicode_utf8_first)], narrowed := true }
def DechunkCountsUptoSaid : Prop := dechunkCountsUptoRow.holds Tryd.pinned (OpenSpec.upto dechunkCountsSpec)

/-- 'catchpitlaw09.DechunkBytes', WHERE WHAT IT READS IS OF BULK AT MOST 1048576: true; the input reads as it did. -/
def dechunkBytesUptoRow : OpenClaim := { program := "ytmmbpbgcobmifaadoor", sum := "4bb942945d42aafeea1a22d00ebf4309205649ede0501de389f2ef404c00ec8e", func := "catchpit/catchpitlaw09.DechunkBytes", spec := "dechunkBytes", inPlace := ["internal/bytealg.IndexByteString", "internal/bytealg.IndexString"], unfollowed := true, recurses := true, named := ["catchpit/octet.ends", "internal/bytealg.MaxLen", "unicode/utf8.first", "unicode/utf8.acceptRanges"], apart := false, laid := [("unicode/utf8.acceptRanges", laid_unicode_utf8_acceptRanges), ("catchpit/octet.ends", laid_catchpit_octet_ends), ("unicode/utf8.first", laid_unicode_utf8_first)], narrowed := true }
def DechunkBytesUptoSaid : Prop := dechunkBytesUptoRow.holds Tryd.pinned (OpenSpec.upto dechunkBytesSpec)

/-- 'catchpitlaw09.DechunkPieces', WHERE WHAT IT READS IS OF BULK AT MOST 1048576: true; the input reads as it did. -/
def dechunkPiecesUptoRow : OpenClaim := { program := "ytmmbpbgcobmifaadoor", sum := "4bb942945d42aafeea1a22d00ebf4309205649ede0501de389f2ef404c00ec8e", func := "catchpit/catchpitlaw09.DechunkPieces", spec := "dechunkPieces", inPlace := ["internal/bytealg.IndexByteString", "internal/bytealg.IndexString"], unfollowed := true, recurses := true, named := ["catchpit/octet.ends", "internal/bytealg.MaxLen", "unicode/utf8.first", "unicode/utf8.acceptRanges"], apart := false, laid := [("unicode/utf8.acceptRanges", laid_unicode_utf8_acceptRanges), ("catchpit/octet.ends", laid_catchpit_octet_ends), ("unicode/utf8.first", laid_unicode_utf8_first)], narrowed := true }
def DechunkPiecesUptoSaid : Prop := dechunkPiecesUptoRow.holds Tryd.pinned (OpenSpec.upto dechunkPiecesSpec)

/-- 'catchpitlaw08.BodyPuts', WHERE WHAT IT READS IS OF BULK AT MOST 1048576: true; the input reads as it did. -/
def bodyPutsUptoRow : OpenClaim := { program := "ytmmbpbgcobmifaadoor", sum := "4bb942945d42aafeea1a22d00ebf4309205649ede0501de389f2ef404c00ec8e", func := "catchpit/catchpitlaw08.BodyPuts", spec := "bodyPuts", inPlace := ["internal/bytealg.IndexByteString", "internal/bytealg.IndexString", "internal/bytealg.IndexByte"], unfollowed := true, recurses := true, named := ["catchpit/octet.ends", "internal/bytealg.MaxLen", "unicode/utf8.first", "unicode/utf8.acceptRanges"], apart := false, laid := [("unicode/utf8.acceptRanges", laid_unicode_utf8_acceptRanges), ("catchpit/octet.ends", laid_catchpit_octet_ends), ("unicode/utf8.first", laid_unicode_utf8_first)], narrowed := true }
def BodyPutsUptoSaid : Prop := bodyPutsUptoRow.holds Tryd.pinned (OpenSpec.upto bodyPutsSpec)

/-- 'catchpitlaw08.BodyLimits', WHERE WHAT IT READS IS OF BULK AT MOST 1048576: true; the input reads as it did. -/
def bodyLimitsUptoRow : OpenClaim := { program := "ytmmbpbgcobmifaadoor", sum := "4bb942945d42aafeea1a22d00ebf4309205649ede0501de389f2ef404c00ec8e", func := "catchpit/catchpitlaw08.BodyLimits", spec := "bodyLimits", inPlace := ["internal/bytealg.IndexByteString", "internal/bytealg.IndexString", "internal/bytealg.IndexByte"], unfollowed := true, recurses := true, named := ["catchpit/octet.ends", "internal/bytealg.MaxLen", "unicode/utf8.first", "unicode/utf8.acceptRanges"], apart := false, laid := [("unicode/utf8.acceptRanges", laid_unicode_utf8_acceptRanges), ("catchpit/octet.ends", laid_catchpit_octet_ends), ("unicode/utf8.first", laid_unicode_utf8_first)], narrowed := true }
def BodyLimitsUptoSaid : Prop := bodyLimitsUptoRow.holds Tryd.pinned (OpenSpec.upto bodyLimitsSpec)

/-- 'catchpitlaw08.BodyExtensions', WHERE WHAT IT READS IS OF BULK AT MOST 1048576: true; the input reads as it did. -/
def bodyExtensionsUptoRow : OpenClaim := { program := "ytmmbpbgcobmifaadoor", sum := "4bb942945d42aafeea1a22d00ebf4309205649ede0501de389f2ef404c00ec8e", func := "catchpit/catchpitlaw08.BodyExtensions", spec := "bodyExtensions", inPlace := ["internal/bytealg.IndexByteString", "internal/bytealg.IndexString", "internal/bytealg.IndexByte"], unfollowed := true, recurses := true, named := ["catchpit/octet.ends", "internal/bytealg.MaxLen", "unicode/utf8.first", "unicode/utf8.acceptRanges"], apart := false, laid := [("unicode/utf8.acceptRanges", laid_unicode_utf8_acceptRanges), ("catchpit/octet.ends", laid_catchpit_octet_ends), ("unicode/utf8.first", laid_unicode_utf8_first)], narrowed := true }
def BodyExtensionsUptoSaid : Prop := bodyExtensionsUptoRow.holds Tryd.pinned (OpenSpec.upto bodyExtensionsSpec)

/-- 'catchpitlaw08.BodyChunkings', WHERE WHAT IT READS IS OF BULK AT MOST 1048576: true; the input reads as it did. -/
def bodyChunkingsUptoRow : OpenClaim := { program := "ytmmbpbgcobmifaadoor", sum := "4bb942945d42aafeea1a22d00ebf4309205649ede0501de389f2ef404c00ec8e", func := "catchpit/catchpitlaw08.BodyChunkings", spec := "bodyChunkings", inPlace := ["internal/bytealg.IndexByteString", "internal/bytealg.IndexString", "internal/bytealg.IndexByte"], unfollowed := true, recurses := true, named := ["catchpit/octet.ends", "internal/bytealg.MaxLen", "unicode/utf8.first", "unicode/utf8.acceptRanges"], apart := false, laid := [("unicode/utf8.acceptRanges", laid_unicode_utf8_acceptRanges), ("catchpit/octet.ends", laid_catchpit_octet_ends), ("unicode/utf8.first", laid_unicode_utf8_first)], narrowed := true }
def BodyChunkingsUptoSaid : Prop := bodyChunkingsUptoRow.holds Tryd.pinned (OpenSpec.upto bodyChunkingsSpec)

/-- 'catchpitlaw08.BodyCuts', WHERE WHAT IT READS IS OF BULK AT MOST 1048576: true; the input reads as it did. -/
def bodyCutsUptoRow : OpenClaim := { program := "ytmmbpbgcobmifaadoor", sum := "4bb942945d42aafeea1a22d00ebf4309205649ede0501de389f2ef404c00ec8e", func := "catchpit/catchpitlaw08.BodyCuts", spec := "bodyCuts", inPlace := ["internal/bytealg.IndexByteString", "internal/bytealg.IndexString", "internal/bytealg.IndexByte"], unfollowed := true, recurses := true, named := ["catchpit/octet.ends", "internal/bytealg.MaxLen", "unicode/utf8.first", "unicode/utf8.acceptRanges"], apart := false, laid := [("unicode/utf8.acceptRanges", laid_unicode_utf8_acceptRanges), ("catchpit/octet.ends", laid_catchpit_octet_ends), ("unicode/utf8.first", laid_unicode_utf8_first)], narrowed := true }
def BodyCutsUptoSaid : Prop := bodyCutsUptoRow.holds Tryd.pinned (OpenSpec.upto bodyCutsSpec)

/-- 'catchpitlaw08.BodyScans', WHERE WHAT IT READS IS OF BULK AT MOST 1048576: true; the input reads as it did. -/
def bodyScansUptoRow : OpenClaim := { program := "ytmmbpbgcobmifaadoor", sum := "4bb942945d42aafeea1a22d00ebf4309205649ede0501de389f2ef404c00ec8e", func := "catchpit/catchpitlaw08.BodyScans", spec := "bodyScans", inPlace := ["internal/bytealg.IndexByteString", "internal/bytealg.IndexString", "internal/bytealg.IndexByte"], unfollowed := true, recurses := true, named := ["catchpit/octet.ends", "internal/bytealg.MaxLen", "unicode/utf8.first", "unicode/utf8.acceptRanges"], apart := false, laid := [("unicode/utf8.acceptRanges", laid_unicode_utf8_acceptRanges), ("catchpit/octet.ends", laid_catchpit_octet_ends), ("unicode/utf8.first", laid_unicode_utf8_first)], narrowed := true }
def BodyScansUptoSaid : Prop := bodyScansUptoRow.holds Tryd.pinned (OpenSpec.upto bodyScansSpec)

end Rows
end Go.Proofs.YtmmbpbgcobmifaaDoor
