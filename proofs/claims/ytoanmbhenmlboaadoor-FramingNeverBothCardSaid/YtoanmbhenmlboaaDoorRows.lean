/-
  NARROWER THAN 'FOR EVERY INPUT', by the rows' own cells (each row's printed sentence says how): ExpectPatience: laid · ExpectActs: laid · ExpectNever: laid · ExpectNone: laid · FramingRequests: laid · FramingResponses: laid · FramingNeverBoth: laid · FramingPlain: laid · FramingSays: laid.
  DERIVED. THE GIVEN ROWS OF THIS SEAT. 9 by the template 'for every input the law returns true; each argument reads behind the call as it read before'; 0 by the template 'total and deterministic' (their statements: YtoanmbhenmlboaaDoorTotals.lean).
  GIVEN WITH THE SEED: the statements are not yours to turn. If you find one false, say at which input.
  Laid BY PROGRAM, IN A SANDBOX (cutbox-rows.mjs): the forced cells as the released guide's own fill.sh prints them over the translation f9da8b792d3bf400… (all of the seat's roots in one cut). By AI agents, Wed Nov 11 2026. No macro, syntax, notation, axiom, sorry.
-/
import Derived.Test.YtoanmbhenmlboaaDoorChecked
import GoSem.PinnedTables
import GoSem.Claim
import GoSem.ClaimJoined
import GoSem.ClaimMapViews
import Derived.JoinedTies
import Derived.KernelRfl
namespace Go.Proofs.YtoanmbhenmlboaaDoor
/- THE CELL 'sum', in the pinned program and in every row, IS THE sha256 OF THE DUMP (.gsa) THAT YtoanmbhenmlboaaDoorProg.lean LOADS. Nothing in Lean hashes anything: it is a label: what it is worth is what the hold of that sum in a sandbox is worth. -/
noncomputable def Tryd.pinned : Pinned := { name := "ytoanmbhenmlboaadoor", sum := "f9da8b792d3bf400e595343b62f3946f0f1df4fc9dfb78062ba6c0842c1cb5a7", checked := Tryd.checked }
namespace Rows
def none {H : Type} : Left H := { results := [], args := [] }

/- WHAT THE LISTED PACKAGE-LEVEL VARIABLES READ AS WHEN THE CALL BEGINS. Each datum BY PROGRAM (the guide's laid-datum.mjs) off the statement by which the dump's own 'gosem.cut.vars' lays the variable. In a bare row this is a premise. The card (YtoanmbhenmlboaaDoorCards.lean) ties it to the program's text. -/
def laid_unicode_utf8_acceptRanges {H : Type} : DataW H := .agg [.agg [.lit (.int .u8 128), .lit (.int .u8 191)], .agg [.lit (.int .u8 160), .lit (.int .u8 191)], .agg [.lit (.int .u8 128), .lit (.int .u8 159)], .agg [.lit (.int .u8 144), .lit (.int .u8 191)], .agg [.lit (.int .u8 128), .lit (.int .u8 143)], .agg [.lit (.int .u8 0), .lit (.int .u8 0)], .agg [.lit (.int .u8 0), .lit (.int .u8 0)], .agg [.lit (.int .u8 0), .lit (.int .u8 0)], .agg [.lit (.int .u8 0), .lit (.int .u8 0)], .agg [.lit (.int .u8 0), .lit (.int .u8 0)], .agg [.lit (.int .u8 0), .lit (.int .u8 0)], .agg [.lit (.int .u8 0), .lit (.int .u8 0)], .agg [.lit (.int .u8 0), .lit (.int .u8 0)], .agg [.lit (.int .u8 0), .lit (.int .u8 0)], .agg [.lit (.int .u8 0), .lit (.int .u8 0)], .agg [.lit (.int .u8 0), .lit (.int .u8 0)]]
def laid_catchpit_octet_ends {H : Type} : DataW H := .agg [.agg [.lit (.int .u8 48), .lit (.int .u8 57)], .agg [.lit (.int .u8 65), .lit (.int .u8 90)], .agg [.lit (.int .u8 97), .lit (.int .u8 122)]]
/-- One of Go's own tables, pinned by name: the form's constant. -/
def laid_unicode_utf8_first : DataW Unit := Go.Pinned.utf8First

/-- 'catchpitlaw20.ExpectPatience': WHATEVER THE INPUT: true; the input reads as it did. -/
def expectPatienceSpec : ChangeSpec := { name := "expectPatience", fn := fun _ => fun
  | [d1, d2] => { results := [.lit (.bool true)], args := [d1, d2] }
  | _ => none }
def expectPatienceRow : OpenClaim := { program := "ytoanmbhenmlboaadoor", sum := "f9da8b792d3bf400e595343b62f3946f0f1df4fc9dfb78062ba6c0842c1cb5a7", func := "catchpit/catchpitlaw20.ExpectPatience", spec := "expectPatience", inPlace := ["internal/bytealg.IndexByteString", "internal/bytealg.IndexString"], unfollowed := true, recurses := true, named := ["catchpit/octet.ends", "unicode/utf8.first", "unicode/utf8.acceptRanges", "internal/bytealg.MaxLen"], apart := false, laid := [("unicode/utf8.acceptRanges", laid_unicode_utf8_acceptRanges), ("catchpit/octet.ends", laid_catchpit_octet_ends), ("unicode/utf8.first", laid_unicode_utf8_first)] }
def ExpectPatienceSaid : Prop := expectPatienceRow.holds Tryd.pinned (OpenSpec.ofChange expectPatienceSpec)

/-- ITS FALSE NEIGHBOUR: 'it returns false'. Refute it at one input. -/
def expectPatienceWrong : ChangeSpec := { name := "expectPatience", fn := fun _ => fun
  | [d1, d2] => { results := [.lit (.bool false)], args := [d1, d2] }
  | _ => none }
def ExpectPatienceWrongFalsely : Prop := expectPatienceRow.holds Tryd.pinned (OpenSpec.ofChange expectPatienceWrong)

/-- 'catchpitlaw20.ExpectActs': WHATEVER THE INPUT: true; the input reads as it did. -/
def expectActsSpec : ChangeSpec := { name := "expectActs", fn := fun _ => fun
  | [d1, d2, d3] => { results := [.lit (.bool true)], args := [d1, d2, d3] }
  | _ => none }
def expectActsRow : OpenClaim := { program := "ytoanmbhenmlboaadoor", sum := "f9da8b792d3bf400e595343b62f3946f0f1df4fc9dfb78062ba6c0842c1cb5a7", func := "catchpit/catchpitlaw20.ExpectActs", spec := "expectActs", inPlace := ["internal/bytealg.IndexByteString", "internal/bytealg.IndexString"], unfollowed := true, recurses := true, named := ["catchpit/octet.ends", "unicode/utf8.first", "unicode/utf8.acceptRanges", "internal/bytealg.MaxLen"], apart := false, laid := [("unicode/utf8.acceptRanges", laid_unicode_utf8_acceptRanges), ("catchpit/octet.ends", laid_catchpit_octet_ends), ("unicode/utf8.first", laid_unicode_utf8_first)] }
def ExpectActsSaid : Prop := expectActsRow.holds Tryd.pinned (OpenSpec.ofChange expectActsSpec)

/-- ITS FALSE NEIGHBOUR: 'it returns false'. Refute it at one input. -/
def expectActsWrong : ChangeSpec := { name := "expectActs", fn := fun _ => fun
  | [d1, d2, d3] => { results := [.lit (.bool false)], args := [d1, d2, d3] }
  | _ => none }
def ExpectActsWrongFalsely : Prop := expectActsRow.holds Tryd.pinned (OpenSpec.ofChange expectActsWrong)

/-- 'catchpitlaw20.ExpectNever': WHATEVER THE INPUT: true; the input reads as it did. -/
def expectNeverSpec : ChangeSpec := { name := "expectNever", fn := fun _ => fun
  | [d1, d2] => { results := [.lit (.bool true)], args := [d1, d2] }
  | _ => none }
def expectNeverRow : OpenClaim := { program := "ytoanmbhenmlboaadoor", sum := "f9da8b792d3bf400e595343b62f3946f0f1df4fc9dfb78062ba6c0842c1cb5a7", func := "catchpit/catchpitlaw20.ExpectNever", spec := "expectNever", inPlace := ["internal/bytealg.IndexByteString", "internal/bytealg.IndexString"], unfollowed := true, recurses := true, named := ["catchpit/octet.ends", "unicode/utf8.first", "unicode/utf8.acceptRanges", "internal/bytealg.MaxLen"], apart := false, laid := [("unicode/utf8.acceptRanges", laid_unicode_utf8_acceptRanges), ("catchpit/octet.ends", laid_catchpit_octet_ends), ("unicode/utf8.first", laid_unicode_utf8_first)] }
def ExpectNeverSaid : Prop := expectNeverRow.holds Tryd.pinned (OpenSpec.ofChange expectNeverSpec)

/-- ITS FALSE NEIGHBOUR: 'it returns false'. Refute it at one input. -/
def expectNeverWrong : ChangeSpec := { name := "expectNever", fn := fun _ => fun
  | [d1, d2] => { results := [.lit (.bool false)], args := [d1, d2] }
  | _ => none }
def ExpectNeverWrongFalsely : Prop := expectNeverRow.holds Tryd.pinned (OpenSpec.ofChange expectNeverWrong)

/-- 'catchpitlaw20.ExpectNone': WHATEVER THE INPUT: true; the input reads as it did. -/
def expectNoneSpec : ChangeSpec := { name := "expectNone", fn := fun _ => fun
  | [d1, d2] => { results := [.lit (.bool true)], args := [d1, d2] }
  | _ => none }
def expectNoneRow : OpenClaim := { program := "ytoanmbhenmlboaadoor", sum := "f9da8b792d3bf400e595343b62f3946f0f1df4fc9dfb78062ba6c0842c1cb5a7", func := "catchpit/catchpitlaw20.ExpectNone", spec := "expectNone", inPlace := ["internal/bytealg.IndexByteString", "internal/bytealg.IndexString"], unfollowed := true, recurses := true, named := ["catchpit/octet.ends", "unicode/utf8.first", "unicode/utf8.acceptRanges", "internal/bytealg.MaxLen"], apart := false, laid := [("unicode/utf8.acceptRanges", laid_unicode_utf8_acceptRanges), ("catchpit/octet.ends", laid_catchpit_octet_ends), ("unicode/utf8.first", laid_unicode_utf8_first)] }
def ExpectNoneSaid : Prop := expectNoneRow.holds Tryd.pinned (OpenSpec.ofChange expectNoneSpec)

/-- ITS FALSE NEIGHBOUR: 'it returns false'. Refute it at one input. -/
def expectNoneWrong : ChangeSpec := { name := "expectNone", fn := fun _ => fun
  | [d1, d2] => { results := [.lit (.bool false)], args := [d1, d2] }
  | _ => none }
def ExpectNoneWrongFalsely : Prop := expectNoneRow.holds Tryd.pinned (OpenSpec.ofChange expectNoneWrong)

/-- 'catchpitlaw11.FramingRequests': WHATEVER THE INPUT: true; the input reads as it did. -/
def framingRequestsSpec : ChangeSpec := { name := "framingRequests", fn := fun _ => fun
  | [d] => { results := [.lit (.bool true)], args := [d] }
  | _ => none }
def framingRequestsRow : OpenClaim := { program := "ytoanmbhenmlboaadoor", sum := "f9da8b792d3bf400e595343b62f3946f0f1df4fc9dfb78062ba6c0842c1cb5a7", func := "catchpit/catchpitlaw11.FramingRequests", spec := "framingRequests", inPlace := ["internal/bytealg.IndexByteString", "internal/bytealg.IndexString"], unfollowed := true, recurses := true, named := ["catchpit/octet.ends", "unicode/utf8.first", "unicode/utf8.acceptRanges", "internal/bytealg.MaxLen"], apart := false, laid := [("unicode/utf8.acceptRanges", laid_unicode_utf8_acceptRanges), ("catchpit/octet.ends", laid_catchpit_octet_ends), ("unicode/utf8.first", laid_unicode_utf8_first)] }
def FramingRequestsSaid : Prop := framingRequestsRow.holds Tryd.pinned (OpenSpec.ofChange framingRequestsSpec)

/-- ITS FALSE NEIGHBOUR: 'it returns false'. Refute it at one input. -/
def framingRequestsWrong : ChangeSpec := { name := "framingRequests", fn := fun _ => fun
  | [d] => { results := [.lit (.bool false)], args := [d] }
  | _ => none }
def FramingRequestsWrongFalsely : Prop := framingRequestsRow.holds Tryd.pinned (OpenSpec.ofChange framingRequestsWrong)

/-- 'catchpitlaw11.FramingResponses': WHATEVER THE INPUT: true; the input reads as it did. -/
def framingResponsesSpec : ChangeSpec := { name := "framingResponses", fn := fun _ => fun
  | [d1, d2, d3] => { results := [.lit (.bool true)], args := [d1, d2, d3] }
  | _ => none }
def framingResponsesRow : OpenClaim := { program := "ytoanmbhenmlboaadoor", sum := "f9da8b792d3bf400e595343b62f3946f0f1df4fc9dfb78062ba6c0842c1cb5a7", func := "catchpit/catchpitlaw11.FramingResponses", spec := "framingResponses", inPlace := ["internal/bytealg.IndexByteString", "internal/bytealg.IndexString"], unfollowed := true, recurses := true, named := ["catchpit/octet.ends", "unicode/utf8.first", "unicode/utf8.acceptRanges", "internal/bytealg.MaxLen"], apart := false, laid := [("unicode/utf8.acceptRanges", laid_unicode_utf8_acceptRanges), ("catchpit/octet.ends", laid_catchpit_octet_ends), ("unicode/utf8.first", laid_unicode_utf8_first)] }
def FramingResponsesSaid : Prop := framingResponsesRow.holds Tryd.pinned (OpenSpec.ofChange framingResponsesSpec)

/-- ITS FALSE NEIGHBOUR: 'it returns false'. Refute it at one input. -/
def framingResponsesWrong : ChangeSpec := { name := "framingResponses", fn := fun _ => fun
  | [d1, d2, d3] => { results := [.lit (.bool false)], args := [d1, d2, d3] }
  | _ => none }
def FramingResponsesWrongFalsely : Prop := framingResponsesRow.holds Tryd.pinned (OpenSpec.ofChange framingResponsesWrong)

/-- 'catchpitlaw11.FramingNeverBoth': WHATEVER THE INPUT: true; the input reads as it did. -/
def framingNeverBothSpec : ChangeSpec := { name := "framingNeverBoth", fn := fun _ => fun
  | [d1, d2, d3] => { results := [.lit (.bool true)], args := [d1, d2, d3] }
  | _ => none }
def framingNeverBothRow : OpenClaim := { program := "ytoanmbhenmlboaadoor", sum := "f9da8b792d3bf400e595343b62f3946f0f1df4fc9dfb78062ba6c0842c1cb5a7", func := "catchpit/catchpitlaw11.FramingNeverBoth", spec := "framingNeverBoth", inPlace := ["internal/bytealg.IndexByteString", "internal/bytealg.IndexString"], unfollowed := true, recurses := true, named := ["catchpit/octet.ends", "unicode/utf8.first", "unicode/utf8.acceptRanges", "internal/bytealg.MaxLen"], apart := false, laid := [("unicode/utf8.acceptRanges", laid_unicode_utf8_acceptRanges), ("catchpit/octet.ends", laid_catchpit_octet_ends), ("unicode/utf8.first", laid_unicode_utf8_first)] }
def FramingNeverBothSaid : Prop := framingNeverBothRow.holds Tryd.pinned (OpenSpec.ofChange framingNeverBothSpec)

/-- ITS FALSE NEIGHBOUR: 'it returns false'. Refute it at one input. -/
def framingNeverBothWrong : ChangeSpec := { name := "framingNeverBoth", fn := fun _ => fun
  | [d1, d2, d3] => { results := [.lit (.bool false)], args := [d1, d2, d3] }
  | _ => none }
def FramingNeverBothWrongFalsely : Prop := framingNeverBothRow.holds Tryd.pinned (OpenSpec.ofChange framingNeverBothWrong)

/-- 'catchpitlaw11.FramingPlain': WHATEVER THE INPUT: true; the input reads as it did. -/
def framingPlainSpec : ChangeSpec := { name := "framingPlain", fn := fun _ => fun
  | [d1, d2] => { results := [.lit (.bool true)], args := [d1, d2] }
  | _ => none }
def framingPlainRow : OpenClaim := { program := "ytoanmbhenmlboaadoor", sum := "f9da8b792d3bf400e595343b62f3946f0f1df4fc9dfb78062ba6c0842c1cb5a7", func := "catchpit/catchpitlaw11.FramingPlain", spec := "framingPlain", inPlace := ["internal/bytealg.IndexByteString", "internal/bytealg.IndexString"], unfollowed := true, recurses := true, named := ["catchpit/octet.ends", "unicode/utf8.first", "unicode/utf8.acceptRanges", "internal/bytealg.MaxLen"], apart := false, laid := [("unicode/utf8.acceptRanges", laid_unicode_utf8_acceptRanges), ("catchpit/octet.ends", laid_catchpit_octet_ends), ("unicode/utf8.first", laid_unicode_utf8_first)] }
def FramingPlainSaid : Prop := framingPlainRow.holds Tryd.pinned (OpenSpec.ofChange framingPlainSpec)

/-- ITS FALSE NEIGHBOUR: 'it returns false'. Refute it at one input. -/
def framingPlainWrong : ChangeSpec := { name := "framingPlain", fn := fun _ => fun
  | [d1, d2] => { results := [.lit (.bool false)], args := [d1, d2] }
  | _ => none }
def FramingPlainWrongFalsely : Prop := framingPlainRow.holds Tryd.pinned (OpenSpec.ofChange framingPlainWrong)

/-- 'catchpitlaw11.FramingSays': WHATEVER THE INPUT: true; the input reads as it did. -/
def framingSaysSpec : ChangeSpec := { name := "framingSays", fn := fun _ => fun
  | [d] => { results := [.lit (.bool true)], args := [d] }
  | _ => none }
def framingSaysRow : OpenClaim := { program := "ytoanmbhenmlboaadoor", sum := "f9da8b792d3bf400e595343b62f3946f0f1df4fc9dfb78062ba6c0842c1cb5a7", func := "catchpit/catchpitlaw11.FramingSays", spec := "framingSays", inPlace := ["internal/bytealg.IndexByteString", "internal/bytealg.IndexString"], unfollowed := true, recurses := true, named := ["catchpit/octet.ends", "unicode/utf8.first", "unicode/utf8.acceptRanges", "internal/bytealg.MaxLen"], apart := false, laid := [("unicode/utf8.acceptRanges", laid_unicode_utf8_acceptRanges), ("catchpit/octet.ends", laid_catchpit_octet_ends), ("unicode/utf8.first", laid_unicode_utf8_first)] }
def FramingSaysSaid : Prop := framingSaysRow.holds Tryd.pinned (OpenSpec.ofChange framingSaysSpec)

/-- ITS FALSE NEIGHBOUR: 'it returns false'. Refute it at one input. -/
def framingSaysWrong : ChangeSpec := { name := "framingSays", fn := fun _ => fun
  | [d] => { results := [.lit (.bool false)], args := [d] }
  | _ => none }
def FramingSaysWrongFalsely : Prop := framingSaysRow.holds Tryd.pinned (OpenSpec.ofChange framingSaysWrong)

/- THE SECOND FORM. 'bulk': how many values and letters a reading holds, each counted each time it is reached (what is shared counts as often as it is met; a slice's spare places count too). A statement '..UptoSaid' is the law's where the arguments, and the package variables that the reading takes, are together of bulk at most 1048576: NARROWER than '..Said'. Prove '..Said' where nothing that the law and all that it calls make is longer than what came in: it says more and counts as full. Else prove '..UptoSaid'. A law counts once. -/
mutual
def uptoBulk {H : Type} : DataW H → Nat
  | .lit (.string bytes) => bytes.length + 1
  | .lit _ => 1
  | .nil => 1
  | .ptr d => uptoBulk d + 1
  | .slice elems spare => uptoBulkAll elems + uptoBulkAll spare + 1
  | .agg parts => uptoBulkAll parts + 1
  | .iface _ d => uptoBulk d + 1
  | .map entries => uptoBulkEntries entries + 1
  | .held _ => 1
def uptoBulkAll {H : Type} : List (DataW H) → Nat
  | [] => 0
  | d :: r => uptoBulk d + uptoBulkAll r
def uptoBulkEntries {H : Type} : List (Lit × DataW H) → Nat
  | [] => 0
  | x :: r => uptoBulkEntry x + uptoBulkEntries r
def uptoBulkEntry {H : Type} : Lit × DataW H → Nat
  | (.string bytes, d) => bytes.length + uptoBulk d + 1
  | (_, d) => uptoBulk d + 1
 end
def uptoSmall : (H : Type) → List (DataW H) → Bool := fun _ ds => decide (uptoBulkAll ds ≤ 1048576)
def OpenSpec.upto (s : _root_.Go.ChangeSpec) : _root_.Go.OpenSpec := { _root_.Go.OpenSpec.ofChange s with cond := some uptoSmall }

/-- 'catchpitlaw20.ExpectPatience', WHERE WHAT IT READS IS OF BULK AT MOST 1048576: true; the input reads as it did. -/
def expectPatienceUptoRow : OpenClaim := { program := "ytoanmbhenmlboaadoor", sum := "f9da8b792d3bf400e595343b62f3946f0f1df4fc9dfb78062ba6c0842c1cb5a7", func := "catchpit/catchpitlaw20.ExpectPatience", spec := "expectPatience", inPlace := ["internal/bytealg.IndexByteString", "internal/bytealg.IndexString"], unfollowed := true, recurses := true, named := ["catchpit/octet.ends", "unicode/utf8.first", "unicode/utf8.acceptRanges", "internal/bytealg.MaxLen"], apart := false, laid := [("unicode/utf8.acceptRanges", laid_unicode_utf8_acceptRanges), ("catchpit/octet.ends", laid_catchpit_octet_ends), ("unicode/utf8.first", laid_unicode_utf8_first)], narrowed := true }
def ExpectPatienceUptoSaid : Prop := expectPatienceUptoRow.holds Tryd.pinned (OpenSpec.upto expectPatienceSpec)

/-- 'catchpitlaw20.ExpectActs', WHERE WHAT IT READS IS OF BULK AT MOST 1048576: true; the input reads as it did. -/
def expectActsUptoRow : OpenClaim := { program := "ytoanmbhenmlboaadoor", sum := "f9da8b792d3bf400e595343b62f3946f0f1df4fc9dfb78062ba6c0842c1cb5a7", func := "catchpit/catchpitlaw20.ExpectActs", spec := "expectActs", inPlace := ["internal/bytealg.IndexByteString", "internal/bytealg.IndexString"], unfollowed := true, recurses := true, named := ["catchpit/octet.ends", "unicode/utf8.first", "unicode/utf8.acceptRanges", "internal/bytealg.MaxLen"], apart := false, laid := [("unicode/utf8.acceptRanges", laid_unicode_utf8_acceptRanges), ("catchpit/octet.ends", laid_catchpit_octet_ends), ("unicode/utf8.first", laid_unicode_utf8_first)], narrowed := true }
def ExpectActsUptoSaid : Prop := expectActsUptoRow.holds Tryd.pinned (OpenSpec.upto expectActsSpec)

/-- 'catchpitlaw20.ExpectNever', WHERE WHAT IT READS IS OF BULK AT MOST 1048576: true; the input reads as it did. -/
def expectNeverUptoRow : OpenClaim := { program := "ytoanmbhenmlboaadoor", sum := "f9da8b792d3bf400e595343b62f3946f0f1df4fc9dfb78062ba6c0842c1cb5a7", func := "catchpit/catchpitlaw20.ExpectNever", spec := "expectNever", inPlace := ["internal/bytealg.IndexByteString", "internal/bytealg.IndexString"], unfollowed := true, recurses := true, named := ["catchpit/octet.ends", "unicode/utf8.first", "unicode/utf8.acceptRanges", "internal/bytealg.MaxLen"], apart := false, laid := [("unicode/utf8.acceptRanges", laid_unicode_utf8_acceptRanges), ("catchpit/octet.ends", laid_catchpit_octet_ends), ("unicode/utf8.first", laid_unicode_utf8_first)], narrowed := true }
def ExpectNeverUptoSaid : Prop := expectNeverUptoRow.holds Tryd.pinned (OpenSpec.upto expectNeverSpec)

/-- 'catchpitlaw20.ExpectNone', WHERE WHAT IT READS IS OF BULK AT MOST 1048576: true; the input reads as it did. -/
def expectNoneUptoRow : OpenClaim := { program := "ytoanmbhenmlboaadoor", sum := "f9da8b792d3bf400e595343b62f3946f0f1df4fc9dfb78062ba6c0842c1cb5a7", func := "catchpit/catchpitlaw20.ExpectNone", spec := "expectNone", inPlace := ["internal/bytealg.IndexByteString", "internal/bytealg.IndexString"], unfollowed := true, recurses := true, named := ["catchpit/octet.ends", "unicode/utf8.first", "unicode/utf8.acceptRanges", "internal/bytealg.MaxLen"], apart := false, laid := [("unicode/utf8.acceptRanges", laid_unicode_utf8_acceptRanges), ("catchpit/octet.ends", laid_catchpit_octet_ends), ("unicode/utf8.first", laid_unicode_utf8_first)], narrowed := true }
def ExpectNoneUptoSaid : Prop := expectNoneUptoRow.holds Tryd.pinned (OpenSpec.upto expectNoneSpec)

/-- 'catchpitlaw11.FramingRequests', WHERE WHAT IT READS IS OF BULK AT MOST 1048576: true; the input reads as it did. -/
def framingRequestsUptoRow : OpenClaim := { program := "ytoanmbhenmlboaadoor", sum := "f9da8b792d3bf400e595343b62f3946f0f1df4fc9dfb78062ba6c0842c1cb5a7", func := "catchpit/catchpitlaw11.FramingRequests", spec := "framingRequests", inPlace := ["internal/bytealg.IndexByteString", "internal/bytealg.IndexString"], unfollowed := true, recurses := true, named := ["catchpit/octet.ends", "unicode/utf8.first", "unicode/utf8.acceptRanges", "internal/bytealg.MaxLen"], apart := false, laid := [("unicode/utf8.acceptRanges", laid_unicode_utf8_acceptRanges), ("catchpit/octet.ends", laid_catchpit_octet_ends), ("unicode/utf8.first", laid_unicode_utf8_first)], narrowed := true }
def FramingRequestsUptoSaid : Prop := framingRequestsUptoRow.holds Tryd.pinned (OpenSpec.upto framingRequestsSpec)

/-- 'catchpitlaw11.FramingResponses', WHERE WHAT IT READS IS OF BULK AT MOST 1048576: true; the input reads as it did. -/
def framingResponsesUptoRow : OpenClaim := { program := "ytoanmbhenmlboaadoor", sum := "f9da8b792d3bf400e595343b62f3946f0f1df4fc9dfb78062ba6c0842c1cb5a7", func := "catchpit/catchpitlaw11.FramingResponses", spec := "framingResponses", inPlace := ["internal/bytealg.IndexByteString", "internal/bytealg.IndexString"], unfollowed := true, recurses := true, named := ["catchpit/octet.ends", "unicode/utf8.first", "unicode/utf8.acceptRanges", "internal/bytealg.MaxLen"], apart := false, laid := [("unicode/utf8.acceptRanges", laid_unicode_utf8_acceptRanges), ("catchpit/octet.ends", laid_catchpit_octet_ends), ("unicode/utf8.first", laid_unicode_utf8_first)], narrowed := true }
def FramingResponsesUptoSaid : Prop := framingResponsesUptoRow.holds Tryd.pinned (OpenSpec.upto framingResponsesSpec)

/-- 'catchpitlaw11.FramingNeverBoth', WHERE WHAT IT READS IS OF BULK AT MOST 1048576: true; the input reads as it did. -/
def framingNeverBothUptoRow : OpenClaim := { program := "ytoanmbhenmlboaadoor", sum := "f9da8b792d3bf400e595343b62f3946f0f1df4fc9dfb78062ba6c0842c1cb5a7", func := "catchpit/catchpitlaw11.FramingNeverBoth", spec := "framingNeverBoth", inPlace := ["internal/bytealg.IndexByteString", "internal/bytealg.IndexString"], unfollowed := true, recurses := true, named := ["catchpit/octet.ends", "unicode/utf8.first", "unicode/utf8.acceptRanges", "internal/bytealg.MaxLen"], apart := false, laid := [("unicode/utf8.acceptRanges", laid_unicode_utf8_acceptRanges), ("catchpit/octet.ends", laid_catchpit_octet_ends), ("unicode/utf8.first", laid_unicode_utf8_first)], narrowed := true }
def FramingNeverBothUptoSaid : Prop := framingNeverBothUptoRow.holds Tryd.pinned (OpenSpec.upto framingNeverBothSpec)

/-- 'catchpitlaw11.FramingPlain', WHERE WHAT IT READS IS OF BULK AT MOST 1048576: true; the input reads as it did. -/
def framingPlainUptoRow : OpenClaim := { program := "ytoanmbhenmlboaadoor", sum := "f9da8b792d3bf400e595343b62f3946f0f1df4fc9dfb78062ba6c0842c1cb5a7", func := "catchpit/catchpitlaw11.FramingPlain", spec := "framingPlain", inPlace := ["internal/bytealg.IndexByteString", "internal/bytealg.IndexString"], unfollowed := true, recurses := true, named := ["catchpit/octet.ends", "unicode/utf8.first", "unicode/utf8.acceptRanges", "internal/bytealg.MaxLen"], apart := false, laid := [("unicode/utf8.acceptRanges", laid_unicode_utf8_acceptRanges), ("catchpit/octet.ends", laid_catchpit_octet_ends), ("unicode/utf8.first", laid_unicode_utf8_first)], narrowed := true }
def FramingPlainUptoSaid : Prop := framingPlainUptoRow.holds Tryd.pinned (OpenSpec.upto framingPlainSpec)

/-- 'catchpitlaw11.FramingSays', WHERE WHAT IT READS IS OF BULK AT MOST 1048576: true; the input reads as it did. -/
def framingSaysUptoRow : OpenClaim := { program := "ytoanmbhenmlboaadoor", sum := "f9da8b792d3bf400e595343b62f3946f0f1df4fc9dfb78062ba6c0842c1cb5a7", func := "catchpit/catchpitlaw11.FramingSays", spec := "framingSays", inPlace := ["internal/bytealg.IndexByteString", "internal/bytealg.IndexString"], unfollowed := true, recurses := true, named := ["catchpit/octet.ends", "unicode/utf8.first", "unicode/utf8.acceptRanges", "internal/bytealg.MaxLen"], apart := false, laid := [("unicode/utf8.acceptRanges", laid_unicode_utf8_acceptRanges), ("catchpit/octet.ends", laid_catchpit_octet_ends), ("unicode/utf8.first", laid_unicode_utf8_first)], narrowed := true }
def FramingSaysUptoSaid : Prop := framingSaysUptoRow.holds Tryd.pinned (OpenSpec.upto framingSaysSpec)

end Rows
end Go.Proofs.YtoanmbhenmlboaaDoor
