/-
  NARROWER THAN 'FOR EVERY INPUT', by the rows' own cells (each row's printed sentence says how): ValveBack: laid · ValveWords: laid · OctetJoins: laid · OctetKinds: laid · OctetBytes: laid · OctetAlike: laid · OctetTrims: laid.
  DERIVED. THE GIVEN ROWS OF THIS SEAT. 7 by the template 'for every input the law returns true; each argument reads behind the call as it read before'; 0 by the template 'total and deterministic' (their statements: YtmdnomeelkmaoaaDoorTotals.lean).
  GIVEN WITH THE SEED: the statements are not yours to turn. If you find one false, say at which input.
  Laid BY PROGRAM, IN A SANDBOX (cutbox-rows.mjs): the forced cells as the released guide's own fill.sh prints them over the translation 03335e67a917b5f8… (all of the seat's roots in one cut). By AI agents, Wed Nov 11 2026. No macro, syntax, notation, axiom, sorry.
-/
import Derived.Test.YtmdnomeelkmaoaaDoorChecked
import GoSem.PinnedTables
import GoSem.Claim
import GoSem.ClaimJoined
import GoSem.ClaimMapViews
import Derived.JoinedTies
import Derived.KernelRfl
namespace Go.Proofs.YtmdnomeelkmaoaaDoor
/- THE CELL 'sum', in the pinned program and in every row, IS THE sha256 OF THE DUMP (.gsa) THAT YtmdnomeelkmaoaaDoorProg.lean LOADS. Nothing in Lean hashes anything: it is a label: what it is worth is what the hold of that sum in a sandbox is worth. -/
noncomputable def Tryd.pinned : Pinned := { name := "ytmdnomeelkmaoaadoor", sum := "03335e67a917b5f86904ee814f77b097e72ef711c414e4392bc81df1dc0b5205", checked := Tryd.checked }
namespace Rows
def none {H : Type} : Left H := { results := [], args := [] }

/- WHAT THE LISTED PACKAGE-LEVEL VARIABLES READ AS WHEN THE CALL BEGINS. Each datum BY PROGRAM (the guide's laid-datum.mjs) off the statement by which the dump's own 'gosem.cut.vars' lays the variable. In a bare row this is a premise. The card (YtmdnomeelkmaoaaDoorCards.lean) ties it to the program's text. -/
def laid_catchpit_valve_words {H : Type} : DataW H := .agg [.lit (.string [114, 117, 110, 110, 105, 110, 103]), .lit (.string [99, 111, 109, 112, 108, 101, 116, 101]), .lit (.string [98, 97, 100, 45, 102, 114, 97, 109, 105, 110, 103]), .lit (.string [108, 105, 109, 105, 116, 45, 101, 120, 99, 101, 101, 100, 101, 100]), .lit (.string [117, 112, 115, 116, 114, 101, 97, 109, 45, 116, 114, 117, 110, 99, 97, 116, 101, 100]), .lit (.string [116, 105, 109, 101, 111, 117, 116]), .lit (.string [100, 111, 119, 110, 115, 116, 114, 101, 97, 109, 45, 103, 111, 110, 101]), .lit (.string [101, 120, 112, 101, 99, 116, 45, 114, 101, 106, 101, 99, 116, 101, 100])]
def laid_unicode_utf8_acceptRanges {H : Type} : DataW H := .agg [.agg [.lit (.int .u8 128), .lit (.int .u8 191)], .agg [.lit (.int .u8 160), .lit (.int .u8 191)], .agg [.lit (.int .u8 128), .lit (.int .u8 159)], .agg [.lit (.int .u8 144), .lit (.int .u8 191)], .agg [.lit (.int .u8 128), .lit (.int .u8 143)], .agg [.lit (.int .u8 0), .lit (.int .u8 0)], .agg [.lit (.int .u8 0), .lit (.int .u8 0)], .agg [.lit (.int .u8 0), .lit (.int .u8 0)], .agg [.lit (.int .u8 0), .lit (.int .u8 0)], .agg [.lit (.int .u8 0), .lit (.int .u8 0)], .agg [.lit (.int .u8 0), .lit (.int .u8 0)], .agg [.lit (.int .u8 0), .lit (.int .u8 0)], .agg [.lit (.int .u8 0), .lit (.int .u8 0)], .agg [.lit (.int .u8 0), .lit (.int .u8 0)], .agg [.lit (.int .u8 0), .lit (.int .u8 0)], .agg [.lit (.int .u8 0), .lit (.int .u8 0)]]
def laid_catchpit_octet_ends {H : Type} : DataW H := .agg [.agg [.lit (.int .u8 48), .lit (.int .u8 57)], .agg [.lit (.int .u8 65), .lit (.int .u8 90)], .agg [.lit (.int .u8 97), .lit (.int .u8 122)]]
/-- One of Go's own tables, pinned by name: the form's constant. -/
def laid_unicode_utf8_first : DataW Unit := Go.Pinned.utf8First

/-- 'catchpitlaw19.ValveBack': WHATEVER THE INPUT: true; the input reads as it did. -/
def valveBackSpec : ChangeSpec := { name := "valveBack", fn := fun _ => fun
  | [d] => { results := [.lit (.bool true)], args := [d] }
  | _ => none }
def valveBackRow : OpenClaim := { program := "ytmdnomeelkmaoaadoor", sum := "03335e67a917b5f86904ee814f77b097e72ef711c414e4392bc81df1dc0b5205", func := "catchpit/catchpitlaw19.ValveBack", spec := "valveBack", inPlace := ["sync/atomic.AddInt64", "sync/atomic.CompareAndSwapInt32", "sync/atomic.LoadUint32", "(*internal/sync.Mutex).Lock", "internal/race.Disable", "internal/race.Enable", "internal/race.Acquire", "(*internal/sync.Mutex).lockSlow", "internal/sync.runtime_canSpin", "internal/sync.runtime_doSpin", "internal/sync.throw", "internal/sync.runtime_nanotime", "internal/sync.runtime_SemacquireMutex", "sync/atomic.AddInt32", "(*internal/sync.Mutex).Unlock", "internal/race.ReleaseMerge", "(*internal/sync.Mutex).unlockSlow", "internal/sync.fatal", "internal/sync.runtime_Semrelease", "sync/atomic.StoreUint32", "sync/atomic.LoadInt32"], unfollowed := true, recurses := true, named := ["catchpit/valve.words"], apart := false, laid := [("catchpit/valve.words", laid_catchpit_valve_words)] }
def ValveBackSaid : Prop := valveBackRow.holds Tryd.pinned (OpenSpec.ofChange valveBackSpec)

/-- ITS FALSE NEIGHBOUR: 'it returns false'. Refute it at one input. -/
def valveBackWrong : ChangeSpec := { name := "valveBack", fn := fun _ => fun
  | [d] => { results := [.lit (.bool false)], args := [d] }
  | _ => none }
def ValveBackWrongFalsely : Prop := valveBackRow.holds Tryd.pinned (OpenSpec.ofChange valveBackWrong)

/-- 'catchpitlaw19.ValveWords': WHATEVER THE INPUT: true; the input reads as it did. -/
def valveWordsSpec : ChangeSpec := { name := "valveWords", fn := fun _ => fun
  | [d1, d2, d3] => { results := [.lit (.bool true)], args := [d1, d2, d3] }
  | _ => none }
def valveWordsRow : OpenClaim := { program := "ytmdnomeelkmaoaadoor", sum := "03335e67a917b5f86904ee814f77b097e72ef711c414e4392bc81df1dc0b5205", func := "catchpit/catchpitlaw19.ValveWords", spec := "valveWords", inPlace := ["sync/atomic.AddInt64", "sync/atomic.CompareAndSwapInt32", "sync/atomic.LoadUint32", "(*internal/sync.Mutex).Lock", "internal/race.Disable", "internal/race.Enable", "internal/race.Acquire", "(*internal/sync.Mutex).lockSlow", "internal/sync.runtime_canSpin", "internal/sync.runtime_doSpin", "internal/sync.throw", "internal/sync.runtime_nanotime", "internal/sync.runtime_SemacquireMutex", "sync/atomic.AddInt32", "(*internal/sync.Mutex).Unlock", "internal/race.ReleaseMerge", "(*internal/sync.Mutex).unlockSlow", "internal/sync.fatal", "internal/sync.runtime_Semrelease", "sync/atomic.StoreUint32", "sync/atomic.LoadInt32"], unfollowed := true, recurses := true, named := ["catchpit/valve.words"], apart := false, laid := [("catchpit/valve.words", laid_catchpit_valve_words)] }
def ValveWordsSaid : Prop := valveWordsRow.holds Tryd.pinned (OpenSpec.ofChange valveWordsSpec)

/-- ITS FALSE NEIGHBOUR: 'it returns false'. Refute it at one input. -/
def valveWordsWrong : ChangeSpec := { name := "valveWords", fn := fun _ => fun
  | [d1, d2, d3] => { results := [.lit (.bool false)], args := [d1, d2, d3] }
  | _ => none }
def ValveWordsWrongFalsely : Prop := valveWordsRow.holds Tryd.pinned (OpenSpec.ofChange valveWordsWrong)

/-- 'catchpitlaw02.OctetJoins': WHATEVER THE INPUT: true; the input reads as it did. -/
def octetJoinsSpec : ChangeSpec := { name := "octetJoins", fn := fun _ => fun
  | [d1, d2] => { results := [.lit (.bool true)], args := [d1, d2] }
  | _ => none }
def octetJoinsRow : OpenClaim := { program := "ytmdnomeelkmaoaadoor", sum := "03335e67a917b5f86904ee814f77b097e72ef711c414e4392bc81df1dc0b5205", func := "catchpit/catchpitlaw02.OctetJoins", spec := "octetJoins", inPlace := ["internal/bytealg.IndexByteString", "internal/bytealg.IndexString"], unfollowed := true, recurses := true, named := ["catchpit/octet.ends", "unicode/utf8.first", "unicode/utf8.acceptRanges", "internal/bytealg.MaxLen"], apart := false, laid := [("unicode/utf8.acceptRanges", laid_unicode_utf8_acceptRanges), ("catchpit/octet.ends", laid_catchpit_octet_ends), ("unicode/utf8.first", laid_unicode_utf8_first)] }
def OctetJoinsSaid : Prop := octetJoinsRow.holds Tryd.pinned (OpenSpec.ofChange octetJoinsSpec)

/-- ITS FALSE NEIGHBOUR: 'it returns false'. Refute it at one input. -/
def octetJoinsWrong : ChangeSpec := { name := "octetJoins", fn := fun _ => fun
  | [d1, d2] => { results := [.lit (.bool false)], args := [d1, d2] }
  | _ => none }
def OctetJoinsWrongFalsely : Prop := octetJoinsRow.holds Tryd.pinned (OpenSpec.ofChange octetJoinsWrong)

/-- 'catchpitlaw02.OctetKinds': WHATEVER THE INPUT: true; the input reads as it did. -/
def octetKindsSpec : ChangeSpec := { name := "octetKinds", fn := fun _ => fun
  | [d] => { results := [.lit (.bool true)], args := [d] }
  | _ => none }
def octetKindsRow : OpenClaim := { program := "ytmdnomeelkmaoaadoor", sum := "03335e67a917b5f86904ee814f77b097e72ef711c414e4392bc81df1dc0b5205", func := "catchpit/catchpitlaw02.OctetKinds", spec := "octetKinds", inPlace := ["internal/bytealg.IndexByteString", "internal/bytealg.IndexString"], unfollowed := true, recurses := true, named := ["catchpit/octet.ends", "unicode/utf8.first", "unicode/utf8.acceptRanges", "internal/bytealg.MaxLen"], apart := false, laid := [("unicode/utf8.acceptRanges", laid_unicode_utf8_acceptRanges), ("catchpit/octet.ends", laid_catchpit_octet_ends), ("unicode/utf8.first", laid_unicode_utf8_first)] }
def OctetKindsSaid : Prop := octetKindsRow.holds Tryd.pinned (OpenSpec.ofChange octetKindsSpec)

/-- ITS FALSE NEIGHBOUR: 'it returns false'. Refute it at one input. -/
def octetKindsWrong : ChangeSpec := { name := "octetKinds", fn := fun _ => fun
  | [d] => { results := [.lit (.bool false)], args := [d] }
  | _ => none }
def OctetKindsWrongFalsely : Prop := octetKindsRow.holds Tryd.pinned (OpenSpec.ofChange octetKindsWrong)

/-- 'catchpitlaw02.OctetBytes': WHATEVER THE INPUT: true; the input reads as it did. -/
def octetBytesSpec : ChangeSpec := { name := "octetBytes", fn := fun _ => fun
  | [d] => { results := [.lit (.bool true)], args := [d] }
  | _ => none }
def octetBytesRow : OpenClaim := { program := "ytmdnomeelkmaoaadoor", sum := "03335e67a917b5f86904ee814f77b097e72ef711c414e4392bc81df1dc0b5205", func := "catchpit/catchpitlaw02.OctetBytes", spec := "octetBytes", inPlace := ["internal/bytealg.IndexByteString", "internal/bytealg.IndexString"], unfollowed := true, recurses := true, named := ["catchpit/octet.ends", "unicode/utf8.first", "unicode/utf8.acceptRanges", "internal/bytealg.MaxLen"], apart := false, laid := [("unicode/utf8.acceptRanges", laid_unicode_utf8_acceptRanges), ("catchpit/octet.ends", laid_catchpit_octet_ends), ("unicode/utf8.first", laid_unicode_utf8_first)] }
def OctetBytesSaid : Prop := octetBytesRow.holds Tryd.pinned (OpenSpec.ofChange octetBytesSpec)

/-- ITS FALSE NEIGHBOUR: 'it returns false'. Refute it at one input. -/
def octetBytesWrong : ChangeSpec := { name := "octetBytes", fn := fun _ => fun
  | [d] => { results := [.lit (.bool false)], args := [d] }
  | _ => none }
def OctetBytesWrongFalsely : Prop := octetBytesRow.holds Tryd.pinned (OpenSpec.ofChange octetBytesWrong)

/-- 'catchpitlaw02.OctetAlike': WHATEVER THE INPUT: true; the input reads as it did. -/
def octetAlikeSpec : ChangeSpec := { name := "octetAlike", fn := fun _ => fun
  | [d1, d2] => { results := [.lit (.bool true)], args := [d1, d2] }
  | _ => none }
def octetAlikeRow : OpenClaim := { program := "ytmdnomeelkmaoaadoor", sum := "03335e67a917b5f86904ee814f77b097e72ef711c414e4392bc81df1dc0b5205", func := "catchpit/catchpitlaw02.OctetAlike", spec := "octetAlike", inPlace := ["internal/bytealg.IndexByteString", "internal/bytealg.IndexString"], unfollowed := true, recurses := true, named := ["catchpit/octet.ends", "unicode/utf8.first", "unicode/utf8.acceptRanges", "internal/bytealg.MaxLen"], apart := false, laid := [("unicode/utf8.acceptRanges", laid_unicode_utf8_acceptRanges), ("catchpit/octet.ends", laid_catchpit_octet_ends), ("unicode/utf8.first", laid_unicode_utf8_first)] }
def OctetAlikeSaid : Prop := octetAlikeRow.holds Tryd.pinned (OpenSpec.ofChange octetAlikeSpec)

/-- ITS FALSE NEIGHBOUR: 'it returns false'. Refute it at one input. -/
def octetAlikeWrong : ChangeSpec := { name := "octetAlike", fn := fun _ => fun
  | [d1, d2] => { results := [.lit (.bool false)], args := [d1, d2] }
  | _ => none }
def OctetAlikeWrongFalsely : Prop := octetAlikeRow.holds Tryd.pinned (OpenSpec.ofChange octetAlikeWrong)

/-- 'catchpitlaw02.OctetTrims': WHATEVER THE INPUT: true; the input reads as it did. -/
def octetTrimsSpec : ChangeSpec := { name := "octetTrims", fn := fun _ => fun
  | [d] => { results := [.lit (.bool true)], args := [d] }
  | _ => none }
def octetTrimsRow : OpenClaim := { program := "ytmdnomeelkmaoaadoor", sum := "03335e67a917b5f86904ee814f77b097e72ef711c414e4392bc81df1dc0b5205", func := "catchpit/catchpitlaw02.OctetTrims", spec := "octetTrims", inPlace := ["internal/bytealg.IndexByteString", "internal/bytealg.IndexString"], unfollowed := true, recurses := true, named := ["catchpit/octet.ends", "unicode/utf8.first", "unicode/utf8.acceptRanges", "internal/bytealg.MaxLen"], apart := false, laid := [("unicode/utf8.acceptRanges", laid_unicode_utf8_acceptRanges), ("catchpit/octet.ends", laid_catchpit_octet_ends), ("unicode/utf8.first", laid_unicode_utf8_first)] }
def OctetTrimsSaid : Prop := octetTrimsRow.holds Tryd.pinned (OpenSpec.ofChange octetTrimsSpec)

/-- ITS FALSE NEIGHBOUR: 'it returns false'. Refute it at one input. -/
def octetTrimsWrong : ChangeSpec := { name := "octetTrims", fn := fun _ => fun
  | [d] => { results := [.lit (.bool false)], args := [d] }
  | _ => none }
def OctetTrimsWrongFalsely : Prop := octetTrimsRow.holds Tryd.pinned (OpenSpec.ofChange octetTrimsWrong)

/- THE SECOND FORM. 'bulk': how many values and letters a reading holds, each counted each time it is reached (what is shared counts as often as it is met; a slice's spare places count too). A statement '..UptoSaid' is the law's where the arguments, and the package variables that the reading takes, are together of bulk at most 1048576: NARROWER than '..Said'. Prove '..Said' where nothing that the law and all that it calls make is longer than what came in: it says more and counts as full. Else prove '..UptoSaid'. A law counts once. -/
mutual
def uptoBulk {H : Type} : DataW H → Nat
  | .lit (.string bytes) => bytes.length + 1
  | .lit _ => 1
  | .nil => 1
  | .ptr d => uptoBulk d + 1
  | .slice elems spare => uptoBulkAll elems + uptoBulkAll spare + 1
  | .agg parts => uptoBulkAll parts + 1
  | .iface _ d => uptoBulk d + 1
  | .map entries => uptoBulkEntries entries + 1
  | .held _ => 1
def uptoBulkAll {H : Type} : List (DataW H) → Nat
  | [] => 0
  | d :: r => uptoBulk d + uptoBulkAll r
def uptoBulkEntries {H : Type} : List (Lit × DataW H) → Nat
  | [] => 0
  | x :: r => uptoBulkEntry x + uptoBulkEntries r
def uptoBulkEntry {H : Type} : Lit × DataW H → Nat
  | (.string bytes, d) => bytes.length + uptoBulk d + 1
  | (_, d) => uptoBulk d + 1
 end
def uptoSmall : (H : Type) → List (DataW H) → Bool := fun _ ds => decide (uptoBulkAll ds ≤ 1048576)
def OpenSpec.upto (s : _root_.Go.ChangeSpec) : _root_.Go.OpenSpec := { _root_.Go.OpenSpec.ofChange s with cond := some uptoSmall }

/-- 'catchpitlaw19.ValveBack', WHERE WHAT IT READS IS OF BULK AT MOST 1048576: true; the input reads as it did. -/
def valveBackUptoRow : OpenClaim := { program := "ytmdnomeelkmaoaadoor", sum := "03335e67a917b5f86904ee814f77b097e72ef711c414e4392bc81df1dc0b5205", func := "catchpit/catchpitlaw19.ValveBack", spec := "valveBack", inPlace := ["sync/atomic.AddInt64", "sync/atomic.CompareAndSwapInt32", "sync/atomic.LoadUint32", "(*internal/sync.Mutex).Lock", "internal/race.Disable", "internal/race.Enable", "internal/race.Acquire", "(*internal/sync.Mutex).lockSlow", "internal/sync.runtime_canSpin", "internal/sync.runtime_doSpin", "internal/sync.throw", "internal/sync.runtime_nanotime", "internal/sync.runtime_SemacquireMutex", "sync/atomic.AddInt32", "(*internal/sync.Mutex).Unlock", "internal/race.ReleaseMerge", "(*internal/sync.Mutex).unlockSlow", "internal/sync.fatal", "internal/sync.runtime_Semrelease", "sync/atomic.StoreUint32", "sync/atomic.LoadInt32"], unfollowed := true, recurses := true, named := ["catchpit/valve.words"], apart := false, laid := [("catchpit/valve.words", laid_catchpit_valve_words)], narrowed := true }
def ValveBackUptoSaid : Prop := valveBackUptoRow.holds Tryd.pinned (OpenSpec.upto valveBackSpec)

/-- 'catchpitlaw19.ValveWords', WHERE WHAT IT READS IS OF BULK AT MOST 1048576: true; the input reads as it did. -/
def valveWordsUptoRow : OpenClaim := { program := "ytmdnomeelkmaoaadoor", sum := "03335e67a917b5f86904ee814f77b097e72ef711c414e4392bc81df1dc0b5205", func := "catchpit/catchpitlaw19.ValveWords", spec := "valveWords", inPlace := ["sync/atomic.AddInt64", "sync/atomic.CompareAndSwapInt32", "sync/atomic.LoadUint32", "(*internal/sync.Mutex).Lock", "internal/race.Disable", "internal/race.Enable", "internal/race.Acquire", "(*internal/sync.Mutex).lockSlow", "internal/sync.runtime_canSpin", "internal/sync.runtime_doSpin", "internal/sync.throw", "internal/sync.runtime_nanotime", "internal/sync.runtime_SemacquireMutex", "sync/atomic.AddInt32", "(*internal/sync.Mutex).Unlock", "internal/race.ReleaseMerge", "(*internal/sync.Mutex).unlockSlow", "internal/sync.fatal", "internal/sync.runtime_Semrelease", "sync/atomic.StoreUint32", "sync/atomic.LoadInt32"], unfollowed := true, recurses := true, named := ["catchpit/valve.words"], apart := false, laid := [("catchpit/valve.words", laid_catchpit_valve_words)], narrowed := true }
def ValveWordsUptoSaid : Prop := valveWordsUptoRow.holds Tryd.pinned (OpenSpec.upto valveWordsSpec)

/-- 'catchpitlaw02.OctetJoins', WHERE WHAT IT READS IS OF BULK AT MOST 1048576: true; the input reads as it did. -/
def octetJoinsUptoRow : OpenClaim := { program := "ytmdnomeelkmaoaadoor", sum := "03335e67a917b5f86904ee814f77b097e72ef711c414e4392bc81df1dc0b5205", func := "catchpit/catchpitlaw02.OctetJoins", spec := "octetJoins", inPlace := ["internal/bytealg.IndexByteString", "internal/bytealg.IndexString"], unfollowed := true, recurses := true, named := ["catchpit/octet.ends", "unicode/utf8.first", "unicode/utf8.acceptRanges", "internal/bytealg.MaxLen"], apart := false, laid := [("unicode/utf8.acceptRanges", laid_unicode_utf8_acceptRanges), ("catchpit/octet.ends", laid_catchpit_octet_ends), ("unicode/utf8.first", laid_unicode_utf8_first)], narrowed := true }
def OctetJoinsUptoSaid : Prop := octetJoinsUptoRow.holds Tryd.pinned (OpenSpec.upto octetJoinsSpec)

/-- 'catchpitlaw02.OctetKinds', WHERE WHAT IT READS IS OF BULK AT MOST 1048576: true; the input reads as it did. -/
def octetKindsUptoRow : OpenClaim := { program := "ytmdnomeelkmaoaadoor", sum := "03335e67a917b5f86904ee814f77b097e72ef711c414e4392bc81df1dc0b5205", func := "catchpit/catchpitlaw02.OctetKinds", spec := "octetKinds", inPlace := ["internal/bytealg.IndexByteString", "internal/bytealg.IndexString"], unfollowed := true, recurses := true, named := ["catchpit/octet.ends", "unicode/utf8.first", "unicode/utf8.acceptRanges", "internal/bytealg.MaxLen"], apart := false, laid := [("unicode/utf8.acceptRanges", laid_unicode_utf8_acceptRanges), ("catchpit/octet.ends", laid_catchpit_octet_ends), ("unicode/utf8.first", laid_unicode_utf8_first)], narrowed := true }
def OctetKindsUptoSaid : Prop := octetKindsUptoRow.holds Tryd.pinned (OpenSpec.upto octetKindsSpec)

/-- 'catchpitlaw02.OctetBytes', WHERE WHAT IT READS IS OF BULK AT MOST 1048576: true; the input reads as it did. -/
def octetBytesUptoRow : OpenClaim := { program := "ytmdnomeelkmaoaadoor", sum := "03335e67a917b5f86904ee814f77b097e72ef711c414e4392bc81df1dc0b5205", func := "catchpit/catchpitlaw02.OctetBytes", spec := "octetBytes", inPlace := ["internal/bytealg.IndexByteString", "internal/bytealg.IndexString"], unfollowed := true, recurses := true, named := ["catchpit/octet.ends", "unicode/utf8.first", "unicode/utf8.acceptRanges", "internal/bytealg.MaxLen"], apart := false, laid := [("unicode/utf8.acceptRanges", laid_unicode_utf8_acceptRanges), ("catchpit/octet.ends", laid_catchpit_octet_ends), ("unicode/utf8.first", laid_unicode_utf8_first)], narrowed := true }
def OctetBytesUptoSaid : Prop := octetBytesUptoRow.holds Tryd.pinned (OpenSpec.upto octetBytesSpec)

/-- 'catchpitlaw02.OctetAlike', WHERE WHAT IT READS IS OF BULK AT MOST 1048576: true; the input reads as it did. -/
def octetAlikeUptoRow : OpenClaim := { program := "ytmdnomeelkmaoaadoor", sum := "03335e67a917b5f86904ee814f77b097e72ef711c414e4392bc81df1dc0b5205", func := "catchpit/catchpitlaw02.OctetAlike", spec := "octetAlike", inPlace := ["internal/bytealg.IndexByteString", "internal/bytealg.IndexString"], unfollowed := true, recurses := true, named := ["catchpit/octet.ends", "unicode/utf8.first", "unicode/utf8.acceptRanges", "internal/bytealg.MaxLen"], apart := false, laid := [("unicode/utf8.acceptRanges", laid_unicode_utf8_acceptRanges), ("catchpit/octet.ends", laid_catchpit_octet_ends), ("unicode/utf8.first", laid_unicode_utf8_first)], narrowed := true }
def OctetAlikeUptoSaid : Prop := octetAlikeUptoRow.holds Tryd.pinned (OpenSpec.upto octetAlikeSpec)

/-- 'catchpitlaw02.OctetTrims', WHERE WHAT IT READS IS OF BULK AT MOST 1048576: true; the input reads as it did. -/
def octetTrimsUptoRow : OpenClaim := { program := "ytmdnomeelkmaoaadoor", sum := "03335e67a917b5f86904ee814f77b097e72ef711c414e4392bc81df1dc0b5205", func := "catchpit/catchpitlaw02.OctetTrims", spec := "octetTrims", inPlace := ["internal/bytealg.IndexByteString", "internal/bytealg.IndexString"], unfollowed := true, recurses := true, named := ["catchpit/octet.ends", "unicode/utf8.first", "unicode/utf8.acceptRanges", "internal/bytealg.MaxLen"], apart := false, laid := [("unicode/utf8.acceptRanges", laid_unicode_utf8_acceptRanges), ("catchpit/octet.ends", laid_catchpit_octet_ends), ("unicode/utf8.first", laid_unicode_utf8_first)], narrowed := true }
def OctetTrimsUptoSaid : Prop := octetTrimsUptoRow.holds Tryd.pinned (OpenSpec.upto octetTrimsSpec)

end Rows
end Go.Proofs.YtmdnomeelkmaoaaDoor
