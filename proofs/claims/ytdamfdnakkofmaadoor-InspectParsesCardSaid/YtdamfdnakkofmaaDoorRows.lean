/-
  NARROWER THAN 'FOR EVERY INPUT', by the rows' own cells (each row's printed sentence says how): InspectNumbers: laid · InspectCurves: laid · InspectTells: laid · InspectParses: laid · TraceBytes: laid · TraceJoins: laid · TraceLines: laid · TraceParses: laid.
  DERIVED. THE GIVEN ROWS OF THIS SEAT. 8 by the template 'for every input the law returns true; each argument reads behind the call as it read before'; 0 by the template 'total and deterministic' (their statements: YtdamfdnakkofmaaDoorTotals.lean).
  GIVEN WITH THE SEED: the statements are not yours to turn. If you find one false, say at which input.
  Laid BY PROGRAM, IN A SANDBOX (cutbox-rows.mjs): the forced cells as the released guide's own fill.sh prints them over the translation 9d229047fd07eda7… (all of the seat's roots in one cut). By AI agents, Wed Nov 11 2026. No macro, syntax, notation, axiom, sorry.
-/
import Derived.Test.YtdamfdnakkofmaaDoorChecked
import GoSem.PinnedTables
import GoSem.Claim
import GoSem.ClaimJoined
import GoSem.ClaimMapViews
import Derived.JoinedTies
import Derived.KernelRfl
namespace Go.Proofs.YtdamfdnakkofmaaDoor
/- THE CELL 'sum', in the pinned program and in every row, IS THE sha256 OF THE DUMP (.gsa) THAT YtdamfdnakkofmaaDoorProg.lean LOADS. Nothing in Lean hashes anything: it is a label: what it is worth is what the hold of that sum in a sandbox is worth. -/
noncomputable def Tryd.pinned : Pinned := { name := "ytdamfdnakkofmaadoor", sum := "9d229047fd07eda747bc240d57af800af3f839bb9a39fc42a89759d1fd00d68f", checked := Tryd.checked }
namespace Rows
def none {H : Type} : Left H := { results := [], args := [] }

/- WHAT THE LISTED PACKAGE-LEVEL VARIABLES READ AS WHEN THE CALL BEGINS. Each datum BY PROGRAM (the guide's laid-datum.mjs) off the statement by which the dump's own 'gosem.cut.vars' lays the variable. In a bare row this is a premise. The card (YtdamfdnakkofmaaDoorCards.lean) ties it to the program's text. -/
def laid_unicode_utf8_acceptRanges {H : Type} : DataW H := .agg [.agg [.lit (.int .u8 128), .lit (.int .u8 191)], .agg [.lit (.int .u8 160), .lit (.int .u8 191)], .agg [.lit (.int .u8 128), .lit (.int .u8 159)], .agg [.lit (.int .u8 144), .lit (.int .u8 191)], .agg [.lit (.int .u8 128), .lit (.int .u8 143)], .agg [.lit (.int .u8 0), .lit (.int .u8 0)], .agg [.lit (.int .u8 0), .lit (.int .u8 0)], .agg [.lit (.int .u8 0), .lit (.int .u8 0)], .agg [.lit (.int .u8 0), .lit (.int .u8 0)], .agg [.lit (.int .u8 0), .lit (.int .u8 0)], .agg [.lit (.int .u8 0), .lit (.int .u8 0)], .agg [.lit (.int .u8 0), .lit (.int .u8 0)], .agg [.lit (.int .u8 0), .lit (.int .u8 0)], .agg [.lit (.int .u8 0), .lit (.int .u8 0)], .agg [.lit (.int .u8 0), .lit (.int .u8 0)], .agg [.lit (.int .u8 0), .lit (.int .u8 0)]]
/-- One of Go's own tables, pinned by name: the form's constant. -/
def laid_unicode_utf8_first : DataW Unit := Go.Pinned.utf8First

/-- 'floodgatelaw40.InspectNumbers': WHATEVER THE INPUT: true; the input reads as it did. -/
def inspectNumbersSpec : ChangeSpec := { name := "inspectNumbers", fn := fun _ => fun
  | [d1, d2, d3] => { results := [.lit (.bool true)], args := [d1, d2, d3] }
  | _ => none }
def inspectNumbersRow : OpenClaim := { program := "ytdamfdnakkofmaadoor", sum := "9d229047fd07eda747bc240d57af800af3f839bb9a39fc42a89759d1fd00d68f", func := "floodgate/floodgatelaw40.InspectNumbers", spec := "inspectNumbers", inPlace := ["internal/bytealg.CountString", "internal/bytealg.IndexByteString", "internal/bytealg.IndexString", "internal/abi.NoEscape", "internal/bytealg.MakeNoZero"], unfollowed := true, recurses := true, named := ["unicode/utf8.first", "unicode/utf8.acceptRanges", "internal/bytealg.MaxLen"], apart := false, laid := [("unicode/utf8.acceptRanges", laid_unicode_utf8_acceptRanges), ("unicode/utf8.first", laid_unicode_utf8_first)] }
def InspectNumbersSaid : Prop := inspectNumbersRow.holds Tryd.pinned (OpenSpec.ofChange inspectNumbersSpec)

/-- ITS FALSE NEIGHBOUR: 'it returns false'. Refute it at one input. -/
def inspectNumbersWrong : ChangeSpec := { name := "inspectNumbers", fn := fun _ => fun
  | [d1, d2, d3] => { results := [.lit (.bool false)], args := [d1, d2, d3] }
  | _ => none }
def InspectNumbersWrongFalsely : Prop := inspectNumbersRow.holds Tryd.pinned (OpenSpec.ofChange inspectNumbersWrong)

/-- 'floodgatelaw40.InspectCurves': WHATEVER THE INPUT: true; the input reads as it did. -/
def inspectCurvesSpec : ChangeSpec := { name := "inspectCurves", fn := fun _ => fun
  | [d1, d2] => { results := [.lit (.bool true)], args := [d1, d2] }
  | _ => none }
def inspectCurvesRow : OpenClaim := { program := "ytdamfdnakkofmaadoor", sum := "9d229047fd07eda747bc240d57af800af3f839bb9a39fc42a89759d1fd00d68f", func := "floodgate/floodgatelaw40.InspectCurves", spec := "inspectCurves", inPlace := ["internal/bytealg.CountString", "internal/bytealg.IndexByteString", "internal/bytealg.IndexString", "internal/abi.NoEscape", "internal/bytealg.MakeNoZero"], unfollowed := true, recurses := true, named := ["unicode/utf8.first", "unicode/utf8.acceptRanges", "internal/bytealg.MaxLen"], apart := false, laid := [("unicode/utf8.acceptRanges", laid_unicode_utf8_acceptRanges), ("unicode/utf8.first", laid_unicode_utf8_first)] }
def InspectCurvesSaid : Prop := inspectCurvesRow.holds Tryd.pinned (OpenSpec.ofChange inspectCurvesSpec)

/-- ITS FALSE NEIGHBOUR: 'it returns false'. Refute it at one input. -/
def inspectCurvesWrong : ChangeSpec := { name := "inspectCurves", fn := fun _ => fun
  | [d1, d2] => { results := [.lit (.bool false)], args := [d1, d2] }
  | _ => none }
def InspectCurvesWrongFalsely : Prop := inspectCurvesRow.holds Tryd.pinned (OpenSpec.ofChange inspectCurvesWrong)

/-- 'floodgatelaw40.InspectTells': WHATEVER THE INPUT: true; the input reads as it did. -/
def inspectTellsSpec : ChangeSpec := { name := "inspectTells", fn := fun _ => fun
  | [d] => { results := [.lit (.bool true)], args := [d] }
  | _ => none }
def inspectTellsRow : OpenClaim := { program := "ytdamfdnakkofmaadoor", sum := "9d229047fd07eda747bc240d57af800af3f839bb9a39fc42a89759d1fd00d68f", func := "floodgate/floodgatelaw40.InspectTells", spec := "inspectTells", inPlace := ["internal/abi.NoEscape", "internal/bytealg.MakeNoZero", "internal/bytealg.CountString", "internal/bytealg.IndexByteString", "internal/bytealg.IndexString"], unfollowed := true, recurses := true, named := ["unicode/utf8.first", "unicode/utf8.acceptRanges", "internal/bytealg.MaxLen"], apart := false, laid := [("unicode/utf8.acceptRanges", laid_unicode_utf8_acceptRanges), ("unicode/utf8.first", laid_unicode_utf8_first)] }
def InspectTellsSaid : Prop := inspectTellsRow.holds Tryd.pinned (OpenSpec.ofChange inspectTellsSpec)

/-- ITS FALSE NEIGHBOUR: 'it returns false'. Refute it at one input. -/
def inspectTellsWrong : ChangeSpec := { name := "inspectTells", fn := fun _ => fun
  | [d] => { results := [.lit (.bool false)], args := [d] }
  | _ => none }
def InspectTellsWrongFalsely : Prop := inspectTellsRow.holds Tryd.pinned (OpenSpec.ofChange inspectTellsWrong)

/-- 'floodgatelaw40.InspectParses': WHATEVER THE INPUT: true; the input reads as it did. -/
def inspectParsesSpec : ChangeSpec := { name := "inspectParses", fn := fun _ => fun
  | [d] => { results := [.lit (.bool true)], args := [d] }
  | _ => none }
def inspectParsesRow : OpenClaim := { program := "ytdamfdnakkofmaadoor", sum := "9d229047fd07eda747bc240d57af800af3f839bb9a39fc42a89759d1fd00d68f", func := "floodgate/floodgatelaw40.InspectParses", spec := "inspectParses", inPlace := ["internal/bytealg.CountString", "internal/bytealg.IndexByteString", "internal/bytealg.IndexString", "internal/abi.NoEscape", "internal/bytealg.MakeNoZero"], unfollowed := true, recurses := true, named := ["unicode/utf8.first", "unicode/utf8.acceptRanges", "internal/bytealg.MaxLen"], apart := false, laid := [("unicode/utf8.acceptRanges", laid_unicode_utf8_acceptRanges), ("unicode/utf8.first", laid_unicode_utf8_first)] }
def InspectParsesSaid : Prop := inspectParsesRow.holds Tryd.pinned (OpenSpec.ofChange inspectParsesSpec)

/-- ITS FALSE NEIGHBOUR: 'it returns false'. Refute it at one input. -/
def inspectParsesWrong : ChangeSpec := { name := "inspectParses", fn := fun _ => fun
  | [d] => { results := [.lit (.bool false)], args := [d] }
  | _ => none }
def InspectParsesWrongFalsely : Prop := inspectParsesRow.holds Tryd.pinned (OpenSpec.ofChange inspectParsesWrong)

/-- 'floodgatelaw30.TraceBytes': WHATEVER THE INPUT: true; the input reads as it did. -/
def traceBytesSpec : ChangeSpec := { name := "traceBytes", fn := fun _ => fun
  | [d1, d2, d3] => { results := [.lit (.bool true)], args := [d1, d2, d3] }
  | _ => none }
def traceBytesRow : OpenClaim := { program := "ytdamfdnakkofmaadoor", sum := "9d229047fd07eda747bc240d57af800af3f839bb9a39fc42a89759d1fd00d68f", func := "floodgate/floodgatelaw30.TraceBytes", spec := "traceBytes", inPlace := ["internal/abi.NoEscape", "internal/bytealg.MakeNoZero", "internal/bytealg.CountString", "internal/bytealg.IndexByteString", "internal/bytealg.IndexString"], unfollowed := true, recurses := true, named := ["unicode/utf8.first", "unicode/utf8.acceptRanges", "internal/bytealg.MaxLen"], apart := false, laid := [("unicode/utf8.acceptRanges", laid_unicode_utf8_acceptRanges), ("unicode/utf8.first", laid_unicode_utf8_first)] }
def TraceBytesSaid : Prop := traceBytesRow.holds Tryd.pinned (OpenSpec.ofChange traceBytesSpec)

/-- ITS FALSE NEIGHBOUR: 'it returns false'. Refute it at one input. -/
def traceBytesWrong : ChangeSpec := { name := "traceBytes", fn := fun _ => fun
  | [d1, d2, d3] => { results := [.lit (.bool false)], args := [d1, d2, d3] }
  | _ => none }
def TraceBytesWrongFalsely : Prop := traceBytesRow.holds Tryd.pinned (OpenSpec.ofChange traceBytesWrong)

/-- 'floodgatelaw30.TraceJoins': WHATEVER THE INPUT: true; the input reads as it did. -/
def traceJoinsSpec : ChangeSpec := { name := "traceJoins", fn := fun _ => fun
  | [d1, d2, d3] => { results := [.lit (.bool true)], args := [d1, d2, d3] }
  | _ => none }
def traceJoinsRow : OpenClaim := { program := "ytdamfdnakkofmaadoor", sum := "9d229047fd07eda747bc240d57af800af3f839bb9a39fc42a89759d1fd00d68f", func := "floodgate/floodgatelaw30.TraceJoins", spec := "traceJoins", inPlace := ["internal/abi.NoEscape", "internal/bytealg.MakeNoZero", "internal/bytealg.CountString", "internal/bytealg.IndexByteString", "internal/bytealg.IndexString"], unfollowed := true, recurses := true, named := ["unicode/utf8.first", "unicode/utf8.acceptRanges", "internal/bytealg.MaxLen"], apart := false, laid := [("unicode/utf8.acceptRanges", laid_unicode_utf8_acceptRanges), ("unicode/utf8.first", laid_unicode_utf8_first)] }
def TraceJoinsSaid : Prop := traceJoinsRow.holds Tryd.pinned (OpenSpec.ofChange traceJoinsSpec)

/-- ITS FALSE NEIGHBOUR: 'it returns false'. Refute it at one input. -/
def traceJoinsWrong : ChangeSpec := { name := "traceJoins", fn := fun _ => fun
  | [d1, d2, d3] => { results := [.lit (.bool false)], args := [d1, d2, d3] }
  | _ => none }
def TraceJoinsWrongFalsely : Prop := traceJoinsRow.holds Tryd.pinned (OpenSpec.ofChange traceJoinsWrong)

/-- 'floodgatelaw30.TraceLines': WHATEVER THE INPUT: true; the input reads as it did. -/
def traceLinesSpec : ChangeSpec := { name := "traceLines", fn := fun _ => fun
  | [d] => { results := [.lit (.bool true)], args := [d] }
  | _ => none }
def traceLinesRow : OpenClaim := { program := "ytdamfdnakkofmaadoor", sum := "9d229047fd07eda747bc240d57af800af3f839bb9a39fc42a89759d1fd00d68f", func := "floodgate/floodgatelaw30.TraceLines", spec := "traceLines", inPlace := ["internal/abi.NoEscape", "internal/bytealg.MakeNoZero", "internal/bytealg.CountString", "internal/bytealg.IndexByteString", "internal/bytealg.IndexString"], unfollowed := true, recurses := true, named := ["unicode/utf8.first", "unicode/utf8.acceptRanges", "internal/bytealg.MaxLen"], apart := false, laid := [("unicode/utf8.acceptRanges", laid_unicode_utf8_acceptRanges), ("unicode/utf8.first", laid_unicode_utf8_first)] }
def TraceLinesSaid : Prop := traceLinesRow.holds Tryd.pinned (OpenSpec.ofChange traceLinesSpec)

/-- ITS FALSE NEIGHBOUR: 'it returns false'. Refute it at one input. -/
def traceLinesWrong : ChangeSpec := { name := "traceLines", fn := fun _ => fun
  | [d] => { results := [.lit (.bool false)], args := [d] }
  | _ => none }
def TraceLinesWrongFalsely : Prop := traceLinesRow.holds Tryd.pinned (OpenSpec.ofChange traceLinesWrong)

/-- 'floodgatelaw30.TraceParses': WHATEVER THE INPUT: true; the input reads as it did. -/
def traceParsesSpec : ChangeSpec := { name := "traceParses", fn := fun _ => fun
  | [d] => { results := [.lit (.bool true)], args := [d] }
  | _ => none }
def traceParsesRow : OpenClaim := { program := "ytdamfdnakkofmaadoor", sum := "9d229047fd07eda747bc240d57af800af3f839bb9a39fc42a89759d1fd00d68f", func := "floodgate/floodgatelaw30.TraceParses", spec := "traceParses", inPlace := ["internal/bytealg.CountString", "internal/bytealg.IndexByteString", "internal/bytealg.IndexString", "internal/abi.NoEscape", "internal/bytealg.MakeNoZero"], unfollowed := true, recurses := true, named := ["unicode/utf8.first", "unicode/utf8.acceptRanges", "internal/bytealg.MaxLen"], apart := false, laid := [("unicode/utf8.acceptRanges", laid_unicode_utf8_acceptRanges), ("unicode/utf8.first", laid_unicode_utf8_first)] }
def TraceParsesSaid : Prop := traceParsesRow.holds Tryd.pinned (OpenSpec.ofChange traceParsesSpec)

/-- ITS FALSE NEIGHBOUR: 'it returns false'. Refute it at one input. -/
def traceParsesWrong : ChangeSpec := { name := "traceParses", fn := fun _ => fun
  | [d] => { results := [.lit (.bool false)], args := [d] }
  | _ => none }
def TraceParsesWrongFalsely : Prop := traceParsesRow.holds Tryd.pinned (OpenSpec.ofChange traceParsesWrong)

/- THE SECOND FORM. 'bulk': how many values and letters a reading holds, each counted each time it is reached (what is shared counts as often as it is met; a slice's spare places count too). A statement '..UptoSaid' is the law's where the arguments, and the package variables that the reading takes, are together of bulk at most 1048576: NARROWER than '..Said'. Prove '..Said' where nothing that the law and all that it calls make is longer than what came in: it says more and counts as full. Else prove '..UptoSaid'. A law counts once. -/
mutual
def uptoBulk {H : Type} : DataW H → Nat
  | .lit (.string bytes) => bytes.length + 1
  | .lit _ => 1
  | .nil => 1
  | .ptr d => uptoBulk d + 1
  | .slice elems spare => uptoBulkAll elems + uptoBulkAll spare + 1
  | .agg parts => uptoBulkAll parts + 1
  | .iface _ d => uptoBulk d + 1
  | .map entries => uptoBulkEntries entries + 1
  | .held _ => 1
def uptoBulkAll {H : Type} : List (DataW H) → Nat
  | [] => 0
  | d :: r => uptoBulk d + uptoBulkAll r
def uptoBulkEntries {H : Type} : List (Lit × DataW H) → Nat
  | [] => 0
  | x :: r => uptoBulkEntry x + uptoBulkEntries r
def uptoBulkEntry {H : Type} : Lit × DataW H → Nat
  | (.string bytes, d) => bytes.length + uptoBulk d + 1
  | (_, d) => uptoBulk d + 1
 end
def uptoSmall : (H : Type) → List (DataW H) → Bool := fun _ ds => decide (uptoBulkAll ds ≤ 1048576)
def OpenSpec.upto (s : _root_.Go.ChangeSpec) : _root_.Go.OpenSpec := { _root_.Go.OpenSpec.ofChange s with cond := some uptoSmall }

/-- 'floodgatelaw40.InspectNumbers', WHERE WHAT IT READS IS OF BULK AT MOST 1048576: true; the input reads as it did. -/
def inspectNumbersUptoRow : OpenClaim := { program := "ytdamfdnakkofmaadoor", sum := "9d229047fd07eda747bc240d57af800af3f839bb9a39fc42a89759d1fd00d68f", func := "floodgate/floodgatelaw40.InspectNumbers", spec := "inspectNumbers", inPlace := ["internal/bytealg.CountString", "internal/bytealg.IndexByteString", "internal/bytealg.IndexString", "internal/abi.NoEscape", "internal/bytealg.MakeNoZero"], unfollowed := true, recurses := true, named := ["unicode/utf8.first", "unicode/utf8.acceptRanges", "internal/bytealg.MaxLen"], apart := false, laid := [("unicode/utf8.acceptRanges", laid_unicode_utf8_acceptRanges), ("unicode/utf8.first", laid_unicode_utf8_first)], narrowed := true }
def InspectNumbersUptoSaid : Prop := inspectNumbersUptoRow.holds Tryd.pinned (OpenSpec.upto inspectNumbersSpec)

/-- 'floodgatelaw40.InspectCurves', WHERE WHAT IT READS IS OF BULK AT MOST 1048576: true; the input reads as it did. -/
def inspectCurvesUptoRow : OpenClaim := { program := "ytdamfdnakkofmaadoor", sum := "9d229047fd07eda747bc240d57af800af3f839bb9a39fc42a89759d1fd00d68f", func := "floodgate/floodgatelaw40.InspectCurves", spec := "inspectCurves", inPlace := ["internal/bytealg.CountString", "internal/bytealg.IndexByteString", "internal/bytealg.IndexString", "internal/abi.NoEscape", "internal/bytealg.MakeNoZero"], unfollowed := true, recurses := true, named := ["unicode/utf8.first", "unicode/utf8.acceptRanges", "internal/bytealg.MaxLen"], apart := false, laid := [("unicode/utf8.acceptRanges", laid_unicode_utf8_acceptRanges), ("unicode/utf8.first", laid_unicode_utf8_first)], narrowed := true }
def InspectCurvesUptoSaid : Prop := inspectCurvesUptoRow.holds Tryd.pinned (OpenSpec.upto inspectCurvesSpec)

/-- 'floodgatelaw40.InspectTells', WHERE WHAT IT READS IS OF BULK AT MOST 1048576: true; the input reads as it did. -/
def inspectTellsUptoRow : OpenClaim := { program := "ytdamfdnakkofmaadoor", sum := "9d229047fd07eda747bc240d57af800af3f839bb9a39fc42a89759d1fd00d68f", func := "floodgate/floodgatelaw40.InspectTells", spec := "inspectTells", inPlace := ["internal/abi.NoEscape", "internal/bytealg.MakeNoZero", "internal/bytealg.CountString", "internal/bytealg.IndexByteString", "internal/bytealg.IndexString"], unfollowed := true, recurses := true, named := ["unicode/utf8.first", "unicode/utf8.acceptRanges", "internal/bytealg.MaxLen"], apart := false, laid := [("unicode/utf8.acceptRanges", laid_unicode_utf8_acceptRanges), ("unicode/utf8.first", laid_unicode_utf8_first)], narrowed := true }
def InspectTellsUptoSaid : Prop := inspectTellsUptoRow.holds Tryd.pinned (OpenSpec.upto inspectTellsSpec)

/-- 'floodgatelaw40.InspectParses', WHERE WHAT IT READS IS OF BULK AT MOST 1048576: true; the input reads as it did. -/
def inspectParsesUptoRow : OpenClaim := { program := "ytdamfdnakkofmaadoor", sum := "9d229047fd07eda747bc240d57af800af3f839bb9a39fc42a89759d1fd00d68f", func := "floodgate/floodgatelaw40.InspectParses", spec := "inspectParses", inPlace := ["internal/bytealg.CountString", "internal/bytealg.IndexByteString", "internal/bytealg.IndexString", "internal/abi.NoEscape", "internal/bytealg.MakeNoZero"], unfollowed := true, recurses := true, named := ["unicode/utf8.first", "unicode/utf8.acceptRanges", "internal/bytealg.MaxLen"], apart := false, laid := [("unicode/utf8.acceptRanges", laid_unicode_utf8_acceptRanges), ("unicode/utf8.first", laid_unicode_utf8_first)], narrowed := true }
def InspectParsesUptoSaid : Prop := inspectParsesUptoRow.holds Tryd.pinned (OpenSpec.upto inspectParsesSpec)

/-- 'floodgatelaw30.TraceBytes', WHERE WHAT IT READS IS OF BULK AT MOST 1048576: true; the input reads as it did. -/
def traceBytesUptoRow : OpenClaim := { program := "ytdamfdnakkofmaadoor", sum := "9d229047fd07eda747bc240d57af800af3f839bb9a39fc42a89759d1fd00d68f", func := "floodgate/floodgatelaw30.TraceBytes", spec := "traceBytes", inPlace := ["internal/abi.NoEscape", "internal/bytealg.MakeNoZero", "internal/bytealg.CountString", "internal/bytealg.IndexByteString", "internal/bytealg.IndexString"], unfollowed := true, recurses := true, named := ["unicode/utf8.first", "unicode/utf8.acceptRanges", "internal/bytealg.MaxLen"], apart := false, laid := [("unicode/utf8.acceptRanges", laid_unicode_utf8_acceptRanges), ("unicode/utf8.first", laid_unicode_utf8_first)], narrowed := true }
def TraceBytesUptoSaid : Prop := traceBytesUptoRow.holds Tryd.pinned (OpenSpec.upto traceBytesSpec)

/-- 'floodgatelaw30.TraceJoins', WHERE WHAT IT READS IS OF BULK AT MOST 1048576: true; the input reads as it did. -/
def traceJoinsUptoRow : OpenClaim := { program := "ytdamfdnakkofmaadoor", sum := "9d229047fd07eda747bc240d57af800af3f839bb9a39fc42a89759d1fd00d68f", func := "floodgate/floodgatelaw30.TraceJoins", spec := "traceJoins", inPlace := ["internal/abi.NoEscape", "internal/bytealg.MakeNoZero", "internal/bytealg.CountString", "internal/bytealg.IndexByteString", "internal/bytealg.IndexString"], unfollowed := true, recurses := true, named := ["unicode/utf8.first", "unicode/utf8.acceptRanges", "internal/bytealg.MaxLen"], apart := false, laid := [("unicode/utf8.acceptRanges", laid_unicode_utf8_acceptRanges), ("unicode/utf8.first", laid_unicode_utf8_first)], narrowed := true }
def TraceJoinsUptoSaid : Prop := traceJoinsUptoRow.holds Tryd.pinned (OpenSpec.upto traceJoinsSpec)

/-- 'floodgatelaw30.TraceLines', WHERE WHAT IT READS IS OF BULK AT MOST 1048576: true; the input reads as it did. -/
def traceLinesUptoRow : OpenClaim := { program := "ytdamfdnakkofmaadoor", sum := "9d229047fd07eda747bc240d57af800af3f839bb9a39fc42a89759d1fd00d68f", func := "floodgate/floodgatelaw30.TraceLines", spec := "traceLines", inPlace := ["internal/abi.NoEscape", "internal/bytealg.MakeNoZero", "internal/bytealg.CountString", "internal/bytealg.IndexByteString", "internal/bytealg.IndexString"], unfollowed := true, recurses := true, named := ["unicode/utf8.first", "unicode/utf8.acceptRanges", "internal/bytealg.MaxLen"], apart := false, laid := [("unicode/utf8.acceptRanges", laid_unicode_utf8_acceptRanges), ("unicode/utf8.first", laid_unicode_utf8_first)], narrowed := true }
def TraceLinesUptoSaid : Prop := traceLinesUptoRow.holds Tryd.pinned (OpenSpec.upto traceLinesSpec)

/-- 'floodgatelaw30.TraceParses', WHERE WHAT IT READS IS OF BULK AT MOST 1048576: true; the input reads as it did. -/
def traceParsesUptoRow : OpenClaim := { program := "ytdamfdnakkofmaadoor", sum := "9d229047fd07eda747bc240d57af800af3f839bb9a39fc42a89759d1fd00d68f", func := "floodgate/floodgatelaw30.TraceParses", spec := "traceParses", inPlace := ["internal/bytealg.CountString", "internal/bytealg.IndexByteString", "internal/bytealg.IndexString", "internal/abi.NoEscape", "internal/bytealg.MakeNoZero"], unfollowed := true, recurses := true, named := ["unicode/utf8.first", "unicode/utf8.acceptRanges", "internal/bytealg.MaxLen"], apart := false, laid := [("unicode/utf8.acceptRanges", laid_unicode_utf8_acceptRanges), ("unicode/utf8.first", laid_unicode_utf8_first)], narrowed := true }
def TraceParsesUptoSaid : Prop := traceParsesUptoRow.holds Tryd.pinned (OpenSpec.upto traceParsesSpec)

end Rows
end Go.Proofs.YtdamfdnakkofmaaDoor
