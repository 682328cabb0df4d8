/-
  NARROWER THAN 'FOR EVERY INPUT', by the rows' own cells (each row's printed sentence says how): RateReads: laid · RateTells: laid · RateTurns: laid · RateSums: laid · RateTicks: laid · RateCurves: laid.
  DERIVED. THE GIVEN ROWS OF THIS SEAT. 6 by the template 'for every input the law returns true; each argument reads behind the call as it read before'; 0 by the template 'total and deterministic' (their statements: YtbmllohfpgngeaaDoorTotals.lean).
  GIVEN WITH THE SEED: the statements are not yours to turn. If you find one false, say at which input.
  Laid BY PROGRAM, IN A SANDBOX (cutbox-rows.mjs): the forced cells as the released guide's own fill.sh prints them over the translation a0db986720ffd1b8… (all of the seat's roots in one cut). By AI agents, Wed Nov 11 2026. No macro, syntax, notation, axiom, sorry.
-/
import Derived.Test.YtbmllohfpgngeaaDoorChecked
import GoSem.PinnedTables
import GoSem.Claim
import GoSem.ClaimJoined
import GoSem.ClaimMapViews
import Derived.JoinedTies
import Derived.KernelRfl
namespace Go.Proofs.YtbmllohfpgngeaaDoor
/- THE CELL 'sum', in the pinned program and in every row, IS THE sha256 OF THE DUMP (.gsa) THAT YtbmllohfpgngeaaDoorProg.lean LOADS. Nothing in Lean hashes anything: it is a label: what it is worth is what the hold of that sum in a sandbox is worth. -/
noncomputable def Tryd.pinned : Pinned := { name := "ytbmllohfpgngeaadoor", sum := "a0db986720ffd1b816597822cfe772816767bf3f87b8aecaaea959415816fd92", checked := Tryd.checked }
namespace Rows
def none {H : Type} : Left H := { results := [], args := [] }

/- WHAT THE LISTED PACKAGE-LEVEL VARIABLES READ AS WHEN THE CALL BEGINS. Each datum BY PROGRAM (the guide's laid-datum.mjs) off the statement by which the dump's own 'gosem.cut.vars' lays the variable. In a bare row this is a premise. The card (YtbmllohfpgngeaaDoorCards.lean) ties it to the program's text. -/
def laid_unicode_utf8_acceptRanges {H : Type} : DataW H := .agg [.agg [.lit (.int .u8 128), .lit (.int .u8 191)], .agg [.lit (.int .u8 160), .lit (.int .u8 191)], .agg [.lit (.int .u8 128), .lit (.int .u8 159)], .agg [.lit (.int .u8 144), .lit (.int .u8 191)], .agg [.lit (.int .u8 128), .lit (.int .u8 143)], .agg [.lit (.int .u8 0), .lit (.int .u8 0)], .agg [.lit (.int .u8 0), .lit (.int .u8 0)], .agg [.lit (.int .u8 0), .lit (.int .u8 0)], .agg [.lit (.int .u8 0), .lit (.int .u8 0)], .agg [.lit (.int .u8 0), .lit (.int .u8 0)], .agg [.lit (.int .u8 0), .lit (.int .u8 0)], .agg [.lit (.int .u8 0), .lit (.int .u8 0)], .agg [.lit (.int .u8 0), .lit (.int .u8 0)], .agg [.lit (.int .u8 0), .lit (.int .u8 0)], .agg [.lit (.int .u8 0), .lit (.int .u8 0)], .agg [.lit (.int .u8 0), .lit (.int .u8 0)]]
/-- One of Go's own tables, pinned by name: the form's constant. -/
def laid_unicode_utf8_first : DataW Unit := Go.Pinned.utf8First

/-- 'floodgatelaw43.RateReads': WHATEVER THE INPUT: true; the input reads as it did. -/
def rateReadsSpec : ChangeSpec := { name := "rateReads", fn := fun _ => fun
  | [d] => { results := [.lit (.bool true)], args := [d] }
  | _ => none }
def rateReadsRow : OpenClaim := { program := "ytbmllohfpgngeaadoor", sum := "a0db986720ffd1b816597822cfe772816767bf3f87b8aecaaea959415816fd92", func := "floodgate/floodgatelaw43.RateReads", spec := "rateReads", inPlace := ["internal/bytealg.CountString", "internal/bytealg.IndexByteString", "internal/bytealg.IndexString"], named := ["unicode/utf8.first", "unicode/utf8.acceptRanges", "internal/bytealg.MaxLen"], apart := false, laid := [("unicode/utf8.acceptRanges", laid_unicode_utf8_acceptRanges), ("unicode/utf8.first", laid_unicode_utf8_first)] }
def RateReadsSaid : Prop := rateReadsRow.holds Tryd.pinned (OpenSpec.ofChange rateReadsSpec)

/-- ITS FALSE NEIGHBOUR: 'it returns false'. Refute it at one input. -/
def rateReadsWrong : ChangeSpec := { name := "rateReads", fn := fun _ => fun
  | [d] => { results := [.lit (.bool false)], args := [d] }
  | _ => none }
def RateReadsWrongFalsely : Prop := rateReadsRow.holds Tryd.pinned (OpenSpec.ofChange rateReadsWrong)

/-- 'floodgatelaw43.RateTells': WHATEVER THE INPUT: true; the input reads as it did. -/
def rateTellsSpec : ChangeSpec := { name := "rateTells", fn := fun _ => fun
  | [d] => { results := [.lit (.bool true)], args := [d] }
  | _ => none }
def rateTellsRow : OpenClaim := { program := "ytbmllohfpgngeaadoor", sum := "a0db986720ffd1b816597822cfe772816767bf3f87b8aecaaea959415816fd92", func := "floodgate/floodgatelaw43.RateTells", spec := "rateTells", inPlace := ["internal/bytealg.CountString", "internal/bytealg.IndexByteString", "internal/bytealg.IndexString"], named := ["unicode/utf8.first", "unicode/utf8.acceptRanges", "internal/bytealg.MaxLen"], apart := false, laid := [("unicode/utf8.acceptRanges", laid_unicode_utf8_acceptRanges), ("unicode/utf8.first", laid_unicode_utf8_first)] }
def RateTellsSaid : Prop := rateTellsRow.holds Tryd.pinned (OpenSpec.ofChange rateTellsSpec)

/-- ITS FALSE NEIGHBOUR: 'it returns false'. Refute it at one input. -/
def rateTellsWrong : ChangeSpec := { name := "rateTells", fn := fun _ => fun
  | [d] => { results := [.lit (.bool false)], args := [d] }
  | _ => none }
def RateTellsWrongFalsely : Prop := rateTellsRow.holds Tryd.pinned (OpenSpec.ofChange rateTellsWrong)

/-- 'floodgatelaw43.RateTurns': WHATEVER THE INPUT: true; the input reads as it did. -/
def rateTurnsSpec : ChangeSpec := { name := "rateTurns", fn := fun _ => fun
  | [d1, d2] => { results := [.lit (.bool true)], args := [d1, d2] }
  | _ => none }
def rateTurnsRow : OpenClaim := { program := "ytbmllohfpgngeaadoor", sum := "a0db986720ffd1b816597822cfe772816767bf3f87b8aecaaea959415816fd92", func := "floodgate/floodgatelaw43.RateTurns", spec := "rateTurns", inPlace := ["internal/bytealg.CountString", "internal/bytealg.IndexByteString", "internal/bytealg.IndexString"], named := ["unicode/utf8.first", "unicode/utf8.acceptRanges", "internal/bytealg.MaxLen"], apart := false, laid := [("unicode/utf8.acceptRanges", laid_unicode_utf8_acceptRanges), ("unicode/utf8.first", laid_unicode_utf8_first)] }
def RateTurnsSaid : Prop := rateTurnsRow.holds Tryd.pinned (OpenSpec.ofChange rateTurnsSpec)

/-- ITS FALSE NEIGHBOUR: 'it returns false'. Refute it at one input. -/
def rateTurnsWrong : ChangeSpec := { name := "rateTurns", fn := fun _ => fun
  | [d1, d2] => { results := [.lit (.bool false)], args := [d1, d2] }
  | _ => none }
def RateTurnsWrongFalsely : Prop := rateTurnsRow.holds Tryd.pinned (OpenSpec.ofChange rateTurnsWrong)

/-- 'floodgatelaw43.RateSums': WHATEVER THE INPUT: true; the input reads as it did. -/
def rateSumsSpec : ChangeSpec := { name := "rateSums", fn := fun _ => fun
  | [d1, d2, d3] => { results := [.lit (.bool true)], args := [d1, d2, d3] }
  | _ => none }
def rateSumsRow : OpenClaim := { program := "ytbmllohfpgngeaadoor", sum := "a0db986720ffd1b816597822cfe772816767bf3f87b8aecaaea959415816fd92", func := "floodgate/floodgatelaw43.RateSums", spec := "rateSums", inPlace := ["internal/bytealg.CountString", "internal/bytealg.IndexByteString", "internal/bytealg.IndexString"], named := ["unicode/utf8.first", "unicode/utf8.acceptRanges", "internal/bytealg.MaxLen"], apart := false, laid := [("unicode/utf8.acceptRanges", laid_unicode_utf8_acceptRanges), ("unicode/utf8.first", laid_unicode_utf8_first)] }
def RateSumsSaid : Prop := rateSumsRow.holds Tryd.pinned (OpenSpec.ofChange rateSumsSpec)

/-- ITS FALSE NEIGHBOUR: 'it returns false'. Refute it at one input. -/
def rateSumsWrong : ChangeSpec := { name := "rateSums", fn := fun _ => fun
  | [d1, d2, d3] => { results := [.lit (.bool false)], args := [d1, d2, d3] }
  | _ => none }
def RateSumsWrongFalsely : Prop := rateSumsRow.holds Tryd.pinned (OpenSpec.ofChange rateSumsWrong)

/-- 'floodgatelaw43.RateTicks': WHATEVER THE INPUT: true; the input reads as it did. -/
def rateTicksSpec : ChangeSpec := { name := "rateTicks", fn := fun _ => fun
  | [d1, d2] => { results := [.lit (.bool true)], args := [d1, d2] }
  | _ => none }
def rateTicksRow : OpenClaim := { program := "ytbmllohfpgngeaadoor", sum := "a0db986720ffd1b816597822cfe772816767bf3f87b8aecaaea959415816fd92", func := "floodgate/floodgatelaw43.RateTicks", spec := "rateTicks", inPlace := ["internal/bytealg.CountString", "internal/bytealg.IndexByteString", "internal/bytealg.IndexString"], named := ["unicode/utf8.first", "unicode/utf8.acceptRanges", "internal/bytealg.MaxLen"], apart := false, laid := [("unicode/utf8.acceptRanges", laid_unicode_utf8_acceptRanges), ("unicode/utf8.first", laid_unicode_utf8_first)] }
def RateTicksSaid : Prop := rateTicksRow.holds Tryd.pinned (OpenSpec.ofChange rateTicksSpec)

/-- ITS FALSE NEIGHBOUR: 'it returns false'. Refute it at one input. -/
def rateTicksWrong : ChangeSpec := { name := "rateTicks", fn := fun _ => fun
  | [d1, d2] => { results := [.lit (.bool false)], args := [d1, d2] }
  | _ => none }
def RateTicksWrongFalsely : Prop := rateTicksRow.holds Tryd.pinned (OpenSpec.ofChange rateTicksWrong)

/-- 'floodgatelaw43.RateCurves': WHATEVER THE INPUT: true; the input reads as it did. -/
def rateCurvesSpec : ChangeSpec := { name := "rateCurves", fn := fun _ => fun
  | [d1, d2] => { results := [.lit (.bool true)], args := [d1, d2] }
  | _ => none }
def rateCurvesRow : OpenClaim := { program := "ytbmllohfpgngeaadoor", sum := "a0db986720ffd1b816597822cfe772816767bf3f87b8aecaaea959415816fd92", func := "floodgate/floodgatelaw43.RateCurves", spec := "rateCurves", inPlace := ["internal/bytealg.CountString", "internal/bytealg.IndexByteString", "internal/bytealg.IndexString"], named := ["unicode/utf8.first", "unicode/utf8.acceptRanges", "internal/bytealg.MaxLen"], apart := false, laid := [("unicode/utf8.acceptRanges", laid_unicode_utf8_acceptRanges), ("unicode/utf8.first", laid_unicode_utf8_first)] }
def RateCurvesSaid : Prop := rateCurvesRow.holds Tryd.pinned (OpenSpec.ofChange rateCurvesSpec)

/-- ITS FALSE NEIGHBOUR: 'it returns false'. Refute it at one input. -/
def rateCurvesWrong : ChangeSpec := { name := "rateCurves", fn := fun _ => fun
  | [d1, d2] => { results := [.lit (.bool false)], args := [d1, d2] }
  | _ => none }
def RateCurvesWrongFalsely : Prop := rateCurvesRow.holds Tryd.pinned (OpenSpec.ofChange rateCurvesWrong)

/- THE SECOND FORM. 'bulk': how many values and letters a reading holds, each counted each time it is reached (what is shared counts as often as it is met; a slice's spare places count too). A statement '..UptoSaid' is the law's where the arguments, and the package variables that the reading takes, are together of bulk at most 1048576: NARROWER than '..Said'. Prove '..Said' where nothing that the law and all that it calls make is longer than what came in: it says more and counts as full. Else prove '..UptoSaid'. A law counts once. -/
mutual
def uptoBulk {H : Type} : DataW H → Nat
  | .lit (.string bytes) => bytes.length + 1
  | .lit _ => 1
  | .nil => 1
  | .ptr d => uptoBulk d + 1
  | .slice elems spare => uptoBulkAll elems + uptoBulkAll spare + 1
  | .agg parts => uptoBulkAll parts + 1
  | .iface _ d => uptoBulk d + 1
  | .map entries => uptoBulkEntries entries + 1
  | .held _ => 1
def uptoBulkAll {H : Type} : List (DataW H) → Nat
  | [] => 0
  | d :: r => uptoBulk d + uptoBulkAll r
def uptoBulkEntries {H : Type} : List (Lit × DataW H) → Nat
  | [] => 0
  | x :: r => uptoBulkEntry x + uptoBulkEntries r
def uptoBulkEntry {H : Type} : Lit × DataW H → Nat
  | (.string bytes, d) => bytes.length + uptoBulk d + 1
  | (_, d) => uptoBulk d + 1
 end
def uptoSmall : (H : Type) → List (DataW H) → Bool := fun _ ds => decide (uptoBulkAll ds ≤ 1048576)
def OpenSpec.upto (s : _root_.Go.ChangeSpec) : _root_.Go.OpenSpec := { _root_.Go.OpenSpec.ofChange s with cond := some uptoSmall }

/-- 'floodgatelaw43.RateReads', WHERE WHAT IT READS IS OF BULK AT MOST 1048576: true; the input reads as it did. -/
def rateReadsUptoRow : OpenClaim := { program := "ytbmllohfpgngeaadoor", sum := "a0db986720ffd1b816597822cfe772816767bf3f87b8aecaaea959415816fd92", func := "floodgate/floodgatelaw43.RateReads", spec := "rateReads", inPlace := ["internal/bytealg.CountString", "internal/bytealg.IndexByteString", "internal/bytealg.IndexString"], named := ["unicode/utf8.first", "unicode/utf8.acceptRanges", "internal/bytealg.MaxLen"], apart := false, laid := [("unicode/utf8.acceptRanges", laid_unicode_utf8_acceptRanges), ("unicode/utf8.first", laid_unicode_utf8_first)], narrowed := true }
def RateReadsUptoSaid : Prop := rateReadsUptoRow.holds Tryd.pinned (OpenSpec.upto rateReadsSpec)

/-- 'floodgatelaw43.RateTells', WHERE WHAT IT READS IS OF BULK AT MOST 1048576: true; the input reads as it did. -/
def rateTellsUptoRow : OpenClaim := { program := "ytbmllohfpgngeaadoor", sum := "a0db986720ffd1b816597822cfe772816767bf3f87b8aecaaea959415816fd92", func := "floodgate/floodgatelaw43.RateTells", spec := "rateTells", inPlace := ["internal/bytealg.CountString", "internal/bytealg.IndexByteString", "internal/bytealg.IndexString"], named := ["unicode/utf8.first", "unicode/utf8.acceptRanges", "internal/bytealg.MaxLen"], apart := false, laid := [("unicode/utf8.acceptRanges", laid_unicode_utf8_acceptRanges), ("unicode/utf8.first", laid_unicode_utf8_first)], narrowed := true }
def RateTellsUptoSaid : Prop := rateTellsUptoRow.holds Tryd.pinned (OpenSpec.upto rateTellsSpec)

/-- 'floodgatelaw43.RateTurns', WHERE WHAT IT READS IS OF BULK AT MOST 1048576: true; the input reads as it did. -/
def rateTurnsUptoRow : OpenClaim := { program := "ytbmllohfpgngeaadoor", sum := "a0db986720ffd1b816597822cfe772816767bf3f87b8aecaaea959415816fd92", func := "floodgate/floodgatelaw43.RateTurns", spec := "rateTurns", inPlace := ["internal/bytealg.CountString", "internal/bytealg.IndexByteString", "internal/bytealg.IndexString"], named := ["unicode/utf8.first", "unicode/utf8.acceptRanges", "internal/bytealg.MaxLen"], apart := false, laid := [("unicode/utf8.acceptRanges", laid_unicode_utf8_acceptRanges), ("unicode/utf8.first", laid_unicode_utf8_first)], narrowed := true }
def RateTurnsUptoSaid : Prop := rateTurnsUptoRow.holds Tryd.pinned (OpenSpec.upto rateTurnsSpec)

/-- 'floodgatelaw43.RateSums', WHERE WHAT IT READS IS OF BULK AT MOST 1048576: true; the input reads as it did. -/
def rateSumsUptoRow : OpenClaim := { program := "ytbmllohfpgngeaadoor", sum := "a0db986720ffd1b816597822cfe772816767bf3f87b8aecaaea959415816fd92", func := "floodgate/floodgatelaw43.RateSums", spec := "rateSums", inPlace := ["internal/bytealg.CountString", "internal/bytealg.IndexByteString", "internal/bytealg.IndexString"], named := ["unicode/utf8.first", "unicode/utf8.acceptRanges", "internal/bytealg.MaxLen"], apart := false, laid := [("unicode/utf8.acceptRanges", laid_unicode_utf8_acceptRanges), ("unicode/utf8.first", laid_unicode_utf8_first)], narrowed := true }
def RateSumsUptoSaid : Prop := rateSumsUptoRow.holds Tryd.pinned (OpenSpec.upto rateSumsSpec)

/-- 'floodgatelaw43.RateTicks', WHERE WHAT IT READS IS OF BULK AT MOST 1048576: true; the input reads as it did. -/
def rateTicksUptoRow : OpenClaim := { program := "ytbmllohfpgngeaadoor", sum := "a0db986720ffd1b816597822cfe772816767bf3f87b8aecaaea959415816fd92", func := "floodgate/floodgatelaw43.RateTicks", spec := "rateTicks", inPlace := ["internal/bytealg.CountString", "internal/bytealg.IndexByteString", "internal/bytealg.IndexString"], named := ["unicode/utf8.first", "unicode/utf8.acceptRanges", "internal/bytealg.MaxLen"], apart := false, laid := [("unicode/utf8.acceptRanges", laid_unicode_utf8_acceptRanges), ("unicode/utf8.first", laid_unicode_utf8_first)], narrowed := true }
def RateTicksUptoSaid : Prop := rateTicksUptoRow.holds Tryd.pinned (OpenSpec.upto rateTicksSpec)

/-- 'floodgatelaw43.RateCurves', WHERE WHAT IT READS IS OF BULK AT MOST 1048576: true; the input reads as it did. -/
def rateCurvesUptoRow : OpenClaim := { program := "ytbmllohfpgngeaadoor", sum := "a0db986720ffd1b816597822cfe772816767bf3f87b8aecaaea959415816fd92", func := "floodgate/floodgatelaw43.RateCurves", spec := "rateCurves", inPlace := ["internal/bytealg.CountString", "internal/bytealg.IndexByteString", "internal/bytealg.IndexString"], named := ["unicode/utf8.first", "unicode/utf8.acceptRanges", "internal/bytealg.MaxLen"], apart := false, laid := [("unicode/utf8.acceptRanges", laid_unicode_utf8_acceptRanges), ("unicode/utf8.first", laid_unicode_utf8_first)], narrowed := true }
def RateCurvesUptoSaid : Prop := rateCurvesUptoRow.holds Tryd.pinned (OpenSpec.upto rateCurvesSpec)

end Rows
end Go.Proofs.YtbmllohfpgngeaaDoor
