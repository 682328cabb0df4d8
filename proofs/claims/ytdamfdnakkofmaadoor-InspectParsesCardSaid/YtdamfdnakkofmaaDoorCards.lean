/-
  DERIVED. GIVEN WITH THE SEED: THE CARDS: each row of YtdamfdnakkofmaaDoorRows.lean that lists a variable, with what it lists TIED to the program's text (the seventh form; the later family's looks); each row that meets fmt, with fmt's text TOLD by the authors' own Lean function (tested against real Go, not proved from fmt's source: count such statements apart). THE CARD IS WHAT COUNTS. Prove the row's statement (the work); the ties are given (YtdamfdnakkofmaaDoorTie.lean); close each card by the builder's one call (the guide's Derived/Test/ToyasCard.lean, 'card_holds'). Laid BY PROGRAM, IN A SANDBOX (cutbox-door.mjs). By AI agents, Wed Nov 11 2026. No macro, syntax, notation, axiom, sorry.
-/
import Derived.Test.YtdamfdnakkofmaaDoorRows
import GoSem.ClaimSeven
namespace Go.Proofs.YtdamfdnakkofmaaDoor
namespace Rows

/-- THE TIED CARD OF 'floodgatelaw40.InspectNumbers'. -/
def inspectNumbersCard : Claim7 := { stood := { row := inspectNumbersRow, standIns := [], harness := (true, "80c1d04a9bfa0a4619962470ab53615da10d8cba44ed6576ec2179ea2b12b450"), looks := false }, kinds := [], alts := [], laidByText := true, laidKinds := [.data, .pinned], laidTests := true, laidLooks := .later }
def InspectNumbersCardSaid : Prop := Claim7.holds Tryd.pinned (.plain (OpenSpec.ofChange inspectNumbersSpec)) inspectNumbersCard

/-- THE TIED CARD OF 'floodgatelaw40.InspectCurves'. -/
def inspectCurvesCard : Claim7 := { stood := { row := inspectCurvesRow, standIns := [], harness := (true, "80c1d04a9bfa0a4619962470ab53615da10d8cba44ed6576ec2179ea2b12b450"), looks := false }, kinds := [], alts := [], laidByText := true, laidKinds := [.data, .pinned], laidTests := true, laidLooks := .later }
def InspectCurvesCardSaid : Prop := Claim7.holds Tryd.pinned (.plain (OpenSpec.ofChange inspectCurvesSpec)) inspectCurvesCard

/-- THE TIED CARD OF 'floodgatelaw40.InspectTells'. -/
def inspectTellsCard : Claim7 := { stood := { row := inspectTellsRow, standIns := [], harness := (true, "80c1d04a9bfa0a4619962470ab53615da10d8cba44ed6576ec2179ea2b12b450"), looks := false }, kinds := [], alts := [], laidByText := true, laidKinds := [.data, .pinned], laidTests := true, laidLooks := .later }
def InspectTellsCardSaid : Prop := Claim7.holds Tryd.pinned (.plain (OpenSpec.ofChange inspectTellsSpec)) inspectTellsCard

/-- THE TIED CARD OF 'floodgatelaw40.InspectParses'. -/
def inspectParsesCard : Claim7 := { stood := { row := inspectParsesRow, standIns := [], harness := (true, "80c1d04a9bfa0a4619962470ab53615da10d8cba44ed6576ec2179ea2b12b450"), looks := false }, kinds := [], alts := [], laidByText := true, laidKinds := [.data, .pinned], laidTests := true, laidLooks := .later }
def InspectParsesCardSaid : Prop := Claim7.holds Tryd.pinned (.plain (OpenSpec.ofChange inspectParsesSpec)) inspectParsesCard

/-- THE TIED CARD OF 'floodgatelaw30.TraceBytes'. -/
def traceBytesCard : Claim7 := { stood := { row := traceBytesRow, standIns := [], harness := (true, "80c1d04a9bfa0a4619962470ab53615da10d8cba44ed6576ec2179ea2b12b450"), looks := false }, kinds := [], alts := [], laidByText := true, laidKinds := [.data, .pinned], laidTests := true, laidLooks := .later }
def TraceBytesCardSaid : Prop := Claim7.holds Tryd.pinned (.plain (OpenSpec.ofChange traceBytesSpec)) traceBytesCard

/-- THE TIED CARD OF 'floodgatelaw30.TraceJoins'. -/
def traceJoinsCard : Claim7 := { stood := { row := traceJoinsRow, standIns := [], harness := (true, "80c1d04a9bfa0a4619962470ab53615da10d8cba44ed6576ec2179ea2b12b450"), looks := false }, kinds := [], alts := [], laidByText := true, laidKinds := [.data, .pinned], laidTests := true, laidLooks := .later }
def TraceJoinsCardSaid : Prop := Claim7.holds Tryd.pinned (.plain (OpenSpec.ofChange traceJoinsSpec)) traceJoinsCard

/-- THE TIED CARD OF 'floodgatelaw30.TraceLines'. -/
def traceLinesCard : Claim7 := { stood := { row := traceLinesRow, standIns := [], harness := (true, "80c1d04a9bfa0a4619962470ab53615da10d8cba44ed6576ec2179ea2b12b450"), looks := false }, kinds := [], alts := [], laidByText := true, laidKinds := [.data, .pinned], laidTests := true, laidLooks := .later }
def TraceLinesCardSaid : Prop := Claim7.holds Tryd.pinned (.plain (OpenSpec.ofChange traceLinesSpec)) traceLinesCard

/-- THE TIED CARD OF 'floodgatelaw30.TraceParses'. -/
def traceParsesCard : Claim7 := { stood := { row := traceParsesRow, standIns := [], harness := (true, "80c1d04a9bfa0a4619962470ab53615da10d8cba44ed6576ec2179ea2b12b450"), looks := false }, kinds := [], alts := [], laidByText := true, laidKinds := [.data, .pinned], laidTests := true, laidLooks := .later }
def TraceParsesCardSaid : Prop := Claim7.holds Tryd.pinned (.plain (OpenSpec.ofChange traceParsesSpec)) traceParsesCard

/-- THE SECOND FORM's CARD OF 'floodgatelaw40.InspectNumbers'. -/
def inspectNumbersUptoCard : Claim7 := { stood := { row := inspectNumbersUptoRow, standIns := [], harness := (true, "80c1d04a9bfa0a4619962470ab53615da10d8cba44ed6576ec2179ea2b12b450"), looks := false }, kinds := [], alts := [], laidByText := true, laidKinds := [.data, .pinned], laidTests := true, laidLooks := .later }
def InspectNumbersUptoCardSaid : Prop := Claim7.holds Tryd.pinned (.plain (OpenSpec.upto inspectNumbersSpec)) inspectNumbersUptoCard

/-- THE SECOND FORM's CARD OF 'floodgatelaw40.InspectCurves'. -/
def inspectCurvesUptoCard : Claim7 := { stood := { row := inspectCurvesUptoRow, standIns := [], harness := (true, "80c1d04a9bfa0a4619962470ab53615da10d8cba44ed6576ec2179ea2b12b450"), looks := false }, kinds := [], alts := [], laidByText := true, laidKinds := [.data, .pinned], laidTests := true, laidLooks := .later }
def InspectCurvesUptoCardSaid : Prop := Claim7.holds Tryd.pinned (.plain (OpenSpec.upto inspectCurvesSpec)) inspectCurvesUptoCard

/-- THE SECOND FORM's CARD OF 'floodgatelaw40.InspectTells'. -/
def inspectTellsUptoCard : Claim7 := { stood := { row := inspectTellsUptoRow, standIns := [], harness := (true, "80c1d04a9bfa0a4619962470ab53615da10d8cba44ed6576ec2179ea2b12b450"), looks := false }, kinds := [], alts := [], laidByText := true, laidKinds := [.data, .pinned], laidTests := true, laidLooks := .later }
def InspectTellsUptoCardSaid : Prop := Claim7.holds Tryd.pinned (.plain (OpenSpec.upto inspectTellsSpec)) inspectTellsUptoCard

/-- THE SECOND FORM's CARD OF 'floodgatelaw40.InspectParses'. -/
def inspectParsesUptoCard : Claim7 := { stood := { row := inspectParsesUptoRow, standIns := [], harness := (true, "80c1d04a9bfa0a4619962470ab53615da10d8cba44ed6576ec2179ea2b12b450"), looks := false }, kinds := [], alts := [], laidByText := true, laidKinds := [.data, .pinned], laidTests := true, laidLooks := .later }
def InspectParsesUptoCardSaid : Prop := Claim7.holds Tryd.pinned (.plain (OpenSpec.upto inspectParsesSpec)) inspectParsesUptoCard

/-- THE SECOND FORM's CARD OF 'floodgatelaw30.TraceBytes'. -/
def traceBytesUptoCard : Claim7 := { stood := { row := traceBytesUptoRow, standIns := [], harness := (true, "80c1d04a9bfa0a4619962470ab53615da10d8cba44ed6576ec2179ea2b12b450"), looks := false }, kinds := [], alts := [], laidByText := true, laidKinds := [.data, .pinned], laidTests := true, laidLooks := .later }
def TraceBytesUptoCardSaid : Prop := Claim7.holds Tryd.pinned (.plain (OpenSpec.upto traceBytesSpec)) traceBytesUptoCard

/-- THE SECOND FORM's CARD OF 'floodgatelaw30.TraceJoins'. -/
def traceJoinsUptoCard : Claim7 := { stood := { row := traceJoinsUptoRow, standIns := [], harness := (true, "80c1d04a9bfa0a4619962470ab53615da10d8cba44ed6576ec2179ea2b12b450"), looks := false }, kinds := [], alts := [], laidByText := true, laidKinds := [.data, .pinned], laidTests := true, laidLooks := .later }
def TraceJoinsUptoCardSaid : Prop := Claim7.holds Tryd.pinned (.plain (OpenSpec.upto traceJoinsSpec)) traceJoinsUptoCard

/-- THE SECOND FORM's CARD OF 'floodgatelaw30.TraceLines'. -/
def traceLinesUptoCard : Claim7 := { stood := { row := traceLinesUptoRow, standIns := [], harness := (true, "80c1d04a9bfa0a4619962470ab53615da10d8cba44ed6576ec2179ea2b12b450"), looks := false }, kinds := [], alts := [], laidByText := true, laidKinds := [.data, .pinned], laidTests := true, laidLooks := .later }
def TraceLinesUptoCardSaid : Prop := Claim7.holds Tryd.pinned (.plain (OpenSpec.upto traceLinesSpec)) traceLinesUptoCard

/-- THE SECOND FORM's CARD OF 'floodgatelaw30.TraceParses'. -/
def traceParsesUptoCard : Claim7 := { stood := { row := traceParsesUptoRow, standIns := [], harness := (true, "80c1d04a9bfa0a4619962470ab53615da10d8cba44ed6576ec2179ea2b12b450"), looks := false }, kinds := [], alts := [], laidByText := true, laidKinds := [.data, .pinned], laidTests := true, laidLooks := .later }
def TraceParsesUptoCardSaid : Prop := Claim7.holds Tryd.pinned (.plain (OpenSpec.upto traceParsesSpec)) traceParsesUptoCard
end Rows
end Go.Proofs.YtdamfdnakkofmaaDoor
