/-
  DERIVED. GIVEN WITH THE SEED: THE CARDS: each row of YtbmllohfpgngeaaDoorRows.lean that lists a variable, with what it lists TIED to the program's text (the seventh form; the later family's looks); each row that meets fmt, with fmt's text TOLD by the authors' own Lean function (tested against real Go, not proved from fmt's source: count such statements apart). THE CARD IS WHAT COUNTS. Prove the row's statement (the work); the ties are given (YtbmllohfpgngeaaDoorTie.lean); close each card by the builder's one call (the guide's Derived/Test/ToyasCard.lean, 'card_holds'). Laid BY PROGRAM, IN A SANDBOX (cutbox-door.mjs). By AI agents, Wed Nov 11 2026. No macro, syntax, notation, axiom, sorry.
-/
import Derived.Test.YtbmllohfpgngeaaDoorRows
import GoSem.ClaimSeven
namespace Go.Proofs.YtbmllohfpgngeaaDoor
namespace Rows

/-- THE TIED CARD OF 'floodgatelaw43.RateReads'. -/
def rateReadsCard : Claim7 := { stood := { row := rateReadsRow, standIns := [], harness := (true, "d07f8ad321c7547cddbacdd443a6466927d07cb052c402eeecb62261c3ee5ae1"), looks := false }, kinds := [], alts := [], laidByText := true, laidKinds := [.data, .pinned], laidTests := true, laidLooks := .later }
def RateReadsCardSaid : Prop := Claim7.holds Tryd.pinned (.plain (OpenSpec.ofChange rateReadsSpec)) rateReadsCard

/-- THE TIED CARD OF 'floodgatelaw43.RateTells'. -/
def rateTellsCard : Claim7 := { stood := { row := rateTellsRow, standIns := [], harness := (true, "d07f8ad321c7547cddbacdd443a6466927d07cb052c402eeecb62261c3ee5ae1"), looks := false }, kinds := [], alts := [], laidByText := true, laidKinds := [.data, .pinned], laidTests := true, laidLooks := .later }
def RateTellsCardSaid : Prop := Claim7.holds Tryd.pinned (.plain (OpenSpec.ofChange rateTellsSpec)) rateTellsCard

/-- THE TIED CARD OF 'floodgatelaw43.RateTurns'. -/
def rateTurnsCard : Claim7 := { stood := { row := rateTurnsRow, standIns := [], harness := (true, "d07f8ad321c7547cddbacdd443a6466927d07cb052c402eeecb62261c3ee5ae1"), looks := false }, kinds := [], alts := [], laidByText := true, laidKinds := [.data, .pinned], laidTests := true, laidLooks := .later }
def RateTurnsCardSaid : Prop := Claim7.holds Tryd.pinned (.plain (OpenSpec.ofChange rateTurnsSpec)) rateTurnsCard

/-- THE TIED CARD OF 'floodgatelaw43.RateSums'. -/
def rateSumsCard : Claim7 := { stood := { row := rateSumsRow, standIns := [], harness := (true, "d07f8ad321c7547cddbacdd443a6466927d07cb052c402eeecb62261c3ee5ae1"), looks := false }, kinds := [], alts := [], laidByText := true, laidKinds := [.data, .pinned], laidTests := true, laidLooks := .later }
def RateSumsCardSaid : Prop := Claim7.holds Tryd.pinned (.plain (OpenSpec.ofChange rateSumsSpec)) rateSumsCard

/-- THE TIED CARD OF 'floodgatelaw43.RateTicks'. -/
def rateTicksCard : Claim7 := { stood := { row := rateTicksRow, standIns := [], harness := (true, "d07f8ad321c7547cddbacdd443a6466927d07cb052c402eeecb62261c3ee5ae1"), looks := false }, kinds := [], alts := [], laidByText := true, laidKinds := [.data, .pinned], laidTests := true, laidLooks := .later }
def RateTicksCardSaid : Prop := Claim7.holds Tryd.pinned (.plain (OpenSpec.ofChange rateTicksSpec)) rateTicksCard

/-- THE TIED CARD OF 'floodgatelaw43.RateCurves'. -/
def rateCurvesCard : Claim7 := { stood := { row := rateCurvesRow, standIns := [], harness := (true, "d07f8ad321c7547cddbacdd443a6466927d07cb052c402eeecb62261c3ee5ae1"), looks := false }, kinds := [], alts := [], laidByText := true, laidKinds := [.data, .pinned], laidTests := true, laidLooks := .later }
def RateCurvesCardSaid : Prop := Claim7.holds Tryd.pinned (.plain (OpenSpec.ofChange rateCurvesSpec)) rateCurvesCard

/-- THE SECOND FORM's CARD OF 'floodgatelaw43.RateReads'. -/
def rateReadsUptoCard : Claim7 := { stood := { row := rateReadsUptoRow, standIns := [], harness := (true, "d07f8ad321c7547cddbacdd443a6466927d07cb052c402eeecb62261c3ee5ae1"), looks := false }, kinds := [], alts := [], laidByText := true, laidKinds := [.data, .pinned], laidTests := true, laidLooks := .later }
def RateReadsUptoCardSaid : Prop := Claim7.holds Tryd.pinned (.plain (OpenSpec.upto rateReadsSpec)) rateReadsUptoCard

/-- THE SECOND FORM's CARD OF 'floodgatelaw43.RateTells'. -/
def rateTellsUptoCard : Claim7 := { stood := { row := rateTellsUptoRow, standIns := [], harness := (true, "d07f8ad321c7547cddbacdd443a6466927d07cb052c402eeecb62261c3ee5ae1"), looks := false }, kinds := [], alts := [], laidByText := true, laidKinds := [.data, .pinned], laidTests := true, laidLooks := .later }
def RateTellsUptoCardSaid : Prop := Claim7.holds Tryd.pinned (.plain (OpenSpec.upto rateTellsSpec)) rateTellsUptoCard

/-- THE SECOND FORM's CARD OF 'floodgatelaw43.RateTurns'. -/
def rateTurnsUptoCard : Claim7 := { stood := { row := rateTurnsUptoRow, standIns := [], harness := (true, "d07f8ad321c7547cddbacdd443a6466927d07cb052c402eeecb62261c3ee5ae1"), looks := false }, kinds := [], alts := [], laidByText := true, laidKinds := [.data, .pinned], laidTests := true, laidLooks := .later }
def RateTurnsUptoCardSaid : Prop := Claim7.holds Tryd.pinned (.plain (OpenSpec.upto rateTurnsSpec)) rateTurnsUptoCard

/-- THE SECOND FORM's CARD OF 'floodgatelaw43.RateSums'. -/
def rateSumsUptoCard : Claim7 := { stood := { row := rateSumsUptoRow, standIns := [], harness := (true, "d07f8ad321c7547cddbacdd443a6466927d07cb052c402eeecb62261c3ee5ae1"), looks := false }, kinds := [], alts := [], laidByText := true, laidKinds := [.data, .pinned], laidTests := true, laidLooks := .later }
def RateSumsUptoCardSaid : Prop := Claim7.holds Tryd.pinned (.plain (OpenSpec.upto rateSumsSpec)) rateSumsUptoCard

/-- THE SECOND FORM's CARD OF 'floodgatelaw43.RateTicks'. -/
def rateTicksUptoCard : Claim7 := { stood := { row := rateTicksUptoRow, standIns := [], harness := (true, "d07f8ad321c7547cddbacdd443a6466927d07cb052c402eeecb62261c3ee5ae1"), looks := false }, kinds := [], alts := [], laidByText := true, laidKinds := [.data, .pinned], laidTests := true, laidLooks := .later }
def RateTicksUptoCardSaid : Prop := Claim7.holds Tryd.pinned (.plain (OpenSpec.upto rateTicksSpec)) rateTicksUptoCard

/-- THE SECOND FORM's CARD OF 'floodgatelaw43.RateCurves'. -/
def rateCurvesUptoCard : Claim7 := { stood := { row := rateCurvesUptoRow, standIns := [], harness := (true, "d07f8ad321c7547cddbacdd443a6466927d07cb052c402eeecb62261c3ee5ae1"), looks := false }, kinds := [], alts := [], laidByText := true, laidKinds := [.data, .pinned], laidTests := true, laidLooks := .later }
def RateCurvesUptoCardSaid : Prop := Claim7.holds Tryd.pinned (.plain (OpenSpec.upto rateCurvesSpec)) rateCurvesUptoCard
end Rows
end Go.Proofs.YtbmllohfpgngeaaDoor
