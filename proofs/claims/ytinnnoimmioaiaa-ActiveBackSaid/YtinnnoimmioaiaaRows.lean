/-
  No cell of these rows narrows 'for every input' (looked for: loops, veiled, ifaces, maps, wideKeys, modest, calm, conditions, laid).
  DERIVED. THE GIVEN ROWS OF THIS SEAT. 8 by the template 'for every input the law returns true; each argument reads behind the call as it read before'; 0 by the template 'total and deterministic' (their statements: YtinnnoimmioaiaaTotals.lean).
  GIVEN WITH THE SEED: the statements are not yours to turn. If you find one false, say at which input.
  Laid BY PROGRAM, IN A SANDBOX (cutbox-rows.mjs): the forced cells as the released guide's own fill.sh prints them over the translation 697e20a639a18a8e… (all of the seat's roots in one cut). By AI agents, Wed Nov 11 2026. No macro, syntax, notation, axiom, sorry.
-/
import Derived.Test.YtinnnoimmioaiaaChecked
import GoSem.Claim
import GoSem.ClaimJoined
import GoSem.ClaimMapViews
import Derived.JoinedTies
import Derived.KernelRfl
namespace Go.Proofs.Ytinnnoimmioaiaa
/- THE CELL 'sum', in the pinned program and in every row, IS THE sha256 OF THE DUMP (.gsa) THAT YtinnnoimmioaiaaProg.lean LOADS. Nothing in Lean hashes anything: it is a label: what it is worth is what the hold of that sum in a sandbox is worth. -/
noncomputable def Try.pinned : Pinned := { name := "ytinnnoimmioaiaa", sum := "697e20a639a18a8e028ac52f896c39cfceb5e96c30f30031827e8795bcfe281e", checked := Try.checked }
namespace Rows
def none {H : Type} : Left H := { results := [], args := [] }

/-- 'floodgatelaw08.AdmitFits': WHATEVER THE INPUT: true; the input reads as it did. -/
def admitFitsSpec : ChangeSpec := { name := "admitFits", fn := fun _ => fun
  | [d1, d2] => { results := [.lit (.bool true)], args := [d1, d2] }
  | _ => none }
def admitFitsRow : OpenClaim := { program := "ytinnnoimmioaiaa", sum := "697e20a639a18a8e028ac52f896c39cfceb5e96c30f30031827e8795bcfe281e", func := "floodgate/floodgatelaw08.AdmitFits", spec := "admitFits", unfollowed := true, recurses := true, apart := false }
def AdmitFitsSaid : Prop := admitFitsRow.holds Try.pinned (OpenSpec.ofChange admitFitsSpec)

/-- ITS FALSE NEIGHBOUR: 'it returns false'. Refute it at one input. -/
def admitFitsWrong : ChangeSpec := { name := "admitFits", fn := fun _ => fun
  | [d1, d2] => { results := [.lit (.bool false)], args := [d1, d2] }
  | _ => none }
def AdmitFitsWrongFalsely : Prop := admitFitsRow.holds Try.pinned (OpenSpec.ofChange admitFitsWrong)

/-- 'floodgatelaw08.AdmitHolds': WHATEVER THE INPUT: true; the input reads as it did. -/
def admitHoldsSpec : ChangeSpec := { name := "admitHolds", fn := fun _ => fun
  | [d1, d2, d3] => { results := [.lit (.bool true)], args := [d1, d2, d3] }
  | _ => none }
def admitHoldsRow : OpenClaim := { program := "ytinnnoimmioaiaa", sum := "697e20a639a18a8e028ac52f896c39cfceb5e96c30f30031827e8795bcfe281e", func := "floodgate/floodgatelaw08.AdmitHolds", spec := "admitHolds", unfollowed := true, recurses := true, apart := false }
def AdmitHoldsSaid : Prop := admitHoldsRow.holds Try.pinned (OpenSpec.ofChange admitHoldsSpec)

/-- ITS FALSE NEIGHBOUR: 'it returns false'. Refute it at one input. -/
def admitHoldsWrong : ChangeSpec := { name := "admitHolds", fn := fun _ => fun
  | [d1, d2, d3] => { results := [.lit (.bool false)], args := [d1, d2, d3] }
  | _ => none }
def AdmitHoldsWrongFalsely : Prop := admitHoldsRow.holds Try.pinned (OpenSpec.ofChange admitHoldsWrong)

/-- 'floodgatelaw08.AdmitLess': WHATEVER THE INPUT: true; the input reads as it did. -/
def admitLessSpec : ChangeSpec := { name := "admitLess", fn := fun _ => fun
  | [d1, d2, d3] => { results := [.lit (.bool true)], args := [d1, d2, d3] }
  | _ => none }
def admitLessRow : OpenClaim := { program := "ytinnnoimmioaiaa", sum := "697e20a639a18a8e028ac52f896c39cfceb5e96c30f30031827e8795bcfe281e", func := "floodgate/floodgatelaw08.AdmitLess", spec := "admitLess", unfollowed := true, recurses := true, apart := false }
def AdmitLessSaid : Prop := admitLessRow.holds Try.pinned (OpenSpec.ofChange admitLessSpec)

/-- ITS FALSE NEIGHBOUR: 'it returns false'. Refute it at one input. -/
def admitLessWrong : ChangeSpec := { name := "admitLess", fn := fun _ => fun
  | [d1, d2, d3] => { results := [.lit (.bool false)], args := [d1, d2, d3] }
  | _ => none }
def AdmitLessWrongFalsely : Prop := admitLessRow.holds Try.pinned (OpenSpec.ofChange admitLessWrong)

/-- 'floodgatelaw08.AdmitRoom': WHATEVER THE INPUT: true; the input reads as it did. -/
def admitRoomSpec : ChangeSpec := { name := "admitRoom", fn := fun _ => fun
  | [d1, d2] => { results := [.lit (.bool true)], args := [d1, d2] }
  | _ => none }
def admitRoomRow : OpenClaim := { program := "ytinnnoimmioaiaa", sum := "697e20a639a18a8e028ac52f896c39cfceb5e96c30f30031827e8795bcfe281e", func := "floodgate/floodgatelaw08.AdmitRoom", spec := "admitRoom", unfollowed := true, recurses := true, apart := false }
def AdmitRoomSaid : Prop := admitRoomRow.holds Try.pinned (OpenSpec.ofChange admitRoomSpec)

/-- ITS FALSE NEIGHBOUR: 'it returns false'. Refute it at one input. -/
def admitRoomWrong : ChangeSpec := { name := "admitRoom", fn := fun _ => fun
  | [d1, d2] => { results := [.lit (.bool false)], args := [d1, d2] }
  | _ => none }
def AdmitRoomWrongFalsely : Prop := admitRoomRow.holds Try.pinned (OpenSpec.ofChange admitRoomWrong)

/-- 'floodgatelaw23.ActiveNil': WHATEVER THE INPUT: true; the input reads as it did. -/
def activeNilSpec : ChangeSpec := { name := "activeNil", fn := fun _ => fun
  | [d] => { results := [.lit (.bool true)], args := [d] }
  | _ => none }
def activeNilRow : OpenClaim := { program := "ytinnnoimmioaiaa", sum := "697e20a639a18a8e028ac52f896c39cfceb5e96c30f30031827e8795bcfe281e", func := "floodgate/floodgatelaw23.ActiveNil", spec := "activeNil", unfollowed := true, recurses := true, apart := false }
def ActiveNilSaid : Prop := activeNilRow.holds Try.pinned (OpenSpec.ofChange activeNilSpec)

/-- ITS FALSE NEIGHBOUR: 'it returns false'. Refute it at one input. -/
def activeNilWrong : ChangeSpec := { name := "activeNil", fn := fun _ => fun
  | [d] => { results := [.lit (.bool false)], args := [d] }
  | _ => none }
def ActiveNilWrongFalsely : Prop := activeNilRow.holds Try.pinned (OpenSpec.ofChange activeNilWrong)

/-- 'floodgatelaw23.ActiveCalls': WHATEVER THE INPUT: true; the input reads as it did. -/
def activeCallsSpec : ChangeSpec := { name := "activeCalls", fn := fun _ => fun
  | [d1, d2] => { results := [.lit (.bool true)], args := [d1, d2] }
  | _ => none }
def activeCallsRow : OpenClaim := { program := "ytinnnoimmioaiaa", sum := "697e20a639a18a8e028ac52f896c39cfceb5e96c30f30031827e8795bcfe281e", func := "floodgate/floodgatelaw23.ActiveCalls", spec := "activeCalls", unfollowed := true, recurses := true, apart := false }
def ActiveCallsSaid : Prop := activeCallsRow.holds Try.pinned (OpenSpec.ofChange activeCallsSpec)

/-- ITS FALSE NEIGHBOUR: 'it returns false'. Refute it at one input. -/
def activeCallsWrong : ChangeSpec := { name := "activeCalls", fn := fun _ => fun
  | [d1, d2] => { results := [.lit (.bool false)], args := [d1, d2] }
  | _ => none }
def ActiveCallsWrongFalsely : Prop := activeCallsRow.holds Try.pinned (OpenSpec.ofChange activeCallsWrong)

/-- 'floodgatelaw23.ActiveBack': WHATEVER THE INPUT: true; the input reads as it did. -/
def activeBackSpec : ChangeSpec := { name := "activeBack", fn := fun _ => fun
  | [d1, d2, d3] => { results := [.lit (.bool true)], args := [d1, d2, d3] }
  | _ => none }
def activeBackRow : OpenClaim := { program := "ytinnnoimmioaiaa", sum := "697e20a639a18a8e028ac52f896c39cfceb5e96c30f30031827e8795bcfe281e", func := "floodgate/floodgatelaw23.ActiveBack", spec := "activeBack", unfollowed := true, recurses := true, apart := false }
def ActiveBackSaid : Prop := activeBackRow.holds Try.pinned (OpenSpec.ofChange activeBackSpec)

/-- ITS FALSE NEIGHBOUR: 'it returns false'. Refute it at one input. -/
def activeBackWrong : ChangeSpec := { name := "activeBack", fn := fun _ => fun
  | [d1, d2, d3] => { results := [.lit (.bool false)], args := [d1, d2, d3] }
  | _ => none }
def ActiveBackWrongFalsely : Prop := activeBackRow.holds Try.pinned (OpenSpec.ofChange activeBackWrong)

/-- 'floodgatelaw19.TransNil': WHATEVER THE INPUT: true; the input reads as it did. -/
def transNilSpec : ChangeSpec := { name := "transNil", fn := fun _ => fun
  | [d1, d2] => { results := [.lit (.bool true)], args := [d1, d2] }
  | _ => none }
def transNilRow : OpenClaim := { program := "ytinnnoimmioaiaa", sum := "697e20a639a18a8e028ac52f896c39cfceb5e96c30f30031827e8795bcfe281e", func := "floodgate/floodgatelaw19.TransNil", spec := "transNil", inPlace := ["maps.clone"], unfollowed := true, recurses := true, apart := false }
def TransNilSaid : Prop := transNilRow.holds Try.pinned (OpenSpec.ofChange transNilSpec)

/-- ITS FALSE NEIGHBOUR: 'it returns false'. Refute it at one input. -/
def transNilWrong : ChangeSpec := { name := "transNil", fn := fun _ => fun
  | [d1, d2] => { results := [.lit (.bool false)], args := [d1, d2] }
  | _ => none }
def TransNilWrongFalsely : Prop := transNilRow.holds Try.pinned (OpenSpec.ofChange transNilWrong)

/- THE SECOND FORM. 'bulk': how many values and letters a reading holds, each counted each time it is reached (what is shared counts as often as it is met; a slice's spare places count too). A statement '..UptoSaid' is the law's where the arguments, and the package variables that the reading takes, are together of bulk at most 1048576: NARROWER than '..Said'. Prove '..Said' where nothing that the law and all that it calls make is longer than what came in: it says more and counts as full. Else prove '..UptoSaid'. A law counts once. -/
mutual
def uptoBulk {H : Type} : DataW H → Nat
  | .lit (.string bytes) => bytes.length + 1
  | .lit _ => 1
  | .nil => 1
  | .ptr d => uptoBulk d + 1
  | .slice elems spare => uptoBulkAll elems + uptoBulkAll spare + 1
  | .agg parts => uptoBulkAll parts + 1
  | .iface _ d => uptoBulk d + 1
  | .map entries => uptoBulkEntries entries + 1
  | .held _ => 1
def uptoBulkAll {H : Type} : List (DataW H) → Nat
  | [] => 0
  | d :: r => uptoBulk d + uptoBulkAll r
def uptoBulkEntries {H : Type} : List (Lit × DataW H) → Nat
  | [] => 0
  | x :: r => uptoBulkEntry x + uptoBulkEntries r
def uptoBulkEntry {H : Type} : Lit × DataW H → Nat
  | (.string bytes, d) => bytes.length + uptoBulk d + 1
  | (_, d) => uptoBulk d + 1
 end
def uptoSmall : (H : Type) → List (DataW H) → Bool := fun _ ds => decide (uptoBulkAll ds ≤ 1048576)
def OpenSpec.upto (s : _root_.Go.ChangeSpec) : _root_.Go.OpenSpec := { _root_.Go.OpenSpec.ofChange s with cond := some uptoSmall }

/-- 'floodgatelaw08.AdmitFits', WHERE WHAT IT READS IS OF BULK AT MOST 1048576: true; the input reads as it did. -/
def admitFitsUptoRow : OpenClaim := { program := "ytinnnoimmioaiaa", sum := "697e20a639a18a8e028ac52f896c39cfceb5e96c30f30031827e8795bcfe281e", func := "floodgate/floodgatelaw08.AdmitFits", spec := "admitFits", unfollowed := true, recurses := true, apart := false, narrowed := true }
def AdmitFitsUptoSaid : Prop := admitFitsUptoRow.holds Try.pinned (OpenSpec.upto admitFitsSpec)

/-- 'floodgatelaw08.AdmitHolds', WHERE WHAT IT READS IS OF BULK AT MOST 1048576: true; the input reads as it did. -/
def admitHoldsUptoRow : OpenClaim := { program := "ytinnnoimmioaiaa", sum := "697e20a639a18a8e028ac52f896c39cfceb5e96c30f30031827e8795bcfe281e", func := "floodgate/floodgatelaw08.AdmitHolds", spec := "admitHolds", unfollowed := true, recurses := true, apart := false, narrowed := true }
def AdmitHoldsUptoSaid : Prop := admitHoldsUptoRow.holds Try.pinned (OpenSpec.upto admitHoldsSpec)

/-- 'floodgatelaw08.AdmitLess', WHERE WHAT IT READS IS OF BULK AT MOST 1048576: true; the input reads as it did. -/
def admitLessUptoRow : OpenClaim := { program := "ytinnnoimmioaiaa", sum := "697e20a639a18a8e028ac52f896c39cfceb5e96c30f30031827e8795bcfe281e", func := "floodgate/floodgatelaw08.AdmitLess", spec := "admitLess", unfollowed := true, recurses := true, apart := false, narrowed := true }
def AdmitLessUptoSaid : Prop := admitLessUptoRow.holds Try.pinned (OpenSpec.upto admitLessSpec)

/-- 'floodgatelaw08.AdmitRoom', WHERE WHAT IT READS IS OF BULK AT MOST 1048576: true; the input reads as it did. -/
def admitRoomUptoRow : OpenClaim := { program := "ytinnnoimmioaiaa", sum := "697e20a639a18a8e028ac52f896c39cfceb5e96c30f30031827e8795bcfe281e", func := "floodgate/floodgatelaw08.AdmitRoom", spec := "admitRoom", unfollowed := true, recurses := true, apart := false, narrowed := true }
def AdmitRoomUptoSaid : Prop := admitRoomUptoRow.holds Try.pinned (OpenSpec.upto admitRoomSpec)

/-- 'floodgatelaw23.ActiveNil', WHERE WHAT IT READS IS OF BULK AT MOST 1048576: true; the input reads as it did. -/
def activeNilUptoRow : OpenClaim := { program := "ytinnnoimmioaiaa", sum := "697e20a639a18a8e028ac52f896c39cfceb5e96c30f30031827e8795bcfe281e", func := "floodgate/floodgatelaw23.ActiveNil", spec := "activeNil", unfollowed := true, recurses := true, apart := false, narrowed := true }
def ActiveNilUptoSaid : Prop := activeNilUptoRow.holds Try.pinned (OpenSpec.upto activeNilSpec)

/-- 'floodgatelaw23.ActiveCalls', WHERE WHAT IT READS IS OF BULK AT MOST 1048576: true; the input reads as it did. -/
def activeCallsUptoRow : OpenClaim := { program := "ytinnnoimmioaiaa", sum := "697e20a639a18a8e028ac52f896c39cfceb5e96c30f30031827e8795bcfe281e", func := "floodgate/floodgatelaw23.ActiveCalls", spec := "activeCalls", unfollowed := true, recurses := true, apart := false, narrowed := true }
def ActiveCallsUptoSaid : Prop := activeCallsUptoRow.holds Try.pinned (OpenSpec.upto activeCallsSpec)

/-- 'floodgatelaw23.ActiveBack', WHERE WHAT IT READS IS OF BULK AT MOST 1048576: true; the input reads as it did. -/
def activeBackUptoRow : OpenClaim := { program := "ytinnnoimmioaiaa", sum := "697e20a639a18a8e028ac52f896c39cfceb5e96c30f30031827e8795bcfe281e", func := "floodgate/floodgatelaw23.ActiveBack", spec := "activeBack", unfollowed := true, recurses := true, apart := false, narrowed := true }
def ActiveBackUptoSaid : Prop := activeBackUptoRow.holds Try.pinned (OpenSpec.upto activeBackSpec)

/-- 'floodgatelaw19.TransNil', WHERE WHAT IT READS IS OF BULK AT MOST 1048576: true; the input reads as it did. -/
def transNilUptoRow : OpenClaim := { program := "ytinnnoimmioaiaa", sum := "697e20a639a18a8e028ac52f896c39cfceb5e96c30f30031827e8795bcfe281e", func := "floodgate/floodgatelaw19.TransNil", spec := "transNil", inPlace := ["maps.clone"], unfollowed := true, recurses := true, apart := false, narrowed := true }
def TransNilUptoSaid : Prop := transNilUptoRow.holds Try.pinned (OpenSpec.upto transNilSpec)

end Rows
end Go.Proofs.Ytinnnoimmioaiaa
