/-
  No cell of these rows narrows 'for every input' (looked for: loops, veiled, ifaces, maps, wideKeys, modest, calm, conditions, laid).
  DERIVED. THE GIVEN ROWS OF THIS SEAT. 4 by the template 'for every input the law returns true; each argument reads behind the call as it read before'; 0 by the template 'total and deterministic' (their statements: YtbmllohfpgngeaaTotals.lean).
  GIVEN WITH THE SEED: the statements are not yours to turn. If you find one false, say at which input.
  Laid BY PROGRAM, IN A SANDBOX (cutbox-rows.mjs): the forced cells as the released guide's own fill.sh prints them over the translation 2b478e5d9a4ef920… (all of the seat's roots in one cut). By AI agents, Wed Nov 11 2026. No macro, syntax, notation, axiom, sorry.
-/
import Derived.Test.YtbmllohfpgngeaaChecked
import GoSem.Claim
import GoSem.ClaimJoined
import GoSem.ClaimMapViews
import Derived.JoinedTies
import Derived.KernelRfl
namespace Go.Proofs.Ytbmllohfpgngeaa
/- THE CELL 'sum', in the pinned program and in every row, IS THE sha256 OF THE DUMP (.gsa) THAT YtbmllohfpgngeaaProg.lean LOADS. Nothing in Lean hashes anything: it is a label: what it is worth is what the hold of that sum in a sandbox is worth. -/
noncomputable def Try.pinned : Pinned := { name := "ytbmllohfpgngeaa", sum := "2b478e5d9a4ef9206aa8d54756ae62c854db32e158355a63af20d0575236c72b", checked := Try.checked }
namespace Rows
def none {H : Type} : Left H := { results := [], args := [] }

/-- 'floodgatelaw07.SumServes': WHATEVER THE INPUT: true; the input reads as it did. -/
def sumServesSpec : ChangeSpec := { name := "sumServes", fn := fun _ => fun
  | [d1, d2] => { results := [.lit (.bool true)], args := [d1, d2] }
  | _ => none }
def sumServesRow : OpenClaim := { program := "ytbmllohfpgngeaa", sum := "2b478e5d9a4ef9206aa8d54756ae62c854db32e158355a63af20d0575236c72b", func := "floodgate/floodgatelaw07.SumServes", spec := "sumServes", unfollowed := true, recurses := true, apart := false }
def SumServesSaid : Prop := sumServesRow.holds Try.pinned (OpenSpec.ofChange sumServesSpec)

/-- ITS FALSE NEIGHBOUR: 'it returns false'. Refute it at one input. -/
def sumServesWrong : ChangeSpec := { name := "sumServes", fn := fun _ => fun
  | [d1, d2] => { results := [.lit (.bool false)], args := [d1, d2] }
  | _ => none }
def SumServesWrongFalsely : Prop := sumServesRow.holds Try.pinned (OpenSpec.ofChange sumServesWrong)

/-- 'floodgatelaw07.SumKnees': WHATEVER THE INPUT: true; the input reads as it did. -/
def sumKneesSpec : ChangeSpec := { name := "sumKnees", fn := fun _ => fun
  | [d] => { results := [.lit (.bool true)], args := [d] }
  | _ => none }
def sumKneesRow : OpenClaim := { program := "ytbmllohfpgngeaa", sum := "2b478e5d9a4ef9206aa8d54756ae62c854db32e158355a63af20d0575236c72b", func := "floodgate/floodgatelaw07.SumKnees", spec := "sumKnees", unfollowed := true, recurses := true, apart := false }
def SumKneesSaid : Prop := sumKneesRow.holds Try.pinned (OpenSpec.ofChange sumKneesSpec)

/-- ITS FALSE NEIGHBOUR: 'it returns false'. Refute it at one input. -/
def sumKneesWrong : ChangeSpec := { name := "sumKnees", fn := fun _ => fun
  | [d] => { results := [.lit (.bool false)], args := [d] }
  | _ => none }
def SumKneesWrongFalsely : Prop := sumKneesRow.holds Try.pinned (OpenSpec.ofChange sumKneesWrong)

/-- 'floodgatelaw07.SumStraight': WHATEVER THE INPUT: true; the input reads as it did. -/
def sumStraightSpec : ChangeSpec := { name := "sumStraight", fn := fun _ => fun
  | [d1, d2, d3] => { results := [.lit (.bool true)], args := [d1, d2, d3] }
  | _ => none }
def sumStraightRow : OpenClaim := { program := "ytbmllohfpgngeaa", sum := "2b478e5d9a4ef9206aa8d54756ae62c854db32e158355a63af20d0575236c72b", func := "floodgate/floodgatelaw07.SumStraight", spec := "sumStraight", unfollowed := true, recurses := true, apart := false }
def SumStraightSaid : Prop := sumStraightRow.holds Try.pinned (OpenSpec.ofChange sumStraightSpec)

/-- ITS FALSE NEIGHBOUR: 'it returns false'. Refute it at one input. -/
def sumStraightWrong : ChangeSpec := { name := "sumStraight", fn := fun _ => fun
  | [d1, d2, d3] => { results := [.lit (.bool false)], args := [d1, d2, d3] }
  | _ => none }
def SumStraightWrongFalsely : Prop := sumStraightRow.holds Try.pinned (OpenSpec.ofChange sumStraightWrong)

/-- 'floodgatelaw07.SumSteep': WHATEVER THE INPUT: true; the input reads as it did. -/
def sumSteepSpec : ChangeSpec := { name := "sumSteep", fn := fun _ => fun
  | [d1, d2] => { results := [.lit (.bool true)], args := [d1, d2] }
  | _ => none }
def sumSteepRow : OpenClaim := { program := "ytbmllohfpgngeaa", sum := "2b478e5d9a4ef9206aa8d54756ae62c854db32e158355a63af20d0575236c72b", func := "floodgate/floodgatelaw07.SumSteep", spec := "sumSteep", unfollowed := true, recurses := true, apart := false }
def SumSteepSaid : Prop := sumSteepRow.holds Try.pinned (OpenSpec.ofChange sumSteepSpec)

/-- ITS FALSE NEIGHBOUR: 'it returns false'. Refute it at one input. -/
def sumSteepWrong : ChangeSpec := { name := "sumSteep", fn := fun _ => fun
  | [d1, d2] => { results := [.lit (.bool false)], args := [d1, d2] }
  | _ => none }
def SumSteepWrongFalsely : Prop := sumSteepRow.holds Try.pinned (OpenSpec.ofChange sumSteepWrong)

/- THE SECOND FORM. 'bulk': how many values and letters a reading holds, each counted each time it is reached (what is shared counts as often as it is met; a slice's spare places count too). A statement '..UptoSaid' is the law's where the arguments, and the package variables that the reading takes, are together of bulk at most 1048576: NARROWER than '..Said'. Prove '..Said' where nothing that the law and all that it calls make is longer than what came in: it says more and counts as full. Else prove '..UptoSaid'. A law counts once. -/
mutual
def uptoBulk {H : Type} : DataW H → Nat
  | .lit (.string bytes) => bytes.length + 1
  | .lit _ => 1
  | .nil => 1
  | .ptr d => uptoBulk d + 1
  | .slice elems spare => uptoBulkAll elems + uptoBulkAll spare + 1
  | .agg parts => uptoBulkAll parts + 1
  | .iface _ d => uptoBulk d + 1
  | .map entries => uptoBulkEntries entries + 1
  | .held _ => 1
def uptoBulkAll {H : Type} : List (DataW H) → Nat
  | [] => 0
  | d :: r => uptoBulk d + uptoBulkAll r
def uptoBulkEntries {H : Type} : List (Lit × DataW H) → Nat
  | [] => 0
  | x :: r => uptoBulkEntry x + uptoBulkEntries r
def uptoBulkEntry {H : Type} : Lit × DataW H → Nat
  | (.string bytes, d) => bytes.length + uptoBulk d + 1
  | (_, d) => uptoBulk d + 1
 end
def uptoSmall : (H : Type) → List (DataW H) → Bool := fun _ ds => decide (uptoBulkAll ds ≤ 1048576)
def OpenSpec.upto (s : _root_.Go.ChangeSpec) : _root_.Go.OpenSpec := { _root_.Go.OpenSpec.ofChange s with cond := some uptoSmall }

/-- 'floodgatelaw07.SumServes', WHERE WHAT IT READS IS OF BULK AT MOST 1048576: true; the input reads as it did. -/
def sumServesUptoRow : OpenClaim := { program := "ytbmllohfpgngeaa", sum := "2b478e5d9a4ef9206aa8d54756ae62c854db32e158355a63af20d0575236c72b", func := "floodgate/floodgatelaw07.SumServes", spec := "sumServes", unfollowed := true, recurses := true, apart := false, narrowed := true }
def SumServesUptoSaid : Prop := sumServesUptoRow.holds Try.pinned (OpenSpec.upto sumServesSpec)

/-- 'floodgatelaw07.SumKnees', WHERE WHAT IT READS IS OF BULK AT MOST 1048576: true; the input reads as it did. -/
def sumKneesUptoRow : OpenClaim := { program := "ytbmllohfpgngeaa", sum := "2b478e5d9a4ef9206aa8d54756ae62c854db32e158355a63af20d0575236c72b", func := "floodgate/floodgatelaw07.SumKnees", spec := "sumKnees", unfollowed := true, recurses := true, apart := false, narrowed := true }
def SumKneesUptoSaid : Prop := sumKneesUptoRow.holds Try.pinned (OpenSpec.upto sumKneesSpec)

/-- 'floodgatelaw07.SumStraight', WHERE WHAT IT READS IS OF BULK AT MOST 1048576: true; the input reads as it did. -/
def sumStraightUptoRow : OpenClaim := { program := "ytbmllohfpgngeaa", sum := "2b478e5d9a4ef9206aa8d54756ae62c854db32e158355a63af20d0575236c72b", func := "floodgate/floodgatelaw07.SumStraight", spec := "sumStraight", unfollowed := true, recurses := true, apart := false, narrowed := true }
def SumStraightUptoSaid : Prop := sumStraightUptoRow.holds Try.pinned (OpenSpec.upto sumStraightSpec)

/-- 'floodgatelaw07.SumSteep', WHERE WHAT IT READS IS OF BULK AT MOST 1048576: true; the input reads as it did. -/
def sumSteepUptoRow : OpenClaim := { program := "ytbmllohfpgngeaa", sum := "2b478e5d9a4ef9206aa8d54756ae62c854db32e158355a63af20d0575236c72b", func := "floodgate/floodgatelaw07.SumSteep", spec := "sumSteep", unfollowed := true, recurses := true, apart := false, narrowed := true }
def SumSteepUptoSaid : Prop := sumSteepUptoRow.holds Try.pinned (OpenSpec.upto sumSteepSpec)

end Rows
end Go.Proofs.Ytbmllohfpgngeaa
