/-
  No cell of these rows narrows 'for every input' (looked for: loops, veiled, ifaces, maps, wideKeys, modest, calm, conditions, laid).
  DERIVED. THE GIVEN ROWS OF THIS SEAT. 4 by the template 'for every input the law returns true; each argument reads behind the call as it read before'; 0 by the template 'total and deterministic' (their statements: YtobgjpigngoggaaGreatTotals.lean).
  GIVEN WITH THE SEED: the statements are not yours to turn. If you find one false, say at which input.
  Laid BY PROGRAM, IN A SANDBOX (cutbox-rows.mjs): the forced cells as the released guide's own fill.sh prints them over the translation 855aaa8f3a8b52c3… (all of the seat's roots in one cut). By AI agents, Wed Nov 11 2026. No macro, syntax, notation, axiom, sorry.
-/
import Derived.Test.YtobgjpigngoggaaGreatChecked
import GoSem.Claim
import GoSem.ClaimJoined
import GoSem.ClaimMapViews
import Derived.JoinedTies
import Derived.KernelRfl
namespace Go.Proofs.YtobgjpigngoggaaGreat
/- THE CELL 'sum', in the pinned program and in every row, IS THE sha256 OF THE DUMP (.gsa) THAT YtobgjpigngoggaaGreatProg.lean LOADS. Nothing in Lean hashes anything: it is a label: what it is worth is what the hold of that sum in a sandbox is worth. -/
noncomputable def Tryz.pinned : Pinned := { name := "ytobgjpigngoggaagreat", sum := "855aaa8f3a8b52c37b9ceaa8926433c808f12b6bd307d3271ad2c1cbfb57f21d", checked := Tryz.checked }
namespace Rows
def none {H : Type} : Left H := { results := [], args := [] }

/-- 'floodgatetop.WholeOnce': WHATEVER THE INPUT: true; the input reads as it did. -/
def wholeOnceSpec : ChangeSpec := { name := "wholeOnce", fn := fun _ => fun
  | [d1, d2] => { results := [.lit (.bool true)], args := [d1, d2] }
  | _ => none }
def wholeOnceRow : OpenClaim := { program := "ytobgjpigngoggaagreat", sum := "855aaa8f3a8b52c37b9ceaa8926433c808f12b6bd307d3271ad2c1cbfb57f21d", func := "floodgate/floodgatetop.WholeOnce", spec := "wholeOnce", inPlace := ["maps.clone"], unfollowed := true, recurses := true, plainKeys := false, apart := false }
def WholeOnceSaid : Prop := wholeOnceRow.holds Tryz.pinned (OpenSpec.ofChange wholeOnceSpec)

/-- ITS FALSE NEIGHBOUR: 'it returns false'. Refute it at one input. -/
def wholeOnceWrong : ChangeSpec := { name := "wholeOnce", fn := fun _ => fun
  | [d1, d2] => { results := [.lit (.bool false)], args := [d1, d2] }
  | _ => none }
def WholeOnceWrongFalsely : Prop := wholeOnceRow.holds Tryz.pinned (OpenSpec.ofChange wholeOnceWrong)

/-- 'floodgatetop.WholeRefused': WHATEVER THE INPUT: true; the input reads as it did. -/
def wholeRefusedSpec : ChangeSpec := { name := "wholeRefused", fn := fun _ => fun
  | [d1, d2, d3] => { results := [.lit (.bool true)], args := [d1, d2, d3] }
  | _ => none }
def wholeRefusedRow : OpenClaim := { program := "ytobgjpigngoggaagreat", sum := "855aaa8f3a8b52c37b9ceaa8926433c808f12b6bd307d3271ad2c1cbfb57f21d", func := "floodgate/floodgatetop.WholeRefused", spec := "wholeRefused", inPlace := ["maps.clone"], unfollowed := true, recurses := true, plainKeys := false, apart := false }
def WholeRefusedSaid : Prop := wholeRefusedRow.holds Tryz.pinned (OpenSpec.ofChange wholeRefusedSpec)

/-- ITS FALSE NEIGHBOUR: 'it returns false'. Refute it at one input. -/
def wholeRefusedWrong : ChangeSpec := { name := "wholeRefused", fn := fun _ => fun
  | [d1, d2, d3] => { results := [.lit (.bool false)], args := [d1, d2, d3] }
  | _ => none }
def WholeRefusedWrongFalsely : Prop := wholeRefusedRow.holds Tryz.pinned (OpenSpec.ofChange wholeRefusedWrong)

/-- 'floodgatetop.WholeFair': WHATEVER THE INPUT: true; the input reads as it did. -/
def wholeFairSpec : ChangeSpec := { name := "wholeFair", fn := fun _ => fun
  | [d1, d2, d3] => { results := [.lit (.bool true)], args := [d1, d2, d3] }
  | _ => none }
def wholeFairRow : OpenClaim := { program := "ytobgjpigngoggaagreat", sum := "855aaa8f3a8b52c37b9ceaa8926433c808f12b6bd307d3271ad2c1cbfb57f21d", func := "floodgate/floodgatetop.WholeFair", spec := "wholeFair", inPlace := ["maps.clone"], unfollowed := true, recurses := true, plainKeys := false, apart := false }
def WholeFairSaid : Prop := wholeFairRow.holds Tryz.pinned (OpenSpec.ofChange wholeFairSpec)

/-- ITS FALSE NEIGHBOUR: 'it returns false'. Refute it at one input. -/
def wholeFairWrong : ChangeSpec := { name := "wholeFair", fn := fun _ => fun
  | [d1, d2, d3] => { results := [.lit (.bool false)], args := [d1, d2, d3] }
  | _ => none }
def WholeFairWrongFalsely : Prop := wholeFairRow.holds Tryz.pinned (OpenSpec.ofChange wholeFairWrong)

/-- 'floodgatetop.WholeBusy': WHATEVER THE INPUT: true; the input reads as it did. -/
def wholeBusySpec : ChangeSpec := { name := "wholeBusy", fn := fun _ => fun
  | [d] => { results := [.lit (.bool true)], args := [d] }
  | _ => none }
def wholeBusyRow : OpenClaim := { program := "ytobgjpigngoggaagreat", sum := "855aaa8f3a8b52c37b9ceaa8926433c808f12b6bd307d3271ad2c1cbfb57f21d", func := "floodgate/floodgatetop.WholeBusy", spec := "wholeBusy", inPlace := ["maps.clone"], unfollowed := true, recurses := true, plainKeys := false, apart := false }
def WholeBusySaid : Prop := wholeBusyRow.holds Tryz.pinned (OpenSpec.ofChange wholeBusySpec)

/-- ITS FALSE NEIGHBOUR: 'it returns false'. Refute it at one input. -/
def wholeBusyWrong : ChangeSpec := { name := "wholeBusy", fn := fun _ => fun
  | [d] => { results := [.lit (.bool false)], args := [d] }
  | _ => none }
def WholeBusyWrongFalsely : Prop := wholeBusyRow.holds Tryz.pinned (OpenSpec.ofChange wholeBusyWrong)

/- THE SECOND FORM. 'bulk': how many values and letters a reading holds, each counted each time it is reached (what is shared counts as often as it is met; a slice's spare places count too). A statement '..UptoSaid' is the law's where the arguments, and the package variables that the reading takes, are together of bulk at most 1048576: NARROWER than '..Said'. Prove '..Said' where nothing that the law and all that it calls make is longer than what came in: it says more and counts as full. Else prove '..UptoSaid'. A law counts once. -/
mutual
def uptoBulk {H : Type} : DataW H → Nat
  | .lit (.string bytes) => bytes.length + 1
  | .lit _ => 1
  | .nil => 1
  | .ptr d => uptoBulk d + 1
  | .slice elems spare => uptoBulkAll elems + uptoBulkAll spare + 1
  | .agg parts => uptoBulkAll parts + 1
  | .iface _ d => uptoBulk d + 1
  | .map entries => uptoBulkEntries entries + 1
  | .held _ => 1
def uptoBulkAll {H : Type} : List (DataW H) → Nat
  | [] => 0
  | d :: r => uptoBulk d + uptoBulkAll r
def uptoBulkEntries {H : Type} : List (Lit × DataW H) → Nat
  | [] => 0
  | x :: r => uptoBulkEntry x + uptoBulkEntries r
def uptoBulkEntry {H : Type} : Lit × DataW H → Nat
  | (.string bytes, d) => bytes.length + uptoBulk d + 1
  | (_, d) => uptoBulk d + 1
 end
def uptoSmall : (H : Type) → List (DataW H) → Bool := fun _ ds => decide (uptoBulkAll ds ≤ 1048576)
def OpenSpec.upto (s : _root_.Go.ChangeSpec) : _root_.Go.OpenSpec := { _root_.Go.OpenSpec.ofChange s with cond := some uptoSmall }

/-- 'floodgatetop.WholeOnce', WHERE WHAT IT READS IS OF BULK AT MOST 1048576: true; the input reads as it did. -/
def wholeOnceUptoRow : OpenClaim := { program := "ytobgjpigngoggaagreat", sum := "855aaa8f3a8b52c37b9ceaa8926433c808f12b6bd307d3271ad2c1cbfb57f21d", func := "floodgate/floodgatetop.WholeOnce", spec := "wholeOnce", inPlace := ["maps.clone"], unfollowed := true, recurses := true, plainKeys := false, apart := false, narrowed := true }
def WholeOnceUptoSaid : Prop := wholeOnceUptoRow.holds Tryz.pinned (OpenSpec.upto wholeOnceSpec)

/-- 'floodgatetop.WholeRefused', WHERE WHAT IT READS IS OF BULK AT MOST 1048576: true; the input reads as it did. -/
def wholeRefusedUptoRow : OpenClaim := { program := "ytobgjpigngoggaagreat", sum := "855aaa8f3a8b52c37b9ceaa8926433c808f12b6bd307d3271ad2c1cbfb57f21d", func := "floodgate/floodgatetop.WholeRefused", spec := "wholeRefused", inPlace := ["maps.clone"], unfollowed := true, recurses := true, plainKeys := false, apart := false, narrowed := true }
def WholeRefusedUptoSaid : Prop := wholeRefusedUptoRow.holds Tryz.pinned (OpenSpec.upto wholeRefusedSpec)

/-- 'floodgatetop.WholeFair', WHERE WHAT IT READS IS OF BULK AT MOST 1048576: true; the input reads as it did. -/
def wholeFairUptoRow : OpenClaim := { program := "ytobgjpigngoggaagreat", sum := "855aaa8f3a8b52c37b9ceaa8926433c808f12b6bd307d3271ad2c1cbfb57f21d", func := "floodgate/floodgatetop.WholeFair", spec := "wholeFair", inPlace := ["maps.clone"], unfollowed := true, recurses := true, plainKeys := false, apart := false, narrowed := true }
def WholeFairUptoSaid : Prop := wholeFairUptoRow.holds Tryz.pinned (OpenSpec.upto wholeFairSpec)

/-- 'floodgatetop.WholeBusy', WHERE WHAT IT READS IS OF BULK AT MOST 1048576: true; the input reads as it did. -/
def wholeBusyUptoRow : OpenClaim := { program := "ytobgjpigngoggaagreat", sum := "855aaa8f3a8b52c37b9ceaa8926433c808f12b6bd307d3271ad2c1cbfb57f21d", func := "floodgate/floodgatetop.WholeBusy", spec := "wholeBusy", inPlace := ["maps.clone"], unfollowed := true, recurses := true, plainKeys := false, apart := false, narrowed := true }
def WholeBusyUptoSaid : Prop := wholeBusyUptoRow.holds Tryz.pinned (OpenSpec.upto wholeBusySpec)

end Rows
end Go.Proofs.YtobgjpigngoggaaGreat
