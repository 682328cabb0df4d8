/-
  No cell of these rows narrows 'for every input' (looked for: loops, veiled, ifaces, maps, wideKeys, modest, calm, conditions, laid).
  DERIVED. THE GIVEN ROWS OF THIS SEAT. 3 by the template 'for every input the law returns true; each argument reads behind the call as it read before'; 0 by the template 'total and deterministic' (their statements: YtpodcfadcdnllaaTotals.lean).
  GIVEN WITH THE SEED: the statements are not yours to turn. If you find one false, say at which input.
  Laid BY PROGRAM, IN A SANDBOX (cutbox-rows.mjs): the forced cells as the released guide's own fill.sh prints them over the translation 1a8846baa52bb10b… (all of the seat's roots in one cut). By AI agents, Wed Nov 11 2026. No macro, syntax, notation, axiom, sorry.
-/
import Derived.Test.YtpodcfadcdnllaaChecked
import GoSem.Claim
import GoSem.ClaimJoined
import GoSem.ClaimMapViews
import Derived.JoinedTies
import Derived.KernelRfl
namespace Go.Proofs.Ytpodcfadcdnllaa
/- THE CELL 'sum', in the pinned program and in every row, IS THE sha256 OF THE DUMP (.gsa) THAT YtpodcfadcdnllaaProg.lean LOADS. Nothing in Lean hashes anything: it is a label: what it is worth is what the hold of that sum in a sandbox is worth. -/
noncomputable def Try.pinned : Pinned := { name := "ytpodcfadcdnllaa", sum := "1a8846baa52bb10b71bde12c968a2cfff638579d0e925b8eb0ffe29df21691f8", checked := Try.checked }
namespace Rows
def none {H : Type} : Left H := { results := [], args := [] }

/-- 'floodgatelaw18.HierLaid': WHATEVER THE INPUT: true; the input reads as it did. -/
def hierLaidSpec : ChangeSpec := { name := "hierLaid", fn := fun _ => fun
  | [d] => { results := [.lit (.bool true)], args := [d] }
  | _ => none }
def hierLaidRow : OpenClaim := { program := "ytpodcfadcdnllaa", sum := "1a8846baa52bb10b71bde12c968a2cfff638579d0e925b8eb0ffe29df21691f8", func := "floodgate/floodgatelaw18.HierLaid", spec := "hierLaid", unfollowed := true, recurses := true, apart := false }
def HierLaidSaid : Prop := hierLaidRow.holds Try.pinned (OpenSpec.ofChange hierLaidSpec)

/-- ITS FALSE NEIGHBOUR: 'it returns false'. Refute it at one input. -/
def hierLaidWrong : ChangeSpec := { name := "hierLaid", fn := fun _ => fun
  | [d] => { results := [.lit (.bool false)], args := [d] }
  | _ => none }
def HierLaidWrongFalsely : Prop := hierLaidRow.holds Try.pinned (OpenSpec.ofChange hierLaidWrong)

/-- 'floodgatelaw18.HierActs': WHATEVER THE INPUT: true; the input reads as it did. -/
def hierActsSpec : ChangeSpec := { name := "hierActs", fn := fun _ => fun
  | [d] => { results := [.lit (.bool true)], args := [d] }
  | _ => none }
def hierActsRow : OpenClaim := { program := "ytpodcfadcdnllaa", sum := "1a8846baa52bb10b71bde12c968a2cfff638579d0e925b8eb0ffe29df21691f8", func := "floodgate/floodgatelaw18.HierActs", spec := "hierActs", inPlace := ["maps.clone"], unfollowed := true, recurses := true, apart := false }
def HierActsSaid : Prop := hierActsRow.holds Try.pinned (OpenSpec.ofChange hierActsSpec)

/-- ITS FALSE NEIGHBOUR: 'it returns false'. Refute it at one input. -/
def hierActsWrong : ChangeSpec := { name := "hierActs", fn := fun _ => fun
  | [d] => { results := [.lit (.bool false)], args := [d] }
  | _ => none }
def HierActsWrongFalsely : Prop := hierActsRow.holds Try.pinned (OpenSpec.ofChange hierActsWrong)

/-- 'floodgatelaw18.HierNil': WHATEVER THE INPUT: true; the input reads as it did. -/
def hierNilSpec : ChangeSpec := { name := "hierNil", fn := fun _ => fun
  | [d] => { results := [.lit (.bool true)], args := [d] }
  | _ => none }
def hierNilRow : OpenClaim := { program := "ytpodcfadcdnllaa", sum := "1a8846baa52bb10b71bde12c968a2cfff638579d0e925b8eb0ffe29df21691f8", func := "floodgate/floodgatelaw18.HierNil", spec := "hierNil", inPlace := ["maps.clone"], unfollowed := true, recurses := true, apart := false }
def HierNilSaid : Prop := hierNilRow.holds Try.pinned (OpenSpec.ofChange hierNilSpec)

/-- ITS FALSE NEIGHBOUR: 'it returns false'. Refute it at one input. -/
def hierNilWrong : ChangeSpec := { name := "hierNil", fn := fun _ => fun
  | [d] => { results := [.lit (.bool false)], args := [d] }
  | _ => none }
def HierNilWrongFalsely : Prop := hierNilRow.holds Try.pinned (OpenSpec.ofChange hierNilWrong)

/- THE SECOND FORM. 'bulk': how many values and letters a reading holds, each counted each time it is reached (what is shared counts as often as it is met; a slice's spare places count too). A statement '..UptoSaid' is the law's where the arguments, and the package variables that the reading takes, are together of bulk at most 1048576: NARROWER than '..Said'. Prove '..Said' where nothing that the law and all that it calls make is longer than what came in: it says more and counts as full. Else prove '..UptoSaid'. A law counts once. -/
mutual
def uptoBulk {H : Type} : DataW H → Nat
  | .lit (.string bytes) => bytes.length + 1
  | .lit _ => 1
  | .nil => 1
  | .ptr d => uptoBulk d + 1
  | .slice elems spare => uptoBulkAll elems + uptoBulkAll spare + 1
  | .agg parts => uptoBulkAll parts + 1
  | .iface _ d => uptoBulk d + 1
  | .map entries => uptoBulkEntries entries + 1
  | .held _ => 1
def uptoBulkAll {H : Type} : List (DataW H) → Nat
  | [] => 0
  | d :: r => uptoBulk d + uptoBulkAll r
def uptoBulkEntries {H : Type} : List (Lit × DataW H) → Nat
  | [] => 0
  | x :: r => uptoBulkEntry x + uptoBulkEntries r
def uptoBulkEntry {H : Type} : Lit × DataW H → Nat
  | (.string bytes, d) => bytes.length + uptoBulk d + 1
  | (_, d) => uptoBulk d + 1
 end
def uptoSmall : (H : Type) → List (DataW H) → Bool := fun _ ds => decide (uptoBulkAll ds ≤ 1048576)
def OpenSpec.upto (s : _root_.Go.ChangeSpec) : _root_.Go.OpenSpec := { _root_.Go.OpenSpec.ofChange s with cond := some uptoSmall }

/-- 'floodgatelaw18.HierLaid', WHERE WHAT IT READS IS OF BULK AT MOST 1048576: true; the input reads as it did. -/
def hierLaidUptoRow : OpenClaim := { program := "ytpodcfadcdnllaa", sum := "1a8846baa52bb10b71bde12c968a2cfff638579d0e925b8eb0ffe29df21691f8", func := "floodgate/floodgatelaw18.HierLaid", spec := "hierLaid", unfollowed := true, recurses := true, apart := false, narrowed := true }
def HierLaidUptoSaid : Prop := hierLaidUptoRow.holds Try.pinned (OpenSpec.upto hierLaidSpec)

/-- 'floodgatelaw18.HierActs', WHERE WHAT IT READS IS OF BULK AT MOST 1048576: true; the input reads as it did. -/
def hierActsUptoRow : OpenClaim := { program := "ytpodcfadcdnllaa", sum := "1a8846baa52bb10b71bde12c968a2cfff638579d0e925b8eb0ffe29df21691f8", func := "floodgate/floodgatelaw18.HierActs", spec := "hierActs", inPlace := ["maps.clone"], unfollowed := true, recurses := true, apart := false, narrowed := true }
def HierActsUptoSaid : Prop := hierActsUptoRow.holds Try.pinned (OpenSpec.upto hierActsSpec)

/-- 'floodgatelaw18.HierNil', WHERE WHAT IT READS IS OF BULK AT MOST 1048576: true; the input reads as it did. -/
def hierNilUptoRow : OpenClaim := { program := "ytpodcfadcdnllaa", sum := "1a8846baa52bb10b71bde12c968a2cfff638579d0e925b8eb0ffe29df21691f8", func := "floodgate/floodgatelaw18.HierNil", spec := "hierNil", inPlace := ["maps.clone"], unfollowed := true, recurses := true, apart := false, narrowed := true }
def HierNilUptoSaid : Prop := hierNilUptoRow.holds Try.pinned (OpenSpec.upto hierNilSpec)

end Rows
end Go.Proofs.Ytpodcfadcdnllaa
