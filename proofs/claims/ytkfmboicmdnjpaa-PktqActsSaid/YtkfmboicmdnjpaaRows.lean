/-
  No cell of these rows narrows 'for every input' (looked for: loops, veiled, ifaces, maps, wideKeys, modest, calm, conditions, laid).
  DERIVED. THE GIVEN ROWS OF THIS SEAT. 11 by the template 'for every input the law returns true; each argument reads behind the call as it read before'; 0 by the template 'total and deterministic' (their statements: YtkfmboicmdnjpaaTotals.lean).
  GIVEN WITH THE SEED: the statements are not yours to turn. If you find one false, say at which input.
  Laid BY PROGRAM, IN A SANDBOX (cutbox-rows.mjs): the forced cells as the released guide's own fill.sh prints them over the translation cbecb960ababd8fe… (all of the seat's roots in one cut). By AI agents, Wed Nov 11 2026. No macro, syntax, notation, axiom, sorry.
-/
import Derived.Test.YtkfmboicmdnjpaaChecked
import GoSem.Claim
import GoSem.ClaimJoined
import GoSem.ClaimMapViews
import Derived.JoinedTies
import Derived.KernelRfl
namespace Go.Proofs.Ytkfmboicmdnjpaa
/- THE CELL 'sum', in the pinned program and in every row, IS THE sha256 OF THE DUMP (.gsa) THAT YtkfmboicmdnjpaaProg.lean LOADS. Nothing in Lean hashes anything: it is a label: what it is worth is what the hold of that sum in a sandbox is worth. -/
noncomputable def Try.pinned : Pinned := { name := "ytkfmboicmdnjpaa", sum := "cbecb960ababd8fe74fd1ffd2a3308f59cd315d2807c70b93ff15033e0d79f9d", checked := Try.checked }
namespace Rows
def none {H : Type} : Left H := { results := [], args := [] }

/-- 'floodgatelaw12.RankCompares': WHATEVER THE INPUT: true; the input reads as it did. -/
def rankComparesSpec : ChangeSpec := { name := "rankCompares", fn := fun _ => fun
  | [d1, d2, d3] => { results := [.lit (.bool true)], args := [d1, d2, d3] }
  | _ => none }
def rankComparesRow : OpenClaim := { program := "ytkfmboicmdnjpaa", sum := "cbecb960ababd8fe74fd1ffd2a3308f59cd315d2807c70b93ff15033e0d79f9d", func := "floodgate/floodgatelaw12.RankCompares", spec := "rankCompares", plainKeys := false, apart := false }
def RankComparesSaid : Prop := rankComparesRow.holds Try.pinned (OpenSpec.ofChange rankComparesSpec)

/-- ITS FALSE NEIGHBOUR: 'it returns false'. Refute it at one input. -/
def rankComparesWrong : ChangeSpec := { name := "rankCompares", fn := fun _ => fun
  | [d1, d2, d3] => { results := [.lit (.bool false)], args := [d1, d2, d3] }
  | _ => none }
def RankComparesWrongFalsely : Prop := rankComparesRow.holds Try.pinned (OpenSpec.ofChange rankComparesWrong)

/-- 'floodgatelaw12.RankRows': WHATEVER THE INPUT: true; the input reads as it did. -/
def rankRowsSpec : ChangeSpec := { name := "rankRows", fn := fun _ => fun
  | [d1, d2, d3] => { results := [.lit (.bool true)], args := [d1, d2, d3] }
  | _ => none }
def rankRowsRow : OpenClaim := { program := "ytkfmboicmdnjpaa", sum := "cbecb960ababd8fe74fd1ffd2a3308f59cd315d2807c70b93ff15033e0d79f9d", func := "floodgate/floodgatelaw12.RankRows", spec := "rankRows", plainKeys := false, apart := false }
def RankRowsSaid : Prop := rankRowsRow.holds Try.pinned (OpenSpec.ofChange rankRowsSpec)

/-- ITS FALSE NEIGHBOUR: 'it returns false'. Refute it at one input. -/
def rankRowsWrong : ChangeSpec := { name := "rankRows", fn := fun _ => fun
  | [d1, d2, d3] => { results := [.lit (.bool false)], args := [d1, d2, d3] }
  | _ => none }
def RankRowsWrongFalsely : Prop := rankRowsRow.holds Try.pinned (OpenSpec.ofChange rankRowsWrong)

/-- 'floodgatelaw10.RingActs': WHATEVER THE INPUT: true; the input reads as it did. -/
def ringActsSpec : ChangeSpec := { name := "ringActs", fn := fun _ => fun
  | [d1, d2] => { results := [.lit (.bool true)], args := [d1, d2] }
  | _ => none }
def ringActsRow : OpenClaim := { program := "ytkfmboicmdnjpaa", sum := "cbecb960ababd8fe74fd1ffd2a3308f59cd315d2807c70b93ff15033e0d79f9d", func := "floodgate/floodgatelaw10.RingActs", spec := "ringActs", plainKeys := false, apart := false }
def RingActsSaid : Prop := ringActsRow.holds Try.pinned (OpenSpec.ofChange ringActsSpec)

/-- ITS FALSE NEIGHBOUR: 'it returns false'. Refute it at one input. -/
def ringActsWrong : ChangeSpec := { name := "ringActs", fn := fun _ => fun
  | [d1, d2] => { results := [.lit (.bool false)], args := [d1, d2] }
  | _ => none }
def RingActsWrongFalsely : Prop := ringActsRow.holds Try.pinned (OpenSpec.ofChange ringActsWrong)

/-- 'floodgatelaw10.RingTexts': WHATEVER THE INPUT: true; the input reads as it did. -/
def ringTextsSpec : ChangeSpec := { name := "ringTexts", fn := fun _ => fun
  | [d1, d2] => { results := [.lit (.bool true)], args := [d1, d2] }
  | _ => none }
def ringTextsRow : OpenClaim := { program := "ytkfmboicmdnjpaa", sum := "cbecb960ababd8fe74fd1ffd2a3308f59cd315d2807c70b93ff15033e0d79f9d", func := "floodgate/floodgatelaw10.RingTexts", spec := "ringTexts", plainKeys := false, apart := false }
def RingTextsSaid : Prop := ringTextsRow.holds Try.pinned (OpenSpec.ofChange ringTextsSpec)

/-- ITS FALSE NEIGHBOUR: 'it returns false'. Refute it at one input. -/
def ringTextsWrong : ChangeSpec := { name := "ringTexts", fn := fun _ => fun
  | [d1, d2] => { results := [.lit (.bool false)], args := [d1, d2] }
  | _ => none }
def RingTextsWrongFalsely : Prop := ringTextsRow.holds Try.pinned (OpenSpec.ofChange ringTextsWrong)

/-- 'floodgatelaw10.RingNil': WHATEVER THE INPUT: true; the input reads as it did. -/
def ringNilSpec : ChangeSpec := { name := "ringNil", fn := fun _ => fun
  | [d] => { results := [.lit (.bool true)], args := [d] }
  | _ => none }
def ringNilRow : OpenClaim := { program := "ytkfmboicmdnjpaa", sum := "cbecb960ababd8fe74fd1ffd2a3308f59cd315d2807c70b93ff15033e0d79f9d", func := "floodgate/floodgatelaw10.RingNil", spec := "ringNil", plainKeys := false, apart := false }
def RingNilSaid : Prop := ringNilRow.holds Try.pinned (OpenSpec.ofChange ringNilSpec)

/-- ITS FALSE NEIGHBOUR: 'it returns false'. Refute it at one input. -/
def ringNilWrong : ChangeSpec := { name := "ringNil", fn := fun _ => fun
  | [d] => { results := [.lit (.bool false)], args := [d] }
  | _ => none }
def RingNilWrongFalsely : Prop := ringNilRow.holds Try.pinned (OpenSpec.ofChange ringNilWrong)

/-- 'floodgatelaw16.MatchFinds': WHATEVER THE INPUT: true; the input reads as it did. -/
def matchFindsSpec : ChangeSpec := { name := "matchFinds", fn := fun _ => fun
  | [d1, d2, d3] => { results := [.lit (.bool true)], args := [d1, d2, d3] }
  | _ => none }
def matchFindsRow : OpenClaim := { program := "ytkfmboicmdnjpaa", sum := "cbecb960ababd8fe74fd1ffd2a3308f59cd315d2807c70b93ff15033e0d79f9d", func := "floodgate/floodgatelaw16.MatchFinds", spec := "matchFinds", unfollowed := true, recurses := true, plainKeys := false, apart := false }
def MatchFindsSaid : Prop := matchFindsRow.holds Try.pinned (OpenSpec.ofChange matchFindsSpec)

/-- ITS FALSE NEIGHBOUR: 'it returns false'. Refute it at one input. -/
def matchFindsWrong : ChangeSpec := { name := "matchFinds", fn := fun _ => fun
  | [d1, d2, d3] => { results := [.lit (.bool false)], args := [d1, d2, d3] }
  | _ => none }
def MatchFindsWrongFalsely : Prop := matchFindsRow.holds Try.pinned (OpenSpec.ofChange matchFindsWrong)

/-- 'floodgatelaw16.MatchFirst': WHATEVER THE INPUT: true; the input reads as it did. -/
def matchFirstSpec : ChangeSpec := { name := "matchFirst", fn := fun _ => fun
  | [d1, d2, d3] => { results := [.lit (.bool true)], args := [d1, d2, d3] }
  | _ => none }
def matchFirstRow : OpenClaim := { program := "ytkfmboicmdnjpaa", sum := "cbecb960ababd8fe74fd1ffd2a3308f59cd315d2807c70b93ff15033e0d79f9d", func := "floodgate/floodgatelaw16.MatchFirst", spec := "matchFirst", unfollowed := true, recurses := true, plainKeys := false, apart := false }
def MatchFirstSaid : Prop := matchFirstRow.holds Try.pinned (OpenSpec.ofChange matchFirstSpec)

/-- ITS FALSE NEIGHBOUR: 'it returns false'. Refute it at one input. -/
def matchFirstWrong : ChangeSpec := { name := "matchFirst", fn := fun _ => fun
  | [d1, d2, d3] => { results := [.lit (.bool false)], args := [d1, d2, d3] }
  | _ => none }
def MatchFirstWrongFalsely : Prop := matchFirstRow.holds Try.pinned (OpenSpec.ofChange matchFirstWrong)

/-- 'floodgatelaw16.MatchNil': WHATEVER THE INPUT: true; the input reads as it did. -/
def matchNilSpec : ChangeSpec := { name := "matchNil", fn := fun _ => fun
  | [d1, d2] => { results := [.lit (.bool true)], args := [d1, d2] }
  | _ => none }
def matchNilRow : OpenClaim := { program := "ytkfmboicmdnjpaa", sum := "cbecb960ababd8fe74fd1ffd2a3308f59cd315d2807c70b93ff15033e0d79f9d", func := "floodgate/floodgatelaw16.MatchNil", spec := "matchNil", unfollowed := true, recurses := true, plainKeys := false, apart := false }
def MatchNilSaid : Prop := matchNilRow.holds Try.pinned (OpenSpec.ofChange matchNilSpec)

/-- ITS FALSE NEIGHBOUR: 'it returns false'. Refute it at one input. -/
def matchNilWrong : ChangeSpec := { name := "matchNil", fn := fun _ => fun
  | [d1, d2] => { results := [.lit (.bool false)], args := [d1, d2] }
  | _ => none }
def MatchNilWrongFalsely : Prop := matchNilRow.holds Try.pinned (OpenSpec.ofChange matchNilWrong)

/-- 'floodgatelaw11.PktqOrder': WHATEVER THE INPUT: true; the input reads as it did. -/
def pktqOrderSpec : ChangeSpec := { name := "pktqOrder", fn := fun _ => fun
  | [d1, d2, d3] => { results := [.lit (.bool true)], args := [d1, d2, d3] }
  | _ => none }
def pktqOrderRow : OpenClaim := { program := "ytkfmboicmdnjpaa", sum := "cbecb960ababd8fe74fd1ffd2a3308f59cd315d2807c70b93ff15033e0d79f9d", func := "floodgate/floodgatelaw11.PktqOrder", spec := "pktqOrder", plainKeys := false, apart := false }
def PktqOrderSaid : Prop := pktqOrderRow.holds Try.pinned (OpenSpec.ofChange pktqOrderSpec)

/-- ITS FALSE NEIGHBOUR: 'it returns false'. Refute it at one input. -/
def pktqOrderWrong : ChangeSpec := { name := "pktqOrder", fn := fun _ => fun
  | [d1, d2, d3] => { results := [.lit (.bool false)], args := [d1, d2, d3] }
  | _ => none }
def PktqOrderWrongFalsely : Prop := pktqOrderRow.holds Try.pinned (OpenSpec.ofChange pktqOrderWrong)

/-- 'floodgatelaw11.PktqActs': WHATEVER THE INPUT: true; the input reads as it did. -/
def pktqActsSpec : ChangeSpec := { name := "pktqActs", fn := fun _ => fun
  | [d1, d2, d3] => { results := [.lit (.bool true)], args := [d1, d2, d3] }
  | _ => none }
def pktqActsRow : OpenClaim := { program := "ytkfmboicmdnjpaa", sum := "cbecb960ababd8fe74fd1ffd2a3308f59cd315d2807c70b93ff15033e0d79f9d", func := "floodgate/floodgatelaw11.PktqActs", spec := "pktqActs", plainKeys := false, apart := false }
def PktqActsSaid : Prop := pktqActsRow.holds Try.pinned (OpenSpec.ofChange pktqActsSpec)

/-- ITS FALSE NEIGHBOUR: 'it returns false'. Refute it at one input. -/
def pktqActsWrong : ChangeSpec := { name := "pktqActs", fn := fun _ => fun
  | [d1, d2, d3] => { results := [.lit (.bool false)], args := [d1, d2, d3] }
  | _ => none }
def PktqActsWrongFalsely : Prop := pktqActsRow.holds Try.pinned (OpenSpec.ofChange pktqActsWrong)

/-- 'floodgatelaw11.PktqNil': WHATEVER THE INPUT: true; the input reads as it did. -/
def pktqNilSpec : ChangeSpec := { name := "pktqNil", fn := fun _ => fun
  | [d] => { results := [.lit (.bool true)], args := [d] }
  | _ => none }
def pktqNilRow : OpenClaim := { program := "ytkfmboicmdnjpaa", sum := "cbecb960ababd8fe74fd1ffd2a3308f59cd315d2807c70b93ff15033e0d79f9d", func := "floodgate/floodgatelaw11.PktqNil", spec := "pktqNil", plainKeys := false, apart := false }
def PktqNilSaid : Prop := pktqNilRow.holds Try.pinned (OpenSpec.ofChange pktqNilSpec)

/-- ITS FALSE NEIGHBOUR: 'it returns false'. Refute it at one input. -/
def pktqNilWrong : ChangeSpec := { name := "pktqNil", fn := fun _ => fun
  | [d] => { results := [.lit (.bool false)], args := [d] }
  | _ => none }
def PktqNilWrongFalsely : Prop := pktqNilRow.holds Try.pinned (OpenSpec.ofChange pktqNilWrong)

/- THE SECOND FORM. 'bulk': how many values and letters a reading holds, each counted each time it is reached (what is shared counts as often as it is met; a slice's spare places count too). A statement '..UptoSaid' is the law's where the arguments, and the package variables that the reading takes, are together of bulk at most 1048576: NARROWER than '..Said'. Prove '..Said' where nothing that the law and all that it calls make is longer than what came in: it says more and counts as full. Else prove '..UptoSaid'. A law counts once. -/
mutual
def uptoBulk {H : Type} : DataW H → Nat
  | .lit (.string bytes) => bytes.length + 1
  | .lit _ => 1
  | .nil => 1
  | .ptr d => uptoBulk d + 1
  | .slice elems spare => uptoBulkAll elems + uptoBulkAll spare + 1
  | .agg parts => uptoBulkAll parts + 1
  | .iface _ d => uptoBulk d + 1
  | .map entries => uptoBulkEntries entries + 1
  | .held _ => 1
def uptoBulkAll {H : Type} : List (DataW H) → Nat
  | [] => 0
  | d :: r => uptoBulk d + uptoBulkAll r
def uptoBulkEntries {H : Type} : List (Lit × DataW H) → Nat
  | [] => 0
  | x :: r => uptoBulkEntry x + uptoBulkEntries r
def uptoBulkEntry {H : Type} : Lit × DataW H → Nat
  | (.string bytes, d) => bytes.length + uptoBulk d + 1
  | (_, d) => uptoBulk d + 1
 end
def uptoSmall : (H : Type) → List (DataW H) → Bool := fun _ ds => decide (uptoBulkAll ds ≤ 1048576)
def OpenSpec.upto (s : _root_.Go.ChangeSpec) : _root_.Go.OpenSpec := { _root_.Go.OpenSpec.ofChange s with cond := some uptoSmall }

/-- 'floodgatelaw12.RankCompares', WHERE WHAT IT READS IS OF BULK AT MOST 1048576: true; the input reads as it did. -/
def rankComparesUptoRow : OpenClaim := { program := "ytkfmboicmdnjpaa", sum := "cbecb960ababd8fe74fd1ffd2a3308f59cd315d2807c70b93ff15033e0d79f9d", func := "floodgate/floodgatelaw12.RankCompares", spec := "rankCompares", plainKeys := false, apart := false, narrowed := true }
def RankComparesUptoSaid : Prop := rankComparesUptoRow.holds Try.pinned (OpenSpec.upto rankComparesSpec)

/-- 'floodgatelaw12.RankRows', WHERE WHAT IT READS IS OF BULK AT MOST 1048576: true; the input reads as it did. -/
def rankRowsUptoRow : OpenClaim := { program := "ytkfmboicmdnjpaa", sum := "cbecb960ababd8fe74fd1ffd2a3308f59cd315d2807c70b93ff15033e0d79f9d", func := "floodgate/floodgatelaw12.RankRows", spec := "rankRows", plainKeys := false, apart := false, narrowed := true }
def RankRowsUptoSaid : Prop := rankRowsUptoRow.holds Try.pinned (OpenSpec.upto rankRowsSpec)

/-- 'floodgatelaw10.RingActs', WHERE WHAT IT READS IS OF BULK AT MOST 1048576: true; the input reads as it did. -/
def ringActsUptoRow : OpenClaim := { program := "ytkfmboicmdnjpaa", sum := "cbecb960ababd8fe74fd1ffd2a3308f59cd315d2807c70b93ff15033e0d79f9d", func := "floodgate/floodgatelaw10.RingActs", spec := "ringActs", plainKeys := false, apart := false, narrowed := true }
def RingActsUptoSaid : Prop := ringActsUptoRow.holds Try.pinned (OpenSpec.upto ringActsSpec)

/-- 'floodgatelaw10.RingTexts', WHERE WHAT IT READS IS OF BULK AT MOST 1048576: true; the input reads as it did. -/
def ringTextsUptoRow : OpenClaim := { program := "ytkfmboicmdnjpaa", sum := "cbecb960ababd8fe74fd1ffd2a3308f59cd315d2807c70b93ff15033e0d79f9d", func := "floodgate/floodgatelaw10.RingTexts", spec := "ringTexts", plainKeys := false, apart := false, narrowed := true }
def RingTextsUptoSaid : Prop := ringTextsUptoRow.holds Try.pinned (OpenSpec.upto ringTextsSpec)

/-- 'floodgatelaw10.RingNil', WHERE WHAT IT READS IS OF BULK AT MOST 1048576: true; the input reads as it did. -/
def ringNilUptoRow : OpenClaim := { program := "ytkfmboicmdnjpaa", sum := "cbecb960ababd8fe74fd1ffd2a3308f59cd315d2807c70b93ff15033e0d79f9d", func := "floodgate/floodgatelaw10.RingNil", spec := "ringNil", plainKeys := false, apart := false, narrowed := true }
def RingNilUptoSaid : Prop := ringNilUptoRow.holds Try.pinned (OpenSpec.upto ringNilSpec)

/-- 'floodgatelaw16.MatchFinds', WHERE WHAT IT READS IS OF BULK AT MOST 1048576: true; the input reads as it did. -/
def matchFindsUptoRow : OpenClaim := { program := "ytkfmboicmdnjpaa", sum := "cbecb960ababd8fe74fd1ffd2a3308f59cd315d2807c70b93ff15033e0d79f9d", func := "floodgate/floodgatelaw16.MatchFinds", spec := "matchFinds", unfollowed := true, recurses := true, plainKeys := false, apart := false, narrowed := true }
def MatchFindsUptoSaid : Prop := matchFindsUptoRow.holds Try.pinned (OpenSpec.upto matchFindsSpec)

/-- 'floodgatelaw16.MatchFirst', WHERE WHAT IT READS IS OF BULK AT MOST 1048576: true; the input reads as it did. -/
def matchFirstUptoRow : OpenClaim := { program := "ytkfmboicmdnjpaa", sum := "cbecb960ababd8fe74fd1ffd2a3308f59cd315d2807c70b93ff15033e0d79f9d", func := "floodgate/floodgatelaw16.MatchFirst", spec := "matchFirst", unfollowed := true, recurses := true, plainKeys := false, apart := false, narrowed := true }
def MatchFirstUptoSaid : Prop := matchFirstUptoRow.holds Try.pinned (OpenSpec.upto matchFirstSpec)

/-- 'floodgatelaw16.MatchNil', WHERE WHAT IT READS IS OF BULK AT MOST 1048576: true; the input reads as it did. -/
def matchNilUptoRow : OpenClaim := { program := "ytkfmboicmdnjpaa", sum := "cbecb960ababd8fe74fd1ffd2a3308f59cd315d2807c70b93ff15033e0d79f9d", func := "floodgate/floodgatelaw16.MatchNil", spec := "matchNil", unfollowed := true, recurses := true, plainKeys := false, apart := false, narrowed := true }
def MatchNilUptoSaid : Prop := matchNilUptoRow.holds Try.pinned (OpenSpec.upto matchNilSpec)

/-- 'floodgatelaw11.PktqOrder', WHERE WHAT IT READS IS OF BULK AT MOST 1048576: true; the input reads as it did. -/
def pktqOrderUptoRow : OpenClaim := { program := "ytkfmboicmdnjpaa", sum := "cbecb960ababd8fe74fd1ffd2a3308f59cd315d2807c70b93ff15033e0d79f9d", func := "floodgate/floodgatelaw11.PktqOrder", spec := "pktqOrder", plainKeys := false, apart := false, narrowed := true }
def PktqOrderUptoSaid : Prop := pktqOrderUptoRow.holds Try.pinned (OpenSpec.upto pktqOrderSpec)

/-- 'floodgatelaw11.PktqActs', WHERE WHAT IT READS IS OF BULK AT MOST 1048576: true; the input reads as it did. -/
def pktqActsUptoRow : OpenClaim := { program := "ytkfmboicmdnjpaa", sum := "cbecb960ababd8fe74fd1ffd2a3308f59cd315d2807c70b93ff15033e0d79f9d", func := "floodgate/floodgatelaw11.PktqActs", spec := "pktqActs", plainKeys := false, apart := false, narrowed := true }
def PktqActsUptoSaid : Prop := pktqActsUptoRow.holds Try.pinned (OpenSpec.upto pktqActsSpec)

/-- 'floodgatelaw11.PktqNil', WHERE WHAT IT READS IS OF BULK AT MOST 1048576: true; the input reads as it did. -/
def pktqNilUptoRow : OpenClaim := { program := "ytkfmboicmdnjpaa", sum := "cbecb960ababd8fe74fd1ffd2a3308f59cd315d2807c70b93ff15033e0d79f9d", func := "floodgate/floodgatelaw11.PktqNil", spec := "pktqNil", plainKeys := false, apart := false, narrowed := true }
def PktqNilUptoSaid : Prop := pktqNilUptoRow.holds Try.pinned (OpenSpec.upto pktqNilSpec)

end Rows
end Go.Proofs.Ytkfmboicmdnjpaa
