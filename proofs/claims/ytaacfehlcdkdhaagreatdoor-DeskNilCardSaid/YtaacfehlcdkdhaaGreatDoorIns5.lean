/- What the functions of this layer do, proved operation by operation, for all arguments, under the conditions that each theorem states. -/
import Derived.Test.YtaacfehlcdkdhaaGreatDoorProg
import Derived.Test.YtaacfehlcdkdhaaGreatDoorIns4
import Derived.Test.YtaacfehlcdkdhaaGreatDoorCut
namespace Go.Proofs.YtaacfehlcdkdhaaGreatDoor
open Go V
set_option linter.unusedVariables false
set_option linter.unusedSimpArgs false

set_option maxHeartbeats 4000000 in
set_option maxRecDepth 100000 in
theorem cut_spec (l : List UInt8) (w : World) (hs : HS w (feet []) [] w) :
    Calls Tryz.prog 24 #[s_ (bs l)] w fun e w' => ∃ zz, e = .returned ((fun (c' : Nat) => (.func (.func 30) #[] #[p_ c'])) zz) ∧ (fun (c' : Nat) => True) zz ∧ Turn [] ((fun (c' : Nat) => [blk c' [s_ (bs l)] 9]) zz) w w' := by
  refine calls_of (args := [s_ (bs l)]) (penv [s_ (bs l)]) (feet []) [] Tryz.func24 rfl rfl (look_penv _) hs ?_
  refine A.norm [(0, s_ (bs l))] [] (by exact ⟨rfl, trivial⟩) rfl ?_
  refine A.seq (A.region (A.goA1 [.al, .p] [1] (fun b1 => [(1, p_ b1)]) (fun b1 => [blk b1 [s_ (bs l)] 9]) (fun b1 => []) (fun _ => T0) (fun _ => by kernel_rfl) (fun b1 => trivial) ?_))
  intro b1
  refine A.tn (A.seq (A.region (A.goA [.p, .p] [(2, (.func (.func 30) #[] #[p_ b1]))] [] T0 (by kernel_rfl) trivial ?_)))
  refine A.tn (A.ret (A.postK [0] [(.func (.func 30) #[] #[p_ b1])] (fun aa ww rr ss => ⟨rv_tmp rr rfl, trivial⟩) (b1) ?_ ?_ (by kernel_rfl)))
  · show ((.func (.func 30) #[] #[p_ b1]) : Value) = (.func (.func 30) #[] #[p_ b1])
    first | rfl | simp_all
  · trivial
end Go.Proofs.YtaacfehlcdkdhaaGreatDoor
