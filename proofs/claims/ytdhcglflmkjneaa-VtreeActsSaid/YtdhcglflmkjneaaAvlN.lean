/- What the functions of this layer do, proved operation by operation, for all arguments, under the conditions that each theorem states. -/
import Derived.Test.YtdhcglflmkjneaaProg
import Derived.Test.YtdhcglflmkjneaaAvl8
namespace Go.Proofs.Ytdhcglflmkjneaa
open Go V
set_option linter.unusedVariables false
set_option linter.unusedSimpArgs false

set_option maxHeartbeats 4000000 in
set_option maxRecDepth 100000 in
theorem new_spec (w : World) (hs : HS w (feet []) [] w) :
    Calls Try.prog 33 #[] w fun e w' => ∃ zz, e = .returned ((fun (bt : Nat) => (p_ bt)) zz) ∧ (fun (bt : Nat) => True) zz ∧ Turn [] ((fun (bt : Nat) => [blk bt [(.pointer (T.ptr T.nil))] 86, treeI 92 T.nil]) zz) w w' := by
  refine calls_of (args := []) (penv []) (feet []) [] Try.func33 rfl rfl (look_penv _) hs ?_
  refine A.norm [] [] trivial rfl ?_
  refine A.seq ?_
  refine A.region (A.goA [.p] [(0, n_)] [] T0 (by kernel_rfl) trivial ?_)
  refine A.tn ?_
  refine A.seq ?_
  refine A.region (A.goA1 [.p, .al, .p] [0] (fun b1 => [(0, (p_ b1))]) (fun b1 => [blk b1 [n_] 86]) (fun b1 => []) (fun _ => T0) (fun _ => by kernel_rfl) (fun b1 => trivial) ?_)
  intro b1
  refine A.tn ?_
  refine A.ret ?_
  refine A.nilT [blk b1 [n_] 86, treeI 92 T.nil] rfl ?_
  refine A.postK [0, 0] [(p_ b1)] (fun aa ww rr ss => ⟨rv_tmp rr rfl, trivial⟩) (b1) ?_ ?_ (by kernel_rfl)
  · rfl
  · trivial
end Go.Proofs.Ytdhcglflmkjneaa
