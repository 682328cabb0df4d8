/- What the functions of this layer do, proved operation by operation, for all arguments, under the conditions that each theorem states. -/
import Derived.Test.YtinnnoimmioaiaaProg
import Derived.Test.YtinnnoimmioaiaaTra5
namespace Go.Proofs.Ytinnnoimmioaiaa
open Go V
set_option linter.unusedVariables false
set_option linter.unusedSimpArgs false

set_option maxHeartbeats 4000000 in
set_option maxRecDepth 100000 in
theorem transNil_walk (t : Int) (al : Option Addr) (l : List Zc) (cl : Nat) (w : World) (r0 : arrAt w al (V.flat encZc l)) :
    Calls Try.prog 10 #[i_ t, vS al l cl] w fun e w' => e = .returned (b_ true) ∧ Fr [] w w' := by
  refine calls_of (args := [i_ t, vS al l cl]) (penv [i_ t, vS al l cl]) [] [] Try.func10 rfl rfl (look_penv _) (HS.nil w) ?_
  refine A.norm [(0, i_ t), (1, vS al l cl)] [] (by exact ⟨rfl, rfl, trivial⟩) rfl ?_
  refine A.seq (A.region (A.goA [.p] [(0, i_ t), (1, vS al l cl)] [] T0 (by kernel_rfl) trivial ?_))
  refine A.tn (A.seq (A.region (A.goA [.p, .p, .cq (.tuple #[n_, i_ 0, i_ 7]), .p, .p, .p, .p, .p, .p, .p] [(5, n_), (6, i_ 0), (7, i_ 7)] [] (fun κ => κ.call 36 [n_, i_ t, vS al l cl] (.tuple #[n_, i_ 0, i_ 7]) ∧ True) (by kernel_rfl) ⟨(fun ww ss => app_nil t al l cl ww), trivial⟩ ?_)))
  refine A.tn (A.seq (A.region (A.goA [.p, .p, .p, .p, .p, .p, .p, .p, .p, .p, .p, .cq e_, .p, .p, .p, .p, .cq (b_ false), .p, .p, .p, .cq (b_ true), .p, .p] [(4, b_ true)] [] (fun κ => κ.call 37 [n_, n_] e_ ∧ κ.call 38 [n_, n_] (b_ false) ∧ κ.call 39 [] (b_ true) ∧ True) (by kernel_rfl) ⟨(fun ww ss => tch_nil ww), (fun ww ss => rel_nil ww), (fun ww ss => twice_spec ww), trivial⟩ ?_)))
  refine A.tn (A.ret (A.postQ [b_ true] (fun aa ww rr ss => ⟨rv_tmp rr rfl, trivial⟩) ?_))
  rfl
end Go.Proofs.Ytinnnoimmioaiaa
