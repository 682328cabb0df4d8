/- What the functions of this layer do, proved operation by operation, for all arguments, under the conditions that each theorem states. -/
import Derived.Test.YtinnnoimmioaiaaProg
import Derived.Test.YtinnnoimmioaiaaActT
namespace Go.Proofs.Ytinnnoimmioaiaa
open Go V
set_option linter.unusedVariables false
set_option linter.unusedSimpArgs false

set_option maxHeartbeats 4000000 in
set_option maxRecDepth 100000 in
theorem activeNil_walk (ci : Int) (w : World) :
    Calls Try.prog 7 #[i_ ci] w fun e w' => e = .returned (b_ true) ∧ Fr [] w w' := by
  refine calls_of (args := [i_ ci]) (penv [i_ ci]) [] [] Try.func7 rfl rfl (look_penv _) (HS.nil w) ?_
  refine A.norm [(0, i_ ci)] [] (by exact ⟨rfl, trivial⟩) rfl ?_
  refine A.seq (A.region (A.goA [.p] [(0, i_ ci)] [] T0 (by kernel_rfl) trivial ?_))
  refine A.tn (A.seq (A.region (A.goA [.p] [(0, i_ ci), (3, n_)] [] T0 (by kernel_rfl) trivial ?_)))
  refine A.tn (A.seq (A.region (A.goA [.p, .p, .cq (.tuple #[e_, i_ 7]), .p, .p, .p, .p, .p] [(0, i_ ci), (3, n_), (4, e_), (5, i_ 7)] [] (fun κ => κ.call 19 [n_, i_ ci] (.tuple #[e_, i_ 7]) ∧ True) (by kernel_rfl) ⟨(fun ww ss => on_nil ci ww), trivial⟩ ?_)))
  refine A.tn (A.seq (A.region (A.goA [.p, .p, .cq (.tuple #[e_, i_ 7]), .p, .p, .p, .p, .p] [(0, i_ ci), (3, n_), (4, e_), (5, i_ 7), (6, e_), (7, i_ 7)] [] (fun κ => κ.call 20 [n_, i_ ci] (.tuple #[e_, i_ 7]) ∧ True) (by kernel_rfl) ⟨(fun ww ss => off_nil ci ww), trivial⟩ ?_)))
  refine A.tn (A.seq (A.region (A.cons (A.callT (some 23) [n_] [] ((fun (zz : Nat × Nat × Nat × Nat) => match zz with | (bs1, mb2, mo3, mk4) => (p_ bs1))) ((fun (zz : Nat × Nat × Nat × Nat) => match zz with | (bs1, mb2, mo3, mk4) => True)) ((fun (zz : Nat × Nat × Nat × Nat) => match zz with | (bs1, mb2, mo3, mk4) => [blk bs1 [(.map (some mb2)), (.map (some mo3)), (.map (some mk4))] 96, mYI mb2 ([] : List (Int × Pl)), mNI mo3 ([] : List (Int × Int)), mDI mk4 ([] : List (Int × MB)), kidI ([] : List (Int × MB))])) (fun (zz : Nat × Nat × Nat × Nat) => match zz with | (bs1, mb2, mo3, mk4) => [blk bs1 [(.map (some mb2)), (.map (some mo3)), (.map (some mk4))] 96, mYI mb2 ([] : List (Int × Pl)), mNI mo3 ([] : List (Int × Int)), mDI mk4 ([] : List (Int × MB)), kidI ([] : List (Int × MB))]) (by kernel_rfl) rfl rfl (fun ww ss hh => anew_nil ww hh) (fun _ => rfl) ?_))))
  rintro ⟨bs1, mb2, mo3, mk4⟩ -
  refine A.goA [.p] [(0, i_ ci), (3, n_), (4, e_), (5, i_ 7), (6, e_), (7, i_ 7), (8, p_ bs1)] [] T0 (by kernel_rfl) trivial ?_
  refine A.tn (A.seq (A.region (A.goA [.p, .p, .cq (.tuple #[e_, i_ 6]), .p, .p, .p, .p, .p] [(0, i_ ci), (3, n_), (4, e_), (5, i_ 7), (6, e_), (7, i_ 7), (8, p_ bs1), (9, e_), (10, i_ 6)] [] (fun κ => κ.call 19 [p_ bs1, i_ ci] (.tuple #[e_, i_ 6]) ∧ True) (by kernel_rfl) ⟨(fun ww ss => on_none bs1 mb2 mo3 mk4 ([] : List (Int × Pl)) ([] : List (Int × Int)) ([] : List (Int × MB)) ci (by first | assumption | (simp [lfA, mget, pl0]; done) | decide) ww (ss.mem (i := 0) rfl) (ss.mem (i := 1) rfl) (ss.mem (i := 2) rfl) (ss.mem (i := 3) rfl) (ss.mem (i := 4) rfl)), trivial⟩ ?_)))
  refine A.tn (A.seq (A.region (A.goP [.p, .p, .p, .p, .p, .p, .p, .p, .p, .p, .p, .p, .p, .p, .p, .p, .p, .p, .p, .p, .p, .p, .p, .p, .p, .p, .p, .p, .cq (b_ false), .p, .p, .p, .p, .p, .cq (b_ (isA ([] : List (Int × Int)) ([] : List (Int × MB)) ci)), .p, .p, .p, .o, .p, .p, .cq e_, .p, .p, .cl, .p, .o, .p, .cq e_, .p, .p, .cl, .p] [(8, p_ bs1), (80, b_ (((!(isA ([] : List (Int × Int)) ([] : List (Int × MB)) ci)) && true) && true))] [] (fun κ => κ.call 22 [n_, i_ ci] (b_ false) ∧ κ.call 22 [p_ bs1, i_ ci] (b_ (isA ([] : List (Int × Int)) ([] : List (Int × MB)) ci)) ∧ ((true && ((!(isA ([] : List (Int × Int)) ([] : List (Int × MB)) ci)) == true)) = true → κ.call 23 [n_, i_ ci] e_) ∧ ((true && (((!(isA ([] : List (Int × Int)) ([] : List (Int × MB)) ci)) && true) == true)) = true → κ.call 24 [n_] e_) ∧ True) (by kernel_rfl) ⟨(fun ww ss => is_nil ci ww), (fun ww ss => is_ok bs1 mb2 mo3 mk4 ([] : List (Int × Pl)) ([] : List (Int × Int)) ([] : List (Int × MB)) ci ww (ss.mem (i := 0) rfl) (ss.mem (i := 1) rfl) (ss.mem (i := 2) rfl) (ss.mem (i := 3) rfl) (ss.mem (i := 4) rfl)), (fun h_ => (fun ww ss => ach_nil ci ww)), (fun h_ => (fun ww ss => all_nil ww)), trivial⟩ ?_)))
  refine A.bool (((!(isA ([] : List (Int × Int)) ([] : List (Int × MB)) ci)) && true) && true) (fun e2 => ?_) (fun e2 => ?_)
  · skip
    refine A.sub [(8, p_ bs1), (80, b_ true)] (by exact ⟨rfl, congrArg (fun z => some (Value.bool z)) e2, trivial⟩) ?_
    refine A.goP [.p] [(80, b_ true), (81, p_ bs1)] [] T0 (by kernel_rfl) trivial ?_
    refine A.cons (A.callT (some 82) [p_ bs1] [] ((fun zz => match zz with | (al'5, cl'6) => (vS al'5 (allA ([] : List (Int × Pl)) (isA ([] : List (Int × Int)) ([] : List (Int × MB)))) cl'6))) ((fun zz => match zz with | (al'5, cl'6) => True)) ((fun zz => match zz with | (al'5, cl'6) => [sI al'5 (allA ([] : List (Int × Pl)) (isA ([] : List (Int × Int)) ([] : List (Int × MB)))) cl'6])) (fun zz => match zz with | (al'5, cl'6) => [sI al'5 (allA ([] : List (Int × Pl)) (isA ([] : List (Int × Int)) ([] : List (Int × MB)))) cl'6, blk bs1 [(.map (some mb2)), (.map (some mo3)), (.map (some mk4))] 96, mYI mb2 ([] : List (Int × Pl)), mNI mo3 ([] : List (Int × Int)), mDI mk4 ([] : List (Int × MB)), kidI ([] : List (Int × MB))]) (by kernel_rfl) rfl rfl (fun ww ss hh => all_ok bs1 mb2 mo3 mk4 ([] : List (Int × Pl)) ([] : List (Int × Int)) ([] : List (Int × MB)) (by first | assumption | (simp [lfA, mget, pl0]; done) | decide) ww (ss.mem (i := 0) rfl) (ss.mem (i := 1) rfl) (ss.mem (i := 2) rfl) (ss.mem (i := 3) rfl) (ss.mem (i := 4) rfl) hh) (fun _ => rfl) ?_)
    rintro ⟨al'5, cl'6⟩ -
    refine A.goA [.p, .p, .p, .p, .o, .cq (b_ true), .cl, .p] [(2, b_ ((((allA ([] : List (Int × Pl)) (isA ([] : List (Int × Int)) ([] : List (Int × MB)))).length : Int) == 0) && true))] [] (fun κ => ((true && ((((allA ([] : List (Int × Pl)) (isA ([] : List (Int × Int)) ([] : List (Int × MB)))).length : Int) == 0) == true)) = true → κ.call 25 [] (b_ true)) ∧ True) (by kernel_rfl) ⟨(fun h_ => (fun ww ss => two23_spec ww)), trivial⟩ ?_
    refine A.tn (A.ret (A.postQ [b_ ((((allA ([] : List (Int × Pl)) (isA ([] : List (Int × Int)) ([] : List (Int × MB)))).length : Int) == 0) && true)] (fun aa ww rr ss => ⟨rv_tmp rr rfl, trivial⟩) ?_))
    show ((b_ ((((allA ([] : List (Int × Pl)) (isA ([] : List (Int × Int)) ([] : List (Int × MB)))).length : Int) == 0) && true)) : Value) = (b_ true)
    first | rfl | (simp [isA, mget, kx, m0, allA, sort_nil]; done)
  · exact absurd e2 (by (first | decide | (simp [isA, mget, kx, m0]; done) | (simp [allA, sort_nil]; done)))
end Go.Proofs.Ytinnnoimmioaiaa
