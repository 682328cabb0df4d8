/- What the functions of this layer do, proved operation by operation, for all arguments, under the conditions that each theorem states. -/
import Derived.Test.YtinnnoimmioaiaaProg
import Derived.Test.YtinnnoimmioaiaaHier7
import Derived.Test.YtinnnoimmioaiaaL2
namespace Go.Proofs.Ytinnnoimmioaiaa
open Go V
set_option linter.unusedVariables false
set_option linter.unusedSimpArgs false
set_option maxHeartbeats 4000000
set_option maxRecDepth 100000
def delE (kv : List (Int × Cl)) (ci : Int) : Int := if (mget kv ci).isSome = false then 6 else if (((keysF kv (fun v_ => v_.hp == ci))).length : Int) > 0 then 23 else 0
def delK (kv : List (Int × Cl)) (ci : Int) : List (Int × Cl) := if delE kv ci = 0 then mdel kv ci else kv

theorem del_ok (bt mb : Nat) (kv : List (Int × Cl)) (ci : Int) (hl : kv.length ≤ 1000) (w : World) (hs : HS w (feet [blk bt [(.map (some mb))] 124, mHI mb kv]) [blk bt [(.map (some mb))] 124, mHI mb kv] w) :
    Calls Try.prog 35 #[p_ bt, i_ ci] w fun e w' => ∃ zz, e = .returned ((fun (kv' : (List (Int × Cl))) => (i_ (delE kv ci))) zz) ∧ (fun (kv' : (List (Int × Cl))) => kv' = delK kv ci) zz ∧ Turn [blk bt [(.map (some mb))] 124, mHI mb kv] ((fun (kv' : (List (Int × Cl))) => [blk bt [(.map (some mb))] 124, mHI mb kv']) zz) w w' := by
  refine calls_of (args := [p_ bt, i_ ci]) (penv [p_ bt, i_ ci]) (feet [blk bt [(.map (some mb))] 124, mHI mb kv]) [blk bt [(.map (some mb))] 124, mHI mb kv] Try.func35 rfl rfl (look_penv _) hs ?_
  refine A.sr (A.g [.p] [] [] ?_)
  refine A.tn (A.seq (A.sr (A.g [.p, .p] [] [(8, b_ false)] ?_)))
  refine A.tn (A.cf (A.skip (A.tn (A.seq (A.sr (A.gpk [.p, .p, .p, .ld 0, .p] [8] [(13, (.map (some mb))), (14, i_ ci)] [bt] T0 trivial ?_))))))
  refine A.cons (A.q (some 15) (.tuple #[(.agg (encCl ((mget kv ci).getD cl0)).toArray), b_ ((mget kv ci).isSome)]) (by kernel_rfl) (qt_lookupOk (kt := 3) (et := 98) (enck := (fun k : Int => i_ k)) (encv := (fun v_ : Cl => (.agg (encCl v_).toArray))) (b := mb) (kv := kv) (k := ci) (d0 := cl0) (fun ww ss => ss.mem (i := 1) rfl) rfl rfl rfl (by kernel_rfl) keyOk_I (by kernel_rfl) rfl) ?_)
  refine A.g1 [.p, .p, .p, .al, .st 2, .p] [13, 14, 15] (fun b1 => [(6, b_ ((mget kv ci).isSome))]) (fun b1 => []) (fun b1 => blk b1 (encCl ((mget kv ci).getD cl0)) 98) (fun b1 => [b1]) ?_
  intro b1
  refine tsr (A.g [.p, .p] [6] [(19, b_ (!((mget kv ci).isSome)))] ?_)
  refine A.tn (A.cn (!((mget kv ci).isSome)) (fun e1 => ?_) (fun e1 => ?_))
  · have p1 := e1; try simp only [nrm] at p1
    refine A.sr (A.g [.p] [0, 1, 19] [(4, i_ 6)] ?_)
    refine A.tn (A.ret (A.tr (A.pK [0, 0] [i_ 6] (kv) ?_ ?_)))
    · show ((i_ 6) : Value) = (i_ (delE kv ci))
      refine congrArg (Value.int .i64) ?_; unfold delE; (simp_all; done)
    show kv = delK kv ci
    unfold delK delE; (simp_all; done)
  have p1 := e1; try simp only [nrm] at p1
  refine A.skip (A.tn (A.seq (A.sr (A.gp [.p, .p] [19] [(20, p_ bt), (21, i_ ci)] ?_))))
  refine A.cons (A.cT (some 22) [p_ bt, i_ ci] [] ((fun zz => match zz with | (al'2, cl'3) => (vS al'2 (keysF kv (fun v_ => v_.hp == ci)) cl'3))) ((fun zz => match zz with | (al'2, cl'3) => True)) ((fun zz => match zz with | (al'2, cl'3) => [sI al'2 (keysF kv (fun v_ => v_.hp == ci)) cl'3])) (fun ww ss hh => children_ok bt mb kv ci (by assumption) ww (ss.mem (i := 0) rfl) (ss.mem (i := 1) rfl) hh) ?_)
  rintro ⟨al'2, cl'3⟩ -
  refine A.g [.p, .p] [20, 21, 22] [(24, b_ (decide (((keysF kv (fun v_ => v_.hp == ci)).length : Int) > 0)))] ?_
  refine A.tn (A.cn (decide (((keysF kv (fun v_ => v_.hp == ci)).length : Int) > 0)) (fun e3 => ?_) (fun e3 => ?_))
  · have p3 := of_decide_eq_true e3
    refine A.sr (A.g [.p] [0, 1, 24] [(4, i_ 23)] ?_)
    refine A.tn (A.ret (A.tr (A.pK [1, 1] [i_ 23] (kv) ?_ ?_)))
    · show ((i_ 23) : Value) = (i_ (delE kv ci))
      refine congrArg (Value.int .i64) ?_; unfold delE; (simp_all; done)
    show kv = delK kv ci
    unfold delK delE; (simp_all; done)
  have p3 := of_decide_eq_false e3
  refine A.skip (tsr (A.gpk [.p, .p, .p, .ld 1, .p] [0, 1, 24] [(28, (.map (some mb))), (29, i_ ci)] [bt] T0 trivial ?_))
  refine A.cons (A.mapDel (kt := 3) (et := 98) (enck := (fun k : Int => i_ k)) (encv := (fun v_ : Cl => (.agg (encCl v_).toArray))) (kv := kv) (k := ci) 2 [sI al'2 (keysF kv (fun v_ => v_.hp == ci)) cl'3, blk bt [(.map (some mb))] 124, mHI mb (mdel kv ci), blk b1 (encCl ((mget kv ci).getD cl0)) 98] (by kernel_rfl) rfl rfl rfl (by kernel_rfl) keyOk_I rfl rfl ?_)
  refine A.done ?_
  refine tsr (A.goA [.p] [(4, i_ 0)] [] T0 (by kernel_rfl) trivial ?_)
  refine A.tn (A.ret (A.pK [1, 1] [i_ 0] (mdel kv ci) ?_ ?_))
  · show ((i_ 0) : Value) = (i_ (delE kv ci))
    refine congrArg (Value.int .i64) ?_; unfold delE; (simp_all; done)
  show (mdel kv ci) = delK kv ci
  unfold delK delE; (simp_all; done)
end Go.Proofs.Ytinnnoimmioaiaa
