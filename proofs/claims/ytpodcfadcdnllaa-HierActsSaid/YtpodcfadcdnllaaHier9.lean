/- What the functions of this layer do, proved operation by operation, for all arguments, under the conditions that each theorem states. -/
import Derived.Test.YtpodcfadcdnllaaProg
import Derived.Test.YtpodcfadcdnllaaHier8
namespace Go.Proofs.Ytpodcfadcdnllaa
open Go V
set_option linter.unusedVariables false
set_option linter.unusedSimpArgs false
def delE (kv : List (Int × Cl)) (ci : Int) : Int := if (mget kv ci).isSome = false then 6 else if (((keysF kv (fun y => y.hp == ci))).length : Int) > 0 then 23 else 0
def delK (kv : List (Int × Cl)) (ci : Int) : List (Int × Cl) := if delE kv ci = 0 then mdel kv ci else kv

set_option maxHeartbeats 4000000 in
set_option maxRecDepth 100000 in
theorem del_ok (bt mb : Nat) (kv : List (Int × Cl)) (ci : Int) (hl : kv.length ≤ 1000) (w : World) (hs : HS w (feet [blk bt [(.map (some mb))] 55, mapI (fun k : Int => i_ k) (fun v_ : Cl => (.agg (encCl v_).toArray)) mb kv]) [blk bt [(.map (some mb))] 55, mapI (fun k : Int => i_ k) (fun v_ : Cl => (.agg (encCl v_).toArray)) mb kv] w) :
    Calls Try.prog 16 #[(p_ bt), (i_ ci)] w fun e w' => ∃ zz, e = .returned ((fun (kv' : (List (Int × Cl))) => (i_ (delE kv ci))) zz) ∧ (fun (kv' : (List (Int × Cl))) => kv' = delK kv ci) zz ∧ Turn [blk bt [(.map (some mb))] 55, mapI (fun k : Int => i_ k) (fun v_ : Cl => (.agg (encCl v_).toArray)) mb kv] ((fun (kv' : (List (Int × Cl))) => [blk bt [(.map (some mb))] 55, mapI (fun k : Int => i_ k) (fun v_ : Cl => (.agg (encCl v_).toArray)) mb kv']) zz) w w' := by
  refine calls_of (args := [(p_ bt), (i_ ci)]) (penv [(p_ bt), (i_ ci)]) (feet [blk bt [(.map (some mb))] 55, mapI (fun k : Int => i_ k) (fun v_ : Cl => (.agg (encCl v_).toArray)) mb kv]) [blk bt [(.map (some mb))] 55, mapI (fun k : Int => i_ k) (fun v_ : Cl => (.agg (encCl v_).toArray)) mb kv] Try.func16 rfl rfl (look_penv _) hs ?_
  refine A.norm [(0, (p_ bt)), (1, (i_ ci))] [blk bt [(.map (some mb))] 55, mapI (fun k : Int => i_ k) (fun v_ : Cl => (.agg (encCl v_).toArray)) mb kv] (by exact ⟨rfl, rfl, trivial⟩) rfl ?_
  refine A.seq ?_
  refine A.region (A.goA [.p] [(0, (p_ bt)), (1, (i_ ci)), (4, (i_ 0))] [] T0 (by kernel_rfl) trivial ?_)
  refine A.tn ?_
  refine A.seq ?_
  refine A.seq ?_
  refine A.region (A.goA [.p, .p] [(0, (p_ bt)), (1, (i_ ci)), (4, (i_ 0)), (8, (b_ false))] [] T0 (by kernel_rfl) trivial ?_)
  refine A.tn ?_
  refine A.cond_f rfl ?_
  refine A.skip ?_
  refine A.tn ?_
  refine A.seq ?_
  refine A.seq ?_
  refine A.region (A.goP [.p, .p, .p, .ld 0, .p] [(0, (p_ bt)), (1, (i_ ci)), (4, (i_ 0)), (8, (b_ false)), (13, (.map (some mb))), (14, (i_ ci))] [bt] T0 (by kernel_rfl) trivial ?_)
  refine A.cons (A.q (some 15) (.tuple #[(.agg #[(i_ (((mget kv ci).getD cl0).hi)), (i_ (((mget kv ci).getD cl0).hp)), (b_ (((mget kv ci).getD cl0).hl)), (u_ (((mget kv ci).getD cl0).ra)), (u_ (((mget kv ci).getD cl0).rb)), (u_ (((mget kv ci).getD cl0).rc)), (u_ (((mget kv ci).getD cl0).la)), (u_ (((mget kv ci).getD cl0).lb)), (u_ (((mget kv ci).getD cl0).lc)), (u_ (((mget kv ci).getD cl0).ua)), (u_ (((mget kv ci).getD cl0).ub)), (u_ (((mget kv ci).getD cl0).uc)), (i_ (((mget kv ci).getD cl0).hk)), (i_ (((mget kv ci).getD cl0).hq))]), (b_ ((mget kv ci).isSome))]) (by kernel_rfl) (qt_lookupOk (kt := 3) (et := 30) (enck := (fun k : Int => i_ k)) (encv := (fun v_ : Cl => (.agg (encCl v_).toArray))) (b := mb) (kv := kv) (k := ci) (d0 := cl0) (fun ww ss => ss.mem (i := 1) rfl) rfl rfl rfl (by kernel_rfl) keyOk_I (by kernel_rfl) rfl) ?_)
  refine A.goA1 [.p, .p, .p, .al, .st 2, .p] [0, 1, 4, 8, 6] (fun b1 => [(0, (p_ bt)), (1, (i_ ci)), (4, (i_ 0)), (8, (b_ false)), (6, (b_ ((mget kv ci).isSome)))]) (fun b1 => [blk bt [(.map (some mb))] 55, mapI (fun k : Int => i_ k) (fun v_ : Cl => (.agg (encCl v_).toArray)) mb kv, blk b1 [(i_ (((mget kv ci).getD cl0).hi)), (i_ (((mget kv ci).getD cl0).hp)), (b_ (((mget kv ci).getD cl0).hl)), (u_ (((mget kv ci).getD cl0).ra)), (u_ (((mget kv ci).getD cl0).rb)), (u_ (((mget kv ci).getD cl0).rc)), (u_ (((mget kv ci).getD cl0).la)), (u_ (((mget kv ci).getD cl0).lb)), (u_ (((mget kv ci).getD cl0).lc)), (u_ (((mget kv ci).getD cl0).ua)), (u_ (((mget kv ci).getD cl0).ub)), (u_ (((mget kv ci).getD cl0).uc)), (i_ (((mget kv ci).getD cl0).hk)), (i_ (((mget kv ci).getD cl0).hq))] 30]) (fun b1 => [b1]) (fun _ => T0) (fun _ => by kernel_rfl) (fun b1 => trivial) ?_
  intro b1
  refine A.tn ?_
  refine A.seq ?_
  refine A.region (A.goA [.p, .p] [(0, (p_ bt)), (1, (i_ ci)), (4, (i_ 0)), (8, (b_ false)), (6, (b_ ((mget kv ci).isSome))), (19, (b_ (!((mget kv ci).isSome))))] [] T0 (by kernel_rfl) trivial ?_)
  refine A.tn ?_
  refine A.cond (E := !((mget kv ci).isSome)) rfl (fun e1 => ?_) (fun e1 => ?_)
  · skip
    have p1 := e1; try simp only [decide_eq_true_eq, decide_eq_false_iff_not, beq_iff_eq, beq_eq_false_iff_ne, bne_iff_ne, bne_eq_false_iff_eq, ne_eq, Bool.and_eq_true, Bool.or_eq_true, Bool.or_eq_false_iff, Bool.not_eq_true', Bool.not_eq_false', Int.not_lt, Int.not_le, gt_iff_lt, ge_iff_le, Classical.not_not] at p1
    refine A.seq ?_
    refine A.region (A.goA [.p] [(0, (p_ bt)), (1, (i_ ci)), (4, (i_ 6)), (8, (b_ false)), (6, (b_ ((mget kv ci).isSome))), (19, (b_ (!((mget kv ci).isSome))))] [] T0 (by kernel_rfl) trivial ?_)
    refine A.tn ?_
    refine A.ret ?_
    refine A.tr ?_
    refine A.postK [0, 0] [(i_ 6)] (fun aa ww rr ss => ⟨rv_tmp rr rfl, trivial⟩) (kv) ?_ ?_ (by kernel_rfl)
    · show ((i_ 6) : Value) = (i_ (delE kv ci))
      refine congrArg (Value.int .i64) ?_; unfold delE; first | (simp_all; done) | grind
    · show kv = delK kv ci
      unfold delK delE; first | (simp_all; done) | grind
  · skip
    have p1 := e1; try simp only [decide_eq_true_eq, decide_eq_false_iff_not, beq_iff_eq, beq_eq_false_iff_ne, bne_iff_ne, bne_eq_false_iff_eq, ne_eq, Bool.and_eq_true, Bool.or_eq_true, Bool.or_eq_false_iff, Bool.not_eq_true', Bool.not_eq_false', Int.not_lt, Int.not_le, gt_iff_lt, ge_iff_le, Classical.not_not] at p1
    refine A.skip ?_
    refine A.tn ?_
    refine A.seq ?_
    refine A.seq ?_
    refine A.region (A.goP [.p, .p] [(0, (p_ bt)), (1, (i_ ci)), (4, (i_ 0)), (8, (b_ false)), (6, (b_ ((mget kv ci).isSome))), (19, (b_ (!((mget kv ci).isSome)))), (20, (p_ bt)), (21, (i_ ci))] [] T0 (by kernel_rfl) trivial ?_)
    refine A.cons (A.callT (some 22) [(p_ bt), (i_ ci)] [] ((fun zz => match zz with | (al'2, cl'3) => (.slice al'2 ((keysF kv (fun y => y.hp == ci)).length) cl'3))) ((fun zz => match zz with | (al'2, cl'3) => True)) ((fun zz => match zz with | (al'2, cl'3) => [sl al'2 ((keysF kv (fun y => y.hp == ci)).length) cl'3 3 1 (V.flat encI (keysF kv (fun y => y.hp == ci)))])) (fun zz => match zz with | (al'2, cl'3) => [sl al'2 ((keysF kv (fun y => y.hp == ci)).length) cl'3 3 1 (V.flat encI (keysF kv (fun y => y.hp == ci))), blk bt [(.map (some mb))] 55, mapI (fun k : Int => i_ k) (fun v_ : Cl => (.agg (encCl v_).toArray)) mb kv, blk b1 [(i_ (((mget kv ci).getD cl0).hi)), (i_ (((mget kv ci).getD cl0).hp)), (b_ (((mget kv ci).getD cl0).hl)), (u_ (((mget kv ci).getD cl0).ra)), (u_ (((mget kv ci).getD cl0).rb)), (u_ (((mget kv ci).getD cl0).rc)), (u_ (((mget kv ci).getD cl0).la)), (u_ (((mget kv ci).getD cl0).lb)), (u_ (((mget kv ci).getD cl0).lc)), (u_ (((mget kv ci).getD cl0).ua)), (u_ (((mget kv ci).getD cl0).ub)), (u_ (((mget kv ci).getD cl0).uc)), (i_ (((mget kv ci).getD cl0).hk)), (i_ (((mget kv ci).getD cl0).hq))] 30]) (by kernel_rfl) rfl rfl (fun ww ss hh => children_ok bt mb kv ci (by first | assumption | omega) ww (ss.mem (i := 0) rfl) (ss.mem (i := 1) rfl) hh) (fun _ => rfl) ?_)
    rintro ⟨al'2, cl'3⟩ -
    refine A.goA [.p, .p] [(0, (p_ bt)), (1, (i_ ci)), (4, (i_ 0)), (8, (b_ false)), (6, (b_ ((mget kv ci).isSome))), (19, (b_ (!((mget kv ci).isSome)))), (24, (b_ (decide (((keysF kv (fun y => y.hp == ci)).length : Int) > 0))))] [] T0 (by kernel_rfl) trivial ?_
    refine A.tn ?_
    refine A.cond (E := decide (((keysF kv (fun y => y.hp == ci)).length : Int) > 0)) rfl (fun e3 => ?_) (fun e3 => ?_)
    · skip
      have p3 := of_decide_eq_true e3
      refine A.seq ?_
      refine A.region (A.goA [.p] [(0, (p_ bt)), (1, (i_ ci)), (4, (i_ 23)), (8, (b_ false)), (6, (b_ ((mget kv ci).isSome))), (19, (b_ (!((mget kv ci).isSome)))), (24, (b_ (decide (((keysF kv (fun y => y.hp == ci)).length : Int) > 0))))] [] T0 (by kernel_rfl) trivial ?_)
      refine A.tn ?_
      refine A.ret ?_
      refine A.tr ?_
      refine A.postK [1, 1] [(i_ 23)] (fun aa ww rr ss => ⟨rv_tmp rr rfl, trivial⟩) (kv) ?_ ?_ (by kernel_rfl)
      · show ((i_ 23) : Value) = (i_ (delE kv ci))
        refine congrArg (Value.int .i64) ?_; unfold delE; first | (simp_all; done) | grind
      · show kv = delK kv ci
        unfold delK delE; first | (simp_all; done) | grind
    · skip
      have p3 := of_decide_eq_false e3
      refine A.skip ?_
      refine A.tn ?_
      refine A.seq ?_
      refine A.region (A.goP [.p, .p, .p, .ld 1, .p] [(0, (p_ bt)), (1, (i_ ci)), (4, (i_ 0)), (8, (b_ false)), (6, (b_ ((mget kv ci).isSome))), (19, (b_ (!((mget kv ci).isSome)))), (24, (b_ (decide (((keysF kv (fun y => y.hp == ci)).length : Int) > 0)))), (28, (.map (some mb))), (29, (i_ ci))] [bt] T0 (by kernel_rfl) trivial ?_)
      refine A.cons (A.mapDel (kt := 3) (et := 30) (enck := (fun k : Int => i_ k)) (encv := (fun v_ : Cl => (.agg (encCl v_).toArray))) (kv := kv) (k := ci) 2 [sl al'2 ((keysF kv (fun y => y.hp == ci)).length) cl'3 3 1 (V.flat encI (keysF kv (fun y => y.hp == ci))), blk bt [(.map (some mb))] 55, mapI (fun k : Int => i_ k) (fun v_ : Cl => (.agg (encCl v_).toArray)) mb (mdel kv ci), blk b1 [(i_ (((mget kv ci).getD cl0).hi)), (i_ (((mget kv ci).getD cl0).hp)), (b_ (((mget kv ci).getD cl0).hl)), (u_ (((mget kv ci).getD cl0).ra)), (u_ (((mget kv ci).getD cl0).rb)), (u_ (((mget kv ci).getD cl0).rc)), (u_ (((mget kv ci).getD cl0).la)), (u_ (((mget kv ci).getD cl0).lb)), (u_ (((mget kv ci).getD cl0).lc)), (u_ (((mget kv ci).getD cl0).ua)), (u_ (((mget kv ci).getD cl0).ub)), (u_ (((mget kv ci).getD cl0).uc)), (i_ (((mget kv ci).getD cl0).hk)), (i_ (((mget kv ci).getD cl0).hq))] 30] (by kernel_rfl) rfl rfl rfl (by kernel_rfl) keyOk_I rfl rfl ?_)
      refine A.done ?_
      refine A.sub [(0, (p_ bt)), (1, (i_ ci)), (4, (i_ 0)), (8, (b_ false)), (6, (b_ ((mget kv ci).isSome))), (19, (b_ (!((mget kv ci).isSome)))), (24, (b_ (decide (((keysF kv (fun y => y.hp == ci)).length : Int) > 0))))] (by exact ⟨rfl, rfl, rfl, rfl, rfl, rfl, rfl, trivial⟩) ?_
      refine A.tn ?_
      refine A.seq ?_
      refine A.region (A.goA [.p] [(0, (p_ bt)), (1, (i_ ci)), (4, (i_ 0)), (8, (b_ false)), (6, (b_ ((mget kv ci).isSome))), (19, (b_ (!((mget kv ci).isSome)))), (24, (b_ (decide (((keysF kv (fun y => y.hp == ci)).length : Int) > 0))))] [] T0 (by kernel_rfl) trivial ?_)
      refine A.tn ?_
      refine A.ret ?_
      refine A.postK [1, 1] [(i_ 0)] (fun aa ww rr ss => ⟨rv_tmp rr rfl, trivial⟩) (mdel kv ci) ?_ ?_ (by kernel_rfl)
      · show ((i_ 0) : Value) = (i_ (delE kv ci))
        refine congrArg (Value.int .i64) ?_; unfold delE; first | (simp_all; done) | grind
      · show (mdel kv ci) = delK kv ci
        unfold delK delE; first | (simp_all; done) | grind
end Go.Proofs.Ytpodcfadcdnllaa
