/- What the functions of this layer do, proved operation by operation, for all arguments, under the conditions that each theorem states. -/
import Derived.Test.YtpodcfadcdnllaaProg
import Derived.Test.YtpodcfadcdnllaaHier2
namespace Go.Proofs.Ytpodcfadcdnllaa
open Go V
set_option linter.unusedVariables false
set_option linter.unusedSimpArgs false

set_option maxHeartbeats 4000000 in
set_option maxRecDepth 100000 in
theorem rwrong_spec (y : Cl) (w : World) :
    Calls Try.prog 41 #[(.agg #[(i_ y.hi), (i_ y.hp), (b_ y.hl), (u_ y.ra), (u_ y.rb), (u_ y.rc), (u_ y.la), (u_ y.lb), (u_ y.lc), (u_ y.ua), (u_ y.ub), (u_ y.uc), (i_ y.hk), (i_ y.hq)])] w fun e w' => e = .returned (i_ (wrongR y)) ∧ Fr [] w w' := by
  refine calls_of (args := [(.agg #[(i_ y.hi), (i_ y.hp), (b_ y.hl), (u_ y.ra), (u_ y.rb), (u_ y.rc), (u_ y.la), (u_ y.lb), (u_ y.lc), (u_ y.ua), (u_ y.ub), (u_ y.uc), (i_ y.hk), (i_ y.hq)])]) (penv [(.agg #[(i_ y.hi), (i_ y.hp), (b_ y.hl), (u_ y.ra), (u_ y.rb), (u_ y.rc), (u_ y.la), (u_ y.lb), (u_ y.lc), (u_ y.ua), (u_ y.ub), (u_ y.uc), (i_ y.hk), (i_ y.hq)])]) [] [] Try.func41 rfl rfl (look_penv _) (HS.nil w) ?_
  refine A.norm [(0, (.agg #[(i_ y.hi), (i_ y.hp), (b_ y.hl), (u_ y.ra), (u_ y.rb), (u_ y.rc), (u_ y.la), (u_ y.lb), (u_ y.lc), (u_ y.ua), (u_ y.ub), (u_ y.uc), (i_ y.hk), (i_ y.hq)]))] [] (by exact ⟨rfl, trivial⟩) rfl ?_
  refine A.seq ?_
  refine A.region (A.goA1 [.al, .p] [0, 1, 2] (fun b1 => [(0, (.agg #[(i_ y.hi), (i_ y.hp), (b_ y.hl), (u_ y.ra), (u_ y.rb), (u_ y.rc), (u_ y.la), (u_ y.lb), (u_ y.lc), (u_ y.ua), (u_ y.ub), (u_ y.uc), (i_ y.hk), (i_ y.hq)])), (1, (p_ b1)), (2, (i_ 0))]) (fun b1 => [blk b1 [(i_ y.hi), (i_ y.hp), (b_ y.hl), (u_ y.ra), (u_ y.rb), (u_ y.rc), (u_ y.la), (u_ y.lb), (u_ y.lc), (u_ y.ua), (u_ y.ub), (u_ y.uc), (i_ y.hk), (i_ y.hq)] 30]) (fun b1 => []) (fun _ => T0) (fun _ => by kernel_rfl) (fun b1 => trivial) ?_)
  intro b1
  refine A.tn ?_
  refine A.seq ?_
  refine A.seq ?_
  refine A.region (A.goA [.p, .ld 0, .p, .p, .o, .p, .ld 0, .p, .cl, .p, .o, .p, .ld 0, .p, .cl, .p, .o, .p, .ld 0, .p, .cl, .p, .o, .p, .ld 0, .p, .ld 0, .p, .cl] [(0, (.agg #[(i_ y.hi), (i_ y.hp), (b_ y.hl), (u_ y.ra), (u_ y.rb), (u_ y.rc), (u_ y.la), (u_ y.lb), (u_ y.lc), (u_ y.ua), (u_ y.ub), (u_ y.uc), (i_ y.hk), (i_ y.hq)])), (1, (p_ b1)), (2, (i_ 0)), (30, (b_ (((((decide (y.hi < 1)) || (decide (y.hi > 65536))) || (decide (y.hp < 0))) || (decide (y.hp > 65536))) || (y.hi == y.hp))))] [b1, b1, b1, b1, b1, b1] T0 (by kernel_rfl) trivial ?_)
  refine A.tn ?_
  refine A.cond (E := ((((decide (y.hi < 1)) || (decide (y.hi > 65536))) || (decide (y.hp < 0))) || (decide (y.hp > 65536))) || (y.hi == y.hp)) rfl (fun e1 => ?_) (fun e1 => ?_)
  · skip
    have p1 := e1; try simp only [decide_eq_true_eq, decide_eq_false_iff_not, beq_iff_eq, beq_eq_false_iff_ne, bne_iff_ne, bne_eq_false_iff_eq, ne_eq, Bool.and_eq_true, Bool.or_eq_true, Bool.or_eq_false_iff, Bool.not_eq_true', Bool.not_eq_false', Int.not_lt, Int.not_le, gt_iff_lt, ge_iff_le, Classical.not_not] at p1
    refine A.seq ?_
    refine A.region (A.goA [.p] [(0, (.agg #[(i_ y.hi), (i_ y.hp), (b_ y.hl), (u_ y.ra), (u_ y.rb), (u_ y.rc), (u_ y.la), (u_ y.lb), (u_ y.lc), (u_ y.ua), (u_ y.ub), (u_ y.uc), (i_ y.hk), (i_ y.hq)])), (1, (p_ b1)), (2, (i_ 1)), (30, (b_ (((((decide (y.hi < 1)) || (decide (y.hi > 65536))) || (decide (y.hp < 0))) || (decide (y.hp > 65536))) || (y.hi == y.hp))))] [] T0 (by kernel_rfl) trivial ?_)
    refine A.tn ?_
    refine A.ret ?_
    refine A.tr ?_
    refine A.postQ [(i_ 1)] (fun aa ww rr ss => ⟨rv_tmp rr rfl, trivial⟩) ?_
    show ((i_ 1) : Value) = (i_ (wrongR y))
    refine congrArg (Value.int .i64) ?_; unfold wrongR; grind
  · skip
    have p1 := e1; try simp only [decide_eq_true_eq, decide_eq_false_iff_not, beq_iff_eq, beq_eq_false_iff_ne, bne_iff_ne, bne_eq_false_iff_eq, ne_eq, Bool.and_eq_true, Bool.or_eq_true, Bool.or_eq_false_iff, Bool.not_eq_true', Bool.not_eq_false', Int.not_lt, Int.not_le, gt_iff_lt, ge_iff_le, Classical.not_not] at p1
    refine A.skip ?_
    refine A.tn ?_
    refine A.seq ?_
    refine A.region (A.goA [.p, .ld 0, .cq (i_ (ofR y.ra y.rb y.rc)), .p] [(0, (.agg #[(i_ y.hi), (i_ y.hp), (b_ y.hl), (u_ y.ra), (u_ y.rb), (u_ y.rc), (u_ y.la), (u_ y.lb), (u_ y.lc), (u_ y.ua), (u_ y.ub), (u_ y.uc), (i_ y.hk), (i_ y.hq)])), (1, (p_ b1)), (2, (i_ 0)), (30, (b_ (((((decide (y.hi < 1)) || (decide (y.hi > 65536))) || (decide (y.hp < 0))) || (decide (y.hp > 65536))) || (y.hi == y.hp)))), (3, (i_ (ofR y.ra y.rb y.rc)))] [b1] (fun κ => κ.call 43 [(.agg #[(u_ y.ra), (u_ y.rb), (u_ y.rc)])] (i_ (ofR y.ra y.rb y.rc)) ∧ True) (by kernel_rfl) ⟨(fun ww ss => rof_spec y.ra y.rb y.rc ww), trivial⟩ ?_)
    refine A.tn ?_
    refine A.seq ?_
    refine A.region (A.goA [.p, .ld 0, .cq (i_ (ofR y.la y.lb y.lc)), .p] [(0, (.agg #[(i_ y.hi), (i_ y.hp), (b_ y.hl), (u_ y.ra), (u_ y.rb), (u_ y.rc), (u_ y.la), (u_ y.lb), (u_ y.lc), (u_ y.ua), (u_ y.ub), (u_ y.uc), (i_ y.hk), (i_ y.hq)])), (1, (p_ b1)), (2, (i_ 0)), (30, (b_ (((((decide (y.hi < 1)) || (decide (y.hi > 65536))) || (decide (y.hp < 0))) || (decide (y.hp > 65536))) || (y.hi == y.hp)))), (3, (i_ (ofR y.ra y.rb y.rc))), (4, (i_ (ofR y.la y.lb y.lc)))] [b1] (fun κ => κ.call 43 [(.agg #[(u_ y.la), (u_ y.lb), (u_ y.lc)])] (i_ (ofR y.la y.lb y.lc)) ∧ True) (by kernel_rfl) ⟨(fun ww ss => rof_spec y.la y.lb y.lc ww), trivial⟩ ?_)
    refine A.tn ?_
    refine A.seq ?_
    refine A.region (A.goA [.p, .ld 0, .cq (i_ (ofR y.ua y.ub y.uc)), .p] [(0, (.agg #[(i_ y.hi), (i_ y.hp), (b_ y.hl), (u_ y.ra), (u_ y.rb), (u_ y.rc), (u_ y.la), (u_ y.lb), (u_ y.lc), (u_ y.ua), (u_ y.ub), (u_ y.uc), (i_ y.hk), (i_ y.hq)])), (1, (p_ b1)), (2, (i_ 0)), (30, (b_ (((((decide (y.hi < 1)) || (decide (y.hi > 65536))) || (decide (y.hp < 0))) || (decide (y.hp > 65536))) || (y.hi == y.hp)))), (3, (i_ (ofR y.ra y.rb y.rc))), (4, (i_ (ofR y.la y.lb y.lc))), (5, (i_ (ofR y.ua y.ub y.uc)))] [b1] (fun κ => κ.call 43 [(.agg #[(u_ y.ua), (u_ y.ub), (u_ y.uc)])] (i_ (ofR y.ua y.ub y.uc)) ∧ True) (by kernel_rfl) ⟨(fun ww ss => rof_spec y.ua y.ub y.uc ww), trivial⟩ ?_)
    refine A.tn ?_
    refine A.seq ?_
    refine A.seq ?_
    refine A.region (A.goA [.p, .p, .p, .o, .p, .p, .cl, .p, .o, .p, .p, .cl, .p, .o, .p, .p, .cl, .p, .o, .p, .p, .cl] [(0, (.agg #[(i_ y.hi), (i_ y.hp), (b_ y.hl), (u_ y.ra), (u_ y.rb), (u_ y.rc), (u_ y.la), (u_ y.lb), (u_ y.lc), (u_ y.ua), (u_ y.ub), (u_ y.uc), (i_ y.hk), (i_ y.hq)])), (1, (p_ b1)), (2, (i_ 0)), (30, (b_ (((((decide (y.hi < 1)) || (decide (y.hi > 65536))) || (decide (y.hp < 0))) || (decide (y.hp > 65536))) || (y.hi == y.hp)))), (3, (i_ (ofR y.ra y.rb y.rc))), (4, (i_ (ofR y.la y.lb y.lc))), (5, (i_ (ofR y.ua y.ub y.uc))), (57, (b_ ((((((ofR y.ra y.rb y.rc) == 0) || ((ofR y.la y.lb y.lc) == 0)) || ((ofR y.ua y.ub y.uc) == 0)) || ((ofR y.la y.lb y.lc) == 4)) || ((ofR y.ua y.ub y.uc) == 4))))] [] T0 (by kernel_rfl) trivial ?_)
    refine A.tn ?_
    refine A.cond (E := (((((ofR y.ra y.rb y.rc) == 0) || ((ofR y.la y.lb y.lc) == 0)) || ((ofR y.ua y.ub y.uc) == 0)) || ((ofR y.la y.lb y.lc) == 4)) || ((ofR y.ua y.ub y.uc) == 4)) rfl (fun e2 => ?_) (fun e2 => ?_)
    · skip
      have p2 := e2; try simp only [decide_eq_true_eq, decide_eq_false_iff_not, beq_iff_eq, beq_eq_false_iff_ne, bne_iff_ne, bne_eq_false_iff_eq, ne_eq, Bool.and_eq_true, Bool.or_eq_true, Bool.or_eq_false_iff, Bool.not_eq_true', Bool.not_eq_false', Int.not_lt, Int.not_le, gt_iff_lt, ge_iff_le, Classical.not_not] at p2
      refine A.seq ?_
      refine A.region (A.goA [.p] [(0, (.agg #[(i_ y.hi), (i_ y.hp), (b_ y.hl), (u_ y.ra), (u_ y.rb), (u_ y.rc), (u_ y.la), (u_ y.lb), (u_ y.lc), (u_ y.ua), (u_ y.ub), (u_ y.uc), (i_ y.hk), (i_ y.hq)])), (1, (p_ b1)), (2, (i_ 21)), (30, (b_ (((((decide (y.hi < 1)) || (decide (y.hi > 65536))) || (decide (y.hp < 0))) || (decide (y.hp > 65536))) || (y.hi == y.hp)))), (3, (i_ (ofR y.ra y.rb y.rc))), (4, (i_ (ofR y.la y.lb y.lc))), (5, (i_ (ofR y.ua y.ub y.uc))), (57, (b_ ((((((ofR y.ra y.rb y.rc) == 0) || ((ofR y.la y.lb y.lc) == 0)) || ((ofR y.ua y.ub y.uc) == 0)) || ((ofR y.la y.lb y.lc) == 4)) || ((ofR y.ua y.ub y.uc) == 4))))] [] T0 (by kernel_rfl) trivial ?_)
      refine A.tn ?_
      refine A.ret ?_
      refine A.tr ?_
      refine A.postQ [(i_ 21)] (fun aa ww rr ss => ⟨rv_tmp rr rfl, trivial⟩) ?_
      show ((i_ 21) : Value) = (i_ (wrongR y))
      refine congrArg (Value.int .i64) ?_; unfold wrongR; grind
    · skip
      have p2 := e2; try simp only [decide_eq_true_eq, decide_eq_false_iff_not, beq_iff_eq, beq_eq_false_iff_ne, bne_iff_ne, bne_eq_false_iff_eq, ne_eq, Bool.and_eq_true, Bool.or_eq_true, Bool.or_eq_false_iff, Bool.not_eq_true', Bool.not_eq_false', Int.not_lt, Int.not_le, gt_iff_lt, ge_iff_le, Classical.not_not] at p2
      refine A.skip ?_
      refine A.tn ?_
      refine A.seq ?_
      refine A.seq ?_
      refine A.region (A.goA [.p, .p, .p, .o, .p, .p, .cl] [(0, (.agg #[(i_ y.hi), (i_ y.hp), (b_ y.hl), (u_ y.ra), (u_ y.rb), (u_ y.rc), (u_ y.la), (u_ y.lb), (u_ y.lc), (u_ y.ua), (u_ y.ub), (u_ y.uc), (i_ y.hk), (i_ y.hq)])), (1, (p_ b1)), (2, (i_ 0)), (30, (b_ (((((decide (y.hi < 1)) || (decide (y.hi > 65536))) || (decide (y.hp < 0))) || (decide (y.hp > 65536))) || (y.hi == y.hp)))), (3, (i_ (ofR y.ra y.rb y.rc))), (4, (i_ (ofR y.la y.lb y.lc))), (5, (i_ (ofR y.ua y.ub y.uc))), (57, (b_ ((((((ofR y.ra y.rb y.rc) == 0) || ((ofR y.la y.lb y.lc) == 0)) || ((ofR y.ua y.ub y.uc) == 0)) || ((ofR y.la y.lb y.lc) == 4)) || ((ofR y.ua y.ub y.uc) == 4)))), (63, (b_ ((decide ((ofR y.ua y.ub y.uc) > 1)) && ((ofR y.la y.lb y.lc) == 1))))] [] T0 (by kernel_rfl) trivial ?_)
      refine A.tn ?_
      refine A.cond (E := (decide ((ofR y.ua y.ub y.uc) > 1)) && ((ofR y.la y.lb y.lc) == 1)) rfl (fun e3 => ?_) (fun e3 => ?_)
      · skip
        have p3 := e3; try simp only [decide_eq_true_eq, decide_eq_false_iff_not, beq_iff_eq, beq_eq_false_iff_ne, bne_iff_ne, bne_eq_false_iff_eq, ne_eq, Bool.and_eq_true, Bool.or_eq_true, Bool.or_eq_false_iff, Bool.not_eq_true', Bool.not_eq_false', Int.not_lt, Int.not_le, gt_iff_lt, ge_iff_le, Classical.not_not] at p3
        refine A.seq ?_
        refine A.region (A.goA [.p] [(0, (.agg #[(i_ y.hi), (i_ y.hp), (b_ y.hl), (u_ y.ra), (u_ y.rb), (u_ y.rc), (u_ y.la), (u_ y.lb), (u_ y.lc), (u_ y.ua), (u_ y.ub), (u_ y.uc), (i_ y.hk), (i_ y.hq)])), (1, (p_ b1)), (2, (i_ 29)), (30, (b_ (((((decide (y.hi < 1)) || (decide (y.hi > 65536))) || (decide (y.hp < 0))) || (decide (y.hp > 65536))) || (y.hi == y.hp)))), (3, (i_ (ofR y.ra y.rb y.rc))), (4, (i_ (ofR y.la y.lb y.lc))), (5, (i_ (ofR y.ua y.ub y.uc))), (57, (b_ ((((((ofR y.ra y.rb y.rc) == 0) || ((ofR y.la y.lb y.lc) == 0)) || ((ofR y.ua y.ub y.uc) == 0)) || ((ofR y.la y.lb y.lc) == 4)) || ((ofR y.ua y.ub y.uc) == 4)))), (63, (b_ ((decide ((ofR y.ua y.ub y.uc) > 1)) && ((ofR y.la y.lb y.lc) == 1))))] [] T0 (by kernel_rfl) trivial ?_)
        refine A.tn ?_
        refine A.ret ?_
        refine A.tr ?_
        refine A.postQ [(i_ 29)] (fun aa ww rr ss => ⟨rv_tmp rr rfl, trivial⟩) ?_
        show ((i_ 29) : Value) = (i_ (wrongR y))
        refine congrArg (Value.int .i64) ?_; unfold wrongR; grind
      · skip
        have p3 := e3; try simp only [decide_eq_true_eq, decide_eq_false_iff_not, beq_iff_eq, beq_eq_false_iff_ne, bne_iff_ne, bne_eq_false_iff_eq, ne_eq, Bool.and_eq_true, Bool.or_eq_true, Bool.or_eq_false_iff, Bool.not_eq_true', Bool.not_eq_false', Int.not_lt, Int.not_le, gt_iff_lt, ge_iff_le, Classical.not_not] at p3
        refine A.skip ?_
        refine A.tn ?_
        refine A.seq ?_
        refine A.seq ?_
        refine A.region (A.goA [.p, .ld 0] [(0, (.agg #[(i_ y.hi), (i_ y.hp), (b_ y.hl), (u_ y.ra), (u_ y.rb), (u_ y.rc), (u_ y.la), (u_ y.lb), (u_ y.lc), (u_ y.ua), (u_ y.ub), (u_ y.uc), (i_ y.hk), (i_ y.hq)])), (1, (p_ b1)), (2, (i_ 0)), (30, (b_ (((((decide (y.hi < 1)) || (decide (y.hi > 65536))) || (decide (y.hp < 0))) || (decide (y.hp > 65536))) || (y.hi == y.hp)))), (3, (i_ (ofR y.ra y.rb y.rc))), (4, (i_ (ofR y.la y.lb y.lc))), (5, (i_ (ofR y.ua y.ub y.uc))), (57, (b_ ((((((ofR y.ra y.rb y.rc) == 0) || ((ofR y.la y.lb y.lc) == 0)) || ((ofR y.ua y.ub y.uc) == 0)) || ((ofR y.la y.lb y.lc) == 4)) || ((ofR y.ua y.ub y.uc) == 4)))), (63, (b_ ((decide ((ofR y.ua y.ub y.uc) > 1)) && ((ofR y.la y.lb y.lc) == 1)))), (65, (b_ y.hl))] [b1] T0 (by kernel_rfl) trivial ?_)
        refine A.tn ?_
        refine A.cond (E := y.hl) rfl (fun e4 => ?_) (fun e4 => ?_)
        · skip
          have p4 := e4; try simp only [decide_eq_true_eq, decide_eq_false_iff_not, beq_iff_eq, beq_eq_false_iff_ne, bne_iff_ne, bne_eq_false_iff_eq, ne_eq, Bool.and_eq_true, Bool.or_eq_true, Bool.or_eq_false_iff, Bool.not_eq_true', Bool.not_eq_false', Int.not_lt, Int.not_le, gt_iff_lt, ge_iff_le, Classical.not_not] at p4
          refine A.seq ?_
          refine A.seq ?_
          refine A.region (A.goA [.p, .ld 0, .p, .p, .o, .p, .ld 0, .p, .cl, .p, .o, .p, .ld 0, .p, .cl, .p, .o, .p, .ld 0, .p, .cl, .p, .o, .p, .p, .p, .o, .p, .p, .cl, .cl] [(0, (.agg #[(i_ y.hi), (i_ y.hp), (b_ y.hl), (u_ y.ra), (u_ y.rb), (u_ y.rc), (u_ y.la), (u_ y.lb), (u_ y.lc), (u_ y.ua), (u_ y.ub), (u_ y.uc), (i_ y.hk), (i_ y.hq)])), (1, (p_ b1)), (2, (i_ 0)), (30, (b_ (((((decide (y.hi < 1)) || (decide (y.hi > 65536))) || (decide (y.hp < 0))) || (decide (y.hp > 65536))) || (y.hi == y.hp)))), (3, (i_ (ofR y.ra y.rb y.rc))), (4, (i_ (ofR y.la y.lb y.lc))), (5, (i_ (ofR y.ua y.ub y.uc))), (57, (b_ ((((((ofR y.ra y.rb y.rc) == 0) || ((ofR y.la y.lb y.lc) == 0)) || ((ofR y.ua y.ub y.uc) == 0)) || ((ofR y.la y.lb y.lc) == 4)) || ((ofR y.ua y.ub y.uc) == 4)))), (63, (b_ ((decide ((ofR y.ua y.ub y.uc) > 1)) && ((ofR y.la y.lb y.lc) == 1)))), (65, (b_ y.hl)), (91, (b_ (((((decide (y.hk < 1)) || (decide (y.hk > 64))) || (decide (y.hq < 1))) || (decide (y.hq > 1048576))) || (((ofR y.ra y.rb y.rc) == 1) && ((ofR y.la y.lb y.lc) == 1)))))] [b1, b1, b1, b1] T0 (by kernel_rfl) trivial ?_)
          refine A.tn ?_
          refine A.cond (E := ((((decide (y.hk < 1)) || (decide (y.hk > 64))) || (decide (y.hq < 1))) || (decide (y.hq > 1048576))) || (((ofR y.ra y.rb y.rc) == 1) && ((ofR y.la y.lb y.lc) == 1))) rfl (fun e5 => ?_) (fun e5 => ?_)
          · skip
            have p5 := e5; try simp only [decide_eq_true_eq, decide_eq_false_iff_not, beq_iff_eq, beq_eq_false_iff_ne, bne_iff_ne, bne_eq_false_iff_eq, ne_eq, Bool.and_eq_true, Bool.or_eq_true, Bool.or_eq_false_iff, Bool.not_eq_true', Bool.not_eq_false', Int.not_lt, Int.not_le, gt_iff_lt, ge_iff_le, Classical.not_not] at p5
            refine A.seq ?_
            refine A.region (A.goA [.p] [(0, (.agg #[(i_ y.hi), (i_ y.hp), (b_ y.hl), (u_ y.ra), (u_ y.rb), (u_ y.rc), (u_ y.la), (u_ y.lb), (u_ y.lc), (u_ y.ua), (u_ y.ub), (u_ y.uc), (i_ y.hk), (i_ y.hq)])), (1, (p_ b1)), (2, (i_ 29)), (30, (b_ (((((decide (y.hi < 1)) || (decide (y.hi > 65536))) || (decide (y.hp < 0))) || (decide (y.hp > 65536))) || (y.hi == y.hp)))), (3, (i_ (ofR y.ra y.rb y.rc))), (4, (i_ (ofR y.la y.lb y.lc))), (5, (i_ (ofR y.ua y.ub y.uc))), (57, (b_ ((((((ofR y.ra y.rb y.rc) == 0) || ((ofR y.la y.lb y.lc) == 0)) || ((ofR y.ua y.ub y.uc) == 0)) || ((ofR y.la y.lb y.lc) == 4)) || ((ofR y.ua y.ub y.uc) == 4)))), (63, (b_ ((decide ((ofR y.ua y.ub y.uc) > 1)) && ((ofR y.la y.lb y.lc) == 1)))), (65, (b_ y.hl)), (91, (b_ (((((decide (y.hk < 1)) || (decide (y.hk > 64))) || (decide (y.hq < 1))) || (decide (y.hq > 1048576))) || (((ofR y.ra y.rb y.rc) == 1) && ((ofR y.la y.lb y.lc) == 1)))))] [] T0 (by kernel_rfl) trivial ?_)
            refine A.tn ?_
            refine A.ret ?_
            refine A.tr ?_
            refine A.tr ?_
            refine A.postQ [(i_ 29)] (fun aa ww rr ss => ⟨rv_tmp rr rfl, trivial⟩) ?_
            show ((i_ 29) : Value) = (i_ (wrongR y))
            refine congrArg (Value.int .i64) ?_; unfold wrongR; grind
          · skip
            have p5 := e5; try simp only [decide_eq_true_eq, decide_eq_false_iff_not, beq_iff_eq, beq_eq_false_iff_ne, bne_iff_ne, bne_eq_false_iff_eq, ne_eq, Bool.and_eq_true, Bool.or_eq_true, Bool.or_eq_false_iff, Bool.not_eq_true', Bool.not_eq_false', Int.not_lt, Int.not_le, gt_iff_lt, ge_iff_le, Classical.not_not] at p5
            refine A.skip ?_
            refine A.tn ?_
            refine A.seq ?_
            refine A.region (A.goA [.p] [(0, (.agg #[(i_ y.hi), (i_ y.hp), (b_ y.hl), (u_ y.ra), (u_ y.rb), (u_ y.rc), (u_ y.la), (u_ y.lb), (u_ y.lc), (u_ y.ua), (u_ y.ub), (u_ y.uc), (i_ y.hk), (i_ y.hq)])), (1, (p_ b1)), (2, (i_ 0)), (30, (b_ (((((decide (y.hi < 1)) || (decide (y.hi > 65536))) || (decide (y.hp < 0))) || (decide (y.hp > 65536))) || (y.hi == y.hp)))), (3, (i_ (ofR y.ra y.rb y.rc))), (4, (i_ (ofR y.la y.lb y.lc))), (5, (i_ (ofR y.ua y.ub y.uc))), (57, (b_ ((((((ofR y.ra y.rb y.rc) == 0) || ((ofR y.la y.lb y.lc) == 0)) || ((ofR y.ua y.ub y.uc) == 0)) || ((ofR y.la y.lb y.lc) == 4)) || ((ofR y.ua y.ub y.uc) == 4)))), (63, (b_ ((decide ((ofR y.ua y.ub y.uc) > 1)) && ((ofR y.la y.lb y.lc) == 1)))), (65, (b_ y.hl)), (91, (b_ (((((decide (y.hk < 1)) || (decide (y.hk > 64))) || (decide (y.hq < 1))) || (decide (y.hq > 1048576))) || (((ofR y.ra y.rb y.rc) == 1) && ((ofR y.la y.lb y.lc) == 1)))))] [] T0 (by kernel_rfl) trivial ?_)
            refine A.tn ?_
            refine A.ret ?_
            refine A.tr ?_
            refine A.postQ [(i_ 0)] (fun aa ww rr ss => ⟨rv_tmp rr rfl, trivial⟩) ?_
            show ((i_ 0) : Value) = (i_ (wrongR y))
            refine congrArg (Value.int .i64) ?_; unfold wrongR; grind
        · skip
          have p4 := e4; try simp only [decide_eq_true_eq, decide_eq_false_iff_not, beq_iff_eq, beq_eq_false_iff_ne, bne_iff_ne, bne_eq_false_iff_eq, ne_eq, Bool.and_eq_true, Bool.or_eq_true, Bool.or_eq_false_iff, Bool.not_eq_true', Bool.not_eq_false', Int.not_lt, Int.not_le, gt_iff_lt, ge_iff_le, Classical.not_not] at p4
          refine A.skip ?_
          refine A.tn ?_
          refine A.seq ?_
          refine A.seq ?_
          refine A.region (A.goA [.p, .ld 0, .p, .p, .o, .p, .ld 0, .p, .cl, .p, .o, .p, .p, .cl] [(0, (.agg #[(i_ y.hi), (i_ y.hp), (b_ y.hl), (u_ y.ra), (u_ y.rb), (u_ y.rc), (u_ y.la), (u_ y.lb), (u_ y.lc), (u_ y.ua), (u_ y.ub), (u_ y.uc), (i_ y.hk), (i_ y.hq)])), (1, (p_ b1)), (2, (i_ 0)), (30, (b_ (((((decide (y.hi < 1)) || (decide (y.hi > 65536))) || (decide (y.hp < 0))) || (decide (y.hp > 65536))) || (y.hi == y.hp)))), (3, (i_ (ofR y.ra y.rb y.rc))), (4, (i_ (ofR y.la y.lb y.lc))), (5, (i_ (ofR y.ua y.ub y.uc))), (57, (b_ ((((((ofR y.ra y.rb y.rc) == 0) || ((ofR y.la y.lb y.lc) == 0)) || ((ofR y.ua y.ub y.uc) == 0)) || ((ofR y.la y.lb y.lc) == 4)) || ((ofR y.ua y.ub y.uc) == 4)))), (63, (b_ ((decide ((ofR y.ua y.ub y.uc) > 1)) && ((ofR y.la y.lb y.lc) == 1)))), (65, (b_ y.hl)), (103, (b_ (((y.hk != 0) || (y.hq != 0)) || ((ofR y.ra y.rb y.rc) != 1))))] [b1, b1] T0 (by kernel_rfl) trivial ?_)
          refine A.tn ?_
          refine A.cond (E := ((y.hk != 0) || (y.hq != 0)) || ((ofR y.ra y.rb y.rc) != 1)) rfl (fun e6 => ?_) (fun e6 => ?_)
          · skip
            have p6 := e6; try simp only [decide_eq_true_eq, decide_eq_false_iff_not, beq_iff_eq, beq_eq_false_iff_ne, bne_iff_ne, bne_eq_false_iff_eq, ne_eq, Bool.and_eq_true, Bool.or_eq_true, Bool.or_eq_false_iff, Bool.not_eq_true', Bool.not_eq_false', Int.not_lt, Int.not_le, gt_iff_lt, ge_iff_le, Classical.not_not] at p6
            refine A.seq ?_
            refine A.region (A.goA [.p] [(0, (.agg #[(i_ y.hi), (i_ y.hp), (b_ y.hl), (u_ y.ra), (u_ y.rb), (u_ y.rc), (u_ y.la), (u_ y.lb), (u_ y.lc), (u_ y.ua), (u_ y.ub), (u_ y.uc), (i_ y.hk), (i_ y.hq)])), (1, (p_ b1)), (2, (i_ 29)), (30, (b_ (((((decide (y.hi < 1)) || (decide (y.hi > 65536))) || (decide (y.hp < 0))) || (decide (y.hp > 65536))) || (y.hi == y.hp)))), (3, (i_ (ofR y.ra y.rb y.rc))), (4, (i_ (ofR y.la y.lb y.lc))), (5, (i_ (ofR y.ua y.ub y.uc))), (57, (b_ ((((((ofR y.ra y.rb y.rc) == 0) || ((ofR y.la y.lb y.lc) == 0)) || ((ofR y.ua y.ub y.uc) == 0)) || ((ofR y.la y.lb y.lc) == 4)) || ((ofR y.ua y.ub y.uc) == 4)))), (63, (b_ ((decide ((ofR y.ua y.ub y.uc) > 1)) && ((ofR y.la y.lb y.lc) == 1)))), (65, (b_ y.hl)), (103, (b_ (((y.hk != 0) || (y.hq != 0)) || ((ofR y.ra y.rb y.rc) != 1))))] [] T0 (by kernel_rfl) trivial ?_)
            refine A.tn ?_
            refine A.ret ?_
            refine A.tr ?_
            refine A.postQ [(i_ 29)] (fun aa ww rr ss => ⟨rv_tmp rr rfl, trivial⟩) ?_
            show ((i_ 29) : Value) = (i_ (wrongR y))
            refine congrArg (Value.int .i64) ?_; unfold wrongR; grind
          · skip
            have p6 := e6; try simp only [decide_eq_true_eq, decide_eq_false_iff_not, beq_iff_eq, beq_eq_false_iff_ne, bne_iff_ne, bne_eq_false_iff_eq, ne_eq, Bool.and_eq_true, Bool.or_eq_true, Bool.or_eq_false_iff, Bool.not_eq_true', Bool.not_eq_false', Int.not_lt, Int.not_le, gt_iff_lt, ge_iff_le, Classical.not_not] at p6
            refine A.skip ?_
            refine A.tn ?_
            refine A.seq ?_
            refine A.region (A.goA [.p] [(0, (.agg #[(i_ y.hi), (i_ y.hp), (b_ y.hl), (u_ y.ra), (u_ y.rb), (u_ y.rc), (u_ y.la), (u_ y.lb), (u_ y.lc), (u_ y.ua), (u_ y.ub), (u_ y.uc), (i_ y.hk), (i_ y.hq)])), (1, (p_ b1)), (2, (i_ 0)), (30, (b_ (((((decide (y.hi < 1)) || (decide (y.hi > 65536))) || (decide (y.hp < 0))) || (decide (y.hp > 65536))) || (y.hi == y.hp)))), (3, (i_ (ofR y.ra y.rb y.rc))), (4, (i_ (ofR y.la y.lb y.lc))), (5, (i_ (ofR y.ua y.ub y.uc))), (57, (b_ ((((((ofR y.ra y.rb y.rc) == 0) || ((ofR y.la y.lb y.lc) == 0)) || ((ofR y.ua y.ub y.uc) == 0)) || ((ofR y.la y.lb y.lc) == 4)) || ((ofR y.ua y.ub y.uc) == 4)))), (63, (b_ ((decide ((ofR y.ua y.ub y.uc) > 1)) && ((ofR y.la y.lb y.lc) == 1)))), (65, (b_ y.hl)), (103, (b_ (((y.hk != 0) || (y.hq != 0)) || ((ofR y.ra y.rb y.rc) != 1))))] [] T0 (by kernel_rfl) trivial ?_)
            refine A.tn ?_
            refine A.ret ?_
            refine A.postQ [(i_ 0)] (fun aa ww rr ss => ⟨rv_tmp rr rfl, trivial⟩) ?_
            show ((i_ 0) : Value) = (i_ (wrongR y))
            refine congrArg (Value.int .i64) ?_; unfold wrongR; grind

set_option maxHeartbeats 4000000 in
set_option maxRecDepth 100000 in
theorem right_spec (y : Cl) (w : World) :
    Calls Try.prog 33 #[(.agg #[(i_ y.hi), (i_ y.hp), (b_ y.hl), (u_ y.ra), (u_ y.rb), (u_ y.rc), (u_ y.la), (u_ y.lb), (u_ y.lc), (u_ y.ua), (u_ y.ub), (u_ y.uc), (i_ y.hk), (i_ y.hq)])] w fun e w' => e = .returned (i_ (wrongC y)) ∧ Fr [] w w' := by
  have q1 := ofC_rng y.ra y.rb y.rc; have q2 := ofC_rng y.la y.lb y.lc; have q3 := ofC_rng y.ua y.ub y.uc
  refine calls_of (args := [(.agg #[(i_ y.hi), (i_ y.hp), (b_ y.hl), (u_ y.ra), (u_ y.rb), (u_ y.rc), (u_ y.la), (u_ y.lb), (u_ y.lc), (u_ y.ua), (u_ y.ub), (u_ y.uc), (i_ y.hk), (i_ y.hq)])]) (penv [(.agg #[(i_ y.hi), (i_ y.hp), (b_ y.hl), (u_ y.ra), (u_ y.rb), (u_ y.rc), (u_ y.la), (u_ y.lb), (u_ y.lc), (u_ y.ua), (u_ y.ub), (u_ y.uc), (i_ y.hk), (i_ y.hq)])]) [] [] Try.func33 rfl rfl (look_penv _) (HS.nil w) ?_
  refine A.norm [(0, (.agg #[(i_ y.hi), (i_ y.hp), (b_ y.hl), (u_ y.ra), (u_ y.rb), (u_ y.rc), (u_ y.la), (u_ y.lb), (u_ y.lc), (u_ y.ua), (u_ y.ub), (u_ y.uc), (i_ y.hk), (i_ y.hq)]))] [] (by exact ⟨rfl, trivial⟩) rfl ?_
  refine A.seq ?_
  refine A.region (A.goA1 [.al, .p] [0, 1, 2] (fun b1 => [(0, (.agg #[(i_ y.hi), (i_ y.hp), (b_ y.hl), (u_ y.ra), (u_ y.rb), (u_ y.rc), (u_ y.la), (u_ y.lb), (u_ y.lc), (u_ y.ua), (u_ y.ub), (u_ y.uc), (i_ y.hk), (i_ y.hq)])), (1, (p_ b1)), (2, (i_ 0))]) (fun b1 => [blk b1 [(i_ y.hi), (i_ y.hp), (b_ y.hl), (u_ y.ra), (u_ y.rb), (u_ y.rc), (u_ y.la), (u_ y.lb), (u_ y.lc), (u_ y.ua), (u_ y.ub), (u_ y.uc), (i_ y.hk), (i_ y.hq)] 30]) (fun b1 => []) (fun _ => T0) (fun _ => by kernel_rfl) (fun b1 => trivial) ?_)
  intro b1
  refine A.tn ?_
  refine A.seq ?_
  refine A.seq ?_
  refine A.region (A.goA [.p, .ld 0, .cq (b_ (fromI y.hi 1 65536)), .p, .p, .o, .p, .ld 0, .cq (b_ (fromI y.hp 0 65536)), .p, .cl, .p, .o, .p, .ld 0, .p, .ld 0, .p, .cl] [(0, (.agg #[(i_ y.hi), (i_ y.hp), (b_ y.hl), (u_ y.ra), (u_ y.rb), (u_ y.rc), (u_ y.la), (u_ y.lb), (u_ y.lc), (u_ y.ua), (u_ y.ub), (u_ y.uc), (i_ y.hk), (i_ y.hq)])), (1, (p_ b1)), (2, (i_ 0)), (23, (b_ (((!(fromI y.hi 1 65536)) || (!(fromI y.hp 0 65536))) || (y.hp == y.hi))))] [b1, b1, b1, b1] (fun κ => κ.call 47 [(i_ y.hi), (i_ 1), (i_ 65536)] (b_ (fromI y.hi 1 65536)) ∧ ((true && ((!(fromI y.hi 1 65536)) == false)) = true → κ.call 47 [(i_ y.hp), (i_ 0), (i_ 65536)] (b_ (fromI y.hp 0 65536))) ∧ True) (by kernel_rfl) ⟨(fun ww ss => from_spec y.hi 1 65536 ww), (fun h_ => (fun ww ss => from_spec y.hp 0 65536 ww)), trivial⟩ ?_)
  refine A.tn ?_
  refine A.cond (E := ((!(fromI y.hi 1 65536)) || (!(fromI y.hp 0 65536))) || (y.hp == y.hi)) rfl (fun e1 => ?_) (fun e1 => ?_)
  · skip
    have p1 := e1; try simp only [decide_eq_true_eq, decide_eq_false_iff_not, beq_iff_eq, beq_eq_false_iff_ne, bne_iff_ne, bne_eq_false_iff_eq, ne_eq, Bool.and_eq_true, Bool.or_eq_true, Bool.or_eq_false_iff, Bool.not_eq_true', Bool.not_eq_false', Int.not_lt, Int.not_le, gt_iff_lt, ge_iff_le, Classical.not_not] at p1
    refine A.seq ?_
    refine A.region (A.goA [.p] [(0, (.agg #[(i_ y.hi), (i_ y.hp), (b_ y.hl), (u_ y.ra), (u_ y.rb), (u_ y.rc), (u_ y.la), (u_ y.lb), (u_ y.lc), (u_ y.ua), (u_ y.ub), (u_ y.uc), (i_ y.hk), (i_ y.hq)])), (1, (p_ b1)), (2, (i_ 1)), (23, (b_ (((!(fromI y.hi 1 65536)) || (!(fromI y.hp 0 65536))) || (y.hp == y.hi))))] [] T0 (by kernel_rfl) trivial ?_)
    refine A.tn ?_
    refine A.ret ?_
    refine A.tr ?_
    refine A.postQ [(i_ 1)] (fun aa ww rr ss => ⟨rv_tmp rr rfl, trivial⟩) ?_
    show ((i_ 1) : Value) = (i_ (wrongC y))
    refine congrArg (Value.int .i64) ?_; unfold wrongC; unfold fromI at *; grind
  · skip
    have p1 := e1; try simp only [decide_eq_true_eq, decide_eq_false_iff_not, beq_iff_eq, beq_eq_false_iff_ne, bne_iff_ne, bne_eq_false_iff_eq, ne_eq, Bool.and_eq_true, Bool.or_eq_true, Bool.or_eq_false_iff, Bool.not_eq_true', Bool.not_eq_false', Int.not_lt, Int.not_le, gt_iff_lt, ge_iff_le, Classical.not_not] at p1
    refine A.skip ?_
    refine A.tn ?_
    refine A.seq ?_
    refine A.seq ?_
    refine A.region (A.goA [.p, .ld 0, .p, .ld 0, .p, .ld 0, .p, .p] [(0, (.agg #[(i_ y.hi), (i_ y.hp), (b_ y.hl), (u_ y.ra), (u_ y.rb), (u_ y.rc), (u_ y.la), (u_ y.lb), (u_ y.lc), (u_ y.ua), (u_ y.ub), (u_ y.uc), (i_ y.hk), (i_ y.hq)])), (1, (p_ b1)), (2, (i_ 0)), (23, (b_ (((!(fromI y.hi 1 65536)) || (!(fromI y.hp 0 65536))) || (y.hp == y.hi)))), (30, (.agg #[(u_ y.ra), (u_ y.rb), (u_ y.rc), (u_ y.la), (u_ y.lb), (u_ y.lc), (u_ y.ua), (u_ y.ub), (u_ y.uc)])), (31, (i_ 0))] [b1, b1, b1] T0 (by kernel_rfl) trivial ?_)
    refine A.tn ?_
    refine A.block ?_
    refine A.unroll 400 ?_
    refine A.sub [(1, (p_ b1)), (2, (i_ 0)), (30, (.agg #[(u_ y.ra), (u_ y.rb), (u_ y.rc), (u_ y.la), (u_ y.lb), (u_ y.lc), (u_ y.ua), (u_ y.ub), (u_ y.uc)])), (31, (i_ 0))] (by exact ⟨rfl, rfl, rfl, rfl, trivial⟩) (A.turnk (m := 399) ?_)
    refine A.seq ?_
    refine A.region (A.goA [.p] [(1, (p_ b1)), (2, (i_ 0)), (30, (.agg #[(u_ y.ra), (u_ y.rb), (u_ y.rc), (u_ y.la), (u_ y.lb), (u_ y.lc), (u_ y.ua), (u_ y.ub), (u_ y.uc)])), (31, (i_ 0)), (32, (b_ true))] [] T0 (by kernel_rfl) trivial ?_)
    refine A.tn ?_
    refine A.seq ?_
    refine A.cond_t rfl ?_
    refine A.skip ?_
    refine A.tn ?_
    refine A.seq ?_
    refine A.block ?_
    refine A.seq ?_
    refine A.region (A.goA1 [.p, .p, .al, .p, .st 1] [1, 2, 30, 31, 32, 4, 3] (fun b2 => [(1, (p_ b1)), (2, (i_ 0)), (30, (.agg #[(u_ y.ra), (u_ y.rb), (u_ y.rc), (u_ y.la), (u_ y.lb), (u_ y.lc), (u_ y.ua), (u_ y.ub), (u_ y.uc)])), (31, (i_ 0)), (32, (b_ true)), (4, (p_ b2)), (3, (i_ 0))]) (fun b2 => [blk b1 [(i_ y.hi), (i_ y.hp), (b_ y.hl), (u_ y.ra), (u_ y.rb), (u_ y.rc), (u_ y.la), (u_ y.lb), (u_ y.lc), (u_ y.ua), (u_ y.ub), (u_ y.uc), (i_ y.hk), (i_ y.hq)] 30, blk b2 [(u_ y.ra), (u_ y.rb), (u_ y.rc)] 28]) (fun b2 => [b2]) (fun _ => T0) (fun _ => by kernel_rfl) (fun b2 => trivial) ?_)
    intro b2
    refine A.tn ?_
    refine A.seq ?_
    refine A.region (A.goP [.ld 1, .cq (b_ (ofC y.ra y.rb y.rc != 0)), .p, .p] [(1, (p_ b1)), (2, (i_ 0)), (30, (.agg #[(u_ y.ra), (u_ y.rb), (u_ y.rc), (u_ y.la), (u_ y.lb), (u_ y.lc), (u_ y.ua), (u_ y.ub), (u_ y.uc)])), (31, (i_ 0)), (32, (b_ true)), (4, (p_ b2)), (3, (i_ 0)), (38, (b_ (!(ofC y.ra y.rb y.rc != 0))))] [b2] (fun κ => κ.call 48 [(.agg #[(u_ y.ra), (u_ y.rb), (u_ y.rc)])] (b_ (ofC y.ra y.rb y.rc != 0)) ∧ True) (by kernel_rfl) ⟨(fun ww ss => cright_spec y.ra y.rb y.rc ww), trivial⟩ ?_)
    refine A.bool (!(ofC y.ra y.rb y.rc != 0)) (fun e2 => ?_) (fun e2 => ?_)
    · skip
      refine A.sub [(1, (p_ b1)), (2, (i_ 0)), (30, (.agg #[(u_ y.ra), (u_ y.rb), (u_ y.rc), (u_ y.la), (u_ y.lb), (u_ y.lc), (u_ y.ua), (u_ y.ub), (u_ y.uc)])), (31, (i_ 0)), (32, (b_ true)), (4, (p_ b2)), (3, (i_ 0)), (38, (b_ true))] (by exact ⟨rfl, rfl, rfl, rfl, rfl, rfl, rfl, (congrArg (fun z => some (Value.bool z)) e2), trivial⟩) ?_
      refine A.goA [.sk, .sk, .sk, .sk, .sk, .sk, .sk, .p] [(1, (p_ b1)), (2, (i_ 0)), (30, (.agg #[(u_ y.ra), (u_ y.rb), (u_ y.rc), (u_ y.la), (u_ y.lb), (u_ y.lc), (u_ y.ua), (u_ y.ub), (u_ y.uc)])), (31, (i_ 0)), (32, (b_ true)), (4, (p_ b2)), (3, (i_ 0)), (46, (b_ true))] [] T0 (by kernel_rfl) trivial ?_
      refine A.tn ?_
      refine A.cond_t rfl ?_
      refine A.seq ?_
      refine A.region (A.goA [.p] [(1, (p_ b1)), (2, (i_ 21)), (30, (.agg #[(u_ y.ra), (u_ y.rb), (u_ y.rc), (u_ y.la), (u_ y.lb), (u_ y.lc), (u_ y.ua), (u_ y.ub), (u_ y.uc)])), (31, (i_ 0)), (32, (b_ true)), (4, (p_ b2)), (3, (i_ 0)), (46, (b_ true))] [] T0 (by kernel_rfl) trivial ?_)
      refine A.tn ?_
      refine A.ret ?_
      refine A.br ?_
      refine A.tr ?_
      refine A.tr ?_
      refine A.br ?_
      refine A.tr ?_
      refine A.postQ [(i_ 21)] (fun aa ww rr ss => ⟨rv_tmp rr rfl, trivial⟩) ?_
      show ((i_ 21) : Value) = (i_ (wrongC y))
      refine congrArg (Value.int .i64) ?_; unfold wrongC; unfold fromI at *; grind
    · skip
      refine A.sub [(1, (p_ b1)), (2, (i_ 0)), (30, (.agg #[(u_ y.ra), (u_ y.rb), (u_ y.rc), (u_ y.la), (u_ y.lb), (u_ y.lc), (u_ y.ua), (u_ y.ub), (u_ y.uc)])), (31, (i_ 0)), (32, (b_ true)), (4, (p_ b2)), (3, (i_ 0)), (38, (b_ false))] (by exact ⟨rfl, rfl, rfl, rfl, rfl, rfl, rfl, (congrArg (fun z => some (Value.bool z)) e2), trivial⟩) ?_
      refine A.goA [.p, .p, .p, .sk, .sk, .sk, .p, .p] [(1, (p_ b1)), (2, (i_ 0)), (30, (.agg #[(u_ y.ra), (u_ y.rb), (u_ y.rc), (u_ y.la), (u_ y.lb), (u_ y.lc), (u_ y.ua), (u_ y.ub), (u_ y.uc)])), (31, (i_ 0)), (32, (b_ true)), (4, (p_ b2)), (3, (i_ 0)), (46, (b_ false))] [] T0 (by kernel_rfl) trivial ?_
      refine A.tn ?_
      refine A.cond_f rfl ?_
      refine A.skip ?_
      refine A.bn ?_
      refine A.tn ?_
      refine A.region (A.goA [.p, .p] [(1, (p_ b1)), (2, (i_ 0)), (30, (.agg #[(u_ y.ra), (u_ y.rb), (u_ y.rc), (u_ y.la), (u_ y.lb), (u_ y.lc), (u_ y.ua), (u_ y.ub), (u_ y.uc)])), (31, (i_ 1)), (32, (b_ true)), (4, (p_ b2)), (3, (i_ 0)), (46, (b_ false))] [] T0 (by kernel_rfl) trivial ?_)
      refine A.tn ?_
      refine A.turnk (m := 398) ?_
      refine A.seq ?_
      refine A.region (A.goA [.p] [(1, (p_ b1)), (2, (i_ 0)), (30, (.agg #[(u_ y.ra), (u_ y.rb), (u_ y.rc), (u_ y.la), (u_ y.lb), (u_ y.lc), (u_ y.ua), (u_ y.ub), (u_ y.uc)])), (31, (i_ 1)), (32, (b_ true)), (4, (p_ b2)), (3, (i_ 0)), (46, (b_ false))] [] T0 (by kernel_rfl) trivial ?_)
      refine A.tn ?_
      refine A.seq ?_
      refine A.cond_t rfl ?_
      refine A.skip ?_
      refine A.tn ?_
      refine A.seq ?_
      refine A.block ?_
      refine A.seq ?_
      refine A.region (A.goA1 [.p, .p, .al, .p, .st 2] [1, 2, 30, 31, 32, 4, 3, 46] (fun b3 => [(1, (p_ b1)), (2, (i_ 0)), (30, (.agg #[(u_ y.ra), (u_ y.rb), (u_ y.rc), (u_ y.la), (u_ y.lb), (u_ y.lc), (u_ y.ua), (u_ y.ub), (u_ y.uc)])), (31, (i_ 1)), (32, (b_ true)), (4, (p_ b3)), (3, (i_ 1)), (46, (b_ false))]) (fun b3 => [blk b1 [(i_ y.hi), (i_ y.hp), (b_ y.hl), (u_ y.ra), (u_ y.rb), (u_ y.rc), (u_ y.la), (u_ y.lb), (u_ y.lc), (u_ y.ua), (u_ y.ub), (u_ y.uc), (i_ y.hk), (i_ y.hq)] 30, blk b2 [(u_ y.ra), (u_ y.rb), (u_ y.rc)] 28, blk b3 [(u_ y.la), (u_ y.lb), (u_ y.lc)] 28]) (fun b3 => [b3]) (fun _ => T0) (fun _ => by kernel_rfl) (fun b3 => trivial) ?_)
      intro b3
      refine A.tn ?_
      refine A.seq ?_
      refine A.region (A.goP [.ld 2, .cq (b_ (ofC y.la y.lb y.lc != 0)), .p, .p] [(1, (p_ b1)), (2, (i_ 0)), (30, (.agg #[(u_ y.ra), (u_ y.rb), (u_ y.rc), (u_ y.la), (u_ y.lb), (u_ y.lc), (u_ y.ua), (u_ y.ub), (u_ y.uc)])), (31, (i_ 1)), (32, (b_ true)), (4, (p_ b3)), (3, (i_ 1)), (46, (b_ false)), (38, (b_ (!(ofC y.la y.lb y.lc != 0))))] [b3] (fun κ => κ.call 48 [(.agg #[(u_ y.la), (u_ y.lb), (u_ y.lc)])] (b_ (ofC y.la y.lb y.lc != 0)) ∧ True) (by kernel_rfl) ⟨(fun ww ss => cright_spec y.la y.lb y.lc ww), trivial⟩ ?_)
      refine A.bool (!(ofC y.la y.lb y.lc != 0)) (fun e3 => ?_) (fun e3 => ?_)
      · skip
        refine A.sub [(1, (p_ b1)), (2, (i_ 0)), (30, (.agg #[(u_ y.ra), (u_ y.rb), (u_ y.rc), (u_ y.la), (u_ y.lb), (u_ y.lc), (u_ y.ua), (u_ y.ub), (u_ y.uc)])), (31, (i_ 1)), (32, (b_ true)), (4, (p_ b3)), (3, (i_ 1)), (46, (b_ false)), (38, (b_ true))] (by exact ⟨rfl, rfl, rfl, rfl, rfl, rfl, rfl, rfl, (congrArg (fun z => some (Value.bool z)) e3), trivial⟩) ?_
        refine A.goA [.sk, .sk, .sk, .sk, .sk, .sk, .sk, .p] [(1, (p_ b1)), (2, (i_ 0)), (30, (.agg #[(u_ y.ra), (u_ y.rb), (u_ y.rc), (u_ y.la), (u_ y.lb), (u_ y.lc), (u_ y.ua), (u_ y.ub), (u_ y.uc)])), (31, (i_ 1)), (32, (b_ true)), (4, (p_ b3)), (3, (i_ 1)), (46, (b_ true))] [] T0 (by kernel_rfl) trivial ?_
        refine A.tn ?_
        refine A.cond_t rfl ?_
        refine A.seq ?_
        refine A.region (A.goA [.p] [(1, (p_ b1)), (2, (i_ 21)), (30, (.agg #[(u_ y.ra), (u_ y.rb), (u_ y.rc), (u_ y.la), (u_ y.lb), (u_ y.lc), (u_ y.ua), (u_ y.ub), (u_ y.uc)])), (31, (i_ 1)), (32, (b_ true)), (4, (p_ b3)), (3, (i_ 1)), (46, (b_ true))] [] T0 (by kernel_rfl) trivial ?_)
        refine A.tn ?_
        refine A.ret ?_
        refine A.br ?_
        refine A.tr ?_
        refine A.tr ?_
        refine A.br ?_
        refine A.tr ?_
        refine A.postQ [(i_ 21)] (fun aa ww rr ss => ⟨rv_tmp rr rfl, trivial⟩) ?_
        show ((i_ 21) : Value) = (i_ (wrongC y))
        refine congrArg (Value.int .i64) ?_; unfold wrongC; unfold fromI at *; grind
      · skip
        refine A.sub [(1, (p_ b1)), (2, (i_ 0)), (30, (.agg #[(u_ y.ra), (u_ y.rb), (u_ y.rc), (u_ y.la), (u_ y.lb), (u_ y.lc), (u_ y.ua), (u_ y.ub), (u_ y.uc)])), (31, (i_ 1)), (32, (b_ true)), (4, (p_ b3)), (3, (i_ 1)), (46, (b_ false)), (38, (b_ false))] (by exact ⟨rfl, rfl, rfl, rfl, rfl, rfl, rfl, rfl, (congrArg (fun z => some (Value.bool z)) e3), trivial⟩) ?_
        refine A.goA [.p, .p, .p, .ld 2, .cq (i_ (ofC y.la y.lb y.lc)), .p, .p, .p] [(1, (p_ b1)), (2, (i_ 0)), (30, (.agg #[(u_ y.ra), (u_ y.rb), (u_ y.rc), (u_ y.la), (u_ y.lb), (u_ y.lc), (u_ y.ua), (u_ y.ub), (u_ y.uc)])), (31, (i_ 1)), (32, (b_ true)), (4, (p_ b3)), (3, (i_ 1)), (46, (b_ ((ofC y.la y.lb y.lc) == 4)))] [b3] (fun κ => κ.call 49 [(.agg #[(u_ y.la), (u_ y.lb), (u_ y.lc)])] (i_ (ofC y.la y.lb y.lc)) ∧ True) (by kernel_rfl) ⟨(fun ww ss => of_spec y.la y.lb y.lc ww), trivial⟩ ?_
        refine A.tn ?_
        refine A.cond (E := (ofC y.la y.lb y.lc) == 4) rfl (fun e4 => ?_) (fun e4 => ?_)
        · skip
          have p4 := e4; try simp only [decide_eq_true_eq, decide_eq_false_iff_not, beq_iff_eq, beq_eq_false_iff_ne, bne_iff_ne, bne_eq_false_iff_eq, ne_eq, Bool.and_eq_true, Bool.or_eq_true, Bool.or_eq_false_iff, Bool.not_eq_true', Bool.not_eq_false', Int.not_lt, Int.not_le, gt_iff_lt, ge_iff_le, Classical.not_not] at p4
          refine A.seq ?_
          refine A.region (A.goA [.p] [(1, (p_ b1)), (2, (i_ 21)), (30, (.agg #[(u_ y.ra), (u_ y.rb), (u_ y.rc), (u_ y.la), (u_ y.lb), (u_ y.lc), (u_ y.ua), (u_ y.ub), (u_ y.uc)])), (31, (i_ 1)), (32, (b_ true)), (4, (p_ b3)), (3, (i_ 1)), (46, (b_ ((ofC y.la y.lb y.lc) == 4)))] [] T0 (by kernel_rfl) trivial ?_)
          refine A.tn ?_
          refine A.ret ?_
          refine A.br ?_
          refine A.tr ?_
          refine A.tr ?_
          refine A.br ?_
          refine A.tr ?_
          refine A.postQ [(i_ 21)] (fun aa ww rr ss => ⟨rv_tmp rr rfl, trivial⟩) ?_
          show ((i_ 21) : Value) = (i_ (wrongC y))
          refine congrArg (Value.int .i64) ?_; unfold wrongC; unfold fromI at *; grind
        · skip
          have p4 := e4; try simp only [decide_eq_true_eq, decide_eq_false_iff_not, beq_iff_eq, beq_eq_false_iff_ne, bne_iff_ne, bne_eq_false_iff_eq, ne_eq, Bool.and_eq_true, Bool.or_eq_true, Bool.or_eq_false_iff, Bool.not_eq_true', Bool.not_eq_false', Int.not_lt, Int.not_le, gt_iff_lt, ge_iff_le, Classical.not_not] at p4
          refine A.skip ?_
          refine A.bn ?_
          refine A.tn ?_
          refine A.region (A.goA [.p, .p] [(1, (p_ b1)), (2, (i_ 0)), (30, (.agg #[(u_ y.ra), (u_ y.rb), (u_ y.rc), (u_ y.la), (u_ y.lb), (u_ y.lc), (u_ y.ua), (u_ y.ub), (u_ y.uc)])), (31, (i_ 2)), (32, (b_ true)), (4, (p_ b3)), (3, (i_ 1)), (46, (b_ ((ofC y.la y.lb y.lc) == 4)))] [] T0 (by kernel_rfl) trivial ?_)
          refine A.tn ?_
          refine A.turnk (m := 397) ?_
          refine A.seq ?_
          refine A.region (A.goA [.p] [(1, (p_ b1)), (2, (i_ 0)), (30, (.agg #[(u_ y.ra), (u_ y.rb), (u_ y.rc), (u_ y.la), (u_ y.lb), (u_ y.lc), (u_ y.ua), (u_ y.ub), (u_ y.uc)])), (31, (i_ 2)), (32, (b_ true)), (4, (p_ b3)), (3, (i_ 1)), (46, (b_ ((ofC y.la y.lb y.lc) == 4)))] [] T0 (by kernel_rfl) trivial ?_)
          refine A.tn ?_
          refine A.seq ?_
          refine A.cond_t rfl ?_
          refine A.skip ?_
          refine A.tn ?_
          refine A.seq ?_
          refine A.block ?_
          refine A.seq ?_
          refine A.region (A.goA1 [.p, .p, .al, .p, .st 3] [1, 2, 30, 31, 32, 4, 3, 46] (fun b4 => [(1, (p_ b1)), (2, (i_ 0)), (30, (.agg #[(u_ y.ra), (u_ y.rb), (u_ y.rc), (u_ y.la), (u_ y.lb), (u_ y.lc), (u_ y.ua), (u_ y.ub), (u_ y.uc)])), (31, (i_ 2)), (32, (b_ true)), (4, (p_ b4)), (3, (i_ 2)), (46, (b_ ((ofC y.la y.lb y.lc) == 4)))]) (fun b4 => [blk b1 [(i_ y.hi), (i_ y.hp), (b_ y.hl), (u_ y.ra), (u_ y.rb), (u_ y.rc), (u_ y.la), (u_ y.lb), (u_ y.lc), (u_ y.ua), (u_ y.ub), (u_ y.uc), (i_ y.hk), (i_ y.hq)] 30, blk b2 [(u_ y.ra), (u_ y.rb), (u_ y.rc)] 28, blk b3 [(u_ y.la), (u_ y.lb), (u_ y.lc)] 28, blk b4 [(u_ y.ua), (u_ y.ub), (u_ y.uc)] 28]) (fun b4 => [b4]) (fun _ => T0) (fun _ => by kernel_rfl) (fun b4 => trivial) ?_)
          intro b4
          refine A.tn ?_
          refine A.seq ?_
          refine A.region (A.goP [.ld 3, .cq (b_ (ofC y.ua y.ub y.uc != 0)), .p, .p] [(1, (p_ b1)), (2, (i_ 0)), (30, (.agg #[(u_ y.ra), (u_ y.rb), (u_ y.rc), (u_ y.la), (u_ y.lb), (u_ y.lc), (u_ y.ua), (u_ y.ub), (u_ y.uc)])), (31, (i_ 2)), (32, (b_ true)), (4, (p_ b4)), (3, (i_ 2)), (46, (b_ ((ofC y.la y.lb y.lc) == 4))), (38, (b_ (!(ofC y.ua y.ub y.uc != 0))))] [b4] (fun κ => κ.call 48 [(.agg #[(u_ y.ua), (u_ y.ub), (u_ y.uc)])] (b_ (ofC y.ua y.ub y.uc != 0)) ∧ True) (by kernel_rfl) ⟨(fun ww ss => cright_spec y.ua y.ub y.uc ww), trivial⟩ ?_)
          refine A.bool (!(ofC y.ua y.ub y.uc != 0)) (fun e5 => ?_) (fun e5 => ?_)
          · skip
            refine A.sub [(1, (p_ b1)), (2, (i_ 0)), (30, (.agg #[(u_ y.ra), (u_ y.rb), (u_ y.rc), (u_ y.la), (u_ y.lb), (u_ y.lc), (u_ y.ua), (u_ y.ub), (u_ y.uc)])), (31, (i_ 2)), (32, (b_ true)), (4, (p_ b4)), (3, (i_ 2)), (46, (b_ ((ofC y.la y.lb y.lc) == 4))), (38, (b_ true))] (by exact ⟨rfl, rfl, rfl, rfl, rfl, rfl, rfl, rfl, (congrArg (fun z => some (Value.bool z)) e5), trivial⟩) ?_
            refine A.goA [.sk, .sk, .sk, .sk, .sk, .sk, .sk, .p] [(1, (p_ b1)), (2, (i_ 0)), (30, (.agg #[(u_ y.ra), (u_ y.rb), (u_ y.rc), (u_ y.la), (u_ y.lb), (u_ y.lc), (u_ y.ua), (u_ y.ub), (u_ y.uc)])), (31, (i_ 2)), (32, (b_ true)), (4, (p_ b4)), (3, (i_ 2)), (46, (b_ true))] [] T0 (by kernel_rfl) trivial ?_
            refine A.tn ?_
            refine A.cond_t rfl ?_
            refine A.seq ?_
            refine A.region (A.goA [.p] [(1, (p_ b1)), (2, (i_ 21)), (30, (.agg #[(u_ y.ra), (u_ y.rb), (u_ y.rc), (u_ y.la), (u_ y.lb), (u_ y.lc), (u_ y.ua), (u_ y.ub), (u_ y.uc)])), (31, (i_ 2)), (32, (b_ true)), (4, (p_ b4)), (3, (i_ 2)), (46, (b_ true))] [] T0 (by kernel_rfl) trivial ?_)
            refine A.tn ?_
            refine A.ret ?_
            refine A.br ?_
            refine A.tr ?_
            refine A.tr ?_
            refine A.br ?_
            refine A.tr ?_
            refine A.postQ [(i_ 21)] (fun aa ww rr ss => ⟨rv_tmp rr rfl, trivial⟩) ?_
            show ((i_ 21) : Value) = (i_ (wrongC y))
            refine congrArg (Value.int .i64) ?_; unfold wrongC; unfold fromI at *; grind
          · skip
            refine A.sub [(1, (p_ b1)), (2, (i_ 0)), (30, (.agg #[(u_ y.ra), (u_ y.rb), (u_ y.rc), (u_ y.la), (u_ y.lb), (u_ y.lc), (u_ y.ua), (u_ y.ub), (u_ y.uc)])), (31, (i_ 2)), (32, (b_ true)), (4, (p_ b4)), (3, (i_ 2)), (46, (b_ ((ofC y.la y.lb y.lc) == 4))), (38, (b_ false))] (by exact ⟨rfl, rfl, rfl, rfl, rfl, rfl, rfl, rfl, (congrArg (fun z => some (Value.bool z)) e5), trivial⟩) ?_
            refine A.goA [.p, .p, .p, .ld 3, .cq (i_ (ofC y.ua y.ub y.uc)), .p, .p, .p] [(1, (p_ b1)), (2, (i_ 0)), (30, (.agg #[(u_ y.ra), (u_ y.rb), (u_ y.rc), (u_ y.la), (u_ y.lb), (u_ y.lc), (u_ y.ua), (u_ y.ub), (u_ y.uc)])), (31, (i_ 2)), (32, (b_ true)), (4, (p_ b4)), (3, (i_ 2)), (46, (b_ ((ofC y.ua y.ub y.uc) == 4)))] [b4] (fun κ => κ.call 49 [(.agg #[(u_ y.ua), (u_ y.ub), (u_ y.uc)])] (i_ (ofC y.ua y.ub y.uc)) ∧ True) (by kernel_rfl) ⟨(fun ww ss => of_spec y.ua y.ub y.uc ww), trivial⟩ ?_
            refine A.tn ?_
            refine A.cond (E := (ofC y.ua y.ub y.uc) == 4) rfl (fun e6 => ?_) (fun e6 => ?_)
            · skip
              have p6 := e6; try simp only [decide_eq_true_eq, decide_eq_false_iff_not, beq_iff_eq, beq_eq_false_iff_ne, bne_iff_ne, bne_eq_false_iff_eq, ne_eq, Bool.and_eq_true, Bool.or_eq_true, Bool.or_eq_false_iff, Bool.not_eq_true', Bool.not_eq_false', Int.not_lt, Int.not_le, gt_iff_lt, ge_iff_le, Classical.not_not] at p6
              refine A.seq ?_
              refine A.region (A.goA [.p] [(1, (p_ b1)), (2, (i_ 21)), (30, (.agg #[(u_ y.ra), (u_ y.rb), (u_ y.rc), (u_ y.la), (u_ y.lb), (u_ y.lc), (u_ y.ua), (u_ y.ub), (u_ y.uc)])), (31, (i_ 2)), (32, (b_ true)), (4, (p_ b4)), (3, (i_ 2)), (46, (b_ ((ofC y.ua y.ub y.uc) == 4)))] [] T0 (by kernel_rfl) trivial ?_)
              refine A.tn ?_
              refine A.ret ?_
              refine A.br ?_
              refine A.tr ?_
              refine A.tr ?_
              refine A.br ?_
              refine A.tr ?_
              refine A.postQ [(i_ 21)] (fun aa ww rr ss => ⟨rv_tmp rr rfl, trivial⟩) ?_
              show ((i_ 21) : Value) = (i_ (wrongC y))
              refine congrArg (Value.int .i64) ?_; unfold wrongC; unfold fromI at *; grind
            · skip
              have p6 := e6; try simp only [decide_eq_true_eq, decide_eq_false_iff_not, beq_iff_eq, beq_eq_false_iff_ne, bne_iff_ne, bne_eq_false_iff_eq, ne_eq, Bool.and_eq_true, Bool.or_eq_true, Bool.or_eq_false_iff, Bool.not_eq_true', Bool.not_eq_false', Int.not_lt, Int.not_le, gt_iff_lt, ge_iff_le, Classical.not_not] at p6
              refine A.skip ?_
              refine A.bn ?_
              refine A.tn ?_
              refine A.region (A.goA [.p, .p] [(1, (p_ b1)), (2, (i_ 0)), (30, (.agg #[(u_ y.ra), (u_ y.rb), (u_ y.rc), (u_ y.la), (u_ y.lb), (u_ y.lc), (u_ y.ua), (u_ y.ub), (u_ y.uc)])), (31, (i_ 3)), (32, (b_ true)), (4, (p_ b4)), (3, (i_ 2)), (46, (b_ ((ofC y.ua y.ub y.uc) == 4)))] [] T0 (by kernel_rfl) trivial ?_)
              refine A.tn ?_
              refine A.turnk (m := 396) ?_
              refine A.seq ?_
              refine A.region (A.goA [.p] [(1, (p_ b1)), (2, (i_ 0)), (30, (.agg #[(u_ y.ra), (u_ y.rb), (u_ y.rc), (u_ y.la), (u_ y.lb), (u_ y.lc), (u_ y.ua), (u_ y.ub), (u_ y.uc)])), (31, (i_ 3)), (32, (b_ false)), (4, (p_ b4)), (3, (i_ 2)), (46, (b_ ((ofC y.ua y.ub y.uc) == 4)))] [] T0 (by kernel_rfl) trivial ?_)
              refine A.tn ?_
              refine A.seq ?_
              refine A.cond_f rfl ?_
              refine A.exit ?_
              refine A.te ?_
              refine A.te ?_
              refine A.bh ?_
              refine A.tn ?_
              refine A.seq ?_
              refine A.region (A.goA [.p, .ld 0, .cq (b_ (fromI y.hk 1 64)), .p, .o, .p, .ld 0, .cq (b_ (fromI y.hq 1 1048576)), .cl, .p, .o, .ld 0, .cq (b_ (decide ((ofC y.ra y.rb y.rc) > 1))), .p, .o, .ld 0, .cq (b_ (decide ((ofC y.la y.lb y.lc) > 1))), .cl, .cl, .p] [(1, (p_ b1)), (2, (i_ 0)), (30, (.agg #[(u_ y.ra), (u_ y.rb), (u_ y.rc), (u_ y.la), (u_ y.lb), (u_ y.lc), (u_ y.ua), (u_ y.ub), (u_ y.uc)])), (31, (i_ 3)), (32, (b_ false)), (4, (p_ b4)), (3, (i_ 2)), (46, (b_ ((ofC y.ua y.ub y.uc) == 4))), (5, (b_ (((fromI y.hk 1 64) && (fromI y.hq 1 1048576)) && ((decide ((ofC y.ra y.rb y.rc) > 1)) || (decide ((ofC y.la y.lb y.lc) > 1))))))] [b1, b1, b1, b1] (fun κ => κ.call 47 [(i_ y.hk), (i_ 1), (i_ 64)] (b_ (fromI y.hk 1 64)) ∧ ((true && ((fromI y.hk 1 64) == true)) = true → κ.call 47 [(i_ y.hq), (i_ 1), (i_ 1048576)] (b_ (fromI y.hq 1 1048576))) ∧ ((true && (((fromI y.hk 1 64) && (fromI y.hq 1 1048576)) == true)) = true → κ.call 39 [(.agg #[(i_ y.hi), (i_ y.hp), (b_ y.hl), (u_ y.ra), (u_ y.rb), (u_ y.rc), (u_ y.la), (u_ y.lb), (u_ y.lc), (u_ y.ua), (u_ y.ub), (u_ y.uc), (i_ y.hk), (i_ y.hq)])] (b_ (decide ((ofC y.ra y.rb y.rc) > 1)))) ∧ (((true && (((fromI y.hk 1 64) && (fromI y.hq 1 1048576)) == true)) && ((decide ((ofC y.ra y.rb y.rc) > 1)) == false)) = true → κ.call 34 [(.agg #[(i_ y.hi), (i_ y.hp), (b_ y.hl), (u_ y.ra), (u_ y.rb), (u_ y.rc), (u_ y.la), (u_ y.lb), (u_ y.lc), (u_ y.ua), (u_ y.ub), (u_ y.uc), (i_ y.hk), (i_ y.hq)])] (b_ (decide ((ofC y.la y.lb y.lc) > 1)))) ∧ True) (by kernel_rfl) ⟨(fun ww ss => from_spec y.hk 1 64 ww), (fun h_ => (fun ww ss => from_spec y.hq 1 1048576 ww)), (fun h_ => (fun ww ss => real_spec y ww)), (fun h_ => (fun ww ss => shares_spec y ww)), trivial⟩ ?_)
              refine A.tn ?_
              refine A.seq ?_
              refine A.region (A.goA [.p, .ld 0, .p, .p, .o, .p, .ld 0, .p, .cl, .p, .o, .ld 0, .cq (b_ (decide ((ofC y.ra y.rb y.rc) > 1))), .p, .cl, .p] [(1, (p_ b1)), (2, (i_ 0)), (30, (.agg #[(u_ y.ra), (u_ y.rb), (u_ y.rc), (u_ y.la), (u_ y.lb), (u_ y.lc), (u_ y.ua), (u_ y.ub), (u_ y.uc)])), (31, (i_ 3)), (32, (b_ false)), (4, (p_ b4)), (3, (i_ 2)), (46, (b_ ((ofC y.ua y.ub y.uc) == 4))), (5, (b_ (((fromI y.hk 1 64) && (fromI y.hq 1 1048576)) && ((decide ((ofC y.ra y.rb y.rc) > 1)) || (decide ((ofC y.la y.lb y.lc) > 1)))))), (6, (b_ (((y.hk == 0) && (y.hq == 0)) && (!(decide ((ofC y.ra y.rb y.rc) > 1))))))] [b1, b1, b1] (fun κ => ((true && (((y.hk == 0) && (y.hq == 0)) == true)) = true → κ.call 39 [(.agg #[(i_ y.hi), (i_ y.hp), (b_ y.hl), (u_ y.ra), (u_ y.rb), (u_ y.rc), (u_ y.la), (u_ y.lb), (u_ y.lc), (u_ y.ua), (u_ y.ub), (u_ y.uc), (i_ y.hk), (i_ y.hq)])] (b_ (decide ((ofC y.ra y.rb y.rc) > 1)))) ∧ True) (by kernel_rfl) ⟨(fun h_ => (fun ww ss => real_spec y ww)), trivial⟩ ?_)
              refine A.tn ?_
              refine A.seq ?_
              refine A.seq ?_
              refine A.region (A.goA [.p, .ld 0, .p, .o, .p, .p, .cl, .p, .o, .p, .ld 0, .p, .p, .o, .p, .p, .cl, .cl, .p, .o, .ld 0, .cq (b_ (decide ((ofC y.ua y.ub y.uc) > 1))), .p, .o, .ld 0, .cq (b_ (decide ((ofC y.la y.lb y.lc) > 1))), .p, .cl, .cl] [(1, (p_ b1)), (2, (i_ 0)), (30, (.agg #[(u_ y.ra), (u_ y.rb), (u_ y.rc), (u_ y.la), (u_ y.lb), (u_ y.lc), (u_ y.ua), (u_ y.ub), (u_ y.uc)])), (31, (i_ 3)), (32, (b_ false)), (4, (p_ b4)), (3, (i_ 2)), (46, (b_ ((ofC y.ua y.ub y.uc) == 4))), (5, (b_ (((fromI y.hk 1 64) && (fromI y.hq 1 1048576)) && ((decide ((ofC y.ra y.rb y.rc) > 1)) || (decide ((ofC y.la y.lb y.lc) > 1)))))), (6, (b_ (((y.hk == 0) && (y.hq == 0)) && (!(decide ((ofC y.ra y.rb y.rc) > 1)))))), (100, (b_ (((y.hl && (!(((fromI y.hk 1 64) && (fromI y.hq 1 1048576)) && ((decide ((ofC y.ra y.rb y.rc) > 1)) || (decide ((ofC y.la y.lb y.lc) > 1)))))) || ((!y.hl) && (!(((y.hk == 0) && (y.hq == 0)) && (!(decide ((ofC y.ra y.rb y.rc) > 1))))))) || ((decide ((ofC y.ua y.ub y.uc) > 1)) && (!(decide ((ofC y.la y.lb y.lc) > 1)))))))] [b1, b1, b1, b1] (fun κ => ((true && (((y.hl && (!(((fromI y.hk 1 64) && (fromI y.hq 1 1048576)) && ((decide ((ofC y.ra y.rb y.rc) > 1)) || (decide ((ofC y.la y.lb y.lc) > 1)))))) || ((!y.hl) && (!(((y.hk == 0) && (y.hq == 0)) && (!(decide ((ofC y.ra y.rb y.rc) > 1))))))) == false)) = true → κ.call 50 [(.agg #[(i_ y.hi), (i_ y.hp), (b_ y.hl), (u_ y.ra), (u_ y.rb), (u_ y.rc), (u_ y.la), (u_ y.lb), (u_ y.lc), (u_ y.ua), (u_ y.ub), (u_ y.uc), (i_ y.hk), (i_ y.hq)])] (b_ (decide ((ofC y.ua y.ub y.uc) > 1)))) ∧ (((true && (((y.hl && (!(((fromI y.hk 1 64) && (fromI y.hq 1 1048576)) && ((decide ((ofC y.ra y.rb y.rc) > 1)) || (decide ((ofC y.la y.lb y.lc) > 1)))))) || ((!y.hl) && (!(((y.hk == 0) && (y.hq == 0)) && (!(decide ((ofC y.ra y.rb y.rc) > 1))))))) == false)) && ((decide ((ofC y.ua y.ub y.uc) > 1)) == true)) = true → κ.call 34 [(.agg #[(i_ y.hi), (i_ y.hp), (b_ y.hl), (u_ y.ra), (u_ y.rb), (u_ y.rc), (u_ y.la), (u_ y.lb), (u_ y.lc), (u_ y.ua), (u_ y.ub), (u_ y.uc), (i_ y.hk), (i_ y.hq)])] (b_ (decide ((ofC y.la y.lb y.lc) > 1)))) ∧ True) (by kernel_rfl) ⟨(fun h_ => (fun ww ss => capped_spec y ww)), (fun h_ => (fun ww ss => shares_spec y ww)), trivial⟩ ?_)
              refine A.tn ?_
              refine A.cond (E := ((y.hl && (!(((fromI y.hk 1 64) && (fromI y.hq 1 1048576)) && ((decide ((ofC y.ra y.rb y.rc) > 1)) || (decide ((ofC y.la y.lb y.lc) > 1)))))) || ((!y.hl) && (!(((y.hk == 0) && (y.hq == 0)) && (!(decide ((ofC y.ra y.rb y.rc) > 1))))))) || ((decide ((ofC y.ua y.ub y.uc) > 1)) && (!(decide ((ofC y.la y.lb y.lc) > 1))))) rfl (fun e7 => ?_) (fun e7 => ?_)
              · skip
                have p7 := e7; try simp only [decide_eq_true_eq, decide_eq_false_iff_not, beq_iff_eq, beq_eq_false_iff_ne, bne_iff_ne, bne_eq_false_iff_eq, ne_eq, Bool.and_eq_true, Bool.or_eq_true, Bool.or_eq_false_iff, Bool.not_eq_true', Bool.not_eq_false', Int.not_lt, Int.not_le, gt_iff_lt, ge_iff_le, Classical.not_not] at p7
                refine A.seq ?_
                refine A.region (A.goA [.p] [(1, (p_ b1)), (2, (i_ 29)), (30, (.agg #[(u_ y.ra), (u_ y.rb), (u_ y.rc), (u_ y.la), (u_ y.lb), (u_ y.lc), (u_ y.ua), (u_ y.ub), (u_ y.uc)])), (31, (i_ 3)), (32, (b_ false)), (4, (p_ b4)), (3, (i_ 2)), (46, (b_ ((ofC y.ua y.ub y.uc) == 4))), (5, (b_ (((fromI y.hk 1 64) && (fromI y.hq 1 1048576)) && ((decide ((ofC y.ra y.rb y.rc) > 1)) || (decide ((ofC y.la y.lb y.lc) > 1)))))), (6, (b_ (((y.hk == 0) && (y.hq == 0)) && (!(decide ((ofC y.ra y.rb y.rc) > 1)))))), (100, (b_ (((y.hl && (!(((fromI y.hk 1 64) && (fromI y.hq 1 1048576)) && ((decide ((ofC y.ra y.rb y.rc) > 1)) || (decide ((ofC y.la y.lb y.lc) > 1)))))) || ((!y.hl) && (!(((y.hk == 0) && (y.hq == 0)) && (!(decide ((ofC y.ra y.rb y.rc) > 1))))))) || ((decide ((ofC y.ua y.ub y.uc) > 1)) && (!(decide ((ofC y.la y.lb y.lc) > 1)))))))] [] T0 (by kernel_rfl) trivial ?_)
                refine A.tn ?_
                refine A.ret ?_
                refine A.tr ?_
                refine A.postQ [(i_ 29)] (fun aa ww rr ss => ⟨rv_tmp rr rfl, trivial⟩) ?_
                show ((i_ 29) : Value) = (i_ (wrongC y))
                refine congrArg (Value.int .i64) ?_; unfold wrongC; unfold fromI at *; grind
              · skip
                have p7 := e7; try simp only [decide_eq_true_eq, decide_eq_false_iff_not, beq_iff_eq, beq_eq_false_iff_ne, bne_iff_ne, bne_eq_false_iff_eq, ne_eq, Bool.and_eq_true, Bool.or_eq_true, Bool.or_eq_false_iff, Bool.not_eq_true', Bool.not_eq_false', Int.not_lt, Int.not_le, gt_iff_lt, ge_iff_le, Classical.not_not] at p7
                refine A.skip ?_
                refine A.tn ?_
                refine A.seq ?_
                refine A.region (A.goA [.p] [(1, (p_ b1)), (2, (i_ 0)), (30, (.agg #[(u_ y.ra), (u_ y.rb), (u_ y.rc), (u_ y.la), (u_ y.lb), (u_ y.lc), (u_ y.ua), (u_ y.ub), (u_ y.uc)])), (31, (i_ 3)), (32, (b_ false)), (4, (p_ b4)), (3, (i_ 2)), (46, (b_ ((ofC y.ua y.ub y.uc) == 4))), (5, (b_ (((fromI y.hk 1 64) && (fromI y.hq 1 1048576)) && ((decide ((ofC y.ra y.rb y.rc) > 1)) || (decide ((ofC y.la y.lb y.lc) > 1)))))), (6, (b_ (((y.hk == 0) && (y.hq == 0)) && (!(decide ((ofC y.ra y.rb y.rc) > 1)))))), (100, (b_ (((y.hl && (!(((fromI y.hk 1 64) && (fromI y.hq 1 1048576)) && ((decide ((ofC y.ra y.rb y.rc) > 1)) || (decide ((ofC y.la y.lb y.lc) > 1)))))) || ((!y.hl) && (!(((y.hk == 0) && (y.hq == 0)) && (!(decide ((ofC y.ra y.rb y.rc) > 1))))))) || ((decide ((ofC y.ua y.ub y.uc) > 1)) && (!(decide ((ofC y.la y.lb y.lc) > 1)))))))] [] T0 (by kernel_rfl) trivial ?_)
                refine A.tn ?_
                refine A.ret ?_
                refine A.postQ [(i_ 0)] (fun aa ww rr ss => ⟨rv_tmp rr rfl, trivial⟩) ?_
                show ((i_ 0) : Value) = (i_ (wrongC y))
                refine congrArg (Value.int .i64) ?_; unfold wrongC; unfold fromI at *; grind
end Go.Proofs.Ytpodcfadcdnllaa
