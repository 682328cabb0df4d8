/- What the functions of this layer do, proved operation by operation, for all arguments, under the conditions that each theorem states. -/
import Derived.Test.YtinnnoimmioaiaaProg
import Derived.Test.YtinnnoimmioaiaaHier2
import Derived.Test.YtinnnoimmioaiaaL2
namespace Go.Proofs.Ytinnnoimmioaiaa
open Go V
set_option linter.unusedVariables false
set_option linter.unusedSimpArgs false
set_option maxHeartbeats 4000000
set_option maxRecDepth 100000

theorem rwrong_spec (y : Cl) (w : World) :
    Calls Try.prog 144 #[(.agg (encCl y).toArray)] w fun e w' => e = .returned (i_ (wrongR y)) ∧ Fr [] w w' := by
  refine calls_of (args := [(.agg (encCl y).toArray)]) (penv [(.agg (encCl y).toArray)]) [] [] Try.func144 rfl rfl (look_penv _) (HS.nil w) ?_
  refine A.sr (A.n1 [.al, .p] [0] (fun b1 => [(1, p_ b1)]) (fun b1 => blk b1 (encCl y) 98) ?_)
  intro b1
  refine A.tn (A.seq (A.sr (A.gk [.p, .ld 0, .p, .p, .o, .p, .ld 0, .p, .cl, .p, .o, .p, .ld 0, .p, .cl, .p, .o, .p, .ld 0, .p, .cl, .p, .o, .p, .ld 0, .p, .ld 0, .p, .cl] [] [(30, b_ (((((decide (y.hi < 1)) || (decide (y.hi > 65536))) || (decide (y.hp < 0))) || (decide (y.hp > 65536))) || (y.hi == y.hp)))] [b1, b1, b1, b1, b1, b1] T0 trivial ?_)))
  refine A.tn (A.cn (((((decide (y.hi < 1)) || (decide (y.hi > 65536))) || (decide (y.hp < 0))) || (decide (y.hp > 65536))) || (y.hi == y.hp)) (fun e1 => ?_) (fun e1 => ?_))
  · have p1 := e1; try simp only [nrm] at p1
    refine A.sr (A.g [.p] [1, 30] [(2, i_ 1)] ?_)
    refine A.tn (A.ret (A.tr (A.pQ [i_ 1] ?_)))
    show ((i_ 1) : Value) = (i_ (wrongR y))
    refine congrArg (Value.int .i64) ?_; unfold wrongR; grind
  have p1 := e1; try simp only [nrm] at p1
  refine A.skip (tsr (A.gk [.p, .ld 0, .cq (i_ (ofR y.ra y.rb y.rc)), .p] [30] [(3, i_ (ofR y.ra y.rb y.rc))] [b1] (fun κ => κ.call 97 [(.agg #[u_ y.ra, u_ y.rb, u_ y.rc])] (i_ (ofR y.ra y.rb y.rc)) ∧ True) ⟨(fun ww ss => rof_spec y.ra y.rb y.rc ww), trivial⟩ ?_))
  refine tsr (A.gk [.p, .ld 0, .cq (i_ (ofR y.la y.lb y.lc)), .p] [] [(4, i_ (ofR y.la y.lb y.lc))] [b1] (fun κ => κ.call 97 [(.agg #[u_ y.la, u_ y.lb, u_ y.lc])] (i_ (ofR y.la y.lb y.lc)) ∧ True) ⟨(fun ww ss => rof_spec y.la y.lb y.lc ww), trivial⟩ ?_)
  refine tsr (A.gk [.p, .ld 0, .cq (i_ (ofR y.ua y.ub y.uc)), .p] [] [(5, i_ (ofR y.ua y.ub y.uc))] [b1] (fun κ => κ.call 97 [(.agg #[u_ y.ua, u_ y.ub, u_ y.uc])] (i_ (ofR y.ua y.ub y.uc)) ∧ True) ⟨(fun ww ss => rof_spec y.ua y.ub y.uc ww), trivial⟩ ?_)
  refine A.tn (A.seq (A.sr (A.g [.p, .p, .p, .o, .p, .p, .cl, .p, .o, .p, .p, .cl, .p, .o, .p, .p, .cl, .p, .o, .p, .p, .cl] [] [(57, b_ ((((((ofR y.ra y.rb y.rc) == 0) || ((ofR y.la y.lb y.lc) == 0)) || ((ofR y.ua y.ub y.uc) == 0)) || ((ofR y.la y.lb y.lc) == 4)) || ((ofR y.ua y.ub y.uc) == 4)))] ?_)))
  refine A.tn (A.cn ((((((ofR y.ra y.rb y.rc) == 0) || ((ofR y.la y.lb y.lc) == 0)) || ((ofR y.ua y.ub y.uc) == 0)) || ((ofR y.la y.lb y.lc) == 4)) || ((ofR y.ua y.ub y.uc) == 4)) (fun e2 => ?_) (fun e2 => ?_))
  · have p2 := e2; try simp only [nrm] at p2
    refine A.sr (A.g [.p] [1, 3, 4, 5, 57] [(2, i_ 21)] ?_)
    refine A.tn (A.ret (A.tr (A.pQ [i_ 21] ?_)))
    show ((i_ 21) : Value) = (i_ (wrongR y))
    refine congrArg (Value.int .i64) ?_; unfold wrongR; grind
  have p2 := e2; try simp only [nrm] at p2
  refine A.skip (A.tn (A.seq (A.sr (A.g [.p, .p, .p, .o, .p, .p, .cl] [5, 57] [(63, b_ ((decide ((ofR y.ua y.ub y.uc) > 1)) && ((ofR y.la y.lb y.lc) == 1)))] ?_))))
  refine A.tn (A.cn ((decide ((ofR y.ua y.ub y.uc) > 1)) && ((ofR y.la y.lb y.lc) == 1)) (fun e3 => ?_) (fun e3 => ?_))
  · have p3 := e3; try simp only [nrm] at p3
    refine A.sr (A.g [.p] [1, 3, 4, 63] [(2, i_ 29)] ?_)
    refine A.tn (A.ret (A.tr (A.pQ [i_ 29] ?_)))
    show ((i_ 29) : Value) = (i_ (wrongR y))
    refine congrArg (Value.int .i64) ?_; unfold wrongR; grind
  have p3 := e3; try simp only [nrm] at p3
  refine A.skip (A.tn (A.seq (A.sr (A.gk [.p, .ld 0] [63] [(65, b_ y.hl)] [b1] T0 trivial ?_))))
  refine A.tn (A.cn y.hl (fun e4 => ?_) (fun e4 => ?_))
  · have p4 := e4; try simp only [nrm] at p4
    refine A.seq (A.sr (A.gk [.p, .ld 0, .p, .p, .o, .p, .ld 0, .p, .cl, .p, .o, .p, .ld 0, .p, .cl, .p, .o, .p, .ld 0, .p, .cl, .p, .o, .p, .p, .p, .o, .p, .p, .cl, .cl] [1, 3, 4, 65] [(91, b_ (((((decide (y.hk < 1)) || (decide (y.hk > 64))) || (decide (y.hq < 1))) || (decide (y.hq > 1048576))) || (((ofR y.ra y.rb y.rc) == 1) && ((ofR y.la y.lb y.lc) == 1))))] [b1, b1, b1, b1] T0 trivial ?_))
    refine A.tn (A.cn (((((decide (y.hk < 1)) || (decide (y.hk > 64))) || (decide (y.hq < 1))) || (decide (y.hq > 1048576))) || (((ofR y.ra y.rb y.rc) == 1) && ((ofR y.la y.lb y.lc) == 1))) (fun e5 => ?_) (fun e5 => ?_))
    · have p5 := e5; try simp only [nrm] at p5
      refine A.sr (A.g [.p] [91] [(2, i_ 29)] ?_)
      refine A.tn (A.ret (A.tr (A.tr (A.pQ [i_ 29] ?_))))
      show ((i_ 29) : Value) = (i_ (wrongR y))
      refine congrArg (Value.int .i64) ?_; unfold wrongR; grind
    have p5 := e5; try simp only [nrm] at p5
    refine A.skip (tsr (A.g [.p] [91] [(2, i_ 0)] ?_))
    refine A.tn (A.ret (A.tr (A.pQ [i_ 0] ?_)))
    show ((i_ 0) : Value) = (i_ (wrongR y))
    refine congrArg (Value.int .i64) ?_; unfold wrongR; grind
  have p4 := e4; try simp only [nrm] at p4
  refine A.skip (A.tn (A.seq (A.sr (A.gk [.p, .ld 0, .p, .p, .o, .p, .ld 0, .p, .cl, .p, .o, .p, .p, .cl] [1, 3, 4, 65] [(103, b_ (((y.hk != 0) || (y.hq != 0)) || ((ofR y.ra y.rb y.rc) != 1)))] [b1, b1] T0 trivial ?_))))
  refine A.tn (A.cn (((y.hk != 0) || (y.hq != 0)) || ((ofR y.ra y.rb y.rc) != 1)) (fun e6 => ?_) (fun e6 => ?_))
  · have p6 := e6; try simp only [nrm] at p6
    refine A.sr (A.g [.p] [103] [(2, i_ 29)] ?_)
    refine A.tn (A.ret (A.tr (A.pQ [i_ 29] ?_)))
    show ((i_ 29) : Value) = (i_ (wrongR y))
    refine congrArg (Value.int .i64) ?_; unfold wrongR; grind
  have p6 := e6; try simp only [nrm] at p6
  refine A.skip (tsr (A.g [.p] [103] [(2, i_ 0)] ?_))
  refine A.tn (A.ret (A.pQ [i_ 0] ?_))
  show ((i_ 0) : Value) = (i_ (wrongR y))
  refine congrArg (Value.int .i64) ?_; unfold wrongR; grind

theorem right_spec (y : Cl) (w : World) :
    Calls Try.prog 111 #[(.agg (encCl y).toArray)] w fun e w' => e = .returned (i_ (wrongC y)) ∧ Fr [] w w' := by
  have q1 := ofC_rng y.ra y.rb y.rc; have q2 := ofC_rng y.la y.lb y.lc; have q3 := ofC_rng y.ua y.ub y.uc
  refine calls_of (args := [(.agg (encCl y).toArray)]) (penv [(.agg (encCl y).toArray)]) [] [] Try.func111 rfl rfl (look_penv _) (HS.nil w) ?_
  refine A.sr (A.n1 [.al, .p] [0] (fun b1 => [(1, p_ b1)]) (fun b1 => blk b1 (encCl y) 98) ?_)
  intro b1
  refine A.tn (A.seq (A.sr (A.gk [.p, .ld 0, .cq (b_ (fromI y.hi 1 65536)), .p, .p, .o, .p, .ld 0, .cq (b_ (fromI y.hp 0 65536)), .p, .cl, .p, .o, .p, .ld 0, .p, .ld 0, .p, .cl] [] [(23, b_ (((!(fromI y.hi 1 65536)) || (!(fromI y.hp 0 65536))) || (y.hp == y.hi)))] [b1, b1, b1, b1] (fun κ => κ.call 141 [i_ y.hi, i_ 1, i_ 65536] (b_ (fromI y.hi 1 65536)) ∧ ((true && ((!(fromI y.hi 1 65536)) == false)) = true → κ.call 141 [i_ y.hp, i_ 0, i_ 65536] (b_ (fromI y.hp 0 65536))) ∧ True) ⟨(fun ww ss => from_spec y.hi 1 65536 ww), (fun h_ => (fun ww ss => from_spec y.hp 0 65536 ww)), trivial⟩ ?_)))
  refine A.tn (A.cn (((!(fromI y.hi 1 65536)) || (!(fromI y.hp 0 65536))) || (y.hp == y.hi)) (fun e1 => ?_) (fun e1 => ?_))
  · have p1 := e1; try simp only [nrm] at p1
    refine A.sr (A.g [.p] [1, 23] [(2, i_ 1)] ?_)
    refine A.tn (A.ret (A.tr (A.pQ [i_ 1] ?_)))
    show ((i_ 1) : Value) = (i_ (wrongC y))
    refine congrArg (Value.int .i64) ?_; unfold wrongC; unfold fromI at *; grind
  have p1 := e1; try simp only [nrm] at p1
  refine A.skip (A.tn (A.seq (A.sr (A.gk [.p, .ld 0, .p, .ld 0, .p, .ld 0, .p, .p] [23] [(30, (.agg #[u_ y.ra, u_ y.rb, u_ y.rc, u_ y.la, u_ y.lb, u_ y.lc, u_ y.ua, u_ y.ub, u_ y.uc])), (31, i_ 0)] [b1, b1, b1] T0 trivial ?_))))
  refine A.tn (A.block (A.unroll 400 ?_))
  refine A.turnk (m := 399) ?_
  refine A.sr (A.g [.p] [] [(32, b_ true)] ?_)
  refine A.tn (A.seq (A.ct (A.skip (A.tn (A.seq (A.block (A.sr (A.g1 [.p, .p, .al, .p, .st 1] [32] (fun b2 => [(4, p_ b2), (3, i_ 0)]) (fun b2 => []) (fun b2 => blk b2 [u_ y.ra, u_ y.rb, u_ y.rc] 43) (fun b2 => [b2]) ?_))))))))
  intro b2
  refine tsr (A.gpk [.ld 1, .cq (b_ (ofC y.ra y.rb y.rc != 0)), .p, .p] [] [(38, b_ (!(ofC y.ra y.rb y.rc != 0)))] [b2] (fun κ => κ.call 85 [(.agg #[u_ y.ra, u_ y.rb, u_ y.rc])] (b_ (ofC y.ra y.rb y.rc != 0)) ∧ True) ⟨(fun ww ss => cright_spec y.ra y.rb y.rc ww), trivial⟩ ?_)
  refine A.bool (!(ofC y.ra y.rb y.rc != 0)) (fun e2 => ?_) (fun e2 => ?_)
  · refine A.sv 38 (b_ true) (cgB e2) ?_
    refine A.g [.sk, .sk, .sk, .sk, .sk, .sk, .sk, .p] [4, 3, 38] [(46, b_ true)] ?_
    refine A.tn (A.ct (A.sr (A.g [.p] [1, 30, 31, 46] [(2, i_ 21)] ?_)))
    refine A.tn (A.ret (A.br (A.tr (A.tr (A.br (A.tr (A.pQ [i_ 21] ?_)))))))
    show ((i_ 21) : Value) = (i_ (wrongC y))
    refine congrArg (Value.int .i64) ?_; unfold wrongC; unfold fromI at *; grind
  refine A.sv 38 (b_ false) (cgB e2) ?_
  refine A.g [.p, .p, .p, .sk, .sk, .sk, .p, .p] [4, 3, 38] [(39, i_ 0), (40, b_ false), (41, b_ false), (45, b_ false), (46, b_ false)] ?_
  refine A.tn (A.cf (A.skip (A.bn (tr (A.g [.p, .p] [46] [(31, i_ 1)] ?_)))))
  refine A.tn (A.turnk (m := 398) ?_)
  refine A.sr (A.g [.p] [] [(32, b_ true)] ?_)
  refine A.tn (A.seq (A.ct (A.skip (A.tn (A.seq (A.block (A.sr (A.g1 [.p, .p, .al, .p, .st 2] [32] (fun b3 => [(4, p_ b3), (3, i_ 1)]) (fun b3 => []) (fun b3 => blk b3 [u_ y.la, u_ y.lb, u_ y.lc] 43) (fun b3 => [b3]) ?_))))))))
  intro b3
  refine tsr (A.gpk [.ld 2, .cq (b_ (ofC y.la y.lb y.lc != 0)), .p, .p] [] [(38, b_ (!(ofC y.la y.lb y.lc != 0)))] [b3] (fun κ => κ.call 85 [(.agg #[u_ y.la, u_ y.lb, u_ y.lc])] (b_ (ofC y.la y.lb y.lc != 0)) ∧ True) ⟨(fun ww ss => cright_spec y.la y.lb y.lc ww), trivial⟩ ?_)
  refine A.bool (!(ofC y.la y.lb y.lc != 0)) (fun e3 => ?_) (fun e3 => ?_)
  · refine A.sv 38 (b_ true) (cgB e3) ?_
    refine A.g [.sk, .sk, .sk, .sk, .sk, .sk, .sk, .p] [39, 40, 41, 45, 4, 3, 38] [(46, b_ true)] ?_
    refine A.tn (A.ct (A.sr (A.g [.p] [1, 30, 31, 46] [(2, i_ 21)] ?_)))
    refine A.tn (A.ret (A.br (A.tr (A.tr (A.br (A.tr (A.pQ [i_ 21] ?_)))))))
    show ((i_ 21) : Value) = (i_ (wrongC y))
    refine congrArg (Value.int .i64) ?_; unfold wrongC; unfold fromI at *; grind
  refine A.sv 38 (b_ false) (cgB e3) ?_
  refine A.gk [.p, .p, .p, .ld 2, .cq (i_ (ofC y.la y.lb y.lc)), .p, .p, .p] [4, 3, 38] [(39, i_ 1), (40, b_ true), (41, b_ true), (45, b_ ((ofC y.la y.lb y.lc) == 4)), (42, (.agg #[u_ y.la, u_ y.lb, u_ y.lc])), (43, i_ (ofC y.la y.lb y.lc)), (44, b_ ((ofC y.la y.lb y.lc) == 4)), (46, b_ ((ofC y.la y.lb y.lc) == 4))] [b3] (fun κ => κ.call 86 [(.agg #[u_ y.la, u_ y.lb, u_ y.lc])] (i_ (ofC y.la y.lb y.lc)) ∧ True) ⟨(fun ww ss => of_spec y.la y.lb y.lc ww), trivial⟩ ?_
  refine A.tn (A.cn ((ofC y.la y.lb y.lc) == 4) (fun e4 => ?_) (fun e4 => ?_))
  · have p4 := e4; try simp only [nrm] at p4
    refine A.sr (A.g [.p] [1, 30, 31, 39, 40, 41, 45, 42, 43, 44, 46] [(2, i_ 21)] ?_)
    refine A.tn (A.ret (A.br (A.tr (A.tr (A.br (A.tr (A.pQ [i_ 21] ?_)))))))
    show ((i_ 21) : Value) = (i_ (wrongC y))
    refine congrArg (Value.int .i64) ?_; unfold wrongC; unfold fromI at *; grind
  have p4 := e4; try simp only [nrm] at p4
  refine A.skip (A.bn (tr (A.g [.p, .p] [46] [(31, i_ 2)] ?_)))
  refine A.tn (A.turnk (m := 397) ?_)
  refine A.sr (A.g [.p] [] [(32, b_ true)] ?_)
  refine A.tn (A.seq (A.ct (A.skip (A.tn (A.seq (A.block (A.sr (A.goA1 [.p, .p, .al, .p, .st 3] [1, 30, 31, 39, 40, 41, 45, 42, 43, 44, 4, 3] (fun b4 => [(1, p_ b1), (30, (.agg #[u_ y.ra, u_ y.rb, u_ y.rc, u_ y.la, u_ y.lb, u_ y.lc, u_ y.ua, u_ y.ub, u_ y.uc])), (31, i_ 2), (39, i_ 1), (40, b_ true), (41, b_ true), (45, b_ ((ofC y.la y.lb y.lc) == 4)), (42, (.agg #[u_ y.la, u_ y.lb, u_ y.lc])), (43, i_ (ofC y.la y.lb y.lc)), (44, b_ ((ofC y.la y.lb y.lc) == 4)), (4, p_ b4), (3, i_ 2)]) (fun b4 => [blk b1 (encCl y) 98, blk b2 [u_ y.ra, u_ y.rb, u_ y.rc] 43, blk b3 [u_ y.la, u_ y.lb, u_ y.lc] 43, blk b4 [u_ y.ua, u_ y.ub, u_ y.uc] 43]) (fun b4 => [b4]) (fun _ => T0) (fun _ => by kernel_rfl) (fun b4 => trivial) ?_))))))))
  intro b4
  refine tsr (A.gpk [.ld 3, .cq (b_ (ofC y.ua y.ub y.uc != 0)), .p, .p] [] [(38, b_ (!(ofC y.ua y.ub y.uc != 0)))] [b4] (fun κ => κ.call 85 [(.agg #[u_ y.ua, u_ y.ub, u_ y.uc])] (b_ (ofC y.ua y.ub y.uc != 0)) ∧ True) ⟨(fun ww ss => cright_spec y.ua y.ub y.uc ww), trivial⟩ ?_)
  refine A.bool (!(ofC y.ua y.ub y.uc != 0)) (fun e5 => ?_) (fun e5 => ?_)
  · refine A.sv 38 (b_ true) (cgB e5) ?_
    refine A.g [.sk, .sk, .sk, .sk, .sk, .sk, .sk, .p] [39, 40, 41, 45, 42, 43, 44, 4, 3, 38] [(46, b_ true)] ?_
    refine A.tn (A.ct (A.sr (A.g [.p] [1, 30, 31, 46] [(2, i_ 21)] ?_)))
    refine A.tn (A.ret (A.br (A.tr (A.tr (A.br (A.tr (A.pQ [i_ 21] ?_)))))))
    show ((i_ 21) : Value) = (i_ (wrongC y))
    refine congrArg (Value.int .i64) ?_; unfold wrongC; unfold fromI at *; grind
  refine A.sv 38 (b_ false) (cgB e5) ?_
  refine A.gk [.p, .p, .p, .ld 3, .cq (i_ (ofC y.ua y.ub y.uc)), .p, .p, .p] [4, 3, 38] [(39, i_ 2), (45, b_ ((ofC y.ua y.ub y.uc) == 4)), (42, (.agg #[u_ y.ua, u_ y.ub, u_ y.uc])), (43, i_ (ofC y.ua y.ub y.uc)), (44, b_ ((ofC y.ua y.ub y.uc) == 4)), (46, b_ ((ofC y.ua y.ub y.uc) == 4))] [b4] (fun κ => κ.call 86 [(.agg #[u_ y.ua, u_ y.ub, u_ y.uc])] (i_ (ofC y.ua y.ub y.uc)) ∧ True) ⟨(fun ww ss => of_spec y.ua y.ub y.uc ww), trivial⟩ ?_
  refine A.tn (A.cn ((ofC y.ua y.ub y.uc) == 4) (fun e6 => ?_) (fun e6 => ?_))
  · have p6 := e6; try simp only [nrm] at p6
    refine A.sr (A.g [.p] [1, 30, 31, 39, 40, 41, 45, 42, 43, 44, 46] [(2, i_ 21)] ?_)
    refine A.tn (A.ret (A.br (A.tr (A.tr (A.br (A.tr (A.pQ [i_ 21] ?_)))))))
    show ((i_ 21) : Value) = (i_ (wrongC y))
    refine congrArg (Value.int .i64) ?_; unfold wrongC; unfold fromI at *; grind
  have p6 := e6; try simp only [nrm] at p6
  refine A.skip (A.bn (tr (A.g [.p, .p] [46] [(31, i_ 3)] ?_)))
  refine A.tn (A.turnk (m := 396) ?_)
  refine A.sr (A.g [.p] [] [(32, b_ false)] ?_)
  refine A.tn (A.seq (A.cf (A.exit (A.te (A.te (A.bh (tsr (A.gk [.p, .ld 0, .cq (b_ (fromI y.hk 1 64)), .p, .o, .p, .ld 0, .cq (b_ (fromI y.hq 1 1048576)), .cl, .p, .o, .ld 0, .cq (b_ (decide ((ofC y.ra y.rb y.rc) > 1))), .p, .o, .ld 0, .cq (b_ (decide ((ofC y.la y.lb y.lc) > 1))), .cl, .cl, .p] [30, 31, 39, 40, 41, 45, 42, 43, 44, 32] [(5, b_ (((fromI y.hk 1 64) && (fromI y.hq 1 1048576)) && ((decide ((ofC y.ra y.rb y.rc) > 1)) || (decide ((ofC y.la y.lb y.lc) > 1)))))] [b1, b1, b1, b1] (fun κ => κ.call 141 [i_ y.hk, i_ 1, i_ 64] (b_ (fromI y.hk 1 64)) ∧ ((true && ((fromI y.hk 1 64) == true)) = true → κ.call 141 [i_ y.hq, i_ 1, i_ 1048576] (b_ (fromI y.hq 1 1048576))) ∧ ((true && (((fromI y.hk 1 64) && (fromI y.hq 1 1048576)) == true)) = true → κ.call 82 [(.agg (encCl y).toArray)] (b_ (decide ((ofC y.ra y.rb y.rc) > 1)))) ∧ (((true && (((fromI y.hk 1 64) && (fromI y.hq 1 1048576)) == true)) && ((decide ((ofC y.ra y.rb y.rc) > 1)) == false)) = true → κ.call 58 [(.agg (encCl y).toArray)] (b_ (decide ((ofC y.la y.lb y.lc) > 1)))) ∧ True) ⟨(fun ww ss => from_spec y.hk 1 64 ww), (fun h_ => (fun ww ss => from_spec y.hq 1 1048576 ww)), (fun h_ => (fun ww ss => real_spec y ww)), (fun h_ => (fun ww ss => shares_spec y ww)), trivial⟩ ?_))))))))
  refine tsr (A.gk [.p, .ld 0, .p, .p, .o, .p, .ld 0, .p, .cl, .p, .o, .ld 0, .cq (b_ (decide ((ofC y.ra y.rb y.rc) > 1))), .p, .cl, .p] [] [(6, b_ (((y.hk == 0) && (y.hq == 0)) && (!(decide ((ofC y.ra y.rb y.rc) > 1)))))] [b1, b1, b1] (fun κ => ((true && (((y.hk == 0) && (y.hq == 0)) == true)) = true → κ.call 82 [(.agg (encCl y).toArray)] (b_ (decide ((ofC y.ra y.rb y.rc) > 1)))) ∧ True) ⟨(fun h_ => (fun ww ss => real_spec y ww)), trivial⟩ ?_)
  refine A.tn (A.seq (A.sr (A.gk [.p, .ld 0, .p, .o, .p, .p, .cl, .p, .o, .p, .ld 0, .p, .p, .o, .p, .p, .cl, .cl, .p, .o, .ld 0, .cq (b_ (decide ((ofC y.ua y.ub y.uc) > 1))), .p, .o, .ld 0, .cq (b_ (decide ((ofC y.la y.lb y.lc) > 1))), .p, .cl, .cl] [1, 5, 6] [(100, b_ (((y.hl && (!(((fromI y.hk 1 64) && (fromI y.hq 1 1048576)) && ((decide ((ofC y.ra y.rb y.rc) > 1)) || (decide ((ofC y.la y.lb y.lc) > 1)))))) || ((!y.hl) && (!(((y.hk == 0) && (y.hq == 0)) && (!(decide ((ofC y.ra y.rb y.rc) > 1))))))) || ((decide ((ofC y.ua y.ub y.uc) > 1)) && (!(decide ((ofC y.la y.lb y.lc) > 1))))))] [b1, b1, b1, b1] (fun κ => ((true && (((y.hl && (!(((fromI y.hk 1 64) && (fromI y.hq 1 1048576)) && ((decide ((ofC y.ra y.rb y.rc) > 1)) || (decide ((ofC y.la y.lb y.lc) > 1)))))) || ((!y.hl) && (!(((y.hk == 0) && (y.hq == 0)) && (!(decide ((ofC y.ra y.rb y.rc) > 1))))))) == false)) = true → κ.call 142 [(.agg (encCl y).toArray)] (b_ (decide ((ofC y.ua y.ub y.uc) > 1)))) ∧ (((true && (((y.hl && (!(((fromI y.hk 1 64) && (fromI y.hq 1 1048576)) && ((decide ((ofC y.ra y.rb y.rc) > 1)) || (decide ((ofC y.la y.lb y.lc) > 1)))))) || ((!y.hl) && (!(((y.hk == 0) && (y.hq == 0)) && (!(decide ((ofC y.ra y.rb y.rc) > 1))))))) == false)) && ((decide ((ofC y.ua y.ub y.uc) > 1)) == true)) = true → κ.call 58 [(.agg (encCl y).toArray)] (b_ (decide ((ofC y.la y.lb y.lc) > 1)))) ∧ True) ⟨(fun h_ => (fun ww ss => capped_spec y ww)), (fun h_ => (fun ww ss => shares_spec y ww)), trivial⟩ ?_)))
  refine A.tn (A.cn (((y.hl && (!(((fromI y.hk 1 64) && (fromI y.hq 1 1048576)) && ((decide ((ofC y.ra y.rb y.rc) > 1)) || (decide ((ofC y.la y.lb y.lc) > 1)))))) || ((!y.hl) && (!(((y.hk == 0) && (y.hq == 0)) && (!(decide ((ofC y.ra y.rb y.rc) > 1))))))) || ((decide ((ofC y.ua y.ub y.uc) > 1)) && (!(decide ((ofC y.la y.lb y.lc) > 1))))) (fun e7 => ?_) (fun e7 => ?_))
  · have p7 := e7; try simp only [nrm] at p7
    refine A.sr (A.g [.p] [100] [(2, i_ 29)] ?_)
    refine A.tn (A.ret (A.tr (A.pQ [i_ 29] ?_)))
    show ((i_ 29) : Value) = (i_ (wrongC y))
    refine congrArg (Value.int .i64) ?_; unfold wrongC; unfold fromI at *; grind
  have p7 := e7; try simp only [nrm] at p7
  refine A.skip (tsr (A.g [.p] [100] [(2, i_ 0)] ?_))
  refine A.tn (A.ret (A.pQ [i_ 0] ?_))
  show ((i_ 0) : Value) = (i_ (wrongC y))
  refine congrArg (Value.int .i64) ?_; unfold wrongC; unfold fromI at *; grind
end Go.Proofs.Ytinnnoimmioaiaa
