/- What the functions of this layer do, proved operation by operation, for all arguments, under the conditions that each theorem states. -/
import Derived.Test.YtinnnoimmioaiaaGreatProg
import Derived.Test.YtinnnoimmioaiaaGreatHierS
import Derived.Test.YtinnnoimmioaiaaGreatCurve1
import Derived.Test.YtinnnoimmioaiaaGreatL2
namespace Go.Proofs.YtinnnoimmioaiaaGreat
open Go V
set_option linter.unusedVariables false
set_option linter.unusedSimpArgs false
set_option maxHeartbeats 4000000
set_option maxRecDepth 100000
def fromI (n a b : Int) : Bool := decide (n ≥ a) && decide (n ≤ b)
def wrongC (y : Cl) : Int :=
  if y.hi < 1 ∨ y.hi > 65536 ∨ y.hp < 0 ∨ y.hp > 65536 ∨ y.hi = y.hp then 1
  else if (ofC y.ra y.rb y.rc) = 0 ∨ (ofC y.la y.lb y.lc) = 0 ∨ (ofC y.ua y.ub y.uc) = 0 ∨ (ofC y.la y.lb y.lc) = 4 ∨ (ofC y.ua y.ub y.uc) = 4 then 21
  else if (ofC y.ua y.ub y.uc) > 1 ∧ (ofC y.la y.lb y.lc) = 1 then 29
  else if y.hl = true then (if y.hk < 1 ∨ y.hk > 64 ∨ y.hq < 1 ∨ y.hq > 1048576 ∨ ((ofC y.ra y.rb y.rc) = 1 ∧ (ofC y.la y.lb y.lc) = 1) then 29 else 0)
  else if y.hk ≠ 0 ∨ y.hq ≠ 0 ∨ (ofC y.ra y.rb y.rc) ≠ 1 then 29 else 0
def wrongR (y : Cl) : Int :=
  if y.hi < 1 ∨ y.hi > 65536 ∨ y.hp < 0 ∨ y.hp > 65536 ∨ y.hi = y.hp then 1
  else if (ofR y.ra y.rb y.rc) = 0 ∨ (ofR y.la y.lb y.lc) = 0 ∨ (ofR y.ua y.ub y.uc) = 0 ∨ (ofR y.la y.lb y.lc) = 4 ∨ (ofR y.ua y.ub y.uc) = 4 then 21
  else if (ofR y.ua y.ub y.uc) > 1 ∧ (ofR y.la y.lb y.lc) = 1 then 29
  else if y.hl = true then (if y.hk < 1 ∨ y.hk > 64 ∨ y.hq < 1 ∨ y.hq > 1048576 ∨ ((ofR y.ra y.rb y.rc) = 1 ∧ (ofR y.la y.lb y.lc) = 1) then 29 else 0)
  else if y.hk ≠ 0 ∨ y.hq ≠ 0 ∨ (ofR y.ra y.rb y.rc) ≠ 1 then 29 else 0

theorem has_spec (a b c : Int) (w : World) :
    Calls Tryz.prog 62 #[(.agg #[u_ a, u_ b, u_ c])] w fun e w' => e = .returned (b_ (decide (ofC a b c > 1))) ∧ Fr [] w w' := by
  refine calls_of (args := [(.agg #[u_ a, u_ b, u_ c])]) (penv [(.agg #[u_ a, u_ b, u_ c])]) [] [] Tryz.func62 rfl rfl (look_penv _) (HS.nil w) ?_
  refine A.sr (A.n1 [.al, .p] [0] (fun b1 => [(1, p_ b1)]) (fun b1 => blk b1 [u_ a, u_ b, u_ c] 46) ?_)
  intro b1
  refine tsr (A.gk [.ld 0, .cq (i_ (ofC a b c)), .p, .p] [1] [(2, b_ (decide ((ofC a b c) > 1)))] [b1] (fun κ => κ.call 65 [(.agg #[u_ a, u_ b, u_ c])] (i_ (ofC a b c)) ∧ True) ⟨(fun ww ss => of_spec a b c ww), trivial⟩ ?_)
  refine A.tn (A.ret (A.pQ [b_ (decide ((ofC a b c) > 1))] ?_))
  show ((b_ (decide ((ofC a b c) > 1))) : Value) = (b_ (decide (ofC a b c > 1)))
  rfl

theorem real_spec (y : Cl) (w : World) :
    Calls Tryz.prog 37 #[(.agg (encCl y).toArray)] w fun e w' => e = .returned (b_ (decide ((ofC y.ra y.rb y.rc) > 1))) ∧ Fr [] w w' := by
  refine calls_of (args := [(.agg (encCl y).toArray)]) (penv [(.agg (encCl y).toArray)]) [] [] Tryz.func37 rfl rfl (look_penv _) (HS.nil w) ?_
  refine A.sr (A.n1 [.al, .p] [0] (fun b1 => [(1, p_ b1)]) (fun b1 => blk b1 (encCl y) 48) ?_)
  intro b1
  refine tsr (A.gk [.p, .ld 0, .cq (b_ (decide (ofC y.ra y.rb y.rc > 1))), .p] [1] [(2, b_ (decide (ofC y.ra y.rb y.rc > 1)))] [b1] (fun κ => κ.call 62 [(.agg #[u_ y.ra, u_ y.rb, u_ y.rc])] (b_ (decide (ofC y.ra y.rb y.rc > 1))) ∧ True) ⟨(fun ww ss => has_spec y.ra y.rb y.rc ww), trivial⟩ ?_)
  refine A.tn (A.ret (A.pQ [b_ (decide (ofC y.ra y.rb y.rc > 1))] ?_))
  show ((b_ (decide (ofC y.ra y.rb y.rc > 1))) : Value) = (b_ (decide ((ofC y.ra y.rb y.rc) > 1)))
  rfl

theorem shares_spec (y : Cl) (w : World) :
    Calls Tryz.prog 42 #[(.agg (encCl y).toArray)] w fun e w' => e = .returned (b_ (decide ((ofC y.la y.lb y.lc) > 1))) ∧ Fr [] w w' := by
  refine calls_of (args := [(.agg (encCl y).toArray)]) (penv [(.agg (encCl y).toArray)]) [] [] Tryz.func42 rfl rfl (look_penv _) (HS.nil w) ?_
  refine A.sr (A.n1 [.al, .p] [0] (fun b1 => [(1, p_ b1)]) (fun b1 => blk b1 (encCl y) 48) ?_)
  intro b1
  refine tsr (A.gk [.p, .ld 0, .cq (b_ (decide (ofC y.la y.lb y.lc > 1))), .p] [1] [(2, b_ (decide (ofC y.la y.lb y.lc > 1)))] [b1] (fun κ => κ.call 62 [(.agg #[u_ y.la, u_ y.lb, u_ y.lc])] (b_ (decide (ofC y.la y.lb y.lc > 1))) ∧ True) ⟨(fun ww ss => has_spec y.la y.lb y.lc ww), trivial⟩ ?_)
  refine A.tn (A.ret (A.pQ [b_ (decide (ofC y.la y.lb y.lc > 1))] ?_))
  show ((b_ (decide (ofC y.la y.lb y.lc > 1))) : Value) = (b_ (decide ((ofC y.la y.lb y.lc) > 1)))
  rfl

theorem capped_spec (y : Cl) (w : World) :
    Calls Tryz.prog 66 #[(.agg (encCl y).toArray)] w fun e w' => e = .returned (b_ (decide ((ofC y.ua y.ub y.uc) > 1))) ∧ Fr [] w w' := by
  refine calls_of (args := [(.agg (encCl y).toArray)]) (penv [(.agg (encCl y).toArray)]) [] [] Tryz.func66 rfl rfl (look_penv _) (HS.nil w) ?_
  refine A.sr (A.n1 [.al, .p] [0] (fun b1 => [(1, p_ b1)]) (fun b1 => blk b1 (encCl y) 48) ?_)
  intro b1
  refine tsr (A.gk [.p, .ld 0, .cq (b_ (decide (ofC y.ua y.ub y.uc > 1))), .p] [1] [(2, b_ (decide (ofC y.ua y.ub y.uc > 1)))] [b1] (fun κ => κ.call 62 [(.agg #[u_ y.ua, u_ y.ub, u_ y.uc])] (b_ (decide (ofC y.ua y.ub y.uc > 1))) ∧ True) ⟨(fun ww ss => has_spec y.ua y.ub y.uc ww), trivial⟩ ?_)
  refine A.tn (A.ret (A.pQ [b_ (decide (ofC y.ua y.ub y.uc > 1))] ?_))
  show ((b_ (decide (ofC y.ua y.ub y.uc > 1))) : Value) = (b_ (decide ((ofC y.ua y.ub y.uc) > 1)))
  rfl

theorem from_spec (n a b : Int) (w : World) :
    Calls Tryz.prog 63 #[i_ n, i_ a, i_ b] w fun e w' => e = .returned (b_ (fromI n a b)) ∧ Fr [] w w' := by
  refine calls_of (args := [i_ n, i_ a, i_ b]) (penv [i_ n, i_ a, i_ b]) [] [] Tryz.func63 rfl rfl (look_penv _) (HS.nil w) ?_
  refine A.sr (A.g [.p] [] [] ?_)
  refine tsr (A.g [.p, .p, .p, .p, .o, .p, .p, .p, .cl, .p] [0, 1, 2] [(6, b_ ((decide (n ≥ a)) && (decide (n ≤ b))))] ?_)
  refine A.tn (A.ret (A.pQ [b_ ((decide (n ≥ a)) && (decide (n ≤ b)))] ?_))
  show ((b_ ((decide (n ≥ a)) && (decide (n ≤ b)))) : Value) = (b_ (fromI n a b))
  rfl
end Go.Proofs.YtinnnoimmioaiaaGreat
