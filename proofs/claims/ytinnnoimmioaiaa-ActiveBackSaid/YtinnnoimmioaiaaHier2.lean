/- What the functions of this layer do, proved operation by operation, for all arguments, under the conditions that each theorem states. -/
import Derived.Test.YtinnnoimmioaiaaProg
import Derived.Test.YtinnnoimmioaiaaHierS
import Derived.Test.YtinnnoimmioaiaaCurve1
namespace Go.Proofs.Ytinnnoimmioaiaa
open Go V
set_option linter.unusedVariables false
set_option linter.unusedSimpArgs false
def fromI (n a b : Int) : Bool := decide (n ≥ a) && decide (n ≤ b)
def wrongC (y : Cl) : Int :=
  if y.hi < 1 ∨ y.hi > 65536 ∨ y.hp < 0 ∨ y.hp > 65536 ∨ y.hi = y.hp then 1
  else if (ofC y.ra y.rb y.rc) = 0 ∨ (ofC y.la y.lb y.lc) = 0 ∨ (ofC y.ua y.ub y.uc) = 0 ∨ (ofC y.la y.lb y.lc) = 4 ∨ (ofC y.ua y.ub y.uc) = 4 then 21
  else if (ofC y.ua y.ub y.uc) > 1 ∧ (ofC y.la y.lb y.lc) = 1 then 29
  else if y.hl = true then (if y.hk < 1 ∨ y.hk > 64 ∨ y.hq < 1 ∨ y.hq > 1048576 ∨ ((ofC y.ra y.rb y.rc) = 1 ∧ (ofC y.la y.lb y.lc) = 1) then 29 else 0)
  else if y.hk ≠ 0 ∨ y.hq ≠ 0 ∨ (ofC y.ra y.rb y.rc) ≠ 1 then 29 else 0
def wrongR (y : Cl) : Int :=
  if y.hi < 1 ∨ y.hi > 65536 ∨ y.hp < 0 ∨ y.hp > 65536 ∨ y.hi = y.hp then 1
  else if (ofR y.ra y.rb y.rc) = 0 ∨ (ofR y.la y.lb y.lc) = 0 ∨ (ofR y.ua y.ub y.uc) = 0 ∨ (ofR y.la y.lb y.lc) = 4 ∨ (ofR y.ua y.ub y.uc) = 4 then 21
  else if (ofR y.ua y.ub y.uc) > 1 ∧ (ofR y.la y.lb y.lc) = 1 then 29
  else if y.hl = true then (if y.hk < 1 ∨ y.hk > 64 ∨ y.hq < 1 ∨ y.hq > 1048576 ∨ ((ofR y.ra y.rb y.rc) = 1 ∧ (ofR y.la y.lb y.lc) = 1) then 29 else 0)
  else if y.hk ≠ 0 ∨ y.hq ≠ 0 ∨ (ofR y.ra y.rb y.rc) ≠ 1 then 29 else 0

set_option maxHeartbeats 4000000 in
set_option maxRecDepth 100000 in
theorem has_spec (a b c : Int) (w : World) :
    Calls Try.prog 106 #[(.agg #[u_ a, u_ b, u_ c])] w fun e w' => e = .returned (b_ (decide (ofC a b c > 1))) ∧ Fr [] w w' := by
  refine calls_of (args := [(.agg #[u_ a, u_ b, u_ c])]) (penv [(.agg #[u_ a, u_ b, u_ c])]) [] [] Try.func106 rfl rfl (look_penv _) (HS.nil w) ?_
  refine A.norm [(0, (.agg #[u_ a, u_ b, u_ c]))] [] (by exact ⟨rfl, trivial⟩) rfl ?_
  refine A.seq (A.region (A.goA1 [.al, .p] [1] (fun b1 => [(1, p_ b1)]) (fun b1 => [blk b1 [u_ a, u_ b, u_ c] 43]) (fun b1 => []) (fun _ => T0) (fun _ => by kernel_rfl) (fun b1 => trivial) ?_))
  intro b1
  refine A.tn (A.seq (A.region (A.goA [.ld 0, .cq (i_ (ofC a b c)), .p, .p] [(2, b_ (decide ((ofC a b c) > 1)))] [b1] (fun κ => κ.call 86 [(.agg #[u_ a, u_ b, u_ c])] (i_ (ofC a b c)) ∧ True) (by kernel_rfl) ⟨(fun ww ss => of_spec a b c ww), trivial⟩ ?_)))
  refine A.tn (A.ret (A.postQ [b_ (decide ((ofC a b c) > 1))] (fun aa ww rr ss => ⟨rv_tmp rr rfl, trivial⟩) ?_))
  show ((b_ (decide ((ofC a b c) > 1))) : Value) = (b_ (decide (ofC a b c > 1)))
  first | rfl | (refine congrArg (Value.int .i64) ?_; unfold ofC; grind [imax])

set_option maxHeartbeats 4000000 in
set_option maxRecDepth 100000 in
theorem real_spec (y : Cl) (w : World) :
    Calls Try.prog 82 #[(.agg (encCl y).toArray)] w fun e w' => e = .returned (b_ (decide ((ofC y.ra y.rb y.rc) > 1))) ∧ Fr [] w w' := by
  refine calls_of (args := [(.agg (encCl y).toArray)]) (penv [(.agg (encCl y).toArray)]) [] [] Try.func82 rfl rfl (look_penv _) (HS.nil w) ?_
  refine A.norm [(0, (.agg (encCl y).toArray))] [] (by exact ⟨rfl, trivial⟩) rfl ?_
  refine A.seq (A.region (A.goA1 [.al, .p] [1] (fun b1 => [(1, p_ b1)]) (fun b1 => [blk b1 (encCl y) 98]) (fun b1 => []) (fun _ => T0) (fun _ => by kernel_rfl) (fun b1 => trivial) ?_))
  intro b1
  refine A.tn (A.seq (A.region (A.goA [.p, .ld 0, .cq (b_ (decide (ofC y.ra y.rb y.rc > 1))), .p] [(2, b_ (decide (ofC y.ra y.rb y.rc > 1)))] [b1] (fun κ => κ.call 106 [(.agg #[u_ y.ra, u_ y.rb, u_ y.rc])] (b_ (decide (ofC y.ra y.rb y.rc > 1))) ∧ True) (by kernel_rfl) ⟨(fun ww ss => has_spec y.ra y.rb y.rc ww), trivial⟩ ?_)))
  refine A.tn (A.ret (A.postQ [b_ (decide (ofC y.ra y.rb y.rc > 1))] (fun aa ww rr ss => ⟨rv_tmp rr rfl, trivial⟩) ?_))
  show ((b_ (decide (ofC y.ra y.rb y.rc > 1))) : Value) = (b_ (decide ((ofC y.ra y.rb y.rc) > 1)))
  first | rfl | (refine congrArg (Value.int .i64) ?_; unfold ofC; grind [imax])

set_option maxHeartbeats 4000000 in
set_option maxRecDepth 100000 in
theorem shares_spec (y : Cl) (w : World) :
    Calls Try.prog 58 #[(.agg (encCl y).toArray)] w fun e w' => e = .returned (b_ (decide ((ofC y.la y.lb y.lc) > 1))) ∧ Fr [] w w' := by
  refine calls_of (args := [(.agg (encCl y).toArray)]) (penv [(.agg (encCl y).toArray)]) [] [] Try.func58 rfl rfl (look_penv _) (HS.nil w) ?_
  refine A.norm [(0, (.agg (encCl y).toArray))] [] (by exact ⟨rfl, trivial⟩) rfl ?_
  refine A.seq (A.region (A.goA1 [.al, .p] [1] (fun b1 => [(1, p_ b1)]) (fun b1 => [blk b1 (encCl y) 98]) (fun b1 => []) (fun _ => T0) (fun _ => by kernel_rfl) (fun b1 => trivial) ?_))
  intro b1
  refine A.tn (A.seq (A.region (A.goA [.p, .ld 0, .cq (b_ (decide (ofC y.la y.lb y.lc > 1))), .p] [(2, b_ (decide (ofC y.la y.lb y.lc > 1)))] [b1] (fun κ => κ.call 106 [(.agg #[u_ y.la, u_ y.lb, u_ y.lc])] (b_ (decide (ofC y.la y.lb y.lc > 1))) ∧ True) (by kernel_rfl) ⟨(fun ww ss => has_spec y.la y.lb y.lc ww), trivial⟩ ?_)))
  refine A.tn (A.ret (A.postQ [b_ (decide (ofC y.la y.lb y.lc > 1))] (fun aa ww rr ss => ⟨rv_tmp rr rfl, trivial⟩) ?_))
  show ((b_ (decide (ofC y.la y.lb y.lc > 1))) : Value) = (b_ (decide ((ofC y.la y.lb y.lc) > 1)))
  first | rfl | (refine congrArg (Value.int .i64) ?_; unfold ofC; grind [imax])

set_option maxHeartbeats 4000000 in
set_option maxRecDepth 100000 in
theorem capped_spec (y : Cl) (w : World) :
    Calls Try.prog 142 #[(.agg (encCl y).toArray)] w fun e w' => e = .returned (b_ (decide ((ofC y.ua y.ub y.uc) > 1))) ∧ Fr [] w w' := by
  refine calls_of (args := [(.agg (encCl y).toArray)]) (penv [(.agg (encCl y).toArray)]) [] [] Try.func142 rfl rfl (look_penv _) (HS.nil w) ?_
  refine A.norm [(0, (.agg (encCl y).toArray))] [] (by exact ⟨rfl, trivial⟩) rfl ?_
  refine A.seq (A.region (A.goA1 [.al, .p] [1] (fun b1 => [(1, p_ b1)]) (fun b1 => [blk b1 (encCl y) 98]) (fun b1 => []) (fun _ => T0) (fun _ => by kernel_rfl) (fun b1 => trivial) ?_))
  intro b1
  refine A.tn (A.seq (A.region (A.goA [.p, .ld 0, .cq (b_ (decide (ofC y.ua y.ub y.uc > 1))), .p] [(2, b_ (decide (ofC y.ua y.ub y.uc > 1)))] [b1] (fun κ => κ.call 106 [(.agg #[u_ y.ua, u_ y.ub, u_ y.uc])] (b_ (decide (ofC y.ua y.ub y.uc > 1))) ∧ True) (by kernel_rfl) ⟨(fun ww ss => has_spec y.ua y.ub y.uc ww), trivial⟩ ?_)))
  refine A.tn (A.ret (A.postQ [b_ (decide (ofC y.ua y.ub y.uc > 1))] (fun aa ww rr ss => ⟨rv_tmp rr rfl, trivial⟩) ?_))
  show ((b_ (decide (ofC y.ua y.ub y.uc > 1))) : Value) = (b_ (decide ((ofC y.ua y.ub y.uc) > 1)))
  first | rfl | (refine congrArg (Value.int .i64) ?_; unfold ofC; grind [imax])

set_option maxHeartbeats 4000000 in
set_option maxRecDepth 100000 in
theorem from_spec (n a b : Int) (w : World) :
    Calls Try.prog 141 #[i_ n, i_ a, i_ b] w fun e w' => e = .returned (b_ (fromI n a b)) ∧ Fr [] w w' := by
  refine calls_of (args := [i_ n, i_ a, i_ b]) (penv [i_ n, i_ a, i_ b]) [] [] Try.func141 rfl rfl (look_penv _) (HS.nil w) ?_
  refine A.norm [(0, i_ n), (1, i_ a), (2, i_ b)] [] (by exact ⟨rfl, rfl, rfl, trivial⟩) rfl ?_
  refine A.seq (A.region (A.goA [.p] [(0, i_ n), (1, i_ a), (2, i_ b)] [] T0 (by kernel_rfl) trivial ?_))
  refine A.tn (A.seq (A.region (A.goA [.p, .p, .p, .p, .o, .p, .p, .p, .cl, .p] [(6, b_ ((decide (n ≥ a)) && (decide (n ≤ b))))] [] T0 (by kernel_rfl) trivial ?_)))
  refine A.tn (A.ret (A.postQ [b_ ((decide (n ≥ a)) && (decide (n ≤ b)))] (fun aa ww rr ss => ⟨rv_tmp rr rfl, trivial⟩) ?_))
  show ((b_ ((decide (n ≥ a)) && (decide (n ≤ b)))) : Value) = (b_ (fromI n a b))
  first | rfl | (refine congrArg (Value.int .i64) ?_; unfold ofC; grind [imax])
end Go.Proofs.Ytinnnoimmioaiaa
