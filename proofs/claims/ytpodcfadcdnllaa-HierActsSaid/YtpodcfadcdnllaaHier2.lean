/- What the functions of this layer do, proved operation by operation, for all arguments, under the conditions that each theorem states. -/
import Derived.Test.YtpodcfadcdnllaaProg
import Derived.Test.YtpodcfadcdnllaaHierS
namespace Go.Proofs.Ytpodcfadcdnllaa
open Go V
set_option linter.unusedVariables false
set_option linter.unusedSimpArgs false
/-- what a curve is, as the program has it, and as the document does -/
def ofC (a b c : Int) : Int := if a = 0 ∧ b = 0 ∧ c = 0 then 1 else if (a > 4294967295 ∨ c > 4294967295) ∨ b > 1048576 then 0 else if b = 0 ∧ a = c then 2 else if b > 0 ∧ a > c then 3 else if (b > 0 ∧ a = 0) ∧ c > 0 then 4 else 0
def ofR (a b c : Int) : Int := if (a > 4294967295 ∨ c > 4294967295) ∨ b > 1048576 then 0 else if (a = 0 ∧ c = 0) ∧ b = 0 then 1 else if b = 0 ∧ a = c then 2 else if b = 0 then 0 else if a > c then 3 else if a = 0 ∧ c > 0 then 4 else 0
theorem ofC_rng (a b c : Int) : 0 ≤ ofC a b c ∧ ofC a b c ≤ 4 := by unfold ofC; grind
theorem ofC_ofR {a b c : Int} (ha : 0 ≤ a) (hb : 0 ≤ b) (hc : 0 ≤ c) : ofC a b c = ofR a b c := by unfold ofC ofR; grind
def fromI (n a b : Int) : Bool := decide (n ≥ a) && decide (n ≤ b)
def wrongC (y : Cl) : Int :=
  if y.hi < 1 ∨ y.hi > 65536 ∨ y.hp < 0 ∨ y.hp > 65536 ∨ y.hi = y.hp then 1
  else if (ofC y.ra y.rb y.rc) = 0 ∨ (ofC y.la y.lb y.lc) = 0 ∨ (ofC y.ua y.ub y.uc) = 0 ∨ (ofC y.la y.lb y.lc) = 4 ∨ (ofC y.ua y.ub y.uc) = 4 then 21
  else if (ofC y.ua y.ub y.uc) > 1 ∧ (ofC y.la y.lb y.lc) = 1 then 29
  else if y.hl = true then (if y.hk < 1 ∨ y.hk > 64 ∨ y.hq < 1 ∨ y.hq > 1048576 ∨ ((ofC y.ra y.rb y.rc) = 1 ∧ (ofC y.la y.lb y.lc) = 1) then 29 else 0)
  else if y.hk ≠ 0 ∨ y.hq ≠ 0 ∨ (ofC y.ra y.rb y.rc) ≠ 1 then 29 else 0
def wrongR (y : Cl) : Int :=
  if y.hi < 1 ∨ y.hi > 65536 ∨ y.hp < 0 ∨ y.hp > 65536 ∨ y.hi = y.hp then 1
  else if (ofR y.ra y.rb y.rc) = 0 ∨ (ofR y.la y.lb y.lc) = 0 ∨ (ofR y.ua y.ub y.uc) = 0 ∨ (ofR y.la y.lb y.lc) = 4 ∨ (ofR y.ua y.ub y.uc) = 4 then 21
  else if (ofR y.ua y.ub y.uc) > 1 ∧ (ofR y.la y.lb y.lc) = 1 then 29
  else if y.hl = true then (if y.hk < 1 ∨ y.hk > 64 ∨ y.hq < 1 ∨ y.hq > 1048576 ∨ ((ofR y.ra y.rb y.rc) = 1 ∧ (ofR y.la y.lb y.lc) = 1) then 29 else 0)
  else if y.hk ≠ 0 ∨ y.hq ≠ 0 ∨ (ofR y.ra y.rb y.rc) ≠ 1 then 29 else 0

set_option maxHeartbeats 4000000 in
set_option maxRecDepth 100000 in
theorem of_spec (a b c : Int) (w : World) :
    Calls Try.prog 49 #[(.agg #[(u_ a), (u_ b), (u_ c)])] w fun e w' => e = .returned (i_ (ofC a b c)) ∧ Fr [] w w' := by
  refine calls_of (args := [(.agg #[(u_ a), (u_ b), (u_ c)])]) (penv [(.agg #[(u_ a), (u_ b), (u_ c)])]) [] [] Try.func49 rfl rfl (look_penv _) (HS.nil w) ?_
  refine A.norm [(0, (.agg #[(u_ a), (u_ b), (u_ c)]))] [] (by exact ⟨rfl, trivial⟩) rfl ?_
  refine A.seq ?_
  refine A.region (A.goA1 [.al, .p] [0, 1, 2] (fun b1 => [(0, (.agg #[(u_ a), (u_ b), (u_ c)])), (1, (p_ b1)), (2, (i_ 0))]) (fun b1 => [blk b1 [(u_ a), (u_ b), (u_ c)] 28]) (fun b1 => []) (fun _ => T0) (fun _ => by kernel_rfl) (fun b1 => trivial) ?_)
  intro b1
  refine A.tn ?_
  refine A.seq ?_
  refine A.block ?_
  refine A.seq ?_
  refine A.region (A.goA [.ld 0, .p, .eq, .p] [(0, (.agg #[(u_ a), (u_ b), (u_ c)])), (1, (p_ b1)), (2, (i_ 0)), (3, (b_ ((a == 0) && ((b == 0) && (c == 0)))))] [b1] T0 (by kernel_rfl) trivial ?_)
  refine A.tn ?_
  refine A.cond (E := (a == 0) && ((b == 0) && (c == 0))) rfl (fun e1 => ?_) (fun e1 => ?_)
  · skip
    have p1 := e1; try simp only [decide_eq_true_eq, decide_eq_false_iff_not, beq_iff_eq, beq_eq_false_iff_ne, bne_iff_ne, bne_eq_false_iff_eq, ne_eq, Bool.and_eq_true, Bool.or_eq_true, Bool.or_eq_false_iff, Bool.not_eq_true', Bool.not_eq_false', Int.not_lt, Int.not_le, gt_iff_lt, ge_iff_le, Classical.not_not] at p1
    refine A.seq ?_
    refine A.region (A.goA [.p] [(0, (.agg #[(u_ a), (u_ b), (u_ c)])), (1, (p_ b1)), (2, (i_ 1)), (3, (b_ ((a == 0) && ((b == 0) && (c == 0)))))] [] T0 (by kernel_rfl) trivial ?_)
    refine A.tn ?_
    refine A.ret ?_
    refine A.br ?_
    refine A.tr ?_
    refine A.postQ [(i_ 1)] (fun aa ww rr ss => ⟨rv_tmp rr rfl, trivial⟩) ?_
    show ((i_ 1) : Value) = (i_ (ofC a b c))
    refine congrArg (Value.int .i64) ?_; unfold ofC; grind [imax]
  · skip
    have p1 := e1; try simp only [decide_eq_true_eq, decide_eq_false_iff_not, beq_iff_eq, beq_eq_false_iff_ne, bne_iff_ne, bne_eq_false_iff_eq, ne_eq, Bool.and_eq_true, Bool.or_eq_true, Bool.or_eq_false_iff, Bool.not_eq_true', Bool.not_eq_false', Int.not_lt, Int.not_le, gt_iff_lt, ge_iff_le, Classical.not_not] at p1
    refine A.seq ?_
    refine A.region (A.goA [.p, .ld 0, .p, .ld 0, .p, .p, .p, .o, .p, .ld 0, .p, .cl, .p] [(0, (.agg #[(u_ a), (u_ b), (u_ c)])), (1, (p_ b1)), (2, (i_ 0)), (3, (b_ ((a == 0) && ((b == 0) && (c == 0))))), (7, (b_ ((decide ((imax a c) > 4294967295)) || (decide (b > 1048576)))))] [b1, b1, b1] T0 (by kernel_rfl) trivial ?_)
    refine A.tn ?_
    refine A.cond (E := (decide ((imax a c) > 4294967295)) || (decide (b > 1048576))) rfl (fun e2 => ?_) (fun e2 => ?_)
    · skip
      have p2 := e2; try simp only [decide_eq_true_eq, decide_eq_false_iff_not, beq_iff_eq, beq_eq_false_iff_ne, bne_iff_ne, bne_eq_false_iff_eq, ne_eq, Bool.and_eq_true, Bool.or_eq_true, Bool.or_eq_false_iff, Bool.not_eq_true', Bool.not_eq_false', Int.not_lt, Int.not_le, gt_iff_lt, ge_iff_le, Classical.not_not] at p2
      refine A.seq ?_
      refine A.region (A.goA [.p] [(0, (.agg #[(u_ a), (u_ b), (u_ c)])), (1, (p_ b1)), (2, (i_ 0)), (3, (b_ ((a == 0) && ((b == 0) && (c == 0))))), (7, (b_ ((decide ((imax a c) > 4294967295)) || (decide (b > 1048576)))))] [] T0 (by kernel_rfl) trivial ?_)
      refine A.tn ?_
      refine A.ret ?_
      refine A.br ?_
      refine A.tr ?_
      refine A.postQ [(i_ 0)] (fun aa ww rr ss => ⟨rv_tmp rr rfl, trivial⟩) ?_
      show ((i_ 0) : Value) = (i_ (ofC a b c))
      refine congrArg (Value.int .i64) ?_; unfold ofC; grind [imax]
    · skip
      have p2 := e2; try simp only [decide_eq_true_eq, decide_eq_false_iff_not, beq_iff_eq, beq_eq_false_iff_ne, bne_iff_ne, bne_eq_false_iff_eq, ne_eq, Bool.and_eq_true, Bool.or_eq_true, Bool.or_eq_false_iff, Bool.not_eq_true', Bool.not_eq_false', Int.not_lt, Int.not_le, gt_iff_lt, ge_iff_le, Classical.not_not] at p2
      refine A.seq ?_
      refine A.region (A.goA [.p, .ld 0, .p, .p, .o, .p, .ld 0, .p, .ld 0, .p, .cl, .p] [(0, (.agg #[(u_ a), (u_ b), (u_ c)])), (1, (p_ b1)), (2, (i_ 0)), (3, (b_ ((a == 0) && ((b == 0) && (c == 0))))), (7, (b_ ((decide ((imax a c) > 4294967295)) || (decide (b > 1048576))))), (19, (b_ ((b == 0) && (a == c))))] [b1, b1, b1] T0 (by kernel_rfl) trivial ?_)
      refine A.tn ?_
      refine A.cond (E := (b == 0) && (a == c)) rfl (fun e3 => ?_) (fun e3 => ?_)
      · skip
        have p3 := e3; try simp only [decide_eq_true_eq, decide_eq_false_iff_not, beq_iff_eq, beq_eq_false_iff_ne, bne_iff_ne, bne_eq_false_iff_eq, ne_eq, Bool.and_eq_true, Bool.or_eq_true, Bool.or_eq_false_iff, Bool.not_eq_true', Bool.not_eq_false', Int.not_lt, Int.not_le, gt_iff_lt, ge_iff_le, Classical.not_not] at p3
        refine A.seq ?_
        refine A.region (A.goA [.p] [(0, (.agg #[(u_ a), (u_ b), (u_ c)])), (1, (p_ b1)), (2, (i_ 2)), (3, (b_ ((a == 0) && ((b == 0) && (c == 0))))), (7, (b_ ((decide ((imax a c) > 4294967295)) || (decide (b > 1048576))))), (19, (b_ ((b == 0) && (a == c))))] [] T0 (by kernel_rfl) trivial ?_)
        refine A.tn ?_
        refine A.ret ?_
        refine A.br ?_
        refine A.tr ?_
        refine A.postQ [(i_ 2)] (fun aa ww rr ss => ⟨rv_tmp rr rfl, trivial⟩) ?_
        show ((i_ 2) : Value) = (i_ (ofC a b c))
        refine congrArg (Value.int .i64) ?_; unfold ofC; grind [imax]
      · skip
        have p3 := e3; try simp only [decide_eq_true_eq, decide_eq_false_iff_not, beq_iff_eq, beq_eq_false_iff_ne, bne_iff_ne, bne_eq_false_iff_eq, ne_eq, Bool.and_eq_true, Bool.or_eq_true, Bool.or_eq_false_iff, Bool.not_eq_true', Bool.not_eq_false', Int.not_lt, Int.not_le, gt_iff_lt, ge_iff_le, Classical.not_not] at p3
        refine A.seq ?_
        refine A.region (A.goA [.p, .ld 0, .p, .p, .o, .p, .ld 0, .p, .ld 0, .p, .cl, .p] [(0, (.agg #[(u_ a), (u_ b), (u_ c)])), (1, (p_ b1)), (2, (i_ 0)), (3, (b_ ((a == 0) && ((b == 0) && (c == 0))))), (7, (b_ ((decide ((imax a c) > 4294967295)) || (decide (b > 1048576))))), (19, (b_ ((b == 0) && (a == c)))), (30, (b_ ((decide (b > 0)) && (decide (a > c)))))] [b1, b1, b1] T0 (by kernel_rfl) trivial ?_)
        refine A.tn ?_
        refine A.cond (E := (decide (b > 0)) && (decide (a > c))) rfl (fun e4 => ?_) (fun e4 => ?_)
        · skip
          have p4 := e4; try simp only [decide_eq_true_eq, decide_eq_false_iff_not, beq_iff_eq, beq_eq_false_iff_ne, bne_iff_ne, bne_eq_false_iff_eq, ne_eq, Bool.and_eq_true, Bool.or_eq_true, Bool.or_eq_false_iff, Bool.not_eq_true', Bool.not_eq_false', Int.not_lt, Int.not_le, gt_iff_lt, ge_iff_le, Classical.not_not] at p4
          refine A.seq ?_
          refine A.region (A.goA [.p] [(0, (.agg #[(u_ a), (u_ b), (u_ c)])), (1, (p_ b1)), (2, (i_ 3)), (3, (b_ ((a == 0) && ((b == 0) && (c == 0))))), (7, (b_ ((decide ((imax a c) > 4294967295)) || (decide (b > 1048576))))), (19, (b_ ((b == 0) && (a == c)))), (30, (b_ ((decide (b > 0)) && (decide (a > c)))))] [] T0 (by kernel_rfl) trivial ?_)
          refine A.tn ?_
          refine A.ret ?_
          refine A.br ?_
          refine A.tr ?_
          refine A.postQ [(i_ 3)] (fun aa ww rr ss => ⟨rv_tmp rr rfl, trivial⟩) ?_
          show ((i_ 3) : Value) = (i_ (ofC a b c))
          refine congrArg (Value.int .i64) ?_; unfold ofC; grind [imax]
        · skip
          have p4 := e4; try simp only [decide_eq_true_eq, decide_eq_false_iff_not, beq_iff_eq, beq_eq_false_iff_ne, bne_iff_ne, bne_eq_false_iff_eq, ne_eq, Bool.and_eq_true, Bool.or_eq_true, Bool.or_eq_false_iff, Bool.not_eq_true', Bool.not_eq_false', Int.not_lt, Int.not_le, gt_iff_lt, ge_iff_le, Classical.not_not] at p4
          refine A.seq ?_
          refine A.region (A.goA [.p, .ld 0, .p, .p, .o, .p, .ld 0, .p, .cl, .p, .o, .p, .ld 0, .p, .cl, .p] [(0, (.agg #[(u_ a), (u_ b), (u_ c)])), (1, (p_ b1)), (2, (i_ 0)), (3, (b_ ((a == 0) && ((b == 0) && (c == 0))))), (7, (b_ ((decide ((imax a c) > 4294967295)) || (decide (b > 1048576))))), (19, (b_ ((b == 0) && (a == c)))), (30, (b_ ((decide (b > 0)) && (decide (a > c))))), (41, (b_ (((decide (b > 0)) && (a == 0)) && (decide (c > 0)))))] [b1, b1, b1] T0 (by kernel_rfl) trivial ?_)
          refine A.tn ?_
          refine A.cond (E := ((decide (b > 0)) && (a == 0)) && (decide (c > 0))) rfl (fun e5 => ?_) (fun e5 => ?_)
          · skip
            have p5 := e5; try simp only [decide_eq_true_eq, decide_eq_false_iff_not, beq_iff_eq, beq_eq_false_iff_ne, bne_iff_ne, bne_eq_false_iff_eq, ne_eq, Bool.and_eq_true, Bool.or_eq_true, Bool.or_eq_false_iff, Bool.not_eq_true', Bool.not_eq_false', Int.not_lt, Int.not_le, gt_iff_lt, ge_iff_le, Classical.not_not] at p5
            refine A.seq ?_
            refine A.region (A.goA [.p] [(0, (.agg #[(u_ a), (u_ b), (u_ c)])), (1, (p_ b1)), (2, (i_ 4)), (3, (b_ ((a == 0) && ((b == 0) && (c == 0))))), (7, (b_ ((decide ((imax a c) > 4294967295)) || (decide (b > 1048576))))), (19, (b_ ((b == 0) && (a == c)))), (30, (b_ ((decide (b > 0)) && (decide (a > c))))), (41, (b_ (((decide (b > 0)) && (a == 0)) && (decide (c > 0)))))] [] T0 (by kernel_rfl) trivial ?_)
            refine A.tn ?_
            refine A.ret ?_
            refine A.br ?_
            refine A.tr ?_
            refine A.postQ [(i_ 4)] (fun aa ww rr ss => ⟨rv_tmp rr rfl, trivial⟩) ?_
            show ((i_ 4) : Value) = (i_ (ofC a b c))
            refine congrArg (Value.int .i64) ?_; unfold ofC; grind [imax]
          · skip
            have p5 := e5; try simp only [decide_eq_true_eq, decide_eq_false_iff_not, beq_iff_eq, beq_eq_false_iff_ne, bne_iff_ne, bne_eq_false_iff_eq, ne_eq, Bool.and_eq_true, Bool.or_eq_true, Bool.or_eq_false_iff, Bool.not_eq_true', Bool.not_eq_false', Int.not_lt, Int.not_le, gt_iff_lt, ge_iff_le, Classical.not_not] at p5
            refine A.skip ?_
            refine A.bn ?_
            refine A.tn ?_
            refine A.seq ?_
            refine A.region (A.goA [.p] [(0, (.agg #[(u_ a), (u_ b), (u_ c)])), (1, (p_ b1)), (2, (i_ 0)), (3, (b_ ((a == 0) && ((b == 0) && (c == 0))))), (7, (b_ ((decide ((imax a c) > 4294967295)) || (decide (b > 1048576))))), (19, (b_ ((b == 0) && (a == c)))), (30, (b_ ((decide (b > 0)) && (decide (a > c))))), (41, (b_ (((decide (b > 0)) && (a == 0)) && (decide (c > 0)))))] [] T0 (by kernel_rfl) trivial ?_)
            refine A.tn ?_
            refine A.ret ?_
            refine A.postQ [(i_ 0)] (fun aa ww rr ss => ⟨rv_tmp rr rfl, trivial⟩) ?_
            show ((i_ 0) : Value) = (i_ (ofC a b c))
            refine congrArg (Value.int .i64) ?_; unfold ofC; grind [imax]

set_option maxHeartbeats 4000000 in
set_option maxRecDepth 100000 in
theorem rof_spec (a b c : Int) (w : World) :
    Calls Try.prog 43 #[(.agg #[(u_ a), (u_ b), (u_ c)])] w fun e w' => e = .returned (i_ (ofR a b c)) ∧ Fr [] w w' := by
  refine calls_of (args := [(.agg #[(u_ a), (u_ b), (u_ c)])]) (penv [(.agg #[(u_ a), (u_ b), (u_ c)])]) [] [] Try.func43 rfl rfl (look_penv _) (HS.nil w) ?_
  refine A.norm [(0, (.agg #[(u_ a), (u_ b), (u_ c)]))] [] (by exact ⟨rfl, trivial⟩) rfl ?_
  refine A.seq ?_
  refine A.region (A.goA1 [.al, .p] [0, 1, 2] (fun b1 => [(0, (.agg #[(u_ a), (u_ b), (u_ c)])), (1, (p_ b1)), (2, (i_ 0))]) (fun b1 => [blk b1 [(u_ a), (u_ b), (u_ c)] 28]) (fun b1 => []) (fun _ => T0) (fun _ => by kernel_rfl) (fun b1 => trivial) ?_)
  intro b1
  refine A.tn ?_
  refine A.seq ?_
  refine A.region (A.goA [.p] [(0, (.agg #[(u_ a), (u_ b), (u_ c)])), (1, (p_ b1)), (2, (i_ 0)), (3, (u_ 4294967295))] [] T0 (by kernel_rfl) trivial ?_)
  refine A.tn ?_
  refine A.seq ?_
  refine A.seq ?_
  refine A.region (A.goA [.p, .ld 0, .p, .p, .p, .o, .p, .ld 0, .p, .p, .cl, .p, .o, .p, .ld 0, .p, .cl] [(0, (.agg #[(u_ a), (u_ b), (u_ c)])), (1, (p_ b1)), (2, (i_ 0)), (3, (u_ 4294967295)), (18, (b_ (((decide (a > 4294967295)) || (decide (c > 4294967295))) || (decide (b > 1048576)))))] [b1, b1, b1] T0 (by kernel_rfl) trivial ?_)
  refine A.tn ?_
  refine A.cond (E := ((decide (a > 4294967295)) || (decide (c > 4294967295))) || (decide (b > 1048576))) rfl (fun e1 => ?_) (fun e1 => ?_)
  · skip
    have p1 := e1; try simp only [decide_eq_true_eq, decide_eq_false_iff_not, beq_iff_eq, beq_eq_false_iff_ne, bne_iff_ne, bne_eq_false_iff_eq, ne_eq, Bool.and_eq_true, Bool.or_eq_true, Bool.or_eq_false_iff, Bool.not_eq_true', Bool.not_eq_false', Int.not_lt, Int.not_le, gt_iff_lt, ge_iff_le, Classical.not_not] at p1
    refine A.seq ?_
    refine A.region (A.goA [.p] [(0, (.agg #[(u_ a), (u_ b), (u_ c)])), (1, (p_ b1)), (2, (i_ 0)), (3, (u_ 4294967295)), (18, (b_ (((decide (a > 4294967295)) || (decide (c > 4294967295))) || (decide (b > 1048576)))))] [] T0 (by kernel_rfl) trivial ?_)
    refine A.tn ?_
    refine A.ret ?_
    refine A.tr ?_
    refine A.postQ [(i_ 0)] (fun aa ww rr ss => ⟨rv_tmp rr rfl, trivial⟩) ?_
    show ((i_ 0) : Value) = (i_ (ofR a b c))
    refine congrArg (Value.int .i64) ?_; unfold ofR; grind [imax]
  · skip
    have p1 := e1; try simp only [decide_eq_true_eq, decide_eq_false_iff_not, beq_iff_eq, beq_eq_false_iff_ne, bne_iff_ne, bne_eq_false_iff_eq, ne_eq, Bool.and_eq_true, Bool.or_eq_true, Bool.or_eq_false_iff, Bool.not_eq_true', Bool.not_eq_false', Int.not_lt, Int.not_le, gt_iff_lt, ge_iff_le, Classical.not_not] at p1
    refine A.skip ?_
    refine A.tn ?_
    refine A.seq ?_
    refine A.seq ?_
    refine A.region (A.goA [.p, .ld 0, .p, .p, .o, .p, .ld 0, .p, .cl, .p, .o, .p, .ld 0, .p, .cl] [(0, (.agg #[(u_ a), (u_ b), (u_ c)])), (1, (p_ b1)), (2, (i_ 0)), (3, (u_ 4294967295)), (18, (b_ (((decide (a > 4294967295)) || (decide (c > 4294967295))) || (decide (b > 1048576))))), (31, (b_ (((a == 0) && (c == 0)) && (b == 0))))] [b1, b1, b1] T0 (by kernel_rfl) trivial ?_)
    refine A.tn ?_
    refine A.cond (E := ((a == 0) && (c == 0)) && (b == 0)) rfl (fun e2 => ?_) (fun e2 => ?_)
    · skip
      have p2 := e2; try simp only [decide_eq_true_eq, decide_eq_false_iff_not, beq_iff_eq, beq_eq_false_iff_ne, bne_iff_ne, bne_eq_false_iff_eq, ne_eq, Bool.and_eq_true, Bool.or_eq_true, Bool.or_eq_false_iff, Bool.not_eq_true', Bool.not_eq_false', Int.not_lt, Int.not_le, gt_iff_lt, ge_iff_le, Classical.not_not] at p2
      refine A.seq ?_
      refine A.region (A.goA [.p] [(0, (.agg #[(u_ a), (u_ b), (u_ c)])), (1, (p_ b1)), (2, (i_ 1)), (3, (u_ 4294967295)), (18, (b_ (((decide (a > 4294967295)) || (decide (c > 4294967295))) || (decide (b > 1048576))))), (31, (b_ (((a == 0) && (c == 0)) && (b == 0))))] [] T0 (by kernel_rfl) trivial ?_)
      refine A.tn ?_
      refine A.ret ?_
      refine A.tr ?_
      refine A.postQ [(i_ 1)] (fun aa ww rr ss => ⟨rv_tmp rr rfl, trivial⟩) ?_
      show ((i_ 1) : Value) = (i_ (ofR a b c))
      refine congrArg (Value.int .i64) ?_; unfold ofR; grind [imax]
    · skip
      have p2 := e2; try simp only [decide_eq_true_eq, decide_eq_false_iff_not, beq_iff_eq, beq_eq_false_iff_ne, bne_iff_ne, bne_eq_false_iff_eq, ne_eq, Bool.and_eq_true, Bool.or_eq_true, Bool.or_eq_false_iff, Bool.not_eq_true', Bool.not_eq_false', Int.not_lt, Int.not_le, gt_iff_lt, ge_iff_le, Classical.not_not] at p2
      refine A.skip ?_
      refine A.tn ?_
      refine A.seq ?_
      refine A.seq ?_
      refine A.region (A.goA [.p, .ld 0, .p, .p, .o, .p, .ld 0, .p, .ld 0, .p, .cl] [(0, (.agg #[(u_ a), (u_ b), (u_ c)])), (1, (p_ b1)), (2, (i_ 0)), (3, (u_ 4294967295)), (18, (b_ (((decide (a > 4294967295)) || (decide (c > 4294967295))) || (decide (b > 1048576))))), (31, (b_ (((a == 0) && (c == 0)) && (b == 0)))), (41, (b_ ((b == 0) && (a == c))))] [b1, b1, b1] T0 (by kernel_rfl) trivial ?_)
      refine A.tn ?_
      refine A.cond (E := (b == 0) && (a == c)) rfl (fun e3 => ?_) (fun e3 => ?_)
      · skip
        have p3 := e3; try simp only [decide_eq_true_eq, decide_eq_false_iff_not, beq_iff_eq, beq_eq_false_iff_ne, bne_iff_ne, bne_eq_false_iff_eq, ne_eq, Bool.and_eq_true, Bool.or_eq_true, Bool.or_eq_false_iff, Bool.not_eq_true', Bool.not_eq_false', Int.not_lt, Int.not_le, gt_iff_lt, ge_iff_le, Classical.not_not] at p3
        refine A.seq ?_
        refine A.region (A.goA [.p] [(0, (.agg #[(u_ a), (u_ b), (u_ c)])), (1, (p_ b1)), (2, (i_ 2)), (3, (u_ 4294967295)), (18, (b_ (((decide (a > 4294967295)) || (decide (c > 4294967295))) || (decide (b > 1048576))))), (31, (b_ (((a == 0) && (c == 0)) && (b == 0)))), (41, (b_ ((b == 0) && (a == c))))] [] T0 (by kernel_rfl) trivial ?_)
        refine A.tn ?_
        refine A.ret ?_
        refine A.tr ?_
        refine A.postQ [(i_ 2)] (fun aa ww rr ss => ⟨rv_tmp rr rfl, trivial⟩) ?_
        show ((i_ 2) : Value) = (i_ (ofR a b c))
        refine congrArg (Value.int .i64) ?_; unfold ofR; grind [imax]
      · skip
        have p3 := e3; try simp only [decide_eq_true_eq, decide_eq_false_iff_not, beq_iff_eq, beq_eq_false_iff_ne, bne_iff_ne, bne_eq_false_iff_eq, ne_eq, Bool.and_eq_true, Bool.or_eq_true, Bool.or_eq_false_iff, Bool.not_eq_true', Bool.not_eq_false', Int.not_lt, Int.not_le, gt_iff_lt, ge_iff_le, Classical.not_not] at p3
        refine A.skip ?_
        refine A.tn ?_
        refine A.seq ?_
        refine A.seq ?_
        refine A.region (A.goA [.p, .ld 0, .p] [(0, (.agg #[(u_ a), (u_ b), (u_ c)])), (1, (p_ b1)), (2, (i_ 0)), (3, (u_ 4294967295)), (18, (b_ (((decide (a > 4294967295)) || (decide (c > 4294967295))) || (decide (b > 1048576))))), (31, (b_ (((a == 0) && (c == 0)) && (b == 0)))), (41, (b_ ((b == 0) && (a == c)))), (44, (b_ (b == 0)))] [b1] T0 (by kernel_rfl) trivial ?_)
        refine A.tn ?_
        refine A.cond (E := b == 0) rfl (fun e4 => ?_) (fun e4 => ?_)
        · skip
          have p4 := e4; try simp only [decide_eq_true_eq, decide_eq_false_iff_not, beq_iff_eq, beq_eq_false_iff_ne, bne_iff_ne, bne_eq_false_iff_eq, ne_eq, Bool.and_eq_true, Bool.or_eq_true, Bool.or_eq_false_iff, Bool.not_eq_true', Bool.not_eq_false', Int.not_lt, Int.not_le, gt_iff_lt, ge_iff_le, Classical.not_not] at p4
          refine A.seq ?_
          refine A.region (A.goA [.p] [(0, (.agg #[(u_ a), (u_ b), (u_ c)])), (1, (p_ b1)), (2, (i_ 0)), (3, (u_ 4294967295)), (18, (b_ (((decide (a > 4294967295)) || (decide (c > 4294967295))) || (decide (b > 1048576))))), (31, (b_ (((a == 0) && (c == 0)) && (b == 0)))), (41, (b_ ((b == 0) && (a == c)))), (44, (b_ (b == 0)))] [] T0 (by kernel_rfl) trivial ?_)
          refine A.tn ?_
          refine A.ret ?_
          refine A.tr ?_
          refine A.postQ [(i_ 0)] (fun aa ww rr ss => ⟨rv_tmp rr rfl, trivial⟩) ?_
          show ((i_ 0) : Value) = (i_ (ofR a b c))
          refine congrArg (Value.int .i64) ?_; unfold ofR; grind [imax]
        · skip
          have p4 := e4; try simp only [decide_eq_true_eq, decide_eq_false_iff_not, beq_iff_eq, beq_eq_false_iff_ne, bne_iff_ne, bne_eq_false_iff_eq, ne_eq, Bool.and_eq_true, Bool.or_eq_true, Bool.or_eq_false_iff, Bool.not_eq_true', Bool.not_eq_false', Int.not_lt, Int.not_le, gt_iff_lt, ge_iff_le, Classical.not_not] at p4
          refine A.skip ?_
          refine A.tn ?_
          refine A.seq ?_
          refine A.seq ?_
          refine A.region (A.goA [.p, .ld 0, .p, .ld 0, .p] [(0, (.agg #[(u_ a), (u_ b), (u_ c)])), (1, (p_ b1)), (2, (i_ 0)), (3, (u_ 4294967295)), (18, (b_ (((decide (a > 4294967295)) || (decide (c > 4294967295))) || (decide (b > 1048576))))), (31, (b_ (((a == 0) && (c == 0)) && (b == 0)))), (41, (b_ ((b == 0) && (a == c)))), (44, (b_ (b == 0))), (49, (b_ (decide (a > c))))] [b1, b1] T0 (by kernel_rfl) trivial ?_)
          refine A.tn ?_
          refine A.cond (E := decide (a > c)) rfl (fun e5 => ?_) (fun e5 => ?_)
          · skip
            have p5 := of_decide_eq_true e5
            refine A.seq ?_
            refine A.region (A.goA [.p] [(0, (.agg #[(u_ a), (u_ b), (u_ c)])), (1, (p_ b1)), (2, (i_ 3)), (3, (u_ 4294967295)), (18, (b_ (((decide (a > 4294967295)) || (decide (c > 4294967295))) || (decide (b > 1048576))))), (31, (b_ (((a == 0) && (c == 0)) && (b == 0)))), (41, (b_ ((b == 0) && (a == c)))), (44, (b_ (b == 0))), (49, (b_ (decide (a > c))))] [] T0 (by kernel_rfl) trivial ?_)
            refine A.tn ?_
            refine A.ret ?_
            refine A.tr ?_
            refine A.postQ [(i_ 3)] (fun aa ww rr ss => ⟨rv_tmp rr rfl, trivial⟩) ?_
            show ((i_ 3) : Value) = (i_ (ofR a b c))
            refine congrArg (Value.int .i64) ?_; unfold ofR; grind [imax]
          · skip
            have p5 := of_decide_eq_false e5
            refine A.skip ?_
            refine A.tn ?_
            refine A.seq ?_
            refine A.seq ?_
            refine A.region (A.goA [.p, .ld 0, .p, .p, .o, .p, .ld 0, .p, .cl] [(0, (.agg #[(u_ a), (u_ b), (u_ c)])), (1, (p_ b1)), (2, (i_ 0)), (3, (u_ 4294967295)), (18, (b_ (((decide (a > 4294967295)) || (decide (c > 4294967295))) || (decide (b > 1048576))))), (31, (b_ (((a == 0) && (c == 0)) && (b == 0)))), (41, (b_ ((b == 0) && (a == c)))), (44, (b_ (b == 0))), (49, (b_ (decide (a > c)))), (57, (b_ ((a == 0) && (decide (c > 0)))))] [b1, b1] T0 (by kernel_rfl) trivial ?_)
            refine A.tn ?_
            refine A.cond (E := (a == 0) && (decide (c > 0))) rfl (fun e6 => ?_) (fun e6 => ?_)
            · skip
              have p6 := e6; try simp only [decide_eq_true_eq, decide_eq_false_iff_not, beq_iff_eq, beq_eq_false_iff_ne, bne_iff_ne, bne_eq_false_iff_eq, ne_eq, Bool.and_eq_true, Bool.or_eq_true, Bool.or_eq_false_iff, Bool.not_eq_true', Bool.not_eq_false', Int.not_lt, Int.not_le, gt_iff_lt, ge_iff_le, Classical.not_not] at p6
              refine A.seq ?_
              refine A.region (A.goA [.p] [(0, (.agg #[(u_ a), (u_ b), (u_ c)])), (1, (p_ b1)), (2, (i_ 4)), (3, (u_ 4294967295)), (18, (b_ (((decide (a > 4294967295)) || (decide (c > 4294967295))) || (decide (b > 1048576))))), (31, (b_ (((a == 0) && (c == 0)) && (b == 0)))), (41, (b_ ((b == 0) && (a == c)))), (44, (b_ (b == 0))), (49, (b_ (decide (a > c)))), (57, (b_ ((a == 0) && (decide (c > 0)))))] [] T0 (by kernel_rfl) trivial ?_)
              refine A.tn ?_
              refine A.ret ?_
              refine A.tr ?_
              refine A.postQ [(i_ 4)] (fun aa ww rr ss => ⟨rv_tmp rr rfl, trivial⟩) ?_
              show ((i_ 4) : Value) = (i_ (ofR a b c))
              refine congrArg (Value.int .i64) ?_; unfold ofR; grind [imax]
            · skip
              have p6 := e6; try simp only [decide_eq_true_eq, decide_eq_false_iff_not, beq_iff_eq, beq_eq_false_iff_ne, bne_iff_ne, bne_eq_false_iff_eq, ne_eq, Bool.and_eq_true, Bool.or_eq_true, Bool.or_eq_false_iff, Bool.not_eq_true', Bool.not_eq_false', Int.not_lt, Int.not_le, gt_iff_lt, ge_iff_le, Classical.not_not] at p6
              refine A.skip ?_
              refine A.tn ?_
              refine A.seq ?_
              refine A.region (A.goA [.p] [(0, (.agg #[(u_ a), (u_ b), (u_ c)])), (1, (p_ b1)), (2, (i_ 0)), (3, (u_ 4294967295)), (18, (b_ (((decide (a > 4294967295)) || (decide (c > 4294967295))) || (decide (b > 1048576))))), (31, (b_ (((a == 0) && (c == 0)) && (b == 0)))), (41, (b_ ((b == 0) && (a == c)))), (44, (b_ (b == 0))), (49, (b_ (decide (a > c)))), (57, (b_ ((a == 0) && (decide (c > 0)))))] [] T0 (by kernel_rfl) trivial ?_)
              refine A.tn ?_
              refine A.ret ?_
              refine A.postQ [(i_ 0)] (fun aa ww rr ss => ⟨rv_tmp rr rfl, trivial⟩) ?_
              show ((i_ 0) : Value) = (i_ (ofR a b c))
              refine congrArg (Value.int .i64) ?_; unfold ofR; grind [imax]

set_option maxHeartbeats 4000000 in
set_option maxRecDepth 100000 in
theorem cright_spec (a b c : Int) (w : World) :
    Calls Try.prog 48 #[(.agg #[(u_ a), (u_ b), (u_ c)])] w fun e w' => e = .returned (b_ (ofC a b c != 0)) ∧ Fr [] w w' := by
  refine calls_of (args := [(.agg #[(u_ a), (u_ b), (u_ c)])]) (penv [(.agg #[(u_ a), (u_ b), (u_ c)])]) [] [] Try.func48 rfl rfl (look_penv _) (HS.nil w) ?_
  refine A.norm [(0, (.agg #[(u_ a), (u_ b), (u_ c)]))] [] (by exact ⟨rfl, trivial⟩) rfl ?_
  refine A.seq ?_
  refine A.region (A.goA1 [.al, .p] [0, 1, 2] (fun b1 => [(0, (.agg #[(u_ a), (u_ b), (u_ c)])), (1, (p_ b1)), (2, (b_ false))]) (fun b1 => [blk b1 [(u_ a), (u_ b), (u_ c)] 28]) (fun b1 => []) (fun _ => T0) (fun _ => by kernel_rfl) (fun b1 => trivial) ?_)
  intro b1
  refine A.tn ?_
  refine A.seq ?_
  refine A.region (A.goA [.ld 0, .cq (i_ (ofC a b c)), .p, .p] [(0, (.agg #[(u_ a), (u_ b), (u_ c)])), (1, (p_ b1)), (2, (b_ ((ofC a b c) != 0)))] [b1] (fun κ => κ.call 49 [(.agg #[(u_ a), (u_ b), (u_ c)])] (i_ (ofC a b c)) ∧ True) (by kernel_rfl) ⟨(fun ww ss => of_spec a b c ww), trivial⟩ ?_)
  refine A.tn ?_
  refine A.ret ?_
  refine A.postQ [(b_ ((ofC a b c) != 0))] (fun aa ww rr ss => ⟨rv_tmp rr rfl, trivial⟩) ?_
  show ((b_ ((ofC a b c) != 0)) : Value) = (b_ (ofC a b c != 0))
  first | rfl | (refine congrArg (Value.int .i64) ?_; unfold ofC; grind [imax])

set_option maxHeartbeats 4000000 in
set_option maxRecDepth 100000 in
theorem has_spec (a b c : Int) (w : World) :
    Calls Try.prog 51 #[(.agg #[(u_ a), (u_ b), (u_ c)])] w fun e w' => e = .returned (b_ (decide (ofC a b c > 1))) ∧ Fr [] w w' := by
  refine calls_of (args := [(.agg #[(u_ a), (u_ b), (u_ c)])]) (penv [(.agg #[(u_ a), (u_ b), (u_ c)])]) [] [] Try.func51 rfl rfl (look_penv _) (HS.nil w) ?_
  refine A.norm [(0, (.agg #[(u_ a), (u_ b), (u_ c)]))] [] (by exact ⟨rfl, trivial⟩) rfl ?_
  refine A.seq ?_
  refine A.region (A.goA1 [.al, .p] [0, 1, 2] (fun b1 => [(0, (.agg #[(u_ a), (u_ b), (u_ c)])), (1, (p_ b1)), (2, (b_ false))]) (fun b1 => [blk b1 [(u_ a), (u_ b), (u_ c)] 28]) (fun b1 => []) (fun _ => T0) (fun _ => by kernel_rfl) (fun b1 => trivial) ?_)
  intro b1
  refine A.tn ?_
  refine A.seq ?_
  refine A.region (A.goA [.ld 0, .cq (i_ (ofC a b c)), .p, .p] [(0, (.agg #[(u_ a), (u_ b), (u_ c)])), (1, (p_ b1)), (2, (b_ (decide ((ofC a b c) > 1))))] [b1] (fun κ => κ.call 49 [(.agg #[(u_ a), (u_ b), (u_ c)])] (i_ (ofC a b c)) ∧ True) (by kernel_rfl) ⟨(fun ww ss => of_spec a b c ww), trivial⟩ ?_)
  refine A.tn ?_
  refine A.ret ?_
  refine A.postQ [(b_ (decide ((ofC a b c) > 1)))] (fun aa ww rr ss => ⟨rv_tmp rr rfl, trivial⟩) ?_
  show ((b_ (decide ((ofC a b c) > 1))) : Value) = (b_ (decide (ofC a b c > 1)))
  first | rfl | (refine congrArg (Value.int .i64) ?_; unfold ofC; grind [imax])

set_option maxHeartbeats 4000000 in
set_option maxRecDepth 100000 in
theorem real_spec (y : Cl) (w : World) :
    Calls Try.prog 39 #[(.agg #[(i_ y.hi), (i_ y.hp), (b_ y.hl), (u_ y.ra), (u_ y.rb), (u_ y.rc), (u_ y.la), (u_ y.lb), (u_ y.lc), (u_ y.ua), (u_ y.ub), (u_ y.uc), (i_ y.hk), (i_ y.hq)])] w fun e w' => e = .returned (b_ (decide ((ofC y.ra y.rb y.rc) > 1))) ∧ Fr [] w w' := by
  refine calls_of (args := [(.agg #[(i_ y.hi), (i_ y.hp), (b_ y.hl), (u_ y.ra), (u_ y.rb), (u_ y.rc), (u_ y.la), (u_ y.lb), (u_ y.lc), (u_ y.ua), (u_ y.ub), (u_ y.uc), (i_ y.hk), (i_ y.hq)])]) (penv [(.agg #[(i_ y.hi), (i_ y.hp), (b_ y.hl), (u_ y.ra), (u_ y.rb), (u_ y.rc), (u_ y.la), (u_ y.lb), (u_ y.lc), (u_ y.ua), (u_ y.ub), (u_ y.uc), (i_ y.hk), (i_ y.hq)])]) [] [] Try.func39 rfl rfl (look_penv _) (HS.nil w) ?_
  refine A.norm [(0, (.agg #[(i_ y.hi), (i_ y.hp), (b_ y.hl), (u_ y.ra), (u_ y.rb), (u_ y.rc), (u_ y.la), (u_ y.lb), (u_ y.lc), (u_ y.ua), (u_ y.ub), (u_ y.uc), (i_ y.hk), (i_ y.hq)]))] [] (by exact ⟨rfl, trivial⟩) rfl ?_
  refine A.seq ?_
  refine A.region (A.goA1 [.al, .p] [0, 1, 2] (fun b1 => [(0, (.agg #[(i_ y.hi), (i_ y.hp), (b_ y.hl), (u_ y.ra), (u_ y.rb), (u_ y.rc), (u_ y.la), (u_ y.lb), (u_ y.lc), (u_ y.ua), (u_ y.ub), (u_ y.uc), (i_ y.hk), (i_ y.hq)])), (1, (p_ b1)), (2, (b_ false))]) (fun b1 => [blk b1 [(i_ y.hi), (i_ y.hp), (b_ y.hl), (u_ y.ra), (u_ y.rb), (u_ y.rc), (u_ y.la), (u_ y.lb), (u_ y.lc), (u_ y.ua), (u_ y.ub), (u_ y.uc), (i_ y.hk), (i_ y.hq)] 30]) (fun b1 => []) (fun _ => T0) (fun _ => by kernel_rfl) (fun b1 => trivial) ?_)
  intro b1
  refine A.tn ?_
  refine A.seq ?_
  refine A.region (A.goA [.p, .ld 0, .cq (b_ (decide (ofC y.ra y.rb y.rc > 1))), .p] [(0, (.agg #[(i_ y.hi), (i_ y.hp), (b_ y.hl), (u_ y.ra), (u_ y.rb), (u_ y.rc), (u_ y.la), (u_ y.lb), (u_ y.lc), (u_ y.ua), (u_ y.ub), (u_ y.uc), (i_ y.hk), (i_ y.hq)])), (1, (p_ b1)), (2, (b_ (decide (ofC y.ra y.rb y.rc > 1))))] [b1] (fun κ => κ.call 51 [(.agg #[(u_ y.ra), (u_ y.rb), (u_ y.rc)])] (b_ (decide (ofC y.ra y.rb y.rc > 1))) ∧ True) (by kernel_rfl) ⟨(fun ww ss => has_spec y.ra y.rb y.rc ww), trivial⟩ ?_)
  refine A.tn ?_
  refine A.ret ?_
  refine A.postQ [(b_ (decide (ofC y.ra y.rb y.rc > 1)))] (fun aa ww rr ss => ⟨rv_tmp rr rfl, trivial⟩) ?_
  show ((b_ (decide (ofC y.ra y.rb y.rc > 1))) : Value) = (b_ (decide ((ofC y.ra y.rb y.rc) > 1)))
  first | rfl | (refine congrArg (Value.int .i64) ?_; unfold ofC; grind [imax])

set_option maxHeartbeats 4000000 in
set_option maxRecDepth 100000 in
theorem shares_spec (y : Cl) (w : World) :
    Calls Try.prog 34 #[(.agg #[(i_ y.hi), (i_ y.hp), (b_ y.hl), (u_ y.ra), (u_ y.rb), (u_ y.rc), (u_ y.la), (u_ y.lb), (u_ y.lc), (u_ y.ua), (u_ y.ub), (u_ y.uc), (i_ y.hk), (i_ y.hq)])] w fun e w' => e = .returned (b_ (decide ((ofC y.la y.lb y.lc) > 1))) ∧ Fr [] w w' := by
  refine calls_of (args := [(.agg #[(i_ y.hi), (i_ y.hp), (b_ y.hl), (u_ y.ra), (u_ y.rb), (u_ y.rc), (u_ y.la), (u_ y.lb), (u_ y.lc), (u_ y.ua), (u_ y.ub), (u_ y.uc), (i_ y.hk), (i_ y.hq)])]) (penv [(.agg #[(i_ y.hi), (i_ y.hp), (b_ y.hl), (u_ y.ra), (u_ y.rb), (u_ y.rc), (u_ y.la), (u_ y.lb), (u_ y.lc), (u_ y.ua), (u_ y.ub), (u_ y.uc), (i_ y.hk), (i_ y.hq)])]) [] [] Try.func34 rfl rfl (look_penv _) (HS.nil w) ?_
  refine A.norm [(0, (.agg #[(i_ y.hi), (i_ y.hp), (b_ y.hl), (u_ y.ra), (u_ y.rb), (u_ y.rc), (u_ y.la), (u_ y.lb), (u_ y.lc), (u_ y.ua), (u_ y.ub), (u_ y.uc), (i_ y.hk), (i_ y.hq)]))] [] (by exact ⟨rfl, trivial⟩) rfl ?_
  refine A.seq ?_
  refine A.region (A.goA1 [.al, .p] [0, 1, 2] (fun b1 => [(0, (.agg #[(i_ y.hi), (i_ y.hp), (b_ y.hl), (u_ y.ra), (u_ y.rb), (u_ y.rc), (u_ y.la), (u_ y.lb), (u_ y.lc), (u_ y.ua), (u_ y.ub), (u_ y.uc), (i_ y.hk), (i_ y.hq)])), (1, (p_ b1)), (2, (b_ false))]) (fun b1 => [blk b1 [(i_ y.hi), (i_ y.hp), (b_ y.hl), (u_ y.ra), (u_ y.rb), (u_ y.rc), (u_ y.la), (u_ y.lb), (u_ y.lc), (u_ y.ua), (u_ y.ub), (u_ y.uc), (i_ y.hk), (i_ y.hq)] 30]) (fun b1 => []) (fun _ => T0) (fun _ => by kernel_rfl) (fun b1 => trivial) ?_)
  intro b1
  refine A.tn ?_
  refine A.seq ?_
  refine A.region (A.goA [.p, .ld 0, .cq (b_ (decide (ofC y.la y.lb y.lc > 1))), .p] [(0, (.agg #[(i_ y.hi), (i_ y.hp), (b_ y.hl), (u_ y.ra), (u_ y.rb), (u_ y.rc), (u_ y.la), (u_ y.lb), (u_ y.lc), (u_ y.ua), (u_ y.ub), (u_ y.uc), (i_ y.hk), (i_ y.hq)])), (1, (p_ b1)), (2, (b_ (decide (ofC y.la y.lb y.lc > 1))))] [b1] (fun κ => κ.call 51 [(.agg #[(u_ y.la), (u_ y.lb), (u_ y.lc)])] (b_ (decide (ofC y.la y.lb y.lc > 1))) ∧ True) (by kernel_rfl) ⟨(fun ww ss => has_spec y.la y.lb y.lc ww), trivial⟩ ?_)
  refine A.tn ?_
  refine A.ret ?_
  refine A.postQ [(b_ (decide (ofC y.la y.lb y.lc > 1)))] (fun aa ww rr ss => ⟨rv_tmp rr rfl, trivial⟩) ?_
  show ((b_ (decide (ofC y.la y.lb y.lc > 1))) : Value) = (b_ (decide ((ofC y.la y.lb y.lc) > 1)))
  first | rfl | (refine congrArg (Value.int .i64) ?_; unfold ofC; grind [imax])

set_option maxHeartbeats 4000000 in
set_option maxRecDepth 100000 in
theorem capped_spec (y : Cl) (w : World) :
    Calls Try.prog 50 #[(.agg #[(i_ y.hi), (i_ y.hp), (b_ y.hl), (u_ y.ra), (u_ y.rb), (u_ y.rc), (u_ y.la), (u_ y.lb), (u_ y.lc), (u_ y.ua), (u_ y.ub), (u_ y.uc), (i_ y.hk), (i_ y.hq)])] w fun e w' => e = .returned (b_ (decide ((ofC y.ua y.ub y.uc) > 1))) ∧ Fr [] w w' := by
  refine calls_of (args := [(.agg #[(i_ y.hi), (i_ y.hp), (b_ y.hl), (u_ y.ra), (u_ y.rb), (u_ y.rc), (u_ y.la), (u_ y.lb), (u_ y.lc), (u_ y.ua), (u_ y.ub), (u_ y.uc), (i_ y.hk), (i_ y.hq)])]) (penv [(.agg #[(i_ y.hi), (i_ y.hp), (b_ y.hl), (u_ y.ra), (u_ y.rb), (u_ y.rc), (u_ y.la), (u_ y.lb), (u_ y.lc), (u_ y.ua), (u_ y.ub), (u_ y.uc), (i_ y.hk), (i_ y.hq)])]) [] [] Try.func50 rfl rfl (look_penv _) (HS.nil w) ?_
  refine A.norm [(0, (.agg #[(i_ y.hi), (i_ y.hp), (b_ y.hl), (u_ y.ra), (u_ y.rb), (u_ y.rc), (u_ y.la), (u_ y.lb), (u_ y.lc), (u_ y.ua), (u_ y.ub), (u_ y.uc), (i_ y.hk), (i_ y.hq)]))] [] (by exact ⟨rfl, trivial⟩) rfl ?_
  refine A.seq ?_
  refine A.region (A.goA1 [.al, .p] [0, 1, 2] (fun b1 => [(0, (.agg #[(i_ y.hi), (i_ y.hp), (b_ y.hl), (u_ y.ra), (u_ y.rb), (u_ y.rc), (u_ y.la), (u_ y.lb), (u_ y.lc), (u_ y.ua), (u_ y.ub), (u_ y.uc), (i_ y.hk), (i_ y.hq)])), (1, (p_ b1)), (2, (b_ false))]) (fun b1 => [blk b1 [(i_ y.hi), (i_ y.hp), (b_ y.hl), (u_ y.ra), (u_ y.rb), (u_ y.rc), (u_ y.la), (u_ y.lb), (u_ y.lc), (u_ y.ua), (u_ y.ub), (u_ y.uc), (i_ y.hk), (i_ y.hq)] 30]) (fun b1 => []) (fun _ => T0) (fun _ => by kernel_rfl) (fun b1 => trivial) ?_)
  intro b1
  refine A.tn ?_
  refine A.seq ?_
  refine A.region (A.goA [.p, .ld 0, .cq (b_ (decide (ofC y.ua y.ub y.uc > 1))), .p] [(0, (.agg #[(i_ y.hi), (i_ y.hp), (b_ y.hl), (u_ y.ra), (u_ y.rb), (u_ y.rc), (u_ y.la), (u_ y.lb), (u_ y.lc), (u_ y.ua), (u_ y.ub), (u_ y.uc), (i_ y.hk), (i_ y.hq)])), (1, (p_ b1)), (2, (b_ (decide (ofC y.ua y.ub y.uc > 1))))] [b1] (fun κ => κ.call 51 [(.agg #[(u_ y.ua), (u_ y.ub), (u_ y.uc)])] (b_ (decide (ofC y.ua y.ub y.uc > 1))) ∧ True) (by kernel_rfl) ⟨(fun ww ss => has_spec y.ua y.ub y.uc ww), trivial⟩ ?_)
  refine A.tn ?_
  refine A.ret ?_
  refine A.postQ [(b_ (decide (ofC y.ua y.ub y.uc > 1)))] (fun aa ww rr ss => ⟨rv_tmp rr rfl, trivial⟩) ?_
  show ((b_ (decide (ofC y.ua y.ub y.uc > 1))) : Value) = (b_ (decide ((ofC y.ua y.ub y.uc) > 1)))
  first | rfl | (refine congrArg (Value.int .i64) ?_; unfold ofC; grind [imax])

set_option maxHeartbeats 4000000 in
set_option maxRecDepth 100000 in
theorem from_spec (n a b : Int) (w : World) :
    Calls Try.prog 47 #[(i_ n), (i_ a), (i_ b)] w fun e w' => e = .returned (b_ (fromI n a b)) ∧ Fr [] w w' := by
  refine calls_of (args := [(i_ n), (i_ a), (i_ b)]) (penv [(i_ n), (i_ a), (i_ b)]) [] [] Try.func47 rfl rfl (look_penv _) (HS.nil w) ?_
  refine A.norm [(0, (i_ n)), (1, (i_ a)), (2, (i_ b))] [] (by exact ⟨rfl, rfl, rfl, trivial⟩) rfl ?_
  refine A.seq ?_
  refine A.region (A.goA [.p] [(0, (i_ n)), (1, (i_ a)), (2, (i_ b)), (6, (b_ false))] [] T0 (by kernel_rfl) trivial ?_)
  refine A.tn ?_
  refine A.seq ?_
  refine A.region (A.goA [.p, .p, .p, .p, .o, .p, .p, .p, .cl, .p] [(0, (i_ n)), (1, (i_ a)), (2, (i_ b)), (6, (b_ ((decide (n ≥ a)) && (decide (n ≤ b)))))] [] T0 (by kernel_rfl) trivial ?_)
  refine A.tn ?_
  refine A.ret ?_
  refine A.postQ [(b_ ((decide (n ≥ a)) && (decide (n ≤ b))))] (fun aa ww rr ss => ⟨rv_tmp rr rfl, trivial⟩) ?_
  show ((b_ ((decide (n ≥ a)) && (decide (n ≤ b)))) : Value) = (b_ (fromI n a b))
  first | rfl | (refine congrArg (Value.int .i64) ?_; unfold ofC; grind [imax])
end Go.Proofs.Ytpodcfadcdnllaa
