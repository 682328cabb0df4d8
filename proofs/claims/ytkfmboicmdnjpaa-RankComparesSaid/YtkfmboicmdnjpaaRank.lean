/- What the functions of this layer do, proved operation by operation, for all arguments; and the layer's laws. No condition but what each theorem states. -/
import Derived.Test.YtkfmboicmdnjpaaProg
import Derived.Test.YtkfmboicmdnjpaaVd
namespace Go.Proofs.Ytkfmboicmdnjpaa
open Go V
set_option linter.unusedVariables false

def cmp (x i y j : Int) : Int := if x = y ∧ i = j then 0 else if x < y ∨ x = y ∧ i < j then -1 else 1
def aheadB (x i y j : Int) : Bool := decide (x < y ∨ x = y ∧ i < j)
def dueB (x n : Int) : Bool := decide (x ≤ n ∧ x < 9223372036854775808)
def leastA (x i y j : Int) : Int := if cmp y j x i < 0 then y else x
def leastI (x i y j : Int) : Int := if cmp y j x i < 0 then j else i
theorem cmp_neg (x i y j : Int) : cmp x i y j < 0 ↔ (x < y ∨ x = y ∧ i < j) := by unfold cmp; grind
theorem least3 (x i y j p q : Int) : leastA x i (leastA y j p q) (leastI y j p q) = leastA (leastA p q x i) (leastI p q x i) y j ∧ leastI x i (leastA y j p q) (leastI y j p q) = leastI (leastA p q x i) (leastI p q x i) y j := by
  simp only [leastA, leastI, cmp_neg]
  repeat' split
  all_goals first | omega | grind

set_option maxRecDepth 100000 in
theorem compare_spec (x i y j : Int) (w : World) :
    Calls Try.prog 15 #[(.agg #[(.int .u64 x), (.int .i64 i)]), (.agg #[(.int .u64 y), (.int .i64 j)])] w fun e w' => e = .returned (.int .i64 (cmp x i y j)) ∧ Fr [] w w' := by
  refine calls_of (args := [(.agg #[(.int .u64 x), (.int .i64 i)]), (.agg #[(.int .u64 y), (.int .i64 j)])]) (penv [(.agg #[(.int .u64 x), (.int .i64 i)]), (.agg #[(.int .u64 y), (.int .i64 j)])]) [] [] Try.func15 rfl rfl (look_penv _) (HS.nil w) ?_
  refine A.norm [(0, (.agg #[(.int .u64 x), (.int .i64 i)])), (1, (.agg #[(.int .u64 y), (.int .i64 j)]))] [] (by exact ⟨rfl, rfl, trivial⟩) rfl ?_
  refine A.seq ?_
  refine A.region ?_
  refine A.cons (A.box 2 [(.int .u64 x), (.int .i64 i)] (by kernel_rfl) rfl rfl rfl (fun b1 => [blk b1 [(.int .u64 x), (.int .i64 i)] 24]) (fun _ => rfl) ?_)
  intro b1
  refine A.cons (A.box 3 [(.int .u64 y), (.int .i64 j)] (by kernel_rfl) rfl rfl rfl (fun b2 => [blk b1 [(.int .u64 x), (.int .i64 i)] 24, blk b2 [(.int .u64 y), (.int .i64 j)] 24]) (fun _ => rfl) ?_)
  intro b2
  refine A.cons (A.q (some 4) (.int .i64 0) (by kernel_rfl) (qt_assign rfl rfl) ?_)
  refine A.done ?_
  refine A.norm [(2, (.pointer (some ⟨b1, 0, none⟩))), (3, (.pointer (some ⟨b2, 0, none⟩))), (4, (.int .i64 0))] [blk b1 [(.int .u64 x), (.int .i64 i)] 24, blk b2 [(.int .u64 y), (.int .i64 j)] 24] (by exact ⟨rfl, rfl, rfl, trivial⟩) rfl ?_
  refine A.tn ?_
  refine A.seq ?_
  refine A.block ?_
  refine A.seq ?_
  refine A.region ?_
  refine A.cons (A.q (some 6) (.agg #[(.int .u64 x), (.int .i64 i)]) (by kernel_rfl) (qt_loadN (vs := [(.int .u64 x), (.int .i64 i)]) rfl rfl (by kernel_rfl) (reads_blk (i := 0) rfl rfl)) ?_)
  refine A.cons (A.q (some 7) (.agg #[(.int .u64 y), (.int .i64 j)]) (by kernel_rfl) (qt_loadN (vs := [(.int .u64 y), (.int .i64 j)]) rfl rfl (by kernel_rfl) (reads_blk (i := 1) rfl rfl)) ?_)
  refine A.cons (A.q (some 8) (.bool ((x == y) && (i == j))) (by kernel_rfl) (qt_eqlA rfl rfl rfl (by kernel_rfl) (by kernel_rfl)) ?_)
  refine A.cons (A.q (some 5) (.bool ((x == y) && (i == j))) (by kernel_rfl) (qt_assign rfl rfl) ?_)
  refine A.done ?_
  refine A.norm [(2, (.pointer (some ⟨b1, 0, none⟩))), (3, (.pointer (some ⟨b2, 0, none⟩))), (4, (.int .i64 0)), (5, (.bool ((x == y) && (i == j))))] [blk b1 [(.int .u64 x), (.int .i64 i)] 24, blk b2 [(.int .u64 y), (.int .i64 j)] 24] (by exact ⟨rfl, rfl, rfl, rfl, trivial⟩) rfl ?_
  refine A.tn ?_
  refine A.cond (E := (x == y) && (i == j)) rfl (fun e1 => ?_) (fun e1 => ?_)
  · skip
    refine A.seq ?_
    refine A.region ?_
    refine A.cons (A.q (some 4) (.int .i64 0) (by kernel_rfl) (qt_assign rfl rfl) ?_)
    refine A.done ?_
    refine A.norm [(2, (.pointer (some ⟨b1, 0, none⟩))), (3, (.pointer (some ⟨b2, 0, none⟩))), (4, (.int .i64 0)), (5, (.bool ((x == y) && (i == j))))] [blk b1 [(.int .u64 x), (.int .i64 i)] 24, blk b2 [(.int .u64 y), (.int .i64 j)] 24] (by exact ⟨rfl, rfl, rfl, rfl, trivial⟩) rfl ?_
    refine A.tn ?_
    refine A.ret ?_
    refine A.br ?_
    refine A.tr ?_
    refine A.post [(.int .i64 0)] (fun a w r s => ⟨rv_tmp r rfl, trivial⟩) (fun w1 s => ?_)
    refine ⟨congrArg Ending.returned (?_ : ((.int .i64 0) : Value) = _), s.fr⟩
    simp [cmp] at *; try simp_all; try omega
  · skip
    refine A.seq ?_
    refine A.cutR (fun _ : Unit => [(2, (.pointer (some ⟨b1, 0, none⟩))), (3, (.pointer (some ⟨b2, 0, none⟩))), (4, (.int .i64 0)), (5, (.bool ((x == y) && (i == j)))), (9, (.bool ((decide (x < y)) || ((x == y) && (decide (i < j))))))]) (fun _ => [blk b1 [(.int .u64 x), (.int .i64 i)] 24, blk b2 [(.int .u64 y), (.int .i64 j)] 24]) (fun _ => True) ?_ (fun _ _ => ?_)
    · skip
      refine A.region ?_
      refine A.cons (A.q (some 10) (.pointer (some ⟨b1, 0, none⟩)) (by kernel_rfl) (qt_pure (by kernel_rfl) fun _ => by kernel_rfl) ?_)
      refine A.cons (A.q (some 11) (.int .u64 x) (by kernel_rfl) (qt_load1 rfl rfl (by kernel_rfl) (reads_blk (i := 0) rfl rfl)) ?_)
      refine A.cons (A.q (some 12) (.pointer (some ⟨b2, 0, none⟩)) (by kernel_rfl) (qt_pure (by kernel_rfl) fun _ => by kernel_rfl) ?_)
      refine A.cons (A.q (some 13) (.int .u64 y) (by kernel_rfl) (qt_load1 rfl rfl (by kernel_rfl) (reads_blk (i := 1) rfl rfl)) ?_)
      refine A.cons (A.q (some 14) (.bool (decide (x < y))) (by kernel_rfl) (qt_pure (by kernel_rfl) fun _ => by kernel_rfl) ?_)
      refine A.cons (A.q (some 15) (.bool (decide (x < y))) (by kernel_rfl) (qt_move rfl rfl) ?_)
      refine A.bool (decide (x < y)) (fun e2 => ?_) (fun e2 => ?_)
      · skip
        refine A.sub [(2, (.pointer (some ⟨b1, 0, none⟩))), (3, (.pointer (some ⟨b2, 0, none⟩))), (4, (.int .i64 0)), (5, (.bool ((x == y) && (i == j)))), (10, (.pointer (some ⟨b1, 0, none⟩))), (11, (.int .u64 x)), (12, (.pointer (some ⟨b2, 0, none⟩))), (13, (.int .u64 y)), (14, (.bool true)), (15, (.bool true))] (by exact ⟨rfl, rfl, rfl, rfl, rfl, rfl, rfl, rfl, (congrArg (fun z => some (Value.bool z)) e2), (congrArg (fun z => some (Value.bool z)) e2), trivial⟩) ?_
        refine A.cons (A.jump (some 16) rfl rfl (by intro x hx; cases hx; rfl) ?_)
        refine A.cons (A.jump (some 17) rfl rfl (by intro x hx; cases hx; rfl) ?_)
        refine A.cons (A.jump (some 18) rfl rfl (by intro x hx; cases hx; rfl) ?_)
        refine A.cons (A.jump (some 19) rfl rfl (by intro x hx; cases hx; rfl) ?_)
        refine A.cons (A.jump (some 20) rfl rfl (by intro x hx; cases hx; rfl) ?_)
        refine A.cons (A.jump (some 21) rfl rfl (by intro x hx; cases hx; rfl) ?_)
        refine A.cons (A.jump (some 22) rfl rfl (by intro x hx; cases hx; rfl) ?_)
        refine A.cons (A.jump (some 23) rfl rfl (by intro x hx; cases hx; rfl) ?_)
        refine A.cons (A.jump (some 24) rfl rfl (by intro x hx; cases hx; rfl) ?_)
        refine A.cons (A.jump (some 25) rfl rfl (by intro x hx; cases hx; rfl) ?_)
        refine A.cons (A.jump (some 26) rfl rfl (by intro x hx; cases hx; rfl) ?_)
        refine A.cons (A.jump (some 27) rfl rfl (by intro x hx; cases hx; rfl) ?_)
        refine A.cons (A.q (some 28) (.bool true) (by kernel_rfl) (qt_pure (by kernel_rfl) fun _ => by kernel_rfl) ?_)
        refine A.cons (A.q (some 9) (.bool true) (by kernel_rfl) (qt_assign rfl rfl) ?_)
        refine A.done ?_
        exact A.meet () trivial (A.here (by exact ⟨rfl, rfl, rfl, rfl, (by rw [e2]; rfl), trivial⟩) (List.Sublist.refl _))
      · skip
        refine A.sub [(2, (.pointer (some ⟨b1, 0, none⟩))), (3, (.pointer (some ⟨b2, 0, none⟩))), (4, (.int .i64 0)), (5, (.bool ((x == y) && (i == j)))), (10, (.pointer (some ⟨b1, 0, none⟩))), (11, (.int .u64 x)), (12, (.pointer (some ⟨b2, 0, none⟩))), (13, (.int .u64 y)), (14, (.bool false)), (15, (.bool false))] (by exact ⟨rfl, rfl, rfl, rfl, rfl, rfl, rfl, rfl, (congrArg (fun z => some (Value.bool z)) e2), (congrArg (fun z => some (Value.bool z)) e2), trivial⟩) ?_
        refine A.cons (A.q (some 16) (.pointer (some ⟨b1, 0, none⟩)) (by kernel_rfl) (qt_pure (by kernel_rfl) fun _ => by kernel_rfl) ?_)
        refine A.cons (A.q (some 17) (.int .u64 x) (by kernel_rfl) (qt_load1 rfl rfl (by kernel_rfl) (reads_blk (i := 0) rfl rfl)) ?_)
        refine A.cons (A.q (some 18) (.pointer (some ⟨b2, 0, none⟩)) (by kernel_rfl) (qt_pure (by kernel_rfl) fun _ => by kernel_rfl) ?_)
        refine A.cons (A.q (some 19) (.int .u64 y) (by kernel_rfl) (qt_load1 rfl rfl (by kernel_rfl) (reads_blk (i := 1) rfl rfl)) ?_)
        refine A.cons (A.q (some 20) (.bool (x == y)) (by kernel_rfl) (qt_pure (by kernel_rfl) fun _ => by kernel_rfl) ?_)
        refine A.cons (A.q (some 21) (.bool (x == y)) (by kernel_rfl) (qt_move rfl rfl) ?_)
        refine A.bool (x == y) (fun e3 => ?_) (fun e3 => ?_)
        · skip
          refine A.sub [(2, (.pointer (some ⟨b1, 0, none⟩))), (3, (.pointer (some ⟨b2, 0, none⟩))), (4, (.int .i64 0)), (5, (.bool ((x == y) && (i == j)))), (10, (.pointer (some ⟨b1, 0, none⟩))), (11, (.int .u64 x)), (12, (.pointer (some ⟨b2, 0, none⟩))), (13, (.int .u64 y)), (14, (.bool false)), (15, (.bool false)), (16, (.pointer (some ⟨b1, 0, none⟩))), (17, (.int .u64 x)), (18, (.pointer (some ⟨b2, 0, none⟩))), (19, (.int .u64 y)), (20, (.bool true)), (21, (.bool true))] (by exact ⟨rfl, rfl, rfl, rfl, rfl, rfl, rfl, rfl, rfl, rfl, rfl, rfl, rfl, rfl, (congrArg (fun z => some (Value.bool z)) e3), (congrArg (fun z => some (Value.bool z)) e3), trivial⟩) ?_
          refine A.cons (A.q (some 22) (.pointer (some ⟨b1, 1, none⟩)) (by kernel_rfl) (qt_pure (by kernel_rfl) fun _ => by kernel_rfl) ?_)
          refine A.cons (A.q (some 23) (.int .i64 i) (by kernel_rfl) (qt_load1 rfl rfl (by kernel_rfl) (reads_blk (i := 0) rfl rfl)) ?_)
          refine A.cons (A.q (some 24) (.pointer (some ⟨b2, 1, none⟩)) (by kernel_rfl) (qt_pure (by kernel_rfl) fun _ => by kernel_rfl) ?_)
          refine A.cons (A.q (some 25) (.int .i64 j) (by kernel_rfl) (qt_load1 rfl rfl (by kernel_rfl) (reads_blk (i := 1) rfl rfl)) ?_)
          refine A.cons (A.q (some 26) (.bool (decide (i < j))) (by kernel_rfl) (qt_pure (by kernel_rfl) fun _ => by kernel_rfl) ?_)
          refine A.cons (A.q (some 27) (.bool (decide (i < j))) (by kernel_rfl) (qt_pure (by kernel_rfl) fun _ => by kernel_rfl) ?_)
          refine A.cons (A.q (some 28) (.bool (decide (i < j))) (by kernel_rfl) (qt_pure (by kernel_rfl) fun _ => by kernel_rfl) ?_)
          refine A.cons (A.q (some 9) (.bool (decide (i < j))) (by kernel_rfl) (qt_assign rfl rfl) ?_)
          refine A.done ?_
          exact A.meet () trivial (A.here (by exact ⟨rfl, rfl, rfl, rfl, (by rw [e2, e3]; rfl), trivial⟩) (List.Sublist.refl _))
        · skip
          refine A.sub [(2, (.pointer (some ⟨b1, 0, none⟩))), (3, (.pointer (some ⟨b2, 0, none⟩))), (4, (.int .i64 0)), (5, (.bool ((x == y) && (i == j)))), (10, (.pointer (some ⟨b1, 0, none⟩))), (11, (.int .u64 x)), (12, (.pointer (some ⟨b2, 0, none⟩))), (13, (.int .u64 y)), (14, (.bool false)), (15, (.bool false)), (16, (.pointer (some ⟨b1, 0, none⟩))), (17, (.int .u64 x)), (18, (.pointer (some ⟨b2, 0, none⟩))), (19, (.int .u64 y)), (20, (.bool false)), (21, (.bool false))] (by exact ⟨rfl, rfl, rfl, rfl, rfl, rfl, rfl, rfl, rfl, rfl, rfl, rfl, rfl, rfl, (congrArg (fun z => some (Value.bool z)) e3), (congrArg (fun z => some (Value.bool z)) e3), trivial⟩) ?_
          refine A.cons (A.jump (some 22) rfl rfl (by intro x hx; cases hx; rfl) ?_)
          refine A.cons (A.jump (some 23) rfl rfl (by intro x hx; cases hx; rfl) ?_)
          refine A.cons (A.jump (some 24) rfl rfl (by intro x hx; cases hx; rfl) ?_)
          refine A.cons (A.jump (some 25) rfl rfl (by intro x hx; cases hx; rfl) ?_)
          refine A.cons (A.jump (some 26) rfl rfl (by intro x hx; cases hx; rfl) ?_)
          refine A.cons (A.q (some 27) (.bool false) (by kernel_rfl) (qt_pure (by kernel_rfl) fun _ => by kernel_rfl) ?_)
          refine A.cons (A.q (some 28) (.bool false) (by kernel_rfl) (qt_pure (by kernel_rfl) fun _ => by kernel_rfl) ?_)
          refine A.cons (A.q (some 9) (.bool false) (by kernel_rfl) (qt_assign rfl rfl) ?_)
          refine A.done ?_
          exact A.meet () trivial (A.here (by exact ⟨rfl, rfl, rfl, rfl, (by rw [e2, e3]; rfl), trivial⟩) (List.Sublist.refl _))
    · skip
      refine A.tn ?_
      refine A.cond (E := (decide (x < y)) || ((x == y) && (decide (i < j)))) rfl (fun e4 => ?_) (fun e4 => ?_)
      · skip
        refine A.seq ?_
        refine A.region ?_
        refine A.cons (A.q (some 4) (.int .i64 (-1)) (by kernel_rfl) (qt_assign rfl rfl) ?_)
        refine A.done ?_
        refine A.norm [(2, (.pointer (some ⟨b1, 0, none⟩))), (3, (.pointer (some ⟨b2, 0, none⟩))), (4, (.int .i64 (-1))), (5, (.bool ((x == y) && (i == j)))), (9, (.bool ((decide (x < y)) || ((x == y) && (decide (i < j))))))] [blk b1 [(.int .u64 x), (.int .i64 i)] 24, blk b2 [(.int .u64 y), (.int .i64 j)] 24] (by exact ⟨rfl, rfl, rfl, rfl, rfl, trivial⟩) rfl ?_
        refine A.tn ?_
        refine A.ret ?_
        refine A.br ?_
        refine A.tr ?_
        refine A.post [(.int .i64 (-1))] (fun a w r s => ⟨rv_tmp r rfl, trivial⟩) (fun w1 s => ?_)
        refine ⟨congrArg Ending.returned (?_ : ((.int .i64 (-1)) : Value) = _), s.fr⟩
        simp [cmp] at *; try simp_all; try omega
      · skip
        refine A.skip ?_
        refine A.bn ?_
        refine A.tn ?_
        refine A.seq ?_
        refine A.region ?_
        refine A.cons (A.q (some 4) (.int .i64 1) (by kernel_rfl) (qt_assign rfl rfl) ?_)
        refine A.done ?_
        refine A.norm [(2, (.pointer (some ⟨b1, 0, none⟩))), (3, (.pointer (some ⟨b2, 0, none⟩))), (4, (.int .i64 1)), (5, (.bool ((x == y) && (i == j)))), (9, (.bool ((decide (x < y)) || ((x == y) && (decide (i < j))))))] [blk b1 [(.int .u64 x), (.int .i64 i)] 24, blk b2 [(.int .u64 y), (.int .i64 j)] 24] (by exact ⟨rfl, rfl, rfl, rfl, rfl, trivial⟩) rfl ?_
        refine A.tn ?_
        refine A.ret ?_
        refine A.post [(.int .i64 1)] (fun a w r s => ⟨rv_tmp r rfl, trivial⟩) (fun w1 s => ?_)
        refine ⟨congrArg Ending.returned (?_ : ((.int .i64 1) : Value) = _), s.fr⟩
        simp [cmp] at *; try simp_all; try omega

set_option maxRecDepth 100000 in
theorem ahead_spec (x i y j : Int) (w : World) :
    Calls Try.prog 14 #[(.agg #[(.int .u64 x), (.int .i64 i)]), (.agg #[(.int .u64 y), (.int .i64 j)])] w fun e w' => e = .returned (.bool (aheadB x i y j)) ∧ Fr [] w w' := by
  refine calls_of (args := [(.agg #[(.int .u64 x), (.int .i64 i)]), (.agg #[(.int .u64 y), (.int .i64 j)])]) (penv [(.agg #[(.int .u64 x), (.int .i64 i)]), (.agg #[(.int .u64 y), (.int .i64 j)])]) [] [] Try.func14 rfl rfl (look_penv _) (HS.nil w) ?_
  refine A.norm [(0, (.agg #[(.int .u64 x), (.int .i64 i)])), (1, (.agg #[(.int .u64 y), (.int .i64 j)]))] [] (by exact ⟨rfl, rfl, trivial⟩) rfl ?_
  refine A.seq ?_
  refine A.region ?_
  refine A.cons (A.box 2 [(.int .u64 x), (.int .i64 i)] (by kernel_rfl) rfl rfl rfl (fun b1 => [blk b1 [(.int .u64 x), (.int .i64 i)] 24]) (fun _ => rfl) ?_)
  intro b1
  refine A.cons (A.box 3 [(.int .u64 y), (.int .i64 j)] (by kernel_rfl) rfl rfl rfl (fun b2 => [blk b1 [(.int .u64 x), (.int .i64 i)] 24, blk b2 [(.int .u64 y), (.int .i64 j)] 24]) (fun _ => rfl) ?_)
  intro b2
  refine A.cons (A.q (some 4) (.bool false) (by kernel_rfl) (qt_assign rfl rfl) ?_)
  refine A.done ?_
  refine A.norm [(2, (.pointer (some ⟨b1, 0, none⟩))), (3, (.pointer (some ⟨b2, 0, none⟩))), (4, (.bool false))] [blk b1 [(.int .u64 x), (.int .i64 i)] 24, blk b2 [(.int .u64 y), (.int .i64 j)] 24] (by exact ⟨rfl, rfl, rfl, trivial⟩) rfl ?_
  refine A.tn ?_
  refine A.seq ?_
  refine A.cutR (fun _ : Unit => [(4, (.bool ((decide (x < y)) || ((x == y) && (decide (i < j))))))]) (fun _ => [blk b1 [(.int .u64 x), (.int .i64 i)] 24, blk b2 [(.int .u64 y), (.int .i64 j)] 24]) (fun _ => True) ?_ (fun _ _ => ?_)
  · skip
    refine A.region ?_
    refine A.cons (A.q (some 5) (.pointer (some ⟨b1, 0, none⟩)) (by kernel_rfl) (qt_pure (by kernel_rfl) fun _ => by kernel_rfl) ?_)
    refine A.cons (A.q (some 6) (.int .u64 x) (by kernel_rfl) (qt_load1 rfl rfl (by kernel_rfl) (reads_blk (i := 0) rfl rfl)) ?_)
    refine A.cons (A.q (some 7) (.pointer (some ⟨b2, 0, none⟩)) (by kernel_rfl) (qt_pure (by kernel_rfl) fun _ => by kernel_rfl) ?_)
    refine A.cons (A.q (some 8) (.int .u64 y) (by kernel_rfl) (qt_load1 rfl rfl (by kernel_rfl) (reads_blk (i := 1) rfl rfl)) ?_)
    refine A.cons (A.q (some 9) (.bool (decide (x < y))) (by kernel_rfl) (qt_pure (by kernel_rfl) fun _ => by kernel_rfl) ?_)
    refine A.cons (A.q (some 10) (.bool (decide (x < y))) (by kernel_rfl) (qt_move rfl rfl) ?_)
    refine A.bool (decide (x < y)) (fun e1 => ?_) (fun e1 => ?_)
    · skip
      refine A.sub [(2, (.pointer (some ⟨b1, 0, none⟩))), (3, (.pointer (some ⟨b2, 0, none⟩))), (4, (.bool false)), (5, (.pointer (some ⟨b1, 0, none⟩))), (6, (.int .u64 x)), (7, (.pointer (some ⟨b2, 0, none⟩))), (8, (.int .u64 y)), (9, (.bool true)), (10, (.bool true))] (by exact ⟨rfl, rfl, rfl, rfl, rfl, rfl, rfl, (congrArg (fun z => some (Value.bool z)) e1), (congrArg (fun z => some (Value.bool z)) e1), trivial⟩) ?_
      refine A.cons (A.jump (some 11) rfl rfl (by intro x hx; cases hx; rfl) ?_)
      refine A.cons (A.jump (some 12) rfl rfl (by intro x hx; cases hx; rfl) ?_)
      refine A.cons (A.jump (some 13) rfl rfl (by intro x hx; cases hx; rfl) ?_)
      refine A.cons (A.jump (some 14) rfl rfl (by intro x hx; cases hx; rfl) ?_)
      refine A.cons (A.jump (some 15) rfl rfl (by intro x hx; cases hx; rfl) ?_)
      refine A.cons (A.jump (some 16) rfl rfl (by intro x hx; cases hx; rfl) ?_)
      refine A.cons (A.jump (some 17) rfl rfl (by intro x hx; cases hx; rfl) ?_)
      refine A.cons (A.jump (some 18) rfl rfl (by intro x hx; cases hx; rfl) ?_)
      refine A.cons (A.jump (some 19) rfl rfl (by intro x hx; cases hx; rfl) ?_)
      refine A.cons (A.jump (some 20) rfl rfl (by intro x hx; cases hx; rfl) ?_)
      refine A.cons (A.jump (some 21) rfl rfl (by intro x hx; cases hx; rfl) ?_)
      refine A.cons (A.jump (some 22) rfl rfl (by intro x hx; cases hx; rfl) ?_)
      refine A.cons (A.q (some 23) (.bool true) (by kernel_rfl) (qt_pure (by kernel_rfl) fun _ => by kernel_rfl) ?_)
      refine A.cons (A.q (some 4) (.bool true) (by kernel_rfl) (qt_assign rfl rfl) ?_)
      refine A.done ?_
      exact A.meet () trivial (A.here (by exact ⟨(by rw [e1]; rfl), trivial⟩) (List.Sublist.refl _))
    · skip
      refine A.sub [(2, (.pointer (some ⟨b1, 0, none⟩))), (3, (.pointer (some ⟨b2, 0, none⟩))), (4, (.bool false)), (5, (.pointer (some ⟨b1, 0, none⟩))), (6, (.int .u64 x)), (7, (.pointer (some ⟨b2, 0, none⟩))), (8, (.int .u64 y)), (9, (.bool false)), (10, (.bool false))] (by exact ⟨rfl, rfl, rfl, rfl, rfl, rfl, rfl, (congrArg (fun z => some (Value.bool z)) e1), (congrArg (fun z => some (Value.bool z)) e1), trivial⟩) ?_
      refine A.cons (A.q (some 11) (.pointer (some ⟨b1, 0, none⟩)) (by kernel_rfl) (qt_pure (by kernel_rfl) fun _ => by kernel_rfl) ?_)
      refine A.cons (A.q (some 12) (.int .u64 x) (by kernel_rfl) (qt_load1 rfl rfl (by kernel_rfl) (reads_blk (i := 0) rfl rfl)) ?_)
      refine A.cons (A.q (some 13) (.pointer (some ⟨b2, 0, none⟩)) (by kernel_rfl) (qt_pure (by kernel_rfl) fun _ => by kernel_rfl) ?_)
      refine A.cons (A.q (some 14) (.int .u64 y) (by kernel_rfl) (qt_load1 rfl rfl (by kernel_rfl) (reads_blk (i := 1) rfl rfl)) ?_)
      refine A.cons (A.q (some 15) (.bool (x == y)) (by kernel_rfl) (qt_pure (by kernel_rfl) fun _ => by kernel_rfl) ?_)
      refine A.cons (A.q (some 16) (.bool (x == y)) (by kernel_rfl) (qt_move rfl rfl) ?_)
      refine A.bool (x == y) (fun e2 => ?_) (fun e2 => ?_)
      · skip
        refine A.sub [(2, (.pointer (some ⟨b1, 0, none⟩))), (3, (.pointer (some ⟨b2, 0, none⟩))), (4, (.bool false)), (5, (.pointer (some ⟨b1, 0, none⟩))), (6, (.int .u64 x)), (7, (.pointer (some ⟨b2, 0, none⟩))), (8, (.int .u64 y)), (9, (.bool false)), (10, (.bool false)), (11, (.pointer (some ⟨b1, 0, none⟩))), (12, (.int .u64 x)), (13, (.pointer (some ⟨b2, 0, none⟩))), (14, (.int .u64 y)), (15, (.bool true)), (16, (.bool true))] (by exact ⟨rfl, rfl, rfl, rfl, rfl, rfl, rfl, rfl, rfl, rfl, rfl, rfl, rfl, (congrArg (fun z => some (Value.bool z)) e2), (congrArg (fun z => some (Value.bool z)) e2), trivial⟩) ?_
        refine A.cons (A.q (some 17) (.pointer (some ⟨b1, 1, none⟩)) (by kernel_rfl) (qt_pure (by kernel_rfl) fun _ => by kernel_rfl) ?_)
        refine A.cons (A.q (some 18) (.int .i64 i) (by kernel_rfl) (qt_load1 rfl rfl (by kernel_rfl) (reads_blk (i := 0) rfl rfl)) ?_)
        refine A.cons (A.q (some 19) (.pointer (some ⟨b2, 1, none⟩)) (by kernel_rfl) (qt_pure (by kernel_rfl) fun _ => by kernel_rfl) ?_)
        refine A.cons (A.q (some 20) (.int .i64 j) (by kernel_rfl) (qt_load1 rfl rfl (by kernel_rfl) (reads_blk (i := 1) rfl rfl)) ?_)
        refine A.cons (A.q (some 21) (.bool (decide (i < j))) (by kernel_rfl) (qt_pure (by kernel_rfl) fun _ => by kernel_rfl) ?_)
        refine A.cons (A.q (some 22) (.bool (decide (i < j))) (by kernel_rfl) (qt_pure (by kernel_rfl) fun _ => by kernel_rfl) ?_)
        refine A.cons (A.q (some 23) (.bool (decide (i < j))) (by kernel_rfl) (qt_pure (by kernel_rfl) fun _ => by kernel_rfl) ?_)
        refine A.cons (A.q (some 4) (.bool (decide (i < j))) (by kernel_rfl) (qt_assign rfl rfl) ?_)
        refine A.done ?_
        exact A.meet () trivial (A.here (by exact ⟨(by rw [e1, e2]; rfl), trivial⟩) (List.Sublist.refl _))
      · skip
        refine A.sub [(2, (.pointer (some ⟨b1, 0, none⟩))), (3, (.pointer (some ⟨b2, 0, none⟩))), (4, (.bool false)), (5, (.pointer (some ⟨b1, 0, none⟩))), (6, (.int .u64 x)), (7, (.pointer (some ⟨b2, 0, none⟩))), (8, (.int .u64 y)), (9, (.bool false)), (10, (.bool false)), (11, (.pointer (some ⟨b1, 0, none⟩))), (12, (.int .u64 x)), (13, (.pointer (some ⟨b2, 0, none⟩))), (14, (.int .u64 y)), (15, (.bool false)), (16, (.bool false))] (by exact ⟨rfl, rfl, rfl, rfl, rfl, rfl, rfl, rfl, rfl, rfl, rfl, rfl, rfl, (congrArg (fun z => some (Value.bool z)) e2), (congrArg (fun z => some (Value.bool z)) e2), trivial⟩) ?_
        refine A.cons (A.jump (some 17) rfl rfl (by intro x hx; cases hx; rfl) ?_)
        refine A.cons (A.jump (some 18) rfl rfl (by intro x hx; cases hx; rfl) ?_)
        refine A.cons (A.jump (some 19) rfl rfl (by intro x hx; cases hx; rfl) ?_)
        refine A.cons (A.jump (some 20) rfl rfl (by intro x hx; cases hx; rfl) ?_)
        refine A.cons (A.jump (some 21) rfl rfl (by intro x hx; cases hx; rfl) ?_)
        refine A.cons (A.q (some 22) (.bool false) (by kernel_rfl) (qt_pure (by kernel_rfl) fun _ => by kernel_rfl) ?_)
        refine A.cons (A.q (some 23) (.bool false) (by kernel_rfl) (qt_pure (by kernel_rfl) fun _ => by kernel_rfl) ?_)
        refine A.cons (A.q (some 4) (.bool false) (by kernel_rfl) (qt_assign rfl rfl) ?_)
        refine A.done ?_
        exact A.meet () trivial (A.here (by exact ⟨(by rw [e1, e2]; rfl), trivial⟩) (List.Sublist.refl _))
  · skip
    refine A.tn ?_
    refine A.ret ?_
    refine A.post [(.bool ((decide (x < y)) || ((x == y) && (decide (i < j)))))] (fun a w r s => ⟨rv_tmp r rfl, trivial⟩) (fun w1 s => ?_)
    refine ⟨congrArg Ending.returned (?_ : ((.bool ((decide (x < y)) || ((x == y) && (decide (i < j))))) : Value) = _), s.fr⟩
    refine congrArg Value.bool ?_; rw [Bool.eq_iff_iff]; simp [aheadB]

set_option maxRecDepth 100000 in
theorem never_spec (i : Int) (w : World) :
    Calls Try.prog 18 #[(.int .i64 i)] w fun e w' => e = .returned (.agg #[(.int .u64 9223372036854775808), (.int .i64 i)]) ∧ Fr [] w w' := by
  refine calls_of (args := [(.int .i64 i)]) (penv [(.int .i64 i)]) [] [] Try.func18 rfl rfl (look_penv _) (HS.nil w) ?_
  refine A.norm [(0, (.int .i64 i))] [] (by exact ⟨rfl, trivial⟩) rfl ?_
  refine A.seq ?_
  refine A.region ?_
  refine A.cons (A.alloc 2 [(.int .u64 0), (.int .i64 0)] (by kernel_rfl) rfl (by kernel_rfl) (fun b1 => [blk b1 [(.int .u64 0), (.int .i64 0)] 24]) (fun _ => rfl) ?_)
  intro b1
  refine A.done ?_
  refine A.norm [(0, (.int .i64 i)), (2, (.pointer (some ⟨b1, 0, none⟩)))] [blk b1 [(.int .u64 0), (.int .i64 0)] 24] (by exact ⟨rfl, rfl, trivial⟩) rfl ?_
  refine A.tn ?_
  refine A.seq ?_
  refine A.region ?_
  refine A.cons (A.q (some 3) (.int .i64 i) (by kernel_rfl) (qt_move rfl rfl) ?_)
  refine A.cons (A.q (some 4) (.agg #[(.int .u64 9223372036854775808), (.int .i64 i)]) (by kernel_rfl) (qt_pure (by kernel_rfl) fun _ => by kernel_rfl) ?_)
  refine A.cons (A.store 0 (vs := [(.int .u64 9223372036854775808), (.int .i64 i)]) [blk b1 [(.int .u64 9223372036854775808), (.int .i64 i)] 24] (by kernel_rfl) rfl rfl rfl rfl (by kernel_rfl) rfl rfl (by kernel_rfl) rfl ?_)
  refine A.done ?_
  refine A.norm [(2, (.pointer (some ⟨b1, 0, none⟩)))] [blk b1 [(.int .u64 9223372036854775808), (.int .i64 i)] 24] (by exact ⟨rfl, trivial⟩) rfl ?_
  refine A.tn ?_
  refine A.ret ?_
  refine A.post [(.agg #[(.int .u64 9223372036854775808), (.int .i64 i)])] (fun a w r s => ⟨rv_cellN (vs := [(.int .u64 9223372036854775808), (.int .i64 i)]) r s rfl (by kernel_rfl) (reads_blk (i := 0) rfl rfl), trivial⟩) (fun w1 s => ?_)
  exact ⟨rfl, s.fr⟩

set_option maxRecDepth 100000 in
theorem due_spec (x i n : Int) (w : World) :
    Calls Try.prog 17 #[(.agg #[(.int .u64 x), (.int .i64 i)]), (.int .u64 n)] w fun e w' => e = .returned (.bool (dueB x n)) ∧ Fr [] w w' := by
  refine calls_of (args := [(.agg #[(.int .u64 x), (.int .i64 i)]), (.int .u64 n)]) (penv [(.agg #[(.int .u64 x), (.int .i64 i)]), (.int .u64 n)]) [] [] Try.func17 rfl rfl (look_penv _) (HS.nil w) ?_
  refine A.norm [(0, (.agg #[(.int .u64 x), (.int .i64 i)])), (1, (.int .u64 n))] [] (by exact ⟨rfl, rfl, trivial⟩) rfl ?_
  refine A.seq ?_
  refine A.region ?_
  refine A.cons (A.box 2 [(.int .u64 x), (.int .i64 i)] (by kernel_rfl) rfl rfl rfl (fun b1 => [blk b1 [(.int .u64 x), (.int .i64 i)] 24]) (fun _ => rfl) ?_)
  intro b1
  refine A.cons (A.q (some 4) (.bool false) (by kernel_rfl) (qt_assign rfl rfl) ?_)
  refine A.done ?_
  refine A.norm [(1, (.int .u64 n)), (2, (.pointer (some ⟨b1, 0, none⟩))), (4, (.bool false))] [blk b1 [(.int .u64 x), (.int .i64 i)] 24] (by exact ⟨rfl, rfl, rfl, trivial⟩) rfl ?_
  refine A.tn ?_
  refine A.seq ?_
  refine A.cutR (fun _ : Unit => [(4, (.bool ((decide (x ≤ n)) && (decide (x < 9223372036854775808)))))]) (fun _ => [blk b1 [(.int .u64 x), (.int .i64 i)] 24]) (fun _ => True) ?_ (fun _ _ => ?_)
  · skip
    refine A.region ?_
    refine A.cons (A.q (some 5) (.pointer (some ⟨b1, 0, none⟩)) (by kernel_rfl) (qt_pure (by kernel_rfl) fun _ => by kernel_rfl) ?_)
    refine A.cons (A.q (some 6) (.int .u64 x) (by kernel_rfl) (qt_load1 rfl rfl (by kernel_rfl) (reads_blk (i := 0) rfl rfl)) ?_)
    refine A.cons (A.q (some 7) (.int .u64 n) (by kernel_rfl) (qt_move rfl rfl) ?_)
    refine A.cons (A.q (some 8) (.bool (decide (x ≤ n))) (by kernel_rfl) (qt_pure (by kernel_rfl) fun _ => by kernel_rfl) ?_)
    refine A.cons (A.q (some 9) (.bool (decide (x ≤ n))) (by kernel_rfl) (qt_move rfl rfl) ?_)
    refine A.bool (decide (x ≤ n)) (fun e1 => ?_) (fun e1 => ?_)
    · skip
      refine A.sub [(1, (.int .u64 n)), (2, (.pointer (some ⟨b1, 0, none⟩))), (4, (.bool false)), (5, (.pointer (some ⟨b1, 0, none⟩))), (6, (.int .u64 x)), (7, (.int .u64 n)), (8, (.bool true)), (9, (.bool true))] (by exact ⟨rfl, rfl, rfl, rfl, rfl, rfl, (congrArg (fun z => some (Value.bool z)) e1), (congrArg (fun z => some (Value.bool z)) e1), trivial⟩) ?_
      refine A.cons (A.q (some 10) (.pointer (some ⟨b1, 0, none⟩)) (by kernel_rfl) (qt_pure (by kernel_rfl) fun _ => by kernel_rfl) ?_)
      refine A.cons (A.q (some 11) (.int .u64 x) (by kernel_rfl) (qt_load1 rfl rfl (by kernel_rfl) (reads_blk (i := 0) rfl rfl)) ?_)
      refine A.cons (A.q (some 12) (.bool (decide (x < 9223372036854775808))) (by kernel_rfl) (qt_pure (by kernel_rfl) fun _ => by kernel_rfl) ?_)
      refine A.cons (A.q (some 13) (.bool (decide (x < 9223372036854775808))) (by kernel_rfl) (qt_pure (by kernel_rfl) fun _ => by kernel_rfl) ?_)
      refine A.cons (A.q (some 4) (.bool (decide (x < 9223372036854775808))) (by kernel_rfl) (qt_assign rfl rfl) ?_)
      refine A.done ?_
      exact A.meet () trivial (A.here (by exact ⟨(by rw [e1]; rfl), trivial⟩) (List.Sublist.refl _))
    · skip
      refine A.sub [(1, (.int .u64 n)), (2, (.pointer (some ⟨b1, 0, none⟩))), (4, (.bool false)), (5, (.pointer (some ⟨b1, 0, none⟩))), (6, (.int .u64 x)), (7, (.int .u64 n)), (8, (.bool false)), (9, (.bool false))] (by exact ⟨rfl, rfl, rfl, rfl, rfl, rfl, (congrArg (fun z => some (Value.bool z)) e1), (congrArg (fun z => some (Value.bool z)) e1), trivial⟩) ?_
      refine A.cons (A.jump (some 10) rfl rfl (by intro x hx; cases hx; rfl) ?_)
      refine A.cons (A.jump (some 11) rfl rfl (by intro x hx; cases hx; rfl) ?_)
      refine A.cons (A.jump (some 12) rfl rfl (by intro x hx; cases hx; rfl) ?_)
      refine A.cons (A.q (some 13) (.bool false) (by kernel_rfl) (qt_pure (by kernel_rfl) fun _ => by kernel_rfl) ?_)
      refine A.cons (A.q (some 4) (.bool false) (by kernel_rfl) (qt_assign rfl rfl) ?_)
      refine A.done ?_
      exact A.meet () trivial (A.here (by exact ⟨(by rw [e1]; rfl), trivial⟩) (List.Sublist.refl _))
  · skip
    refine A.tn ?_
    refine A.ret ?_
    refine A.post [(.bool ((decide (x ≤ n)) && (decide (x < 9223372036854775808))))] (fun a w r s => ⟨rv_tmp r rfl, trivial⟩) (fun w1 s => ?_)
    refine ⟨congrArg Ending.returned (?_ : ((.bool ((decide (x ≤ n)) && (decide (x < 9223372036854775808)))) : Value) = _), s.fr⟩
    refine congrArg Value.bool ?_; simp [dueB]

set_option maxRecDepth 100000 in
theorem least_spec (x i y j : Int) (w : World) :
    Calls Try.prog 16 #[(.agg #[(.int .u64 x), (.int .i64 i)]), (.agg #[(.int .u64 y), (.int .i64 j)])] w fun e w' => e = .returned (.agg #[(.int .u64 (leastA x i y j)), (.int .i64 (leastI x i y j))]) ∧ Fr [] w w' := by
  refine calls_of (args := [(.agg #[(.int .u64 x), (.int .i64 i)]), (.agg #[(.int .u64 y), (.int .i64 j)])]) (penv [(.agg #[(.int .u64 x), (.int .i64 i)]), (.agg #[(.int .u64 y), (.int .i64 j)])]) [] [] Try.func16 rfl rfl (look_penv _) (HS.nil w) ?_
  refine A.norm [(0, (.agg #[(.int .u64 x), (.int .i64 i)])), (1, (.agg #[(.int .u64 y), (.int .i64 j)]))] [] (by exact ⟨rfl, rfl, trivial⟩) rfl ?_
  refine A.seq ?_
  refine A.region ?_
  refine A.cons (A.box 2 [(.int .u64 x), (.int .i64 i)] (by kernel_rfl) rfl rfl rfl (fun b1 => [blk b1 [(.int .u64 x), (.int .i64 i)] 24]) (fun _ => rfl) ?_)
  intro b1
  refine A.cons (A.box 3 [(.int .u64 y), (.int .i64 j)] (by kernel_rfl) rfl rfl rfl (fun b2 => [blk b1 [(.int .u64 x), (.int .i64 i)] 24, blk b2 [(.int .u64 y), (.int .i64 j)] 24]) (fun _ => rfl) ?_)
  intro b2
  refine A.cons (A.alloc 4 [(.int .u64 0), (.int .i64 0)] (by kernel_rfl) rfl (by kernel_rfl) (fun b3 => [blk b1 [(.int .u64 x), (.int .i64 i)] 24, blk b2 [(.int .u64 y), (.int .i64 j)] 24, blk b3 [(.int .u64 0), (.int .i64 0)] 24]) (fun _ => rfl) ?_)
  intro b3
  refine A.done ?_
  refine A.norm [(2, (.pointer (some ⟨b1, 0, none⟩))), (3, (.pointer (some ⟨b2, 0, none⟩))), (4, (.pointer (some ⟨b3, 0, none⟩)))] [blk b1 [(.int .u64 x), (.int .i64 i)] 24, blk b2 [(.int .u64 y), (.int .i64 j)] 24, blk b3 [(.int .u64 0), (.int .i64 0)] 24] (by exact ⟨rfl, rfl, rfl, trivial⟩) rfl ?_
  refine A.tn ?_
  refine A.seq ?_
  refine A.seq ?_
  refine A.region ?_
  refine A.cons (A.q (some 5) (.agg #[(.int .u64 y), (.int .i64 j)]) (by kernel_rfl) (qt_loadN (vs := [(.int .u64 y), (.int .i64 j)]) rfl rfl (by kernel_rfl) (reads_blk (i := 1) rfl rfl)) ?_)
  refine A.cons (A.q (some 6) (.agg #[(.int .u64 x), (.int .i64 i)]) (by kernel_rfl) (qt_loadN (vs := [(.int .u64 x), (.int .i64 i)]) rfl rfl (by kernel_rfl) (reads_blk (i := 0) rfl rfl)) ?_)
  refine A.cons (A.q (some 7) (.int .i64 (cmp y j x i)) (by kernel_rfl) (qt_call [(.agg #[(.int .u64 y), (.int .i64 j)]), (.agg #[(.int .u64 x), (.int .i64 i)])] rfl (by kernel_rfl) rfl (fun w _ => compare_spec y j x i w)) ?_)
  refine A.cons (A.q (some 8) (.bool (decide ((cmp y j x i) < 0))) (by kernel_rfl) (qt_pure (by kernel_rfl) fun _ => by kernel_rfl) ?_)
  refine A.done ?_
  refine A.norm [(2, (.pointer (some ⟨b1, 0, none⟩))), (3, (.pointer (some ⟨b2, 0, none⟩))), (4, (.pointer (some ⟨b3, 0, none⟩))), (8, (.bool (decide ((cmp y j x i) < 0))))] [blk b1 [(.int .u64 x), (.int .i64 i)] 24, blk b2 [(.int .u64 y), (.int .i64 j)] 24, blk b3 [(.int .u64 0), (.int .i64 0)] 24] (by exact ⟨rfl, rfl, rfl, rfl, trivial⟩) rfl ?_
  refine A.tn ?_
  refine A.cond (E := decide ((cmp y j x i) < 0)) rfl (fun e1 => ?_) (fun e1 => ?_)
  · skip
    refine A.seq ?_
    refine A.region ?_
    refine A.cons (A.q (some 9) (.agg #[(.int .u64 y), (.int .i64 j)]) (by kernel_rfl) (qt_loadN (vs := [(.int .u64 y), (.int .i64 j)]) rfl rfl (by kernel_rfl) (reads_blk (i := 1) rfl rfl)) ?_)
    refine A.cons (A.store 2 (vs := [(.int .u64 y), (.int .i64 j)]) [blk b1 [(.int .u64 x), (.int .i64 i)] 24, blk b2 [(.int .u64 y), (.int .i64 j)] 24, blk b3 [(.int .u64 y), (.int .i64 j)] 24] (by kernel_rfl) rfl rfl rfl rfl (by kernel_rfl) rfl rfl (by kernel_rfl) rfl ?_)
    refine A.done ?_
    refine A.norm [(2, (.pointer (some ⟨b1, 0, none⟩))), (3, (.pointer (some ⟨b2, 0, none⟩))), (4, (.pointer (some ⟨b3, 0, none⟩))), (8, (.bool (decide ((cmp y j x i) < 0))))] [blk b1 [(.int .u64 x), (.int .i64 i)] 24, blk b2 [(.int .u64 y), (.int .i64 j)] 24, blk b3 [(.int .u64 y), (.int .i64 j)] 24] (by exact ⟨rfl, rfl, rfl, rfl, trivial⟩) rfl ?_
    refine A.tn ?_
    refine A.ret ?_
    refine A.tr ?_
    refine A.post [(.agg #[(.int .u64 y), (.int .i64 j)])] (fun a w r s => ⟨rv_cellN (vs := [(.int .u64 y), (.int .i64 j)]) r s rfl (by kernel_rfl) (reads_blk (i := 2) rfl rfl), trivial⟩) (fun w1 s => ?_)
    refine ⟨congrArg Ending.returned (?_ : ((.agg #[(.int .u64 y), (.int .i64 j)]) : Value) = _), s.fr⟩
    simp_all [leastA, leastI] <;> omega
  · skip
    refine A.skip ?_
    refine A.tn ?_
    refine A.seq ?_
    refine A.region ?_
    refine A.cons (A.q (some 10) (.agg #[(.int .u64 x), (.int .i64 i)]) (by kernel_rfl) (qt_loadN (vs := [(.int .u64 x), (.int .i64 i)]) rfl rfl (by kernel_rfl) (reads_blk (i := 0) rfl rfl)) ?_)
    refine A.cons (A.store 2 (vs := [(.int .u64 x), (.int .i64 i)]) [blk b1 [(.int .u64 x), (.int .i64 i)] 24, blk b2 [(.int .u64 y), (.int .i64 j)] 24, blk b3 [(.int .u64 x), (.int .i64 i)] 24] (by kernel_rfl) rfl rfl rfl rfl (by kernel_rfl) rfl rfl (by kernel_rfl) rfl ?_)
    refine A.done ?_
    refine A.norm [(2, (.pointer (some ⟨b1, 0, none⟩))), (3, (.pointer (some ⟨b2, 0, none⟩))), (4, (.pointer (some ⟨b3, 0, none⟩))), (8, (.bool (decide ((cmp y j x i) < 0))))] [blk b1 [(.int .u64 x), (.int .i64 i)] 24, blk b2 [(.int .u64 y), (.int .i64 j)] 24, blk b3 [(.int .u64 x), (.int .i64 i)] 24] (by exact ⟨rfl, rfl, rfl, rfl, trivial⟩) rfl ?_
    refine A.tn ?_
    refine A.ret ?_
    refine A.post [(.agg #[(.int .u64 x), (.int .i64 i)])] (fun a w r s => ⟨rv_cellN (vs := [(.int .u64 x), (.int .i64 i)]) r s rfl (by kernel_rfl) (reads_blk (i := 2) rfl rfl), trivial⟩) (fun w1 s => ?_)
    refine ⟨congrArg Ending.returned (?_ : ((.agg #[(.int .u64 x), (.int .i64 i)]) : Value) = _), s.fr⟩
    simp_all [leastA, leastI] <;> omega

set_option maxRecDepth 100000 in
theorem three_spec (w : World) :
    Calls Try.prog 19 #[] w fun e w' => e = .returned (.bool true) ∧ Fr [] w w' := by
  refine calls_of (args := []) (penv []) [] [] Try.func19 rfl rfl (look_penv _) (HS.nil w) ?_
  refine A.norm [] [] trivial rfl ?_
  refine A.seq ?_
  refine A.region ?_
  refine A.cons (A.q (some 0) (.bool false) (by kernel_rfl) (qt_assign rfl rfl) ?_)
  refine A.done ?_
  refine A.norm [(0, (.bool false))] [] (by exact ⟨rfl, trivial⟩) rfl ?_
  refine A.tn ?_
  refine A.seq ?_
  refine A.region ?_
  refine A.cons (A.q (some 4) (.agg #[(.int .u64 3), (.int .i64 9)]) (by kernel_rfl) (qt_pure (by kernel_rfl) fun _ => by kernel_rfl) ?_)
  refine A.cons (A.q (some 5) (.agg #[(.int .u64 4), (.int .i64 1)]) (by kernel_rfl) (qt_pure (by kernel_rfl) fun _ => by kernel_rfl) ?_)
  refine A.cons (A.q (some 6) (.agg #[(.int .u64 4), (.int .i64 2)]) (by kernel_rfl) (qt_pure (by kernel_rfl) fun _ => by kernel_rfl) ?_)
  refine A.cons (A.alloc 1 [(.int .u64 0), (.int .i64 0)] (by kernel_rfl) rfl (by kernel_rfl) (fun b1 => [blk b1 [(.int .u64 0), (.int .i64 0)] 24]) (fun _ => rfl) ?_)
  intro b1
  refine A.cons (A.alloc 2 [(.int .u64 0), (.int .i64 0)] (by kernel_rfl) rfl (by kernel_rfl) (fun b2 => [blk b1 [(.int .u64 0), (.int .i64 0)] 24, blk b2 [(.int .u64 0), (.int .i64 0)] 24]) (fun _ => rfl) ?_)
  intro b2
  refine A.cons (A.alloc 3 [(.int .u64 0), (.int .i64 0)] (by kernel_rfl) rfl (by kernel_rfl) (fun b3 => [blk b1 [(.int .u64 0), (.int .i64 0)] 24, blk b2 [(.int .u64 0), (.int .i64 0)] 24, blk b3 [(.int .u64 0), (.int .i64 0)] 24]) (fun _ => rfl) ?_)
  intro b3
  refine A.cons (A.store 0 (vs := [(.int .u64 3), (.int .i64 9)]) [blk b1 [(.int .u64 3), (.int .i64 9)] 24, blk b2 [(.int .u64 0), (.int .i64 0)] 24, blk b3 [(.int .u64 0), (.int .i64 0)] 24] (by kernel_rfl) rfl rfl rfl rfl (by kernel_rfl) rfl rfl (by kernel_rfl) rfl ?_)
  refine A.cons (A.store 1 (vs := [(.int .u64 4), (.int .i64 1)]) [blk b1 [(.int .u64 3), (.int .i64 9)] 24, blk b2 [(.int .u64 4), (.int .i64 1)] 24, blk b3 [(.int .u64 0), (.int .i64 0)] 24] (by kernel_rfl) rfl rfl rfl rfl (by kernel_rfl) rfl rfl (by kernel_rfl) rfl ?_)
  refine A.cons (A.store 2 (vs := [(.int .u64 4), (.int .i64 2)]) [blk b1 [(.int .u64 3), (.int .i64 9)] 24, blk b2 [(.int .u64 4), (.int .i64 1)] 24, blk b3 [(.int .u64 4), (.int .i64 2)] 24] (by kernel_rfl) rfl rfl rfl rfl (by kernel_rfl) rfl rfl (by kernel_rfl) rfl ?_)
  refine A.done ?_
  refine A.norm [(0, (.bool false)), (1, (.pointer (some ⟨b1, 0, none⟩))), (2, (.pointer (some ⟨b2, 0, none⟩))), (3, (.pointer (some ⟨b3, 0, none⟩)))] [blk b1 [(.int .u64 3), (.int .i64 9)] 24, blk b2 [(.int .u64 4), (.int .i64 1)] 24, blk b3 [(.int .u64 4), (.int .i64 2)] 24] (by exact ⟨rfl, rfl, rfl, rfl, trivial⟩) rfl ?_
  refine A.tn ?_
  refine A.seq ?_
  refine A.cutR (fun _ : Unit => [(0, (.bool (((cmp 3 9 4 1) == (-1)) && (((cmp 4 1 4 2) == (-1)) && (((cmp 4 2 3 9) == 1) && ((((leastA 4 2 4 1) == 4) && ((leastI 4 2 4 1) == 1)) && ((dueB 4 4) && (!(dueB 4 3))))))))), (1, (.pointer (some ⟨b1, 0, none⟩))), (2, (.pointer (some ⟨b2, 0, none⟩))), (3, (.pointer (some ⟨b3, 0, none⟩)))]) (fun _ => [blk b1 [(.int .u64 3), (.int .i64 9)] 24, blk b2 [(.int .u64 4), (.int .i64 1)] 24, blk b3 [(.int .u64 4), (.int .i64 2)] 24]) (fun _ => True) ?_ (fun _ _ => ?_)
  · skip
    refine A.draw [blk b1 [(.int .u64 3), (.int .i64 9)] 24, blk b2 [(.int .u64 4), (.int .i64 1)] 24, blk b3 [(.int .u64 4), (.int .i64 2)] 24] (by kernel_rfl) ?_
    refine A.take 0 (some 7) (.agg #[(.int .u64 3), (.int .i64 9)]) rfl (by kernel_rfl) (by kernel_rfl) (List.Sublist.refl _) (qt_loadN (vs := [(.int .u64 3), (.int .i64 9)]) rfl rfl (by kernel_rfl) (reads_blk (i := 0) rfl rfl)) ?_
    refine A.take 1 (some 8) (.agg #[(.int .u64 4), (.int .i64 1)]) rfl (by kernel_rfl) (by kernel_rfl) (List.Sublist.refl _) (qt_loadN (vs := [(.int .u64 4), (.int .i64 1)]) rfl rfl (by kernel_rfl) (reads_blk (i := 1) rfl rfl)) ?_
    refine A.take 2 (some 9) (.int .i64 (cmp 3 9 4 1)) rfl (by kernel_rfl) (by kernel_rfl) (List.Sublist.refl _) (qt_call [(.agg #[(.int .u64 3), (.int .i64 9)]), (.agg #[(.int .u64 4), (.int .i64 1)])] rfl (by kernel_rfl) rfl (fun w _ => compare_spec (3) (9) (4) (1) w)) ?_
    refine A.take 3 (some 10) (.bool ((cmp 3 9 4 1) == (-1))) rfl (by kernel_rfl) (by kernel_rfl) (List.Sublist.refl _) (qt_pure (by kernel_rfl) fun _ => by kernel_rfl) ?_
    refine A.take 4 (some 11) (.bool ((cmp 3 9 4 1) == (-1))) rfl (by kernel_rfl) (by kernel_rfl) (List.Sublist.refl _) (qt_move rfl rfl) ?_
    refine A.bool ((cmp 3 9 4 1) == (-1)) (fun e1 => ?_) (fun e1 => ?_)
    · skip
      refine A.sub [(0, (.bool false)), (1, (.pointer (some ⟨b1, 0, none⟩))), (2, (.pointer (some ⟨b2, 0, none⟩))), (3, (.pointer (some ⟨b3, 0, none⟩))), (7, (.agg #[(.int .u64 3), (.int .i64 9)])), (8, (.agg #[(.int .u64 4), (.int .i64 1)])), (9, (.int .i64 (cmp 3 9 4 1))), (10, (.bool true)), (11, (.bool true))] (by exact ⟨rfl, rfl, rfl, rfl, rfl, rfl, rfl, (congrArg (fun z => some (Value.bool z)) e1), (congrArg (fun z => some (Value.bool z)) e1), trivial⟩) ?_
      refine A.take 5 (some 12) (.agg #[(.int .u64 4), (.int .i64 1)]) rfl (by kernel_rfl) (by kernel_rfl) (List.Sublist.refl _) (qt_loadN (vs := [(.int .u64 4), (.int .i64 1)]) rfl rfl (by kernel_rfl) (reads_blk (i := 1) rfl rfl)) ?_
      refine A.take 6 (some 13) (.agg #[(.int .u64 4), (.int .i64 2)]) rfl (by kernel_rfl) (by kernel_rfl) (List.Sublist.refl _) (qt_loadN (vs := [(.int .u64 4), (.int .i64 2)]) rfl rfl (by kernel_rfl) (reads_blk (i := 2) rfl rfl)) ?_
      refine A.take 7 (some 14) (.int .i64 (cmp 4 1 4 2)) rfl (by kernel_rfl) (by kernel_rfl) (List.Sublist.refl _) (qt_call [(.agg #[(.int .u64 4), (.int .i64 1)]), (.agg #[(.int .u64 4), (.int .i64 2)])] rfl (by kernel_rfl) rfl (fun w _ => compare_spec (4) (1) (4) (2) w)) ?_
      refine A.take 8 (some 15) (.bool ((cmp 4 1 4 2) == (-1))) rfl (by kernel_rfl) (by kernel_rfl) (List.Sublist.refl _) (qt_pure (by kernel_rfl) fun _ => by kernel_rfl) ?_
      refine A.take 9 (some 16) (.bool ((cmp 4 1 4 2) == (-1))) rfl (by kernel_rfl) (by kernel_rfl) (List.Sublist.refl _) (qt_pure (by kernel_rfl) fun _ => by kernel_rfl) ?_
      refine A.take 10 (some 17) (.bool ((cmp 4 1 4 2) == (-1))) rfl (by kernel_rfl) (by kernel_rfl) (List.Sublist.refl _) (qt_move rfl rfl) ?_
      refine A.bool ((cmp 4 1 4 2) == (-1)) (fun e2 => ?_) (fun e2 => ?_)
      · skip
        refine A.sub [(0, (.bool false)), (1, (.pointer (some ⟨b1, 0, none⟩))), (2, (.pointer (some ⟨b2, 0, none⟩))), (3, (.pointer (some ⟨b3, 0, none⟩))), (7, (.agg #[(.int .u64 3), (.int .i64 9)])), (8, (.agg #[(.int .u64 4), (.int .i64 1)])), (9, (.int .i64 (cmp 3 9 4 1))), (10, (.bool true)), (11, (.bool true)), (12, (.agg #[(.int .u64 4), (.int .i64 1)])), (13, (.agg #[(.int .u64 4), (.int .i64 2)])), (14, (.int .i64 (cmp 4 1 4 2))), (15, (.bool true)), (16, (.bool true)), (17, (.bool true))] (by exact ⟨rfl, rfl, rfl, rfl, rfl, rfl, rfl, rfl, rfl, rfl, rfl, rfl, (congrArg (fun z => some (Value.bool z)) e2), (congrArg (fun z => some (Value.bool z)) e2), (congrArg (fun z => some (Value.bool z)) e2), trivial⟩) ?_
        refine A.take 11 (some 18) (.agg #[(.int .u64 4), (.int .i64 2)]) rfl (by kernel_rfl) (by kernel_rfl) (List.Sublist.refl _) (qt_loadN (vs := [(.int .u64 4), (.int .i64 2)]) rfl rfl (by kernel_rfl) (reads_blk (i := 2) rfl rfl)) ?_
        refine A.take 12 (some 19) (.agg #[(.int .u64 3), (.int .i64 9)]) rfl (by kernel_rfl) (by kernel_rfl) (List.Sublist.refl _) (qt_loadN (vs := [(.int .u64 3), (.int .i64 9)]) rfl rfl (by kernel_rfl) (reads_blk (i := 0) rfl rfl)) ?_
        refine A.take 13 (some 20) (.int .i64 (cmp 4 2 3 9)) rfl (by kernel_rfl) (by kernel_rfl) (List.Sublist.refl _) (qt_call [(.agg #[(.int .u64 4), (.int .i64 2)]), (.agg #[(.int .u64 3), (.int .i64 9)])] rfl (by kernel_rfl) rfl (fun w _ => compare_spec (4) (2) (3) (9) w)) ?_
        refine A.take 14 (some 21) (.bool ((cmp 4 2 3 9) == 1)) rfl (by kernel_rfl) (by kernel_rfl) (List.Sublist.refl _) (qt_pure (by kernel_rfl) fun _ => by kernel_rfl) ?_
        refine A.take 15 (some 22) (.bool ((cmp 4 2 3 9) == 1)) rfl (by kernel_rfl) (by kernel_rfl) (List.Sublist.refl _) (qt_pure (by kernel_rfl) fun _ => by kernel_rfl) ?_
        refine A.take 16 (some 23) (.bool ((cmp 4 2 3 9) == 1)) rfl (by kernel_rfl) (by kernel_rfl) (List.Sublist.refl _) (qt_move rfl rfl) ?_
        refine A.bool ((cmp 4 2 3 9) == 1) (fun e3 => ?_) (fun e3 => ?_)
        · skip
          refine A.sub [(0, (.bool false)), (1, (.pointer (some ⟨b1, 0, none⟩))), (2, (.pointer (some ⟨b2, 0, none⟩))), (3, (.pointer (some ⟨b3, 0, none⟩))), (7, (.agg #[(.int .u64 3), (.int .i64 9)])), (8, (.agg #[(.int .u64 4), (.int .i64 1)])), (9, (.int .i64 (cmp 3 9 4 1))), (10, (.bool true)), (11, (.bool true)), (12, (.agg #[(.int .u64 4), (.int .i64 1)])), (13, (.agg #[(.int .u64 4), (.int .i64 2)])), (14, (.int .i64 (cmp 4 1 4 2))), (15, (.bool true)), (16, (.bool true)), (17, (.bool true)), (18, (.agg #[(.int .u64 4), (.int .i64 2)])), (19, (.agg #[(.int .u64 3), (.int .i64 9)])), (20, (.int .i64 (cmp 4 2 3 9))), (21, (.bool true)), (22, (.bool true)), (23, (.bool true))] (by exact ⟨rfl, rfl, rfl, rfl, rfl, rfl, rfl, rfl, rfl, rfl, rfl, rfl, rfl, rfl, rfl, rfl, rfl, rfl, (congrArg (fun z => some (Value.bool z)) e3), (congrArg (fun z => some (Value.bool z)) e3), (congrArg (fun z => some (Value.bool z)) e3), trivial⟩) ?_
          refine A.take 17 (some 24) (.agg #[(.int .u64 4), (.int .i64 2)]) rfl (by kernel_rfl) (by kernel_rfl) (List.Sublist.refl _) (qt_loadN (vs := [(.int .u64 4), (.int .i64 2)]) rfl rfl (by kernel_rfl) (reads_blk (i := 2) rfl rfl)) ?_
          refine A.take 18 (some 25) (.agg #[(.int .u64 4), (.int .i64 1)]) rfl (by kernel_rfl) (by kernel_rfl) (List.Sublist.refl _) (qt_loadN (vs := [(.int .u64 4), (.int .i64 1)]) rfl rfl (by kernel_rfl) (reads_blk (i := 1) rfl rfl)) ?_
          refine A.take 19 (some 26) (.agg #[(.int .u64 (leastA 4 2 4 1)), (.int .i64 (leastI 4 2 4 1))]) rfl (by kernel_rfl) (by kernel_rfl) (List.Sublist.refl _) (qt_call [(.agg #[(.int .u64 4), (.int .i64 2)]), (.agg #[(.int .u64 4), (.int .i64 1)])] rfl (by kernel_rfl) rfl (fun w _ => least_spec (4) (2) (4) (1) w)) ?_
          refine A.take 20 (some 27) (.agg #[(.int .u64 4), (.int .i64 1)]) rfl (by kernel_rfl) (by kernel_rfl) (List.Sublist.refl _) (qt_loadN (vs := [(.int .u64 4), (.int .i64 1)]) rfl rfl (by kernel_rfl) (reads_blk (i := 1) rfl rfl)) ?_
          refine A.take 21 (some 28) (.bool (((leastA 4 2 4 1) == 4) && ((leastI 4 2 4 1) == 1))) rfl (by kernel_rfl) (by kernel_rfl) (List.Sublist.refl _) (qt_eqlA rfl rfl rfl (by kernel_rfl) (by kernel_rfl)) ?_
          refine A.take 22 (some 29) (.bool (((leastA 4 2 4 1) == 4) && ((leastI 4 2 4 1) == 1))) rfl (by kernel_rfl) (by kernel_rfl) (List.Sublist.refl _) (qt_pure (by kernel_rfl) fun _ => by kernel_rfl) ?_
          refine A.take 23 (some 30) (.bool (((leastA 4 2 4 1) == 4) && ((leastI 4 2 4 1) == 1))) rfl (by kernel_rfl) (by kernel_rfl) (List.Sublist.refl _) (qt_move rfl rfl) ?_
          refine A.bool (((leastA 4 2 4 1) == 4) && ((leastI 4 2 4 1) == 1)) (fun e4 => ?_) (fun e4 => ?_)
          · skip
            refine A.sub [(0, (.bool false)), (1, (.pointer (some ⟨b1, 0, none⟩))), (2, (.pointer (some ⟨b2, 0, none⟩))), (3, (.pointer (some ⟨b3, 0, none⟩))), (7, (.agg #[(.int .u64 3), (.int .i64 9)])), (8, (.agg #[(.int .u64 4), (.int .i64 1)])), (9, (.int .i64 (cmp 3 9 4 1))), (10, (.bool true)), (11, (.bool true)), (12, (.agg #[(.int .u64 4), (.int .i64 1)])), (13, (.agg #[(.int .u64 4), (.int .i64 2)])), (14, (.int .i64 (cmp 4 1 4 2))), (15, (.bool true)), (16, (.bool true)), (17, (.bool true)), (18, (.agg #[(.int .u64 4), (.int .i64 2)])), (19, (.agg #[(.int .u64 3), (.int .i64 9)])), (20, (.int .i64 (cmp 4 2 3 9))), (21, (.bool true)), (22, (.bool true)), (23, (.bool true)), (24, (.agg #[(.int .u64 4), (.int .i64 2)])), (25, (.agg #[(.int .u64 4), (.int .i64 1)])), (26, (.agg #[(.int .u64 (leastA 4 2 4 1)), (.int .i64 (leastI 4 2 4 1))])), (27, (.agg #[(.int .u64 4), (.int .i64 1)])), (28, (.bool true)), (29, (.bool true)), (30, (.bool true))] (by exact ⟨rfl, rfl, rfl, rfl, rfl, rfl, rfl, rfl, rfl, rfl, rfl, rfl, rfl, rfl, rfl, rfl, rfl, rfl, rfl, rfl, rfl, rfl, rfl, rfl, rfl, (congrArg (fun z => some (Value.bool z)) e4), (congrArg (fun z => some (Value.bool z)) e4), (congrArg (fun z => some (Value.bool z)) e4), trivial⟩) ?_
            refine A.take 24 (some 31) (.agg #[(.int .u64 4), (.int .i64 1)]) rfl (by kernel_rfl) (by kernel_rfl) (List.Sublist.refl _) (qt_loadN (vs := [(.int .u64 4), (.int .i64 1)]) rfl rfl (by kernel_rfl) (reads_blk (i := 1) rfl rfl)) ?_
            refine A.take 25 (some 32) (.bool (dueB 4 4)) rfl (by kernel_rfl) (by kernel_rfl) (List.Sublist.refl _) (qt_call [(.agg #[(.int .u64 4), (.int .i64 1)]), (.int .u64 4)] rfl (by kernel_rfl) rfl (fun w _ => due_spec (4) (1) (4) w)) ?_
            refine A.take 26 (some 33) (.bool (dueB 4 4)) rfl (by kernel_rfl) (by kernel_rfl) (List.Sublist.refl _) (qt_pure (by kernel_rfl) fun _ => by kernel_rfl) ?_
            refine A.take 27 (some 34) (.bool (dueB 4 4)) rfl (by kernel_rfl) (by kernel_rfl) (List.Sublist.refl _) (qt_move rfl rfl) ?_
            refine A.bool (dueB 4 4) (fun e5 => ?_) (fun e5 => ?_)
            · skip
              refine A.sub [(0, (.bool false)), (1, (.pointer (some ⟨b1, 0, none⟩))), (2, (.pointer (some ⟨b2, 0, none⟩))), (3, (.pointer (some ⟨b3, 0, none⟩))), (7, (.agg #[(.int .u64 3), (.int .i64 9)])), (8, (.agg #[(.int .u64 4), (.int .i64 1)])), (9, (.int .i64 (cmp 3 9 4 1))), (10, (.bool true)), (11, (.bool true)), (12, (.agg #[(.int .u64 4), (.int .i64 1)])), (13, (.agg #[(.int .u64 4), (.int .i64 2)])), (14, (.int .i64 (cmp 4 1 4 2))), (15, (.bool true)), (16, (.bool true)), (17, (.bool true)), (18, (.agg #[(.int .u64 4), (.int .i64 2)])), (19, (.agg #[(.int .u64 3), (.int .i64 9)])), (20, (.int .i64 (cmp 4 2 3 9))), (21, (.bool true)), (22, (.bool true)), (23, (.bool true)), (24, (.agg #[(.int .u64 4), (.int .i64 2)])), (25, (.agg #[(.int .u64 4), (.int .i64 1)])), (26, (.agg #[(.int .u64 (leastA 4 2 4 1)), (.int .i64 (leastI 4 2 4 1))])), (27, (.agg #[(.int .u64 4), (.int .i64 1)])), (28, (.bool true)), (29, (.bool true)), (30, (.bool true)), (31, (.agg #[(.int .u64 4), (.int .i64 1)])), (32, (.bool true)), (33, (.bool true)), (34, (.bool true))] (by exact ⟨rfl, rfl, rfl, rfl, rfl, rfl, rfl, rfl, rfl, rfl, rfl, rfl, rfl, rfl, rfl, rfl, rfl, rfl, rfl, rfl, rfl, rfl, rfl, rfl, rfl, rfl, rfl, rfl, rfl, (congrArg (fun z => some (Value.bool z)) e5), (congrArg (fun z => some (Value.bool z)) e5), (congrArg (fun z => some (Value.bool z)) e5), trivial⟩) ?_
              refine A.take 28 (some 35) (.agg #[(.int .u64 4), (.int .i64 1)]) rfl (by kernel_rfl) (by kernel_rfl) (List.Sublist.refl _) (qt_loadN (vs := [(.int .u64 4), (.int .i64 1)]) rfl rfl (by kernel_rfl) (reads_blk (i := 1) rfl rfl)) ?_
              refine A.take 29 (some 36) (.bool (dueB 4 3)) rfl (by kernel_rfl) (by kernel_rfl) (List.Sublist.refl _) (qt_call [(.agg #[(.int .u64 4), (.int .i64 1)]), (.int .u64 3)] rfl (by kernel_rfl) rfl (fun w _ => due_spec (4) (1) (3) w)) ?_
              refine A.take 30 (some 37) (.bool (!(dueB 4 3))) rfl (by kernel_rfl) (by kernel_rfl) (List.Sublist.refl _) (qt_pure (by kernel_rfl) fun _ => by kernel_rfl) ?_
              refine A.take 31 (some 38) (.bool (!(dueB 4 3))) rfl (by kernel_rfl) (by kernel_rfl) (List.Sublist.refl _) (qt_pure (by kernel_rfl) fun _ => by kernel_rfl) ?_
              refine A.take 32 (some 39) (.bool (!(dueB 4 3))) rfl (by kernel_rfl) (by kernel_rfl) (List.Sublist.refl _) (qt_move rfl rfl) ?_
              refine A.bool (!(dueB 4 3)) (fun e6 => ?_) (fun e6 => ?_)
              · skip
                refine A.sub [(0, (.bool false)), (1, (.pointer (some ⟨b1, 0, none⟩))), (2, (.pointer (some ⟨b2, 0, none⟩))), (3, (.pointer (some ⟨b3, 0, none⟩))), (7, (.agg #[(.int .u64 3), (.int .i64 9)])), (8, (.agg #[(.int .u64 4), (.int .i64 1)])), (9, (.int .i64 (cmp 3 9 4 1))), (10, (.bool true)), (11, (.bool true)), (12, (.agg #[(.int .u64 4), (.int .i64 1)])), (13, (.agg #[(.int .u64 4), (.int .i64 2)])), (14, (.int .i64 (cmp 4 1 4 2))), (15, (.bool true)), (16, (.bool true)), (17, (.bool true)), (18, (.agg #[(.int .u64 4), (.int .i64 2)])), (19, (.agg #[(.int .u64 3), (.int .i64 9)])), (20, (.int .i64 (cmp 4 2 3 9))), (21, (.bool true)), (22, (.bool true)), (23, (.bool true)), (24, (.agg #[(.int .u64 4), (.int .i64 2)])), (25, (.agg #[(.int .u64 4), (.int .i64 1)])), (26, (.agg #[(.int .u64 (leastA 4 2 4 1)), (.int .i64 (leastI 4 2 4 1))])), (27, (.agg #[(.int .u64 4), (.int .i64 1)])), (28, (.bool true)), (29, (.bool true)), (30, (.bool true)), (31, (.agg #[(.int .u64 4), (.int .i64 1)])), (32, (.bool true)), (33, (.bool true)), (34, (.bool true)), (35, (.agg #[(.int .u64 4), (.int .i64 1)])), (36, (.bool (dueB 4 3))), (37, (.bool true)), (38, (.bool true)), (39, (.bool true))] (by exact ⟨rfl, rfl, rfl, rfl, rfl, rfl, rfl, rfl, rfl, rfl, rfl, rfl, rfl, rfl, rfl, rfl, rfl, rfl, rfl, rfl, rfl, rfl, rfl, rfl, rfl, rfl, rfl, rfl, rfl, rfl, rfl, rfl, rfl, rfl, (congrArg (fun z => some (Value.bool z)) e6), (congrArg (fun z => some (Value.bool z)) e6), (congrArg (fun z => some (Value.bool z)) e6), trivial⟩) ?_
                refine A.take 33 (some 40) (.agg #[(.int .u64 9223372036854775808), (.int .i64 7)]) rfl (by kernel_rfl) (by kernel_rfl) (List.Sublist.refl _) (qt_call [(.int .i64 7)] rfl (by kernel_rfl) rfl (fun w _ => never_spec (7) w)) ?_
                refine A.take 34 (some 41) (.agg #[(.int .u64 9223372036854775808), (.int .i64 7)]) rfl (by kernel_rfl) (by kernel_rfl) (List.Sublist.refl _) (qt_pure (by kernel_rfl) fun _ => by kernel_rfl) ?_
                refine A.take 35 (some 42) (.bool true) rfl (by kernel_rfl) (by kernel_rfl) (List.Sublist.refl _) (qt_eqlA rfl rfl rfl (by kernel_rfl) (by kernel_rfl)) ?_
                refine A.take 36 (some 43) (.bool true) rfl (by kernel_rfl) (by kernel_rfl) (List.Sublist.refl _) (qt_pure (by kernel_rfl) fun _ => by kernel_rfl) ?_
                refine A.take 37 (some 0) (.bool true) rfl (by kernel_rfl) (by kernel_rfl) (List.Sublist.refl _) (qt_assign rfl rfl) ?_
                refine A.fin (by kernel_rfl) ?_
                exact A.meet () trivial (A.here (by exact ⟨(by rw [e1, e2, e3, e4, e5, e6]; rfl), rfl, rfl, rfl, trivial⟩) (List.Sublist.refl _))
              · skip
                refine A.sub [(0, (.bool false)), (1, (.pointer (some ⟨b1, 0, none⟩))), (2, (.pointer (some ⟨b2, 0, none⟩))), (3, (.pointer (some ⟨b3, 0, none⟩))), (7, (.agg #[(.int .u64 3), (.int .i64 9)])), (8, (.agg #[(.int .u64 4), (.int .i64 1)])), (9, (.int .i64 (cmp 3 9 4 1))), (10, (.bool true)), (11, (.bool true)), (12, (.agg #[(.int .u64 4), (.int .i64 1)])), (13, (.agg #[(.int .u64 4), (.int .i64 2)])), (14, (.int .i64 (cmp 4 1 4 2))), (15, (.bool true)), (16, (.bool true)), (17, (.bool true)), (18, (.agg #[(.int .u64 4), (.int .i64 2)])), (19, (.agg #[(.int .u64 3), (.int .i64 9)])), (20, (.int .i64 (cmp 4 2 3 9))), (21, (.bool true)), (22, (.bool true)), (23, (.bool true)), (24, (.agg #[(.int .u64 4), (.int .i64 2)])), (25, (.agg #[(.int .u64 4), (.int .i64 1)])), (26, (.agg #[(.int .u64 (leastA 4 2 4 1)), (.int .i64 (leastI 4 2 4 1))])), (27, (.agg #[(.int .u64 4), (.int .i64 1)])), (28, (.bool true)), (29, (.bool true)), (30, (.bool true)), (31, (.agg #[(.int .u64 4), (.int .i64 1)])), (32, (.bool true)), (33, (.bool true)), (34, (.bool true)), (35, (.agg #[(.int .u64 4), (.int .i64 1)])), (36, (.bool (dueB 4 3))), (37, (.bool false)), (38, (.bool false)), (39, (.bool false))] (by exact ⟨rfl, rfl, rfl, rfl, rfl, rfl, rfl, rfl, rfl, rfl, rfl, rfl, rfl, rfl, rfl, rfl, rfl, rfl, rfl, rfl, rfl, rfl, rfl, rfl, rfl, rfl, rfl, rfl, rfl, rfl, rfl, rfl, rfl, rfl, (congrArg (fun z => some (Value.bool z)) e6), (congrArg (fun z => some (Value.bool z)) e6), (congrArg (fun z => some (Value.bool z)) e6), trivial⟩) ?_
                refine A.takeJ 33 (some 40) rfl (by kernel_rfl) rfl rfl (by intro x hx; cases hx; rfl) (List.Sublist.refl _) ?_
                refine A.takeJ 34 (some 41) rfl (by kernel_rfl) rfl rfl (by intro x hx; cases hx; rfl) (List.Sublist.refl _) ?_
                refine A.takeJ 35 (some 42) rfl (by kernel_rfl) rfl rfl (by intro x hx; cases hx; rfl) (List.Sublist.refl _) ?_
                refine A.take 36 (some 43) (.bool false) rfl (by kernel_rfl) (by kernel_rfl) (List.Sublist.refl _) (qt_pure (by kernel_rfl) fun _ => by kernel_rfl) ?_
                refine A.take 37 (some 0) (.bool false) rfl (by kernel_rfl) (by kernel_rfl) (List.Sublist.refl _) (qt_assign rfl rfl) ?_
                refine A.fin (by kernel_rfl) ?_
                exact A.meet () trivial (A.here (by exact ⟨(by rw [e1, e2, e3, e4, e5, e6]; rfl), rfl, rfl, rfl, trivial⟩) (List.Sublist.refl _))
            · skip
              refine A.sub [(0, (.bool false)), (1, (.pointer (some ⟨b1, 0, none⟩))), (2, (.pointer (some ⟨b2, 0, none⟩))), (3, (.pointer (some ⟨b3, 0, none⟩))), (7, (.agg #[(.int .u64 3), (.int .i64 9)])), (8, (.agg #[(.int .u64 4), (.int .i64 1)])), (9, (.int .i64 (cmp 3 9 4 1))), (10, (.bool true)), (11, (.bool true)), (12, (.agg #[(.int .u64 4), (.int .i64 1)])), (13, (.agg #[(.int .u64 4), (.int .i64 2)])), (14, (.int .i64 (cmp 4 1 4 2))), (15, (.bool true)), (16, (.bool true)), (17, (.bool true)), (18, (.agg #[(.int .u64 4), (.int .i64 2)])), (19, (.agg #[(.int .u64 3), (.int .i64 9)])), (20, (.int .i64 (cmp 4 2 3 9))), (21, (.bool true)), (22, (.bool true)), (23, (.bool true)), (24, (.agg #[(.int .u64 4), (.int .i64 2)])), (25, (.agg #[(.int .u64 4), (.int .i64 1)])), (26, (.agg #[(.int .u64 (leastA 4 2 4 1)), (.int .i64 (leastI 4 2 4 1))])), (27, (.agg #[(.int .u64 4), (.int .i64 1)])), (28, (.bool true)), (29, (.bool true)), (30, (.bool true)), (31, (.agg #[(.int .u64 4), (.int .i64 1)])), (32, (.bool false)), (33, (.bool false)), (34, (.bool false))] (by exact ⟨rfl, rfl, rfl, rfl, rfl, rfl, rfl, rfl, rfl, rfl, rfl, rfl, rfl, rfl, rfl, rfl, rfl, rfl, rfl, rfl, rfl, rfl, rfl, rfl, rfl, rfl, rfl, rfl, rfl, (congrArg (fun z => some (Value.bool z)) e5), (congrArg (fun z => some (Value.bool z)) e5), (congrArg (fun z => some (Value.bool z)) e5), trivial⟩) ?_
              refine A.takeJ 28 (some 35) rfl (by kernel_rfl) rfl rfl (by intro x hx; cases hx; rfl) (List.Sublist.refl _) ?_
              refine A.takeJ 29 (some 36) rfl (by kernel_rfl) rfl rfl (by intro x hx; cases hx; rfl) (List.Sublist.refl _) ?_
              refine A.takeJ 30 (some 37) rfl (by kernel_rfl) rfl rfl (by intro x hx; cases hx; rfl) (List.Sublist.refl _) ?_
              refine A.take 31 (some 38) (.bool false) rfl (by kernel_rfl) (by kernel_rfl) (List.Sublist.refl _) (qt_pure (by kernel_rfl) fun _ => by kernel_rfl) ?_
              refine A.take 32 (some 39) (.bool false) rfl (by kernel_rfl) (by kernel_rfl) (List.Sublist.refl _) (qt_move rfl rfl) ?_
              refine A.takeJ 33 (some 40) rfl (by kernel_rfl) rfl rfl (by intro x hx; cases hx; rfl) (List.Sublist.refl _) ?_
              refine A.takeJ 34 (some 41) rfl (by kernel_rfl) rfl rfl (by intro x hx; cases hx; rfl) (List.Sublist.refl _) ?_
              refine A.takeJ 35 (some 42) rfl (by kernel_rfl) rfl rfl (by intro x hx; cases hx; rfl) (List.Sublist.refl _) ?_
              refine A.take 36 (some 43) (.bool false) rfl (by kernel_rfl) (by kernel_rfl) (List.Sublist.refl _) (qt_pure (by kernel_rfl) fun _ => by kernel_rfl) ?_
              refine A.take 37 (some 0) (.bool false) rfl (by kernel_rfl) (by kernel_rfl) (List.Sublist.refl _) (qt_assign rfl rfl) ?_
              refine A.fin (by kernel_rfl) ?_
              exact A.meet () trivial (A.here (by exact ⟨(by rw [e1, e2, e3, e4, e5]; rfl), rfl, rfl, rfl, trivial⟩) (List.Sublist.refl _))
          · skip
            refine A.sub [(0, (.bool false)), (1, (.pointer (some ⟨b1, 0, none⟩))), (2, (.pointer (some ⟨b2, 0, none⟩))), (3, (.pointer (some ⟨b3, 0, none⟩))), (7, (.agg #[(.int .u64 3), (.int .i64 9)])), (8, (.agg #[(.int .u64 4), (.int .i64 1)])), (9, (.int .i64 (cmp 3 9 4 1))), (10, (.bool true)), (11, (.bool true)), (12, (.agg #[(.int .u64 4), (.int .i64 1)])), (13, (.agg #[(.int .u64 4), (.int .i64 2)])), (14, (.int .i64 (cmp 4 1 4 2))), (15, (.bool true)), (16, (.bool true)), (17, (.bool true)), (18, (.agg #[(.int .u64 4), (.int .i64 2)])), (19, (.agg #[(.int .u64 3), (.int .i64 9)])), (20, (.int .i64 (cmp 4 2 3 9))), (21, (.bool true)), (22, (.bool true)), (23, (.bool true)), (24, (.agg #[(.int .u64 4), (.int .i64 2)])), (25, (.agg #[(.int .u64 4), (.int .i64 1)])), (26, (.agg #[(.int .u64 (leastA 4 2 4 1)), (.int .i64 (leastI 4 2 4 1))])), (27, (.agg #[(.int .u64 4), (.int .i64 1)])), (28, (.bool false)), (29, (.bool false)), (30, (.bool false))] (by exact ⟨rfl, rfl, rfl, rfl, rfl, rfl, rfl, rfl, rfl, rfl, rfl, rfl, rfl, rfl, rfl, rfl, rfl, rfl, rfl, rfl, rfl, rfl, rfl, rfl, rfl, (congrArg (fun z => some (Value.bool z)) e4), (congrArg (fun z => some (Value.bool z)) e4), (congrArg (fun z => some (Value.bool z)) e4), trivial⟩) ?_
            refine A.takeJ 24 (some 31) rfl (by kernel_rfl) rfl rfl (by intro x hx; cases hx; rfl) (List.Sublist.refl _) ?_
            refine A.takeJ 25 (some 32) rfl (by kernel_rfl) rfl rfl (by intro x hx; cases hx; rfl) (List.Sublist.refl _) ?_
            refine A.take 26 (some 33) (.bool false) rfl (by kernel_rfl) (by kernel_rfl) (List.Sublist.refl _) (qt_pure (by kernel_rfl) fun _ => by kernel_rfl) ?_
            refine A.take 27 (some 34) (.bool false) rfl (by kernel_rfl) (by kernel_rfl) (List.Sublist.refl _) (qt_move rfl rfl) ?_
            refine A.takeJ 28 (some 35) rfl (by kernel_rfl) rfl rfl (by intro x hx; cases hx; rfl) (List.Sublist.refl _) ?_
            refine A.takeJ 29 (some 36) rfl (by kernel_rfl) rfl rfl (by intro x hx; cases hx; rfl) (List.Sublist.refl _) ?_
            refine A.takeJ 30 (some 37) rfl (by kernel_rfl) rfl rfl (by intro x hx; cases hx; rfl) (List.Sublist.refl _) ?_
            refine A.take 31 (some 38) (.bool false) rfl (by kernel_rfl) (by kernel_rfl) (List.Sublist.refl _) (qt_pure (by kernel_rfl) fun _ => by kernel_rfl) ?_
            refine A.take 32 (some 39) (.bool false) rfl (by kernel_rfl) (by kernel_rfl) (List.Sublist.refl _) (qt_move rfl rfl) ?_
            refine A.takeJ 33 (some 40) rfl (by kernel_rfl) rfl rfl (by intro x hx; cases hx; rfl) (List.Sublist.refl _) ?_
            refine A.takeJ 34 (some 41) rfl (by kernel_rfl) rfl rfl (by intro x hx; cases hx; rfl) (List.Sublist.refl _) ?_
            refine A.takeJ 35 (some 42) rfl (by kernel_rfl) rfl rfl (by intro x hx; cases hx; rfl) (List.Sublist.refl _) ?_
            refine A.take 36 (some 43) (.bool false) rfl (by kernel_rfl) (by kernel_rfl) (List.Sublist.refl _) (qt_pure (by kernel_rfl) fun _ => by kernel_rfl) ?_
            refine A.take 37 (some 0) (.bool false) rfl (by kernel_rfl) (by kernel_rfl) (List.Sublist.refl _) (qt_assign rfl rfl) ?_
            refine A.fin (by kernel_rfl) ?_
            exact A.meet () trivial (A.here (by exact ⟨(by rw [e1, e2, e3, e4]; rfl), rfl, rfl, rfl, trivial⟩) (List.Sublist.refl _))
        · skip
          refine A.sub [(0, (.bool false)), (1, (.pointer (some ⟨b1, 0, none⟩))), (2, (.pointer (some ⟨b2, 0, none⟩))), (3, (.pointer (some ⟨b3, 0, none⟩))), (7, (.agg #[(.int .u64 3), (.int .i64 9)])), (8, (.agg #[(.int .u64 4), (.int .i64 1)])), (9, (.int .i64 (cmp 3 9 4 1))), (10, (.bool true)), (11, (.bool true)), (12, (.agg #[(.int .u64 4), (.int .i64 1)])), (13, (.agg #[(.int .u64 4), (.int .i64 2)])), (14, (.int .i64 (cmp 4 1 4 2))), (15, (.bool true)), (16, (.bool true)), (17, (.bool true)), (18, (.agg #[(.int .u64 4), (.int .i64 2)])), (19, (.agg #[(.int .u64 3), (.int .i64 9)])), (20, (.int .i64 (cmp 4 2 3 9))), (21, (.bool false)), (22, (.bool false)), (23, (.bool false))] (by exact ⟨rfl, rfl, rfl, rfl, rfl, rfl, rfl, rfl, rfl, rfl, rfl, rfl, rfl, rfl, rfl, rfl, rfl, rfl, (congrArg (fun z => some (Value.bool z)) e3), (congrArg (fun z => some (Value.bool z)) e3), (congrArg (fun z => some (Value.bool z)) e3), trivial⟩) ?_
          refine A.takeJ 17 (some 24) rfl (by kernel_rfl) rfl rfl (by intro x hx; cases hx; rfl) (List.Sublist.refl _) ?_
          refine A.takeJ 18 (some 25) rfl (by kernel_rfl) rfl rfl (by intro x hx; cases hx; rfl) (List.Sublist.refl _) ?_
          refine A.takeJ 19 (some 26) rfl (by kernel_rfl) rfl rfl (by intro x hx; cases hx; rfl) (List.Sublist.refl _) ?_
          refine A.takeJ 20 (some 27) rfl (by kernel_rfl) rfl rfl (by intro x hx; cases hx; rfl) (List.Sublist.refl _) ?_
          refine A.takeJ 21 (some 28) rfl (by kernel_rfl) rfl rfl (by intro x hx; cases hx; rfl) (List.Sublist.refl _) ?_
          refine A.take 22 (some 29) (.bool false) rfl (by kernel_rfl) (by kernel_rfl) (List.Sublist.refl _) (qt_pure (by kernel_rfl) fun _ => by kernel_rfl) ?_
          refine A.take 23 (some 30) (.bool false) rfl (by kernel_rfl) (by kernel_rfl) (List.Sublist.refl _) (qt_move rfl rfl) ?_
          refine A.takeJ 24 (some 31) rfl (by kernel_rfl) rfl rfl (by intro x hx; cases hx; rfl) (List.Sublist.refl _) ?_
          refine A.takeJ 25 (some 32) rfl (by kernel_rfl) rfl rfl (by intro x hx; cases hx; rfl) (List.Sublist.refl _) ?_
          refine A.take 26 (some 33) (.bool false) rfl (by kernel_rfl) (by kernel_rfl) (List.Sublist.refl _) (qt_pure (by kernel_rfl) fun _ => by kernel_rfl) ?_
          refine A.take 27 (some 34) (.bool false) rfl (by kernel_rfl) (by kernel_rfl) (List.Sublist.refl _) (qt_move rfl rfl) ?_
          refine A.takeJ 28 (some 35) rfl (by kernel_rfl) rfl rfl (by intro x hx; cases hx; rfl) (List.Sublist.refl _) ?_
          refine A.takeJ 29 (some 36) rfl (by kernel_rfl) rfl rfl (by intro x hx; cases hx; rfl) (List.Sublist.refl _) ?_
          refine A.takeJ 30 (some 37) rfl (by kernel_rfl) rfl rfl (by intro x hx; cases hx; rfl) (List.Sublist.refl _) ?_
          refine A.take 31 (some 38) (.bool false) rfl (by kernel_rfl) (by kernel_rfl) (List.Sublist.refl _) (qt_pure (by kernel_rfl) fun _ => by kernel_rfl) ?_
          refine A.take 32 (some 39) (.bool false) rfl (by kernel_rfl) (by kernel_rfl) (List.Sublist.refl _) (qt_move rfl rfl) ?_
          refine A.takeJ 33 (some 40) rfl (by kernel_rfl) rfl rfl (by intro x hx; cases hx; rfl) (List.Sublist.refl _) ?_
          refine A.takeJ 34 (some 41) rfl (by kernel_rfl) rfl rfl (by intro x hx; cases hx; rfl) (List.Sublist.refl _) ?_
          refine A.takeJ 35 (some 42) rfl (by kernel_rfl) rfl rfl (by intro x hx; cases hx; rfl) (List.Sublist.refl _) ?_
          refine A.take 36 (some 43) (.bool false) rfl (by kernel_rfl) (by kernel_rfl) (List.Sublist.refl _) (qt_pure (by kernel_rfl) fun _ => by kernel_rfl) ?_
          refine A.take 37 (some 0) (.bool false) rfl (by kernel_rfl) (by kernel_rfl) (List.Sublist.refl _) (qt_assign rfl rfl) ?_
          refine A.fin (by kernel_rfl) ?_
          exact A.meet () trivial (A.here (by exact ⟨(by rw [e1, e2, e3]; rfl), rfl, rfl, rfl, trivial⟩) (List.Sublist.refl _))
      · skip
        refine A.sub [(0, (.bool false)), (1, (.pointer (some ⟨b1, 0, none⟩))), (2, (.pointer (some ⟨b2, 0, none⟩))), (3, (.pointer (some ⟨b3, 0, none⟩))), (7, (.agg #[(.int .u64 3), (.int .i64 9)])), (8, (.agg #[(.int .u64 4), (.int .i64 1)])), (9, (.int .i64 (cmp 3 9 4 1))), (10, (.bool true)), (11, (.bool true)), (12, (.agg #[(.int .u64 4), (.int .i64 1)])), (13, (.agg #[(.int .u64 4), (.int .i64 2)])), (14, (.int .i64 (cmp 4 1 4 2))), (15, (.bool false)), (16, (.bool false)), (17, (.bool false))] (by exact ⟨rfl, rfl, rfl, rfl, rfl, rfl, rfl, rfl, rfl, rfl, rfl, rfl, (congrArg (fun z => some (Value.bool z)) e2), (congrArg (fun z => some (Value.bool z)) e2), (congrArg (fun z => some (Value.bool z)) e2), trivial⟩) ?_
        refine A.takeJ 11 (some 18) rfl (by kernel_rfl) rfl rfl (by intro x hx; cases hx; rfl) (List.Sublist.refl _) ?_
        refine A.takeJ 12 (some 19) rfl (by kernel_rfl) rfl rfl (by intro x hx; cases hx; rfl) (List.Sublist.refl _) ?_
        refine A.takeJ 13 (some 20) rfl (by kernel_rfl) rfl rfl (by intro x hx; cases hx; rfl) (List.Sublist.refl _) ?_
        refine A.takeJ 14 (some 21) rfl (by kernel_rfl) rfl rfl (by intro x hx; cases hx; rfl) (List.Sublist.refl _) ?_
        refine A.take 15 (some 22) (.bool false) rfl (by kernel_rfl) (by kernel_rfl) (List.Sublist.refl _) (qt_pure (by kernel_rfl) fun _ => by kernel_rfl) ?_
        refine A.take 16 (some 23) (.bool false) rfl (by kernel_rfl) (by kernel_rfl) (List.Sublist.refl _) (qt_move rfl rfl) ?_
        refine A.takeJ 17 (some 24) rfl (by kernel_rfl) rfl rfl (by intro x hx; cases hx; rfl) (List.Sublist.refl _) ?_
        refine A.takeJ 18 (some 25) rfl (by kernel_rfl) rfl rfl (by intro x hx; cases hx; rfl) (List.Sublist.refl _) ?_
        refine A.takeJ 19 (some 26) rfl (by kernel_rfl) rfl rfl (by intro x hx; cases hx; rfl) (List.Sublist.refl _) ?_
        refine A.takeJ 20 (some 27) rfl (by kernel_rfl) rfl rfl (by intro x hx; cases hx; rfl) (List.Sublist.refl _) ?_
        refine A.takeJ 21 (some 28) rfl (by kernel_rfl) rfl rfl (by intro x hx; cases hx; rfl) (List.Sublist.refl _) ?_
        refine A.take 22 (some 29) (.bool false) rfl (by kernel_rfl) (by kernel_rfl) (List.Sublist.refl _) (qt_pure (by kernel_rfl) fun _ => by kernel_rfl) ?_
        refine A.take 23 (some 30) (.bool false) rfl (by kernel_rfl) (by kernel_rfl) (List.Sublist.refl _) (qt_move rfl rfl) ?_
        refine A.takeJ 24 (some 31) rfl (by kernel_rfl) rfl rfl (by intro x hx; cases hx; rfl) (List.Sublist.refl _) ?_
        refine A.takeJ 25 (some 32) rfl (by kernel_rfl) rfl rfl (by intro x hx; cases hx; rfl) (List.Sublist.refl _) ?_
        refine A.take 26 (some 33) (.bool false) rfl (by kernel_rfl) (by kernel_rfl) (List.Sublist.refl _) (qt_pure (by kernel_rfl) fun _ => by kernel_rfl) ?_
        refine A.take 27 (some 34) (.bool false) rfl (by kernel_rfl) (by kernel_rfl) (List.Sublist.refl _) (qt_move rfl rfl) ?_
        refine A.takeJ 28 (some 35) rfl (by kernel_rfl) rfl rfl (by intro x hx; cases hx; rfl) (List.Sublist.refl _) ?_
        refine A.takeJ 29 (some 36) rfl (by kernel_rfl) rfl rfl (by intro x hx; cases hx; rfl) (List.Sublist.refl _) ?_
        refine A.takeJ 30 (some 37) rfl (by kernel_rfl) rfl rfl (by intro x hx; cases hx; rfl) (List.Sublist.refl _) ?_
        refine A.take 31 (some 38) (.bool false) rfl (by kernel_rfl) (by kernel_rfl) (List.Sublist.refl _) (qt_pure (by kernel_rfl) fun _ => by kernel_rfl) ?_
        refine A.take 32 (some 39) (.bool false) rfl (by kernel_rfl) (by kernel_rfl) (List.Sublist.refl _) (qt_move rfl rfl) ?_
        refine A.takeJ 33 (some 40) rfl (by kernel_rfl) rfl rfl (by intro x hx; cases hx; rfl) (List.Sublist.refl _) ?_
        refine A.takeJ 34 (some 41) rfl (by kernel_rfl) rfl rfl (by intro x hx; cases hx; rfl) (List.Sublist.refl _) ?_
        refine A.takeJ 35 (some 42) rfl (by kernel_rfl) rfl rfl (by intro x hx; cases hx; rfl) (List.Sublist.refl _) ?_
        refine A.take 36 (some 43) (.bool false) rfl (by kernel_rfl) (by kernel_rfl) (List.Sublist.refl _) (qt_pure (by kernel_rfl) fun _ => by kernel_rfl) ?_
        refine A.take 37 (some 0) (.bool false) rfl (by kernel_rfl) (by kernel_rfl) (List.Sublist.refl _) (qt_assign rfl rfl) ?_
        refine A.fin (by kernel_rfl) ?_
        exact A.meet () trivial (A.here (by exact ⟨(by rw [e1, e2]; rfl), rfl, rfl, rfl, trivial⟩) (List.Sublist.refl _))
    · skip
      refine A.sub [(0, (.bool false)), (1, (.pointer (some ⟨b1, 0, none⟩))), (2, (.pointer (some ⟨b2, 0, none⟩))), (3, (.pointer (some ⟨b3, 0, none⟩))), (7, (.agg #[(.int .u64 3), (.int .i64 9)])), (8, (.agg #[(.int .u64 4), (.int .i64 1)])), (9, (.int .i64 (cmp 3 9 4 1))), (10, (.bool false)), (11, (.bool false))] (by exact ⟨rfl, rfl, rfl, rfl, rfl, rfl, rfl, (congrArg (fun z => some (Value.bool z)) e1), (congrArg (fun z => some (Value.bool z)) e1), trivial⟩) ?_
      refine A.takeJ 5 (some 12) rfl (by kernel_rfl) rfl rfl (by intro x hx; cases hx; rfl) (List.Sublist.refl _) ?_
      refine A.takeJ 6 (some 13) rfl (by kernel_rfl) rfl rfl (by intro x hx; cases hx; rfl) (List.Sublist.refl _) ?_
      refine A.takeJ 7 (some 14) rfl (by kernel_rfl) rfl rfl (by intro x hx; cases hx; rfl) (List.Sublist.refl _) ?_
      refine A.takeJ 8 (some 15) rfl (by kernel_rfl) rfl rfl (by intro x hx; cases hx; rfl) (List.Sublist.refl _) ?_
      refine A.take 9 (some 16) (.bool false) rfl (by kernel_rfl) (by kernel_rfl) (List.Sublist.refl _) (qt_pure (by kernel_rfl) fun _ => by kernel_rfl) ?_
      refine A.take 10 (some 17) (.bool false) rfl (by kernel_rfl) (by kernel_rfl) (List.Sublist.refl _) (qt_move rfl rfl) ?_
      refine A.takeJ 11 (some 18) rfl (by kernel_rfl) rfl rfl (by intro x hx; cases hx; rfl) (List.Sublist.refl _) ?_
      refine A.takeJ 12 (some 19) rfl (by kernel_rfl) rfl rfl (by intro x hx; cases hx; rfl) (List.Sublist.refl _) ?_
      refine A.takeJ 13 (some 20) rfl (by kernel_rfl) rfl rfl (by intro x hx; cases hx; rfl) (List.Sublist.refl _) ?_
      refine A.takeJ 14 (some 21) rfl (by kernel_rfl) rfl rfl (by intro x hx; cases hx; rfl) (List.Sublist.refl _) ?_
      refine A.take 15 (some 22) (.bool false) rfl (by kernel_rfl) (by kernel_rfl) (List.Sublist.refl _) (qt_pure (by kernel_rfl) fun _ => by kernel_rfl) ?_
      refine A.take 16 (some 23) (.bool false) rfl (by kernel_rfl) (by kernel_rfl) (List.Sublist.refl _) (qt_move rfl rfl) ?_
      refine A.takeJ 17 (some 24) rfl (by kernel_rfl) rfl rfl (by intro x hx; cases hx; rfl) (List.Sublist.refl _) ?_
      refine A.takeJ 18 (some 25) rfl (by kernel_rfl) rfl rfl (by intro x hx; cases hx; rfl) (List.Sublist.refl _) ?_
      refine A.takeJ 19 (some 26) rfl (by kernel_rfl) rfl rfl (by intro x hx; cases hx; rfl) (List.Sublist.refl _) ?_
      refine A.takeJ 20 (some 27) rfl (by kernel_rfl) rfl rfl (by intro x hx; cases hx; rfl) (List.Sublist.refl _) ?_
      refine A.takeJ 21 (some 28) rfl (by kernel_rfl) rfl rfl (by intro x hx; cases hx; rfl) (List.Sublist.refl _) ?_
      refine A.take 22 (some 29) (.bool false) rfl (by kernel_rfl) (by kernel_rfl) (List.Sublist.refl _) (qt_pure (by kernel_rfl) fun _ => by kernel_rfl) ?_
      refine A.take 23 (some 30) (.bool false) rfl (by kernel_rfl) (by kernel_rfl) (List.Sublist.refl _) (qt_move rfl rfl) ?_
      refine A.takeJ 24 (some 31) rfl (by kernel_rfl) rfl rfl (by intro x hx; cases hx; rfl) (List.Sublist.refl _) ?_
      refine A.takeJ 25 (some 32) rfl (by kernel_rfl) rfl rfl (by intro x hx; cases hx; rfl) (List.Sublist.refl _) ?_
      refine A.take 26 (some 33) (.bool false) rfl (by kernel_rfl) (by kernel_rfl) (List.Sublist.refl _) (qt_pure (by kernel_rfl) fun _ => by kernel_rfl) ?_
      refine A.take 27 (some 34) (.bool false) rfl (by kernel_rfl) (by kernel_rfl) (List.Sublist.refl _) (qt_move rfl rfl) ?_
      refine A.takeJ 28 (some 35) rfl (by kernel_rfl) rfl rfl (by intro x hx; cases hx; rfl) (List.Sublist.refl _) ?_
      refine A.takeJ 29 (some 36) rfl (by kernel_rfl) rfl rfl (by intro x hx; cases hx; rfl) (List.Sublist.refl _) ?_
      refine A.takeJ 30 (some 37) rfl (by kernel_rfl) rfl rfl (by intro x hx; cases hx; rfl) (List.Sublist.refl _) ?_
      refine A.take 31 (some 38) (.bool false) rfl (by kernel_rfl) (by kernel_rfl) (List.Sublist.refl _) (qt_pure (by kernel_rfl) fun _ => by kernel_rfl) ?_
      refine A.take 32 (some 39) (.bool false) rfl (by kernel_rfl) (by kernel_rfl) (List.Sublist.refl _) (qt_move rfl rfl) ?_
      refine A.takeJ 33 (some 40) rfl (by kernel_rfl) rfl rfl (by intro x hx; cases hx; rfl) (List.Sublist.refl _) ?_
      refine A.takeJ 34 (some 41) rfl (by kernel_rfl) rfl rfl (by intro x hx; cases hx; rfl) (List.Sublist.refl _) ?_
      refine A.takeJ 35 (some 42) rfl (by kernel_rfl) rfl rfl (by intro x hx; cases hx; rfl) (List.Sublist.refl _) ?_
      refine A.take 36 (some 43) (.bool false) rfl (by kernel_rfl) (by kernel_rfl) (List.Sublist.refl _) (qt_pure (by kernel_rfl) fun _ => by kernel_rfl) ?_
      refine A.take 37 (some 0) (.bool false) rfl (by kernel_rfl) (by kernel_rfl) (List.Sublist.refl _) (qt_assign rfl rfl) ?_
      refine A.fin (by kernel_rfl) ?_
      exact A.meet () trivial (A.here (by exact ⟨(by rw [e1]; rfl), rfl, rfl, rfl, trivial⟩) (List.Sublist.refl _))
  · skip
    refine A.tn ?_
    refine A.ret ?_
    refine A.post [(.bool (((cmp 3 9 4 1) == (-1)) && (((cmp 4 1 4 2) == (-1)) && (((cmp 4 2 3 9) == 1) && ((((leastA 4 2 4 1) == 4) && ((leastI 4 2 4 1) == 1)) && ((dueB 4 4) && (!(dueB 4 3))))))))] (fun a w r s => ⟨rv_tmp r rfl, trivial⟩) (fun w1 s => ?_)
    refine ⟨congrArg Ending.returned (?_ : ((.bool (((cmp 3 9 4 1) == (-1)) && (((cmp 4 1 4 2) == (-1)) && (((cmp 4 2 3 9) == 1) && ((((leastA 4 2 4 1) == 4) && ((leastI 4 2 4 1) == 1)) && ((dueB 4 4) && (!(dueB 4 3)))))))) : Value) = _), s.fr⟩
    exact congrArg Value.bool (by decide)

set_option maxRecDepth 100000 in
theorem rankCompares_walk (x i y j n : Int) (w : World) :
    Calls Try.prog 3 #[(.agg #[(.int .u64 x), (.int .i64 i)]), (.agg #[(.int .u64 y), (.int .i64 j)]), (.int .u64 n)] w fun e w' => e = .returned (.bool true) ∧ Fr [] w w' := by
  refine calls_of (args := [(.agg #[(.int .u64 x), (.int .i64 i)]), (.agg #[(.int .u64 y), (.int .i64 j)]), (.int .u64 n)]) (penv [(.agg #[(.int .u64 x), (.int .i64 i)]), (.agg #[(.int .u64 y), (.int .i64 j)]), (.int .u64 n)]) [] [] Try.func3 rfl rfl (look_penv _) (HS.nil w) ?_
  refine A.norm [(0, (.agg #[(.int .u64 x), (.int .i64 i)])), (1, (.agg #[(.int .u64 y), (.int .i64 j)])), (2, (.int .u64 n))] [] (by exact ⟨rfl, rfl, rfl, trivial⟩) rfl ?_
  refine A.seq ?_
  refine A.region ?_
  refine A.cons (A.box 3 [(.int .u64 x), (.int .i64 i)] (by kernel_rfl) rfl rfl rfl (fun b1 => [blk b1 [(.int .u64 x), (.int .i64 i)] 24]) (fun _ => rfl) ?_)
  intro b1
  refine A.cons (A.box 4 [(.int .u64 y), (.int .i64 j)] (by kernel_rfl) rfl rfl rfl (fun b2 => [blk b1 [(.int .u64 x), (.int .i64 i)] 24, blk b2 [(.int .u64 y), (.int .i64 j)] 24]) (fun _ => rfl) ?_)
  intro b2
  refine A.cons (A.q (some 6) (.bool false) (by kernel_rfl) (qt_assign rfl rfl) ?_)
  refine A.done ?_
  refine A.norm [(2, (.int .u64 n)), (3, (.pointer (some ⟨b1, 0, none⟩))), (4, (.pointer (some ⟨b2, 0, none⟩))), (6, (.bool false))] [blk b1 [(.int .u64 x), (.int .i64 i)] 24, blk b2 [(.int .u64 y), (.int .i64 j)] 24] (by exact ⟨rfl, rfl, rfl, rfl, trivial⟩) rfl ?_
  refine A.tn ?_
  refine A.seq ?_
  refine A.region ?_
  refine A.cons (A.q (some 7) (.int .i64 0) (by kernel_rfl) (qt_assign rfl rfl) ?_)
  refine A.done ?_
  refine A.norm [(2, (.int .u64 n)), (3, (.pointer (some ⟨b1, 0, none⟩))), (4, (.pointer (some ⟨b2, 0, none⟩))), (6, (.bool false)), (7, (.int .i64 0))] [blk b1 [(.int .u64 x), (.int .i64 i)] 24, blk b2 [(.int .u64 y), (.int .i64 j)] 24] (by exact ⟨rfl, rfl, rfl, rfl, rfl, trivial⟩) rfl ?_
  refine A.tn ?_
  refine A.seq ?_
  refine A.region ?_
  refine A.cons (A.q (some 9) (.agg #[(.int .u64 x), (.int .i64 i)]) (by kernel_rfl) (qt_loadN (vs := [(.int .u64 x), (.int .i64 i)]) rfl rfl (by kernel_rfl) (reads_blk (i := 0) rfl rfl)) ?_)
  refine A.cons (A.alloc 8 [(.int .u64 0), (.int .i64 0)] (by kernel_rfl) rfl (by kernel_rfl) (fun b3 => [blk b1 [(.int .u64 x), (.int .i64 i)] 24, blk b2 [(.int .u64 y), (.int .i64 j)] 24, blk b3 [(.int .u64 0), (.int .i64 0)] 24]) (fun _ => rfl) ?_)
  intro b3
  refine A.cons (A.store 2 (vs := [(.int .u64 x), (.int .i64 i)]) [blk b1 [(.int .u64 x), (.int .i64 i)] 24, blk b2 [(.int .u64 y), (.int .i64 j)] 24, blk b3 [(.int .u64 x), (.int .i64 i)] 24] (by kernel_rfl) rfl rfl rfl rfl (by kernel_rfl) rfl rfl (by kernel_rfl) rfl ?_)
  refine A.done ?_
  refine A.norm [(2, (.int .u64 n)), (3, (.pointer (some ⟨b1, 0, none⟩))), (4, (.pointer (some ⟨b2, 0, none⟩))), (6, (.bool false)), (7, (.int .i64 0)), (8, (.pointer (some ⟨b3, 0, none⟩)))] [blk b1 [(.int .u64 x), (.int .i64 i)] 24, blk b2 [(.int .u64 y), (.int .i64 j)] 24, blk b3 [(.int .u64 x), (.int .i64 i)] 24] (by exact ⟨rfl, rfl, rfl, rfl, rfl, rfl, trivial⟩) rfl ?_
  refine A.tn ?_
  refine A.seq ?_
  refine A.seq ?_
  refine A.region ?_
  refine A.cons (A.q (some 10) (.agg #[(.int .u64 x), (.int .i64 i)]) (by kernel_rfl) (qt_loadN (vs := [(.int .u64 x), (.int .i64 i)]) rfl rfl (by kernel_rfl) (reads_blk (i := 0) rfl rfl)) ?_)
  refine A.cons (A.q (some 11) (.agg #[(.int .u64 y), (.int .i64 j)]) (by kernel_rfl) (qt_loadN (vs := [(.int .u64 y), (.int .i64 j)]) rfl rfl (by kernel_rfl) (reads_blk (i := 1) rfl rfl)) ?_)
  refine A.cons (A.q (some 12) (.bool (aheadB x i y j)) (by kernel_rfl) (qt_call [(.agg #[(.int .u64 x), (.int .i64 i)]), (.agg #[(.int .u64 y), (.int .i64 j)])] rfl (by kernel_rfl) rfl (fun w _ => ahead_spec x i y j w)) ?_)
  refine A.done ?_
  refine A.norm [(2, (.int .u64 n)), (3, (.pointer (some ⟨b1, 0, none⟩))), (4, (.pointer (some ⟨b2, 0, none⟩))), (6, (.bool false)), (7, (.int .i64 0)), (8, (.pointer (some ⟨b3, 0, none⟩))), (12, (.bool (aheadB x i y j)))] [blk b1 [(.int .u64 x), (.int .i64 i)] 24, blk b2 [(.int .u64 y), (.int .i64 j)] 24, blk b3 [(.int .u64 x), (.int .i64 i)] 24] (by exact ⟨rfl, rfl, rfl, rfl, rfl, rfl, rfl, trivial⟩) rfl ?_
  refine A.tn ?_
  refine A.cond (E := aheadB x i y j) rfl (fun e1 => ?_) (fun e1 => ?_)
  · skip
    refine A.region ?_
    refine A.cons (A.q (some 7) (.int .i64 (-1)) (by kernel_rfl) (qt_assign rfl rfl) ?_)
    refine A.done ?_
    refine A.norm [(2, (.int .u64 n)), (3, (.pointer (some ⟨b1, 0, none⟩))), (4, (.pointer (some ⟨b2, 0, none⟩))), (6, (.bool false)), (7, (.int .i64 (-1))), (8, (.pointer (some ⟨b3, 0, none⟩))), (12, (.bool (aheadB x i y j)))] [blk b1 [(.int .u64 x), (.int .i64 i)] 24, blk b2 [(.int .u64 y), (.int .i64 j)] 24, blk b3 [(.int .u64 x), (.int .i64 i)] 24] (by exact ⟨rfl, rfl, rfl, rfl, rfl, rfl, rfl, trivial⟩) rfl ?_
    refine A.tn ?_
    refine A.seq ?_
    refine A.seq ?_
    refine A.region ?_
    refine A.cons (A.q (some 13) (.agg #[(.int .u64 y), (.int .i64 j)]) (by kernel_rfl) (qt_loadN (vs := [(.int .u64 y), (.int .i64 j)]) rfl rfl (by kernel_rfl) (reads_blk (i := 1) rfl rfl)) ?_)
    refine A.cons (A.q (some 14) (.agg #[(.int .u64 x), (.int .i64 i)]) (by kernel_rfl) (qt_loadN (vs := [(.int .u64 x), (.int .i64 i)]) rfl rfl (by kernel_rfl) (reads_blk (i := 0) rfl rfl)) ?_)
    refine A.cons (A.q (some 15) (.bool (aheadB y j x i)) (by kernel_rfl) (qt_call [(.agg #[(.int .u64 y), (.int .i64 j)]), (.agg #[(.int .u64 x), (.int .i64 i)])] rfl (by kernel_rfl) rfl (fun w _ => ahead_spec y j x i w)) ?_)
    refine A.done ?_
    refine A.norm [(2, (.int .u64 n)), (3, (.pointer (some ⟨b1, 0, none⟩))), (4, (.pointer (some ⟨b2, 0, none⟩))), (6, (.bool false)), (7, (.int .i64 (-1))), (8, (.pointer (some ⟨b3, 0, none⟩))), (12, (.bool (aheadB x i y j))), (15, (.bool (aheadB y j x i)))] [blk b1 [(.int .u64 x), (.int .i64 i)] 24, blk b2 [(.int .u64 y), (.int .i64 j)] 24, blk b3 [(.int .u64 x), (.int .i64 i)] 24] (by exact ⟨rfl, rfl, rfl, rfl, rfl, rfl, rfl, rfl, trivial⟩) rfl ?_
    refine A.tn ?_
    refine A.cond (E := aheadB y j x i) rfl (fun e2 => ?_) (fun e2 => ?_)
    · exact absurd e2 (by grind [cmp, aheadB, dueB, leastA, leastI])
    · skip
      refine A.skip ?_
      refine A.tn ?_
      refine A.seq ?_
      refine A.cutR (fun _ : Unit => [(3, (.pointer (some ⟨b1, 0, none⟩))), (4, (.pointer (some ⟨b2, 0, none⟩))), (6, (.bool true)), (8, (.pointer (some ⟨b3, 0, none⟩))), (12, (.bool (aheadB x i y j))), (15, (.bool (aheadB y j x i)))]) (fun _ => [blk b1 [(.int .u64 x), (.int .i64 i)] 24, blk b2 [(.int .u64 y), (.int .i64 j)] 24, blk b3 [(.int .u64 x), (.int .i64 i)] 24]) (fun _ => True) ?_ (fun _ _ => ?_)
      · skip
        refine A.draw [blk b1 [(.int .u64 x), (.int .i64 i)] 24, blk b2 [(.int .u64 y), (.int .i64 j)] 24, blk b3 [(.int .u64 x), (.int .i64 i)] 24] (by kernel_rfl) ?_
        refine A.take 0 (some 17) (.agg #[(.int .u64 x), (.int .i64 i)]) rfl (by kernel_rfl) (by kernel_rfl) (List.Sublist.refl _) (qt_loadN (vs := [(.int .u64 x), (.int .i64 i)]) rfl rfl (by kernel_rfl) (reads_blk (i := 0) rfl rfl)) ?_
        refine A.take 1 (some 18) (.agg #[(.int .u64 y), (.int .i64 j)]) rfl (by kernel_rfl) (by kernel_rfl) (List.Sublist.refl _) (qt_loadN (vs := [(.int .u64 y), (.int .i64 j)]) rfl rfl (by kernel_rfl) (reads_blk (i := 1) rfl rfl)) ?_
        refine A.take 2 (some 19) (.int .i64 (cmp x i y j)) rfl (by kernel_rfl) (by kernel_rfl) (List.Sublist.refl _) (qt_call [(.agg #[(.int .u64 x), (.int .i64 i)]), (.agg #[(.int .u64 y), (.int .i64 j)])] rfl (by kernel_rfl) rfl (fun w _ => compare_spec x i y j w)) ?_
        refine A.take 3 (some 20) (.int .i64 (-1)) rfl (by kernel_rfl) (by kernel_rfl) (List.Sublist.refl _) (qt_move rfl rfl) ?_
        refine A.take 4 (some 21) (.bool ((cmp x i y j) == (-1))) rfl (by kernel_rfl) (by kernel_rfl) (List.Sublist.refl _) (qt_pure (by kernel_rfl) fun _ => by kernel_rfl) ?_
        refine A.take 5 (some 22) (.bool ((cmp x i y j) == (-1))) rfl (by kernel_rfl) (by kernel_rfl) (List.Sublist.refl _) (qt_move rfl rfl) ?_
        refine A.bool ((cmp x i y j) == (-1)) (fun e3 => ?_) (fun e3 => ?_)
        · skip
          refine A.sub [(2, (.int .u64 n)), (3, (.pointer (some ⟨b1, 0, none⟩))), (4, (.pointer (some ⟨b2, 0, none⟩))), (6, (.bool false)), (7, (.int .i64 (-1))), (8, (.pointer (some ⟨b3, 0, none⟩))), (12, (.bool (aheadB x i y j))), (15, (.bool (aheadB y j x i))), (17, (.agg #[(.int .u64 x), (.int .i64 i)])), (18, (.agg #[(.int .u64 y), (.int .i64 j)])), (19, (.int .i64 (cmp x i y j))), (20, (.int .i64 (-1))), (21, (.bool true)), (22, (.bool true))] (by exact ⟨rfl, rfl, rfl, rfl, rfl, rfl, rfl, rfl, rfl, rfl, rfl, rfl, (congrArg (fun z => some (Value.bool z)) e3), (congrArg (fun z => some (Value.bool z)) e3), trivial⟩) ?_
          refine A.take 6 (some 23) (.agg #[(.int .u64 y), (.int .i64 j)]) rfl (by kernel_rfl) (by kernel_rfl) (List.Sublist.refl _) (qt_loadN (vs := [(.int .u64 y), (.int .i64 j)]) rfl rfl (by kernel_rfl) (reads_blk (i := 1) rfl rfl)) ?_
          refine A.take 7 (some 24) (.agg #[(.int .u64 x), (.int .i64 i)]) rfl (by kernel_rfl) (by kernel_rfl) (List.Sublist.refl _) (qt_loadN (vs := [(.int .u64 x), (.int .i64 i)]) rfl rfl (by kernel_rfl) (reads_blk (i := 0) rfl rfl)) ?_
          refine A.take 8 (some 25) (.int .i64 (cmp y j x i)) rfl (by kernel_rfl) (by kernel_rfl) (List.Sublist.refl _) (qt_call [(.agg #[(.int .u64 y), (.int .i64 j)]), (.agg #[(.int .u64 x), (.int .i64 i)])] rfl (by kernel_rfl) rfl (fun w _ => compare_spec y j x i w)) ?_
          refine A.take 9 (some 26) (.int .i64 (-1)) rfl (by kernel_rfl) (by kernel_rfl) (List.Sublist.refl _) (qt_move rfl rfl) ?_
          refine A.take 10 (some 27) (.int .i64 1) rfl (by kernel_rfl) (by kernel_rfl) (List.Sublist.refl _) (qt_pure (by kernel_rfl) fun _ => by kernel_rfl) ?_
          refine A.take 11 (some 28) (.bool ((cmp y j x i) == 1)) rfl (by kernel_rfl) (by kernel_rfl) (List.Sublist.refl _) (qt_pure (by kernel_rfl) fun _ => by kernel_rfl) ?_
          refine A.take 12 (some 29) (.bool ((cmp y j x i) == 1)) rfl (by kernel_rfl) (by kernel_rfl) (List.Sublist.refl _) (qt_pure (by kernel_rfl) fun _ => by kernel_rfl) ?_
          refine A.take 13 (some 30) (.bool ((cmp y j x i) == 1)) rfl (by kernel_rfl) (by kernel_rfl) (List.Sublist.refl _) (qt_move rfl rfl) ?_
          refine A.bool ((cmp y j x i) == 1) (fun e4 => ?_) (fun e4 => ?_)
          · skip
            refine A.sub [(2, (.int .u64 n)), (3, (.pointer (some ⟨b1, 0, none⟩))), (4, (.pointer (some ⟨b2, 0, none⟩))), (6, (.bool false)), (7, (.int .i64 (-1))), (8, (.pointer (some ⟨b3, 0, none⟩))), (12, (.bool (aheadB x i y j))), (15, (.bool (aheadB y j x i))), (17, (.agg #[(.int .u64 x), (.int .i64 i)])), (18, (.agg #[(.int .u64 y), (.int .i64 j)])), (19, (.int .i64 (cmp x i y j))), (20, (.int .i64 (-1))), (21, (.bool true)), (22, (.bool true)), (23, (.agg #[(.int .u64 y), (.int .i64 j)])), (24, (.agg #[(.int .u64 x), (.int .i64 i)])), (25, (.int .i64 (cmp y j x i))), (26, (.int .i64 (-1))), (27, (.int .i64 1)), (28, (.bool true)), (29, (.bool true)), (30, (.bool true))] (by exact ⟨rfl, rfl, rfl, rfl, rfl, rfl, rfl, rfl, rfl, rfl, rfl, rfl, rfl, rfl, rfl, rfl, rfl, rfl, rfl, (congrArg (fun z => some (Value.bool z)) e4), (congrArg (fun z => some (Value.bool z)) e4), (congrArg (fun z => some (Value.bool z)) e4), trivial⟩) ?_
            refine A.take 14 (some 31) (.agg #[(.int .u64 x), (.int .i64 i)]) rfl (by kernel_rfl) (by kernel_rfl) (List.Sublist.refl _) (qt_loadN (vs := [(.int .u64 x), (.int .i64 i)]) rfl rfl (by kernel_rfl) (reads_blk (i := 0) rfl rfl)) ?_
            refine A.take 15 (some 32) (.agg #[(.int .u64 y), (.int .i64 j)]) rfl (by kernel_rfl) (by kernel_rfl) (List.Sublist.refl _) (qt_loadN (vs := [(.int .u64 y), (.int .i64 j)]) rfl rfl (by kernel_rfl) (reads_blk (i := 1) rfl rfl)) ?_
            refine A.take 16 (some 33) (.agg #[(.int .u64 (leastA x i y j)), (.int .i64 (leastI x i y j))]) rfl (by kernel_rfl) (by kernel_rfl) (List.Sublist.refl _) (qt_call [(.agg #[(.int .u64 x), (.int .i64 i)]), (.agg #[(.int .u64 y), (.int .i64 j)])] rfl (by kernel_rfl) rfl (fun w _ => least_spec x i y j w)) ?_
            refine A.take 17 (some 34) (.agg #[(.int .u64 x), (.int .i64 i)]) rfl (by kernel_rfl) (by kernel_rfl) (List.Sublist.refl _) (qt_loadN (vs := [(.int .u64 x), (.int .i64 i)]) rfl rfl (by kernel_rfl) (reads_blk (i := 2) rfl rfl)) ?_
            refine A.take 18 (some 35) (.bool (((leastA x i y j) == x) && ((leastI x i y j) == i))) rfl (by kernel_rfl) (by kernel_rfl) (List.Sublist.refl _) (qt_eqlA rfl rfl rfl (by kernel_rfl) (by kernel_rfl)) ?_
            refine A.take 19 (some 36) (.bool (((leastA x i y j) == x) && ((leastI x i y j) == i))) rfl (by kernel_rfl) (by kernel_rfl) (List.Sublist.refl _) (qt_pure (by kernel_rfl) fun _ => by kernel_rfl) ?_
            refine A.take 20 (some 37) (.bool (((leastA x i y j) == x) && ((leastI x i y j) == i))) rfl (by kernel_rfl) (by kernel_rfl) (List.Sublist.refl _) (qt_move rfl rfl) ?_
            refine A.bool (((leastA x i y j) == x) && ((leastI x i y j) == i)) (fun e5 => ?_) (fun e5 => ?_)
            · skip
              refine A.sub [(2, (.int .u64 n)), (3, (.pointer (some ⟨b1, 0, none⟩))), (4, (.pointer (some ⟨b2, 0, none⟩))), (6, (.bool false)), (7, (.int .i64 (-1))), (8, (.pointer (some ⟨b3, 0, none⟩))), (12, (.bool (aheadB x i y j))), (15, (.bool (aheadB y j x i))), (17, (.agg #[(.int .u64 x), (.int .i64 i)])), (18, (.agg #[(.int .u64 y), (.int .i64 j)])), (19, (.int .i64 (cmp x i y j))), (20, (.int .i64 (-1))), (21, (.bool true)), (22, (.bool true)), (23, (.agg #[(.int .u64 y), (.int .i64 j)])), (24, (.agg #[(.int .u64 x), (.int .i64 i)])), (25, (.int .i64 (cmp y j x i))), (26, (.int .i64 (-1))), (27, (.int .i64 1)), (28, (.bool true)), (29, (.bool true)), (30, (.bool true)), (31, (.agg #[(.int .u64 x), (.int .i64 i)])), (32, (.agg #[(.int .u64 y), (.int .i64 j)])), (33, (.agg #[(.int .u64 (leastA x i y j)), (.int .i64 (leastI x i y j))])), (34, (.agg #[(.int .u64 x), (.int .i64 i)])), (35, (.bool true)), (36, (.bool true)), (37, (.bool true))] (by exact ⟨rfl, rfl, rfl, rfl, rfl, rfl, rfl, rfl, rfl, rfl, rfl, rfl, rfl, rfl, rfl, rfl, rfl, rfl, rfl, rfl, rfl, rfl, rfl, rfl, rfl, rfl, (congrArg (fun z => some (Value.bool z)) e5), (congrArg (fun z => some (Value.bool z)) e5), (congrArg (fun z => some (Value.bool z)) e5), trivial⟩) ?_
              refine A.take 21 (some 38) (.agg #[(.int .u64 x), (.int .i64 i)]) rfl (by kernel_rfl) (by kernel_rfl) (List.Sublist.refl _) (qt_loadN (vs := [(.int .u64 x), (.int .i64 i)]) rfl rfl (by kernel_rfl) (reads_blk (i := 0) rfl rfl)) ?_
              refine A.take 22 (some 39) (.int .u64 n) rfl (by kernel_rfl) (by kernel_rfl) (List.Sublist.refl _) (qt_move rfl rfl) ?_
              refine A.take 23 (some 40) (.bool (dueB x n)) rfl (by kernel_rfl) (by kernel_rfl) (List.Sublist.refl _) (qt_call [(.agg #[(.int .u64 x), (.int .i64 i)]), (.int .u64 n)] rfl (by kernel_rfl) rfl (fun w _ => due_spec x i n w)) ?_
              refine A.take 24 (some 41) (.pointer (some ⟨b1, 0, none⟩)) rfl (by kernel_rfl) (by kernel_rfl) (List.Sublist.refl _) (qt_pure (by kernel_rfl) fun _ => by kernel_rfl) ?_
              refine A.take 25 (some 42) (.int .u64 x) rfl (by kernel_rfl) (by kernel_rfl) (List.Sublist.refl _) (qt_load1 rfl rfl (by kernel_rfl) (reads_blk (i := 0) rfl rfl)) ?_
              refine A.take 26 (some 43) (.int .u64 n) rfl (by kernel_rfl) (by kernel_rfl) (List.Sublist.refl _) (qt_move rfl rfl) ?_
              refine A.take 27 (some 44) (.bool (decide (x ≤ n))) rfl (by kernel_rfl) (by kernel_rfl) (List.Sublist.refl _) (qt_pure (by kernel_rfl) fun _ => by kernel_rfl) ?_
              refine A.take 28 (some 45) (.bool (decide (x ≤ n))) rfl (by kernel_rfl) (by kernel_rfl) (List.Sublist.refl _) (qt_move rfl rfl) ?_
              refine A.bool (decide (x ≤ n)) (fun e6 => ?_) (fun e6 => ?_)
              · skip
                refine A.sub [(2, (.int .u64 n)), (3, (.pointer (some ⟨b1, 0, none⟩))), (4, (.pointer (some ⟨b2, 0, none⟩))), (6, (.bool false)), (7, (.int .i64 (-1))), (8, (.pointer (some ⟨b3, 0, none⟩))), (12, (.bool (aheadB x i y j))), (15, (.bool (aheadB y j x i))), (17, (.agg #[(.int .u64 x), (.int .i64 i)])), (18, (.agg #[(.int .u64 y), (.int .i64 j)])), (19, (.int .i64 (cmp x i y j))), (20, (.int .i64 (-1))), (21, (.bool true)), (22, (.bool true)), (23, (.agg #[(.int .u64 y), (.int .i64 j)])), (24, (.agg #[(.int .u64 x), (.int .i64 i)])), (25, (.int .i64 (cmp y j x i))), (26, (.int .i64 (-1))), (27, (.int .i64 1)), (28, (.bool true)), (29, (.bool true)), (30, (.bool true)), (31, (.agg #[(.int .u64 x), (.int .i64 i)])), (32, (.agg #[(.int .u64 y), (.int .i64 j)])), (33, (.agg #[(.int .u64 (leastA x i y j)), (.int .i64 (leastI x i y j))])), (34, (.agg #[(.int .u64 x), (.int .i64 i)])), (35, (.bool true)), (36, (.bool true)), (37, (.bool true)), (38, (.agg #[(.int .u64 x), (.int .i64 i)])), (39, (.int .u64 n)), (40, (.bool (dueB x n))), (41, (.pointer (some ⟨b1, 0, none⟩))), (42, (.int .u64 x)), (43, (.int .u64 n)), (44, (.bool true)), (45, (.bool true))] (by exact ⟨rfl, rfl, rfl, rfl, rfl, rfl, rfl, rfl, rfl, rfl, rfl, rfl, rfl, rfl, rfl, rfl, rfl, rfl, rfl, rfl, rfl, rfl, rfl, rfl, rfl, rfl, rfl, rfl, rfl, rfl, rfl, rfl, rfl, rfl, rfl, (congrArg (fun z => some (Value.bool z)) e6), (congrArg (fun z => some (Value.bool z)) e6), trivial⟩) ?_
                refine A.take 29 (some 46) (.pointer (some ⟨b1, 0, none⟩)) rfl (by kernel_rfl) (by kernel_rfl) (List.Sublist.refl _) (qt_pure (by kernel_rfl) fun _ => by kernel_rfl) ?_
                refine A.take 30 (some 47) (.int .u64 x) rfl (by kernel_rfl) (by kernel_rfl) (List.Sublist.refl _) (qt_load1 rfl rfl (by kernel_rfl) (reads_blk (i := 0) rfl rfl)) ?_
                refine A.take 31 (some 48) (.bool (decide (x < 9223372036854775808))) rfl (by kernel_rfl) (by kernel_rfl) (List.Sublist.refl _) (qt_pure (by kernel_rfl) fun _ => by kernel_rfl) ?_
                refine A.take 32 (some 49) (.bool (decide (x < 9223372036854775808))) rfl (by kernel_rfl) (by kernel_rfl) (List.Sublist.refl _) (qt_pure (by kernel_rfl) fun _ => by kernel_rfl) ?_
                refine A.take 33 (some 50) (.bool ((dueB x n) == (decide (x < 9223372036854775808)))) rfl (by kernel_rfl) (by kernel_rfl) (List.Sublist.refl _) (qt_eqlB (b := dueB x n) (c := decide (x < 9223372036854775808)) rfl rfl rfl (by kernel_rfl)) ?_
                refine A.take 34 (some 51) (.bool ((dueB x n) == (decide (x < 9223372036854775808)))) rfl (by kernel_rfl) (by kernel_rfl) (List.Sublist.refl _) (qt_pure (by kernel_rfl) fun _ => by kernel_rfl) ?_
                refine A.take 35 (some 52) (.bool ((dueB x n) == (decide (x < 9223372036854775808)))) rfl (by kernel_rfl) (by kernel_rfl) (List.Sublist.refl _) (qt_move rfl rfl) ?_
                refine A.bool ((dueB x n) == (decide (x < 9223372036854775808))) (fun e7 => ?_) (fun e7 => ?_)
                · skip
                  refine A.sub [(2, (.int .u64 n)), (3, (.pointer (some ⟨b1, 0, none⟩))), (4, (.pointer (some ⟨b2, 0, none⟩))), (6, (.bool false)), (7, (.int .i64 (-1))), (8, (.pointer (some ⟨b3, 0, none⟩))), (12, (.bool (aheadB x i y j))), (15, (.bool (aheadB y j x i))), (17, (.agg #[(.int .u64 x), (.int .i64 i)])), (18, (.agg #[(.int .u64 y), (.int .i64 j)])), (19, (.int .i64 (cmp x i y j))), (20, (.int .i64 (-1))), (21, (.bool true)), (22, (.bool true)), (23, (.agg #[(.int .u64 y), (.int .i64 j)])), (24, (.agg #[(.int .u64 x), (.int .i64 i)])), (25, (.int .i64 (cmp y j x i))), (26, (.int .i64 (-1))), (27, (.int .i64 1)), (28, (.bool true)), (29, (.bool true)), (30, (.bool true)), (31, (.agg #[(.int .u64 x), (.int .i64 i)])), (32, (.agg #[(.int .u64 y), (.int .i64 j)])), (33, (.agg #[(.int .u64 (leastA x i y j)), (.int .i64 (leastI x i y j))])), (34, (.agg #[(.int .u64 x), (.int .i64 i)])), (35, (.bool true)), (36, (.bool true)), (37, (.bool true)), (38, (.agg #[(.int .u64 x), (.int .i64 i)])), (39, (.int .u64 n)), (40, (.bool (dueB x n))), (41, (.pointer (some ⟨b1, 0, none⟩))), (42, (.int .u64 x)), (43, (.int .u64 n)), (44, (.bool true)), (45, (.bool true)), (46, (.pointer (some ⟨b1, 0, none⟩))), (47, (.int .u64 x)), (48, (.bool (decide (x < 9223372036854775808)))), (49, (.bool (decide (x < 9223372036854775808)))), (50, (.bool true)), (51, (.bool true)), (52, (.bool true))] (by exact ⟨rfl, rfl, rfl, rfl, rfl, rfl, rfl, rfl, rfl, rfl, rfl, rfl, rfl, rfl, rfl, rfl, rfl, rfl, rfl, rfl, rfl, rfl, rfl, rfl, rfl, rfl, rfl, rfl, rfl, rfl, rfl, rfl, rfl, rfl, rfl, rfl, rfl, rfl, rfl, rfl, rfl, (congrArg (fun z => some (Value.bool z)) e7), (congrArg (fun z => some (Value.bool z)) e7), (congrArg (fun z => some (Value.bool z)) e7), trivial⟩) ?_
                  refine A.take 36 (some 53) (.pointer (some ⟨b1, 1, none⟩)) rfl (by kernel_rfl) (by kernel_rfl) (List.Sublist.refl _) (qt_pure (by kernel_rfl) fun _ => by kernel_rfl) ?_
                  refine A.take 37 (some 54) (.int .i64 i) rfl (by kernel_rfl) (by kernel_rfl) (List.Sublist.refl _) (qt_load1 rfl rfl (by kernel_rfl) (reads_blk (i := 0) rfl rfl)) ?_
                  refine A.take 38 (some 55) (.agg #[(.int .u64 9223372036854775808), (.int .i64 i)]) rfl (by kernel_rfl) (by kernel_rfl) (List.Sublist.refl _) (qt_call [(.int .i64 i)] rfl (by kernel_rfl) rfl (fun w _ => never_spec i w)) ?_
                  refine A.take 39 (some 56) (.int .u64 n) rfl (by kernel_rfl) (by kernel_rfl) (List.Sublist.refl _) (qt_move rfl rfl) ?_
                  refine A.take 40 (some 57) (.bool (dueB 9223372036854775808 n)) rfl (by kernel_rfl) (by kernel_rfl) (List.Sublist.refl _) (qt_call [(.agg #[(.int .u64 9223372036854775808), (.int .i64 i)]), (.int .u64 n)] rfl (by kernel_rfl) rfl (fun w _ => due_spec (9223372036854775808) i n w)) ?_
                  refine A.take 41 (some 58) (.bool (!(dueB 9223372036854775808 n))) rfl (by kernel_rfl) (by kernel_rfl) (List.Sublist.refl _) (qt_pure (by kernel_rfl) fun _ => by kernel_rfl) ?_
                  refine A.take 42 (some 59) (.bool (!(dueB 9223372036854775808 n))) rfl (by kernel_rfl) (by kernel_rfl) (List.Sublist.refl _) (qt_pure (by kernel_rfl) fun _ => by kernel_rfl) ?_
                  refine A.take 43 (some 60) (.bool (!(dueB 9223372036854775808 n))) rfl (by kernel_rfl) (by kernel_rfl) (List.Sublist.refl _) (qt_move rfl rfl) ?_
                  refine A.bool (!(dueB 9223372036854775808 n)) (fun e8 => ?_) (fun e8 => ?_)
                  · skip
                    refine A.sub [(2, (.int .u64 n)), (3, (.pointer (some ⟨b1, 0, none⟩))), (4, (.pointer (some ⟨b2, 0, none⟩))), (6, (.bool false)), (7, (.int .i64 (-1))), (8, (.pointer (some ⟨b3, 0, none⟩))), (12, (.bool (aheadB x i y j))), (15, (.bool (aheadB y j x i))), (17, (.agg #[(.int .u64 x), (.int .i64 i)])), (18, (.agg #[(.int .u64 y), (.int .i64 j)])), (19, (.int .i64 (cmp x i y j))), (20, (.int .i64 (-1))), (21, (.bool true)), (22, (.bool true)), (23, (.agg #[(.int .u64 y), (.int .i64 j)])), (24, (.agg #[(.int .u64 x), (.int .i64 i)])), (25, (.int .i64 (cmp y j x i))), (26, (.int .i64 (-1))), (27, (.int .i64 1)), (28, (.bool true)), (29, (.bool true)), (30, (.bool true)), (31, (.agg #[(.int .u64 x), (.int .i64 i)])), (32, (.agg #[(.int .u64 y), (.int .i64 j)])), (33, (.agg #[(.int .u64 (leastA x i y j)), (.int .i64 (leastI x i y j))])), (34, (.agg #[(.int .u64 x), (.int .i64 i)])), (35, (.bool true)), (36, (.bool true)), (37, (.bool true)), (38, (.agg #[(.int .u64 x), (.int .i64 i)])), (39, (.int .u64 n)), (40, (.bool (dueB x n))), (41, (.pointer (some ⟨b1, 0, none⟩))), (42, (.int .u64 x)), (43, (.int .u64 n)), (44, (.bool true)), (45, (.bool true)), (46, (.pointer (some ⟨b1, 0, none⟩))), (47, (.int .u64 x)), (48, (.bool (decide (x < 9223372036854775808)))), (49, (.bool (decide (x < 9223372036854775808)))), (50, (.bool true)), (51, (.bool true)), (52, (.bool true)), (53, (.pointer (some ⟨b1, 1, none⟩))), (54, (.int .i64 i)), (55, (.agg #[(.int .u64 9223372036854775808), (.int .i64 i)])), (56, (.int .u64 n)), (57, (.bool (dueB 9223372036854775808 n))), (58, (.bool true)), (59, (.bool true)), (60, (.bool true))] (by exact ⟨rfl, rfl, rfl, rfl, rfl, rfl, rfl, rfl, rfl, rfl, rfl, rfl, rfl, rfl, rfl, rfl, rfl, rfl, rfl, rfl, rfl, rfl, rfl, rfl, rfl, rfl, rfl, rfl, rfl, rfl, rfl, rfl, rfl, rfl, rfl, rfl, rfl, rfl, rfl, rfl, rfl, rfl, rfl, rfl, rfl, rfl, rfl, rfl, rfl, (congrArg (fun z => some (Value.bool z)) e8), (congrArg (fun z => some (Value.bool z)) e8), (congrArg (fun z => some (Value.bool z)) e8), trivial⟩) ?_
                    refine A.take 44 (some 61) (.bool true) rfl (by kernel_rfl) (by kernel_rfl) (List.Sublist.refl _) (qt_call [] rfl (by kernel_rfl) rfl (fun w _ => three_spec  w)) ?_
                    refine A.take 45 (some 62) (.bool true) rfl (by kernel_rfl) (by kernel_rfl) (List.Sublist.refl _) (qt_pure (by kernel_rfl) fun _ => by kernel_rfl) ?_
                    refine A.take 46 (some 6) (.bool true) rfl (by kernel_rfl) (by kernel_rfl) (List.Sublist.refl _) (qt_assign rfl rfl) ?_
                    refine A.fin (by kernel_rfl) ?_
                    exact A.meet () trivial (A.here (by exact ⟨rfl, rfl, rfl, rfl, rfl, rfl, trivial⟩) (List.Sublist.refl _))
                  · exact absurd e8 (by grind [cmp, aheadB, dueB, leastA, leastI])
                · exact absurd e7 (by grind [cmp, aheadB, dueB, leastA, leastI])
              · skip
                refine A.sub [(2, (.int .u64 n)), (3, (.pointer (some ⟨b1, 0, none⟩))), (4, (.pointer (some ⟨b2, 0, none⟩))), (6, (.bool false)), (7, (.int .i64 (-1))), (8, (.pointer (some ⟨b3, 0, none⟩))), (12, (.bool (aheadB x i y j))), (15, (.bool (aheadB y j x i))), (17, (.agg #[(.int .u64 x), (.int .i64 i)])), (18, (.agg #[(.int .u64 y), (.int .i64 j)])), (19, (.int .i64 (cmp x i y j))), (20, (.int .i64 (-1))), (21, (.bool true)), (22, (.bool true)), (23, (.agg #[(.int .u64 y), (.int .i64 j)])), (24, (.agg #[(.int .u64 x), (.int .i64 i)])), (25, (.int .i64 (cmp y j x i))), (26, (.int .i64 (-1))), (27, (.int .i64 1)), (28, (.bool true)), (29, (.bool true)), (30, (.bool true)), (31, (.agg #[(.int .u64 x), (.int .i64 i)])), (32, (.agg #[(.int .u64 y), (.int .i64 j)])), (33, (.agg #[(.int .u64 (leastA x i y j)), (.int .i64 (leastI x i y j))])), (34, (.agg #[(.int .u64 x), (.int .i64 i)])), (35, (.bool true)), (36, (.bool true)), (37, (.bool true)), (38, (.agg #[(.int .u64 x), (.int .i64 i)])), (39, (.int .u64 n)), (40, (.bool (dueB x n))), (41, (.pointer (some ⟨b1, 0, none⟩))), (42, (.int .u64 x)), (43, (.int .u64 n)), (44, (.bool false)), (45, (.bool false))] (by exact ⟨rfl, rfl, rfl, rfl, rfl, rfl, rfl, rfl, rfl, rfl, rfl, rfl, rfl, rfl, rfl, rfl, rfl, rfl, rfl, rfl, rfl, rfl, rfl, rfl, rfl, rfl, rfl, rfl, rfl, rfl, rfl, rfl, rfl, rfl, rfl, (congrArg (fun z => some (Value.bool z)) e6), (congrArg (fun z => some (Value.bool z)) e6), trivial⟩) ?_
                refine A.takeJ 29 (some 46) rfl (by kernel_rfl) rfl rfl (by intro x hx; cases hx; rfl) (List.Sublist.refl _) ?_
                refine A.takeJ 30 (some 47) rfl (by kernel_rfl) rfl rfl (by intro x hx; cases hx; rfl) (List.Sublist.refl _) ?_
                refine A.takeJ 31 (some 48) rfl (by kernel_rfl) rfl rfl (by intro x hx; cases hx; rfl) (List.Sublist.refl _) ?_
                refine A.take 32 (some 49) (.bool false) rfl (by kernel_rfl) (by kernel_rfl) (List.Sublist.refl _) (qt_pure (by kernel_rfl) fun _ => by kernel_rfl) ?_
                refine A.take 33 (some 50) (.bool ((dueB x n) == false)) rfl (by kernel_rfl) (by kernel_rfl) (List.Sublist.refl _) (qt_eqlB (b := dueB x n) (c := false) rfl rfl rfl (by kernel_rfl)) ?_
                refine A.take 34 (some 51) (.bool ((dueB x n) == false)) rfl (by kernel_rfl) (by kernel_rfl) (List.Sublist.refl _) (qt_pure (by kernel_rfl) fun _ => by kernel_rfl) ?_
                refine A.take 35 (some 52) (.bool ((dueB x n) == false)) rfl (by kernel_rfl) (by kernel_rfl) (List.Sublist.refl _) (qt_move rfl rfl) ?_
                refine A.bool ((dueB x n) == false) (fun e9 => ?_) (fun e9 => ?_)
                · skip
                  refine A.sub [(2, (.int .u64 n)), (3, (.pointer (some ⟨b1, 0, none⟩))), (4, (.pointer (some ⟨b2, 0, none⟩))), (6, (.bool false)), (7, (.int .i64 (-1))), (8, (.pointer (some ⟨b3, 0, none⟩))), (12, (.bool (aheadB x i y j))), (15, (.bool (aheadB y j x i))), (17, (.agg #[(.int .u64 x), (.int .i64 i)])), (18, (.agg #[(.int .u64 y), (.int .i64 j)])), (19, (.int .i64 (cmp x i y j))), (20, (.int .i64 (-1))), (21, (.bool true)), (22, (.bool true)), (23, (.agg #[(.int .u64 y), (.int .i64 j)])), (24, (.agg #[(.int .u64 x), (.int .i64 i)])), (25, (.int .i64 (cmp y j x i))), (26, (.int .i64 (-1))), (27, (.int .i64 1)), (28, (.bool true)), (29, (.bool true)), (30, (.bool true)), (31, (.agg #[(.int .u64 x), (.int .i64 i)])), (32, (.agg #[(.int .u64 y), (.int .i64 j)])), (33, (.agg #[(.int .u64 (leastA x i y j)), (.int .i64 (leastI x i y j))])), (34, (.agg #[(.int .u64 x), (.int .i64 i)])), (35, (.bool true)), (36, (.bool true)), (37, (.bool true)), (38, (.agg #[(.int .u64 x), (.int .i64 i)])), (39, (.int .u64 n)), (40, (.bool (dueB x n))), (41, (.pointer (some ⟨b1, 0, none⟩))), (42, (.int .u64 x)), (43, (.int .u64 n)), (44, (.bool false)), (45, (.bool false)), (46, undef), (47, undef), (48, undef), (49, (.bool false)), (50, (.bool true)), (51, (.bool true)), (52, (.bool true))] (by exact ⟨rfl, rfl, rfl, rfl, rfl, rfl, rfl, rfl, rfl, rfl, rfl, rfl, rfl, rfl, rfl, rfl, rfl, rfl, rfl, rfl, rfl, rfl, rfl, rfl, rfl, rfl, rfl, rfl, rfl, rfl, rfl, rfl, rfl, rfl, rfl, rfl, rfl, rfl, rfl, rfl, rfl, (congrArg (fun z => some (Value.bool z)) e9), (congrArg (fun z => some (Value.bool z)) e9), (congrArg (fun z => some (Value.bool z)) e9), trivial⟩) ?_
                  refine A.take 36 (some 53) (.pointer (some ⟨b1, 1, none⟩)) rfl (by kernel_rfl) (by kernel_rfl) (List.Sublist.refl _) (qt_pure (by kernel_rfl) fun _ => by kernel_rfl) ?_
                  refine A.take 37 (some 54) (.int .i64 i) rfl (by kernel_rfl) (by kernel_rfl) (List.Sublist.refl _) (qt_load1 rfl rfl (by kernel_rfl) (reads_blk (i := 0) rfl rfl)) ?_
                  refine A.take 38 (some 55) (.agg #[(.int .u64 9223372036854775808), (.int .i64 i)]) rfl (by kernel_rfl) (by kernel_rfl) (List.Sublist.refl _) (qt_call [(.int .i64 i)] rfl (by kernel_rfl) rfl (fun w _ => never_spec i w)) ?_
                  refine A.take 39 (some 56) (.int .u64 n) rfl (by kernel_rfl) (by kernel_rfl) (List.Sublist.refl _) (qt_move rfl rfl) ?_
                  refine A.take 40 (some 57) (.bool (dueB 9223372036854775808 n)) rfl (by kernel_rfl) (by kernel_rfl) (List.Sublist.refl _) (qt_call [(.agg #[(.int .u64 9223372036854775808), (.int .i64 i)]), (.int .u64 n)] rfl (by kernel_rfl) rfl (fun w _ => due_spec (9223372036854775808) i n w)) ?_
                  refine A.take 41 (some 58) (.bool (!(dueB 9223372036854775808 n))) rfl (by kernel_rfl) (by kernel_rfl) (List.Sublist.refl _) (qt_pure (by kernel_rfl) fun _ => by kernel_rfl) ?_
                  refine A.take 42 (some 59) (.bool (!(dueB 9223372036854775808 n))) rfl (by kernel_rfl) (by kernel_rfl) (List.Sublist.refl _) (qt_pure (by kernel_rfl) fun _ => by kernel_rfl) ?_
                  refine A.take 43 (some 60) (.bool (!(dueB 9223372036854775808 n))) rfl (by kernel_rfl) (by kernel_rfl) (List.Sublist.refl _) (qt_move rfl rfl) ?_
                  refine A.bool (!(dueB 9223372036854775808 n)) (fun e10 => ?_) (fun e10 => ?_)
                  · skip
                    refine A.sub [(2, (.int .u64 n)), (3, (.pointer (some ⟨b1, 0, none⟩))), (4, (.pointer (some ⟨b2, 0, none⟩))), (6, (.bool false)), (7, (.int .i64 (-1))), (8, (.pointer (some ⟨b3, 0, none⟩))), (12, (.bool (aheadB x i y j))), (15, (.bool (aheadB y j x i))), (17, (.agg #[(.int .u64 x), (.int .i64 i)])), (18, (.agg #[(.int .u64 y), (.int .i64 j)])), (19, (.int .i64 (cmp x i y j))), (20, (.int .i64 (-1))), (21, (.bool true)), (22, (.bool true)), (23, (.agg #[(.int .u64 y), (.int .i64 j)])), (24, (.agg #[(.int .u64 x), (.int .i64 i)])), (25, (.int .i64 (cmp y j x i))), (26, (.int .i64 (-1))), (27, (.int .i64 1)), (28, (.bool true)), (29, (.bool true)), (30, (.bool true)), (31, (.agg #[(.int .u64 x), (.int .i64 i)])), (32, (.agg #[(.int .u64 y), (.int .i64 j)])), (33, (.agg #[(.int .u64 (leastA x i y j)), (.int .i64 (leastI x i y j))])), (34, (.agg #[(.int .u64 x), (.int .i64 i)])), (35, (.bool true)), (36, (.bool true)), (37, (.bool true)), (38, (.agg #[(.int .u64 x), (.int .i64 i)])), (39, (.int .u64 n)), (40, (.bool (dueB x n))), (41, (.pointer (some ⟨b1, 0, none⟩))), (42, (.int .u64 x)), (43, (.int .u64 n)), (44, (.bool false)), (45, (.bool false)), (46, undef), (47, undef), (48, undef), (49, (.bool false)), (50, (.bool true)), (51, (.bool true)), (52, (.bool true)), (53, (.pointer (some ⟨b1, 1, none⟩))), (54, (.int .i64 i)), (55, (.agg #[(.int .u64 9223372036854775808), (.int .i64 i)])), (56, (.int .u64 n)), (57, (.bool (dueB 9223372036854775808 n))), (58, (.bool true)), (59, (.bool true)), (60, (.bool true))] (by exact ⟨rfl, rfl, rfl, rfl, rfl, rfl, rfl, rfl, rfl, rfl, rfl, rfl, rfl, rfl, rfl, rfl, rfl, rfl, rfl, rfl, rfl, rfl, rfl, rfl, rfl, rfl, rfl, rfl, rfl, rfl, rfl, rfl, rfl, rfl, rfl, rfl, rfl, rfl, rfl, rfl, rfl, rfl, rfl, rfl, rfl, rfl, rfl, rfl, rfl, (congrArg (fun z => some (Value.bool z)) e10), (congrArg (fun z => some (Value.bool z)) e10), (congrArg (fun z => some (Value.bool z)) e10), trivial⟩) ?_
                    refine A.take 44 (some 61) (.bool true) rfl (by kernel_rfl) (by kernel_rfl) (List.Sublist.refl _) (qt_call [] rfl (by kernel_rfl) rfl (fun w _ => three_spec  w)) ?_
                    refine A.take 45 (some 62) (.bool true) rfl (by kernel_rfl) (by kernel_rfl) (List.Sublist.refl _) (qt_pure (by kernel_rfl) fun _ => by kernel_rfl) ?_
                    refine A.take 46 (some 6) (.bool true) rfl (by kernel_rfl) (by kernel_rfl) (List.Sublist.refl _) (qt_assign rfl rfl) ?_
                    refine A.fin (by kernel_rfl) ?_
                    exact A.meet () trivial (A.here (by exact ⟨rfl, rfl, rfl, rfl, rfl, rfl, trivial⟩) (List.Sublist.refl _))
                  · exact absurd e10 (by grind [cmp, aheadB, dueB, leastA, leastI])
                · exact absurd e9 (by grind [cmp, aheadB, dueB, leastA, leastI])
            · exact absurd e5 (by grind [cmp, aheadB, dueB, leastA, leastI])
          · exact absurd e4 (by grind [cmp, aheadB, dueB, leastA, leastI])
        · exact absurd e3 (by grind [cmp, aheadB, dueB, leastA, leastI])
      · skip
        refine A.tn ?_
        refine A.ret ?_
        refine A.post [(.bool true)] (fun a w r s => ⟨rv_tmp r rfl, trivial⟩) (fun w1 s => ?_)
        exact ⟨rfl, s.fr⟩
  · skip
    refine A.skip ?_
    refine A.tn ?_
    refine A.seq ?_
    refine A.seq ?_
    refine A.region ?_
    refine A.cons (A.q (some 13) (.agg #[(.int .u64 y), (.int .i64 j)]) (by kernel_rfl) (qt_loadN (vs := [(.int .u64 y), (.int .i64 j)]) rfl rfl (by kernel_rfl) (reads_blk (i := 1) rfl rfl)) ?_)
    refine A.cons (A.q (some 14) (.agg #[(.int .u64 x), (.int .i64 i)]) (by kernel_rfl) (qt_loadN (vs := [(.int .u64 x), (.int .i64 i)]) rfl rfl (by kernel_rfl) (reads_blk (i := 0) rfl rfl)) ?_)
    refine A.cons (A.q (some 15) (.bool (aheadB y j x i)) (by kernel_rfl) (qt_call [(.agg #[(.int .u64 y), (.int .i64 j)]), (.agg #[(.int .u64 x), (.int .i64 i)])] rfl (by kernel_rfl) rfl (fun w _ => ahead_spec y j x i w)) ?_)
    refine A.done ?_
    refine A.norm [(2, (.int .u64 n)), (3, (.pointer (some ⟨b1, 0, none⟩))), (4, (.pointer (some ⟨b2, 0, none⟩))), (6, (.bool false)), (7, (.int .i64 0)), (8, (.pointer (some ⟨b3, 0, none⟩))), (12, (.bool (aheadB x i y j))), (15, (.bool (aheadB y j x i)))] [blk b1 [(.int .u64 x), (.int .i64 i)] 24, blk b2 [(.int .u64 y), (.int .i64 j)] 24, blk b3 [(.int .u64 x), (.int .i64 i)] 24] (by exact ⟨rfl, rfl, rfl, rfl, rfl, rfl, rfl, rfl, trivial⟩) rfl ?_
    refine A.tn ?_
    refine A.cond (E := aheadB y j x i) rfl (fun e11 => ?_) (fun e11 => ?_)
    · skip
      refine A.seq ?_
      refine A.region ?_
      refine A.cons (A.q (some 7) (.int .i64 1) (by kernel_rfl) (qt_assign rfl rfl) ?_)
      refine A.done ?_
      refine A.norm [(2, (.int .u64 n)), (3, (.pointer (some ⟨b1, 0, none⟩))), (4, (.pointer (some ⟨b2, 0, none⟩))), (6, (.bool false)), (7, (.int .i64 1)), (8, (.pointer (some ⟨b3, 0, none⟩))), (12, (.bool (aheadB x i y j))), (15, (.bool (aheadB y j x i)))] [blk b1 [(.int .u64 x), (.int .i64 i)] 24, blk b2 [(.int .u64 y), (.int .i64 j)] 24, blk b3 [(.int .u64 x), (.int .i64 i)] 24] (by exact ⟨rfl, rfl, rfl, rfl, rfl, rfl, rfl, rfl, trivial⟩) rfl ?_
      refine A.tn ?_
      refine A.region ?_
      refine A.cons (A.q (some 16) (.agg #[(.int .u64 y), (.int .i64 j)]) (by kernel_rfl) (qt_loadN (vs := [(.int .u64 y), (.int .i64 j)]) rfl rfl (by kernel_rfl) (reads_blk (i := 1) rfl rfl)) ?_)
      refine A.cons (A.store 2 (vs := [(.int .u64 y), (.int .i64 j)]) [blk b1 [(.int .u64 x), (.int .i64 i)] 24, blk b2 [(.int .u64 y), (.int .i64 j)] 24, blk b3 [(.int .u64 y), (.int .i64 j)] 24] (by kernel_rfl) rfl rfl rfl rfl (by kernel_rfl) rfl rfl (by kernel_rfl) rfl ?_)
      refine A.done ?_
      refine A.norm [(2, (.int .u64 n)), (3, (.pointer (some ⟨b1, 0, none⟩))), (4, (.pointer (some ⟨b2, 0, none⟩))), (6, (.bool false)), (7, (.int .i64 1)), (8, (.pointer (some ⟨b3, 0, none⟩))), (12, (.bool (aheadB x i y j))), (15, (.bool (aheadB y j x i)))] [blk b1 [(.int .u64 x), (.int .i64 i)] 24, blk b2 [(.int .u64 y), (.int .i64 j)] 24, blk b3 [(.int .u64 y), (.int .i64 j)] 24] (by exact ⟨rfl, rfl, rfl, rfl, rfl, rfl, rfl, rfl, trivial⟩) rfl ?_
      refine A.tn ?_
      refine A.seq ?_
      refine A.cutR (fun _ : Unit => [(3, (.pointer (some ⟨b1, 0, none⟩))), (4, (.pointer (some ⟨b2, 0, none⟩))), (6, (.bool true)), (8, (.pointer (some ⟨b3, 0, none⟩))), (12, (.bool (aheadB x i y j))), (15, (.bool (aheadB y j x i)))]) (fun _ => [blk b1 [(.int .u64 x), (.int .i64 i)] 24, blk b2 [(.int .u64 y), (.int .i64 j)] 24, blk b3 [(.int .u64 y), (.int .i64 j)] 24]) (fun _ => True) ?_ (fun _ _ => ?_)
      · skip
        refine A.draw [blk b1 [(.int .u64 x), (.int .i64 i)] 24, blk b2 [(.int .u64 y), (.int .i64 j)] 24, blk b3 [(.int .u64 y), (.int .i64 j)] 24] (by kernel_rfl) ?_
        refine A.take 0 (some 17) (.agg #[(.int .u64 x), (.int .i64 i)]) rfl (by kernel_rfl) (by kernel_rfl) (List.Sublist.refl _) (qt_loadN (vs := [(.int .u64 x), (.int .i64 i)]) rfl rfl (by kernel_rfl) (reads_blk (i := 0) rfl rfl)) ?_
        refine A.take 1 (some 18) (.agg #[(.int .u64 y), (.int .i64 j)]) rfl (by kernel_rfl) (by kernel_rfl) (List.Sublist.refl _) (qt_loadN (vs := [(.int .u64 y), (.int .i64 j)]) rfl rfl (by kernel_rfl) (reads_blk (i := 1) rfl rfl)) ?_
        refine A.take 2 (some 19) (.int .i64 (cmp x i y j)) rfl (by kernel_rfl) (by kernel_rfl) (List.Sublist.refl _) (qt_call [(.agg #[(.int .u64 x), (.int .i64 i)]), (.agg #[(.int .u64 y), (.int .i64 j)])] rfl (by kernel_rfl) rfl (fun w _ => compare_spec x i y j w)) ?_
        refine A.take 3 (some 20) (.int .i64 1) rfl (by kernel_rfl) (by kernel_rfl) (List.Sublist.refl _) (qt_move rfl rfl) ?_
        refine A.take 4 (some 21) (.bool ((cmp x i y j) == 1)) rfl (by kernel_rfl) (by kernel_rfl) (List.Sublist.refl _) (qt_pure (by kernel_rfl) fun _ => by kernel_rfl) ?_
        refine A.take 5 (some 22) (.bool ((cmp x i y j) == 1)) rfl (by kernel_rfl) (by kernel_rfl) (List.Sublist.refl _) (qt_move rfl rfl) ?_
        refine A.bool ((cmp x i y j) == 1) (fun e12 => ?_) (fun e12 => ?_)
        · skip
          refine A.sub [(2, (.int .u64 n)), (3, (.pointer (some ⟨b1, 0, none⟩))), (4, (.pointer (some ⟨b2, 0, none⟩))), (6, (.bool false)), (7, (.int .i64 1)), (8, (.pointer (some ⟨b3, 0, none⟩))), (12, (.bool (aheadB x i y j))), (15, (.bool (aheadB y j x i))), (17, (.agg #[(.int .u64 x), (.int .i64 i)])), (18, (.agg #[(.int .u64 y), (.int .i64 j)])), (19, (.int .i64 (cmp x i y j))), (20, (.int .i64 1)), (21, (.bool true)), (22, (.bool true))] (by exact ⟨rfl, rfl, rfl, rfl, rfl, rfl, rfl, rfl, rfl, rfl, rfl, rfl, (congrArg (fun z => some (Value.bool z)) e12), (congrArg (fun z => some (Value.bool z)) e12), trivial⟩) ?_
          refine A.take 6 (some 23) (.agg #[(.int .u64 y), (.int .i64 j)]) rfl (by kernel_rfl) (by kernel_rfl) (List.Sublist.refl _) (qt_loadN (vs := [(.int .u64 y), (.int .i64 j)]) rfl rfl (by kernel_rfl) (reads_blk (i := 1) rfl rfl)) ?_
          refine A.take 7 (some 24) (.agg #[(.int .u64 x), (.int .i64 i)]) rfl (by kernel_rfl) (by kernel_rfl) (List.Sublist.refl _) (qt_loadN (vs := [(.int .u64 x), (.int .i64 i)]) rfl rfl (by kernel_rfl) (reads_blk (i := 0) rfl rfl)) ?_
          refine A.take 8 (some 25) (.int .i64 (cmp y j x i)) rfl (by kernel_rfl) (by kernel_rfl) (List.Sublist.refl _) (qt_call [(.agg #[(.int .u64 y), (.int .i64 j)]), (.agg #[(.int .u64 x), (.int .i64 i)])] rfl (by kernel_rfl) rfl (fun w _ => compare_spec y j x i w)) ?_
          refine A.take 9 (some 26) (.int .i64 1) rfl (by kernel_rfl) (by kernel_rfl) (List.Sublist.refl _) (qt_move rfl rfl) ?_
          refine A.take 10 (some 27) (.int .i64 (-1)) rfl (by kernel_rfl) (by kernel_rfl) (List.Sublist.refl _) (qt_pure (by kernel_rfl) fun _ => by kernel_rfl) ?_
          refine A.take 11 (some 28) (.bool ((cmp y j x i) == (-1))) rfl (by kernel_rfl) (by kernel_rfl) (List.Sublist.refl _) (qt_pure (by kernel_rfl) fun _ => by kernel_rfl) ?_
          refine A.take 12 (some 29) (.bool ((cmp y j x i) == (-1))) rfl (by kernel_rfl) (by kernel_rfl) (List.Sublist.refl _) (qt_pure (by kernel_rfl) fun _ => by kernel_rfl) ?_
          refine A.take 13 (some 30) (.bool ((cmp y j x i) == (-1))) rfl (by kernel_rfl) (by kernel_rfl) (List.Sublist.refl _) (qt_move rfl rfl) ?_
          refine A.bool ((cmp y j x i) == (-1)) (fun e13 => ?_) (fun e13 => ?_)
          · skip
            refine A.sub [(2, (.int .u64 n)), (3, (.pointer (some ⟨b1, 0, none⟩))), (4, (.pointer (some ⟨b2, 0, none⟩))), (6, (.bool false)), (7, (.int .i64 1)), (8, (.pointer (some ⟨b3, 0, none⟩))), (12, (.bool (aheadB x i y j))), (15, (.bool (aheadB y j x i))), (17, (.agg #[(.int .u64 x), (.int .i64 i)])), (18, (.agg #[(.int .u64 y), (.int .i64 j)])), (19, (.int .i64 (cmp x i y j))), (20, (.int .i64 1)), (21, (.bool true)), (22, (.bool true)), (23, (.agg #[(.int .u64 y), (.int .i64 j)])), (24, (.agg #[(.int .u64 x), (.int .i64 i)])), (25, (.int .i64 (cmp y j x i))), (26, (.int .i64 1)), (27, (.int .i64 (-1))), (28, (.bool true)), (29, (.bool true)), (30, (.bool true))] (by exact ⟨rfl, rfl, rfl, rfl, rfl, rfl, rfl, rfl, rfl, rfl, rfl, rfl, rfl, rfl, rfl, rfl, rfl, rfl, rfl, (congrArg (fun z => some (Value.bool z)) e13), (congrArg (fun z => some (Value.bool z)) e13), (congrArg (fun z => some (Value.bool z)) e13), trivial⟩) ?_
            refine A.take 14 (some 31) (.agg #[(.int .u64 x), (.int .i64 i)]) rfl (by kernel_rfl) (by kernel_rfl) (List.Sublist.refl _) (qt_loadN (vs := [(.int .u64 x), (.int .i64 i)]) rfl rfl (by kernel_rfl) (reads_blk (i := 0) rfl rfl)) ?_
            refine A.take 15 (some 32) (.agg #[(.int .u64 y), (.int .i64 j)]) rfl (by kernel_rfl) (by kernel_rfl) (List.Sublist.refl _) (qt_loadN (vs := [(.int .u64 y), (.int .i64 j)]) rfl rfl (by kernel_rfl) (reads_blk (i := 1) rfl rfl)) ?_
            refine A.take 16 (some 33) (.agg #[(.int .u64 (leastA x i y j)), (.int .i64 (leastI x i y j))]) rfl (by kernel_rfl) (by kernel_rfl) (List.Sublist.refl _) (qt_call [(.agg #[(.int .u64 x), (.int .i64 i)]), (.agg #[(.int .u64 y), (.int .i64 j)])] rfl (by kernel_rfl) rfl (fun w _ => least_spec x i y j w)) ?_
            refine A.take 17 (some 34) (.agg #[(.int .u64 y), (.int .i64 j)]) rfl (by kernel_rfl) (by kernel_rfl) (List.Sublist.refl _) (qt_loadN (vs := [(.int .u64 y), (.int .i64 j)]) rfl rfl (by kernel_rfl) (reads_blk (i := 2) rfl rfl)) ?_
            refine A.take 18 (some 35) (.bool (((leastA x i y j) == y) && ((leastI x i y j) == j))) rfl (by kernel_rfl) (by kernel_rfl) (List.Sublist.refl _) (qt_eqlA rfl rfl rfl (by kernel_rfl) (by kernel_rfl)) ?_
            refine A.take 19 (some 36) (.bool (((leastA x i y j) == y) && ((leastI x i y j) == j))) rfl (by kernel_rfl) (by kernel_rfl) (List.Sublist.refl _) (qt_pure (by kernel_rfl) fun _ => by kernel_rfl) ?_
            refine A.take 20 (some 37) (.bool (((leastA x i y j) == y) && ((leastI x i y j) == j))) rfl (by kernel_rfl) (by kernel_rfl) (List.Sublist.refl _) (qt_move rfl rfl) ?_
            refine A.bool (((leastA x i y j) == y) && ((leastI x i y j) == j)) (fun e14 => ?_) (fun e14 => ?_)
            · skip
              refine A.sub [(2, (.int .u64 n)), (3, (.pointer (some ⟨b1, 0, none⟩))), (4, (.pointer (some ⟨b2, 0, none⟩))), (6, (.bool false)), (7, (.int .i64 1)), (8, (.pointer (some ⟨b3, 0, none⟩))), (12, (.bool (aheadB x i y j))), (15, (.bool (aheadB y j x i))), (17, (.agg #[(.int .u64 x), (.int .i64 i)])), (18, (.agg #[(.int .u64 y), (.int .i64 j)])), (19, (.int .i64 (cmp x i y j))), (20, (.int .i64 1)), (21, (.bool true)), (22, (.bool true)), (23, (.agg #[(.int .u64 y), (.int .i64 j)])), (24, (.agg #[(.int .u64 x), (.int .i64 i)])), (25, (.int .i64 (cmp y j x i))), (26, (.int .i64 1)), (27, (.int .i64 (-1))), (28, (.bool true)), (29, (.bool true)), (30, (.bool true)), (31, (.agg #[(.int .u64 x), (.int .i64 i)])), (32, (.agg #[(.int .u64 y), (.int .i64 j)])), (33, (.agg #[(.int .u64 (leastA x i y j)), (.int .i64 (leastI x i y j))])), (34, (.agg #[(.int .u64 y), (.int .i64 j)])), (35, (.bool true)), (36, (.bool true)), (37, (.bool true))] (by exact ⟨rfl, rfl, rfl, rfl, rfl, rfl, rfl, rfl, rfl, rfl, rfl, rfl, rfl, rfl, rfl, rfl, rfl, rfl, rfl, rfl, rfl, rfl, rfl, rfl, rfl, rfl, (congrArg (fun z => some (Value.bool z)) e14), (congrArg (fun z => some (Value.bool z)) e14), (congrArg (fun z => some (Value.bool z)) e14), trivial⟩) ?_
              refine A.take 21 (some 38) (.agg #[(.int .u64 x), (.int .i64 i)]) rfl (by kernel_rfl) (by kernel_rfl) (List.Sublist.refl _) (qt_loadN (vs := [(.int .u64 x), (.int .i64 i)]) rfl rfl (by kernel_rfl) (reads_blk (i := 0) rfl rfl)) ?_
              refine A.take 22 (some 39) (.int .u64 n) rfl (by kernel_rfl) (by kernel_rfl) (List.Sublist.refl _) (qt_move rfl rfl) ?_
              refine A.take 23 (some 40) (.bool (dueB x n)) rfl (by kernel_rfl) (by kernel_rfl) (List.Sublist.refl _) (qt_call [(.agg #[(.int .u64 x), (.int .i64 i)]), (.int .u64 n)] rfl (by kernel_rfl) rfl (fun w _ => due_spec x i n w)) ?_
              refine A.take 24 (some 41) (.pointer (some ⟨b1, 0, none⟩)) rfl (by kernel_rfl) (by kernel_rfl) (List.Sublist.refl _) (qt_pure (by kernel_rfl) fun _ => by kernel_rfl) ?_
              refine A.take 25 (some 42) (.int .u64 x) rfl (by kernel_rfl) (by kernel_rfl) (List.Sublist.refl _) (qt_load1 rfl rfl (by kernel_rfl) (reads_blk (i := 0) rfl rfl)) ?_
              refine A.take 26 (some 43) (.int .u64 n) rfl (by kernel_rfl) (by kernel_rfl) (List.Sublist.refl _) (qt_move rfl rfl) ?_
              refine A.take 27 (some 44) (.bool (decide (x ≤ n))) rfl (by kernel_rfl) (by kernel_rfl) (List.Sublist.refl _) (qt_pure (by kernel_rfl) fun _ => by kernel_rfl) ?_
              refine A.take 28 (some 45) (.bool (decide (x ≤ n))) rfl (by kernel_rfl) (by kernel_rfl) (List.Sublist.refl _) (qt_move rfl rfl) ?_
              refine A.bool (decide (x ≤ n)) (fun e15 => ?_) (fun e15 => ?_)
              · skip
                refine A.sub [(2, (.int .u64 n)), (3, (.pointer (some ⟨b1, 0, none⟩))), (4, (.pointer (some ⟨b2, 0, none⟩))), (6, (.bool false)), (7, (.int .i64 1)), (8, (.pointer (some ⟨b3, 0, none⟩))), (12, (.bool (aheadB x i y j))), (15, (.bool (aheadB y j x i))), (17, (.agg #[(.int .u64 x), (.int .i64 i)])), (18, (.agg #[(.int .u64 y), (.int .i64 j)])), (19, (.int .i64 (cmp x i y j))), (20, (.int .i64 1)), (21, (.bool true)), (22, (.bool true)), (23, (.agg #[(.int .u64 y), (.int .i64 j)])), (24, (.agg #[(.int .u64 x), (.int .i64 i)])), (25, (.int .i64 (cmp y j x i))), (26, (.int .i64 1)), (27, (.int .i64 (-1))), (28, (.bool true)), (29, (.bool true)), (30, (.bool true)), (31, (.agg #[(.int .u64 x), (.int .i64 i)])), (32, (.agg #[(.int .u64 y), (.int .i64 j)])), (33, (.agg #[(.int .u64 (leastA x i y j)), (.int .i64 (leastI x i y j))])), (34, (.agg #[(.int .u64 y), (.int .i64 j)])), (35, (.bool true)), (36, (.bool true)), (37, (.bool true)), (38, (.agg #[(.int .u64 x), (.int .i64 i)])), (39, (.int .u64 n)), (40, (.bool (dueB x n))), (41, (.pointer (some ⟨b1, 0, none⟩))), (42, (.int .u64 x)), (43, (.int .u64 n)), (44, (.bool true)), (45, (.bool true))] (by exact ⟨rfl, rfl, rfl, rfl, rfl, rfl, rfl, rfl, rfl, rfl, rfl, rfl, rfl, rfl, rfl, rfl, rfl, rfl, rfl, rfl, rfl, rfl, rfl, rfl, rfl, rfl, rfl, rfl, rfl, rfl, rfl, rfl, rfl, rfl, rfl, (congrArg (fun z => some (Value.bool z)) e15), (congrArg (fun z => some (Value.bool z)) e15), trivial⟩) ?_
                refine A.take 29 (some 46) (.pointer (some ⟨b1, 0, none⟩)) rfl (by kernel_rfl) (by kernel_rfl) (List.Sublist.refl _) (qt_pure (by kernel_rfl) fun _ => by kernel_rfl) ?_
                refine A.take 30 (some 47) (.int .u64 x) rfl (by kernel_rfl) (by kernel_rfl) (List.Sublist.refl _) (qt_load1 rfl rfl (by kernel_rfl) (reads_blk (i := 0) rfl rfl)) ?_
                refine A.take 31 (some 48) (.bool (decide (x < 9223372036854775808))) rfl (by kernel_rfl) (by kernel_rfl) (List.Sublist.refl _) (qt_pure (by kernel_rfl) fun _ => by kernel_rfl) ?_
                refine A.take 32 (some 49) (.bool (decide (x < 9223372036854775808))) rfl (by kernel_rfl) (by kernel_rfl) (List.Sublist.refl _) (qt_pure (by kernel_rfl) fun _ => by kernel_rfl) ?_
                refine A.take 33 (some 50) (.bool ((dueB x n) == (decide (x < 9223372036854775808)))) rfl (by kernel_rfl) (by kernel_rfl) (List.Sublist.refl _) (qt_eqlB (b := dueB x n) (c := decide (x < 9223372036854775808)) rfl rfl rfl (by kernel_rfl)) ?_
                refine A.take 34 (some 51) (.bool ((dueB x n) == (decide (x < 9223372036854775808)))) rfl (by kernel_rfl) (by kernel_rfl) (List.Sublist.refl _) (qt_pure (by kernel_rfl) fun _ => by kernel_rfl) ?_
                refine A.take 35 (some 52) (.bool ((dueB x n) == (decide (x < 9223372036854775808)))) rfl (by kernel_rfl) (by kernel_rfl) (List.Sublist.refl _) (qt_move rfl rfl) ?_
                refine A.bool ((dueB x n) == (decide (x < 9223372036854775808))) (fun e16 => ?_) (fun e16 => ?_)
                · skip
                  refine A.sub [(2, (.int .u64 n)), (3, (.pointer (some ⟨b1, 0, none⟩))), (4, (.pointer (some ⟨b2, 0, none⟩))), (6, (.bool false)), (7, (.int .i64 1)), (8, (.pointer (some ⟨b3, 0, none⟩))), (12, (.bool (aheadB x i y j))), (15, (.bool (aheadB y j x i))), (17, (.agg #[(.int .u64 x), (.int .i64 i)])), (18, (.agg #[(.int .u64 y), (.int .i64 j)])), (19, (.int .i64 (cmp x i y j))), (20, (.int .i64 1)), (21, (.bool true)), (22, (.bool true)), (23, (.agg #[(.int .u64 y), (.int .i64 j)])), (24, (.agg #[(.int .u64 x), (.int .i64 i)])), (25, (.int .i64 (cmp y j x i))), (26, (.int .i64 1)), (27, (.int .i64 (-1))), (28, (.bool true)), (29, (.bool true)), (30, (.bool true)), (31, (.agg #[(.int .u64 x), (.int .i64 i)])), (32, (.agg #[(.int .u64 y), (.int .i64 j)])), (33, (.agg #[(.int .u64 (leastA x i y j)), (.int .i64 (leastI x i y j))])), (34, (.agg #[(.int .u64 y), (.int .i64 j)])), (35, (.bool true)), (36, (.bool true)), (37, (.bool true)), (38, (.agg #[(.int .u64 x), (.int .i64 i)])), (39, (.int .u64 n)), (40, (.bool (dueB x n))), (41, (.pointer (some ⟨b1, 0, none⟩))), (42, (.int .u64 x)), (43, (.int .u64 n)), (44, (.bool true)), (45, (.bool true)), (46, (.pointer (some ⟨b1, 0, none⟩))), (47, (.int .u64 x)), (48, (.bool (decide (x < 9223372036854775808)))), (49, (.bool (decide (x < 9223372036854775808)))), (50, (.bool true)), (51, (.bool true)), (52, (.bool true))] (by exact ⟨rfl, rfl, rfl, rfl, rfl, rfl, rfl, rfl, rfl, rfl, rfl, rfl, rfl, rfl, rfl, rfl, rfl, rfl, rfl, rfl, rfl, rfl, rfl, rfl, rfl, rfl, rfl, rfl, rfl, rfl, rfl, rfl, rfl, rfl, rfl, rfl, rfl, rfl, rfl, rfl, rfl, (congrArg (fun z => some (Value.bool z)) e16), (congrArg (fun z => some (Value.bool z)) e16), (congrArg (fun z => some (Value.bool z)) e16), trivial⟩) ?_
                  refine A.take 36 (some 53) (.pointer (some ⟨b1, 1, none⟩)) rfl (by kernel_rfl) (by kernel_rfl) (List.Sublist.refl _) (qt_pure (by kernel_rfl) fun _ => by kernel_rfl) ?_
                  refine A.take 37 (some 54) (.int .i64 i) rfl (by kernel_rfl) (by kernel_rfl) (List.Sublist.refl _) (qt_load1 rfl rfl (by kernel_rfl) (reads_blk (i := 0) rfl rfl)) ?_
                  refine A.take 38 (some 55) (.agg #[(.int .u64 9223372036854775808), (.int .i64 i)]) rfl (by kernel_rfl) (by kernel_rfl) (List.Sublist.refl _) (qt_call [(.int .i64 i)] rfl (by kernel_rfl) rfl (fun w _ => never_spec i w)) ?_
                  refine A.take 39 (some 56) (.int .u64 n) rfl (by kernel_rfl) (by kernel_rfl) (List.Sublist.refl _) (qt_move rfl rfl) ?_
                  refine A.take 40 (some 57) (.bool (dueB 9223372036854775808 n)) rfl (by kernel_rfl) (by kernel_rfl) (List.Sublist.refl _) (qt_call [(.agg #[(.int .u64 9223372036854775808), (.int .i64 i)]), (.int .u64 n)] rfl (by kernel_rfl) rfl (fun w _ => due_spec (9223372036854775808) i n w)) ?_
                  refine A.take 41 (some 58) (.bool (!(dueB 9223372036854775808 n))) rfl (by kernel_rfl) (by kernel_rfl) (List.Sublist.refl _) (qt_pure (by kernel_rfl) fun _ => by kernel_rfl) ?_
                  refine A.take 42 (some 59) (.bool (!(dueB 9223372036854775808 n))) rfl (by kernel_rfl) (by kernel_rfl) (List.Sublist.refl _) (qt_pure (by kernel_rfl) fun _ => by kernel_rfl) ?_
                  refine A.take 43 (some 60) (.bool (!(dueB 9223372036854775808 n))) rfl (by kernel_rfl) (by kernel_rfl) (List.Sublist.refl _) (qt_move rfl rfl) ?_
                  refine A.bool (!(dueB 9223372036854775808 n)) (fun e17 => ?_) (fun e17 => ?_)
                  · skip
                    refine A.sub [(2, (.int .u64 n)), (3, (.pointer (some ⟨b1, 0, none⟩))), (4, (.pointer (some ⟨b2, 0, none⟩))), (6, (.bool false)), (7, (.int .i64 1)), (8, (.pointer (some ⟨b3, 0, none⟩))), (12, (.bool (aheadB x i y j))), (15, (.bool (aheadB y j x i))), (17, (.agg #[(.int .u64 x), (.int .i64 i)])), (18, (.agg #[(.int .u64 y), (.int .i64 j)])), (19, (.int .i64 (cmp x i y j))), (20, (.int .i64 1)), (21, (.bool true)), (22, (.bool true)), (23, (.agg #[(.int .u64 y), (.int .i64 j)])), (24, (.agg #[(.int .u64 x), (.int .i64 i)])), (25, (.int .i64 (cmp y j x i))), (26, (.int .i64 1)), (27, (.int .i64 (-1))), (28, (.bool true)), (29, (.bool true)), (30, (.bool true)), (31, (.agg #[(.int .u64 x), (.int .i64 i)])), (32, (.agg #[(.int .u64 y), (.int .i64 j)])), (33, (.agg #[(.int .u64 (leastA x i y j)), (.int .i64 (leastI x i y j))])), (34, (.agg #[(.int .u64 y), (.int .i64 j)])), (35, (.bool true)), (36, (.bool true)), (37, (.bool true)), (38, (.agg #[(.int .u64 x), (.int .i64 i)])), (39, (.int .u64 n)), (40, (.bool (dueB x n))), (41, (.pointer (some ⟨b1, 0, none⟩))), (42, (.int .u64 x)), (43, (.int .u64 n)), (44, (.bool true)), (45, (.bool true)), (46, (.pointer (some ⟨b1, 0, none⟩))), (47, (.int .u64 x)), (48, (.bool (decide (x < 9223372036854775808)))), (49, (.bool (decide (x < 9223372036854775808)))), (50, (.bool true)), (51, (.bool true)), (52, (.bool true)), (53, (.pointer (some ⟨b1, 1, none⟩))), (54, (.int .i64 i)), (55, (.agg #[(.int .u64 9223372036854775808), (.int .i64 i)])), (56, (.int .u64 n)), (57, (.bool (dueB 9223372036854775808 n))), (58, (.bool true)), (59, (.bool true)), (60, (.bool true))] (by exact ⟨rfl, rfl, rfl, rfl, rfl, rfl, rfl, rfl, rfl, rfl, rfl, rfl, rfl, rfl, rfl, rfl, rfl, rfl, rfl, rfl, rfl, rfl, rfl, rfl, rfl, rfl, rfl, rfl, rfl, rfl, rfl, rfl, rfl, rfl, rfl, rfl, rfl, rfl, rfl, rfl, rfl, rfl, rfl, rfl, rfl, rfl, rfl, rfl, rfl, (congrArg (fun z => some (Value.bool z)) e17), (congrArg (fun z => some (Value.bool z)) e17), (congrArg (fun z => some (Value.bool z)) e17), trivial⟩) ?_
                    refine A.take 44 (some 61) (.bool true) rfl (by kernel_rfl) (by kernel_rfl) (List.Sublist.refl _) (qt_call [] rfl (by kernel_rfl) rfl (fun w _ => three_spec  w)) ?_
                    refine A.take 45 (some 62) (.bool true) rfl (by kernel_rfl) (by kernel_rfl) (List.Sublist.refl _) (qt_pure (by kernel_rfl) fun _ => by kernel_rfl) ?_
                    refine A.take 46 (some 6) (.bool true) rfl (by kernel_rfl) (by kernel_rfl) (List.Sublist.refl _) (qt_assign rfl rfl) ?_
                    refine A.fin (by kernel_rfl) ?_
                    exact A.meet () trivial (A.here (by exact ⟨rfl, rfl, rfl, rfl, rfl, rfl, trivial⟩) (List.Sublist.refl _))
                  · exact absurd e17 (by grind [cmp, aheadB, dueB, leastA, leastI])
                · exact absurd e16 (by grind [cmp, aheadB, dueB, leastA, leastI])
              · skip
                refine A.sub [(2, (.int .u64 n)), (3, (.pointer (some ⟨b1, 0, none⟩))), (4, (.pointer (some ⟨b2, 0, none⟩))), (6, (.bool false)), (7, (.int .i64 1)), (8, (.pointer (some ⟨b3, 0, none⟩))), (12, (.bool (aheadB x i y j))), (15, (.bool (aheadB y j x i))), (17, (.agg #[(.int .u64 x), (.int .i64 i)])), (18, (.agg #[(.int .u64 y), (.int .i64 j)])), (19, (.int .i64 (cmp x i y j))), (20, (.int .i64 1)), (21, (.bool true)), (22, (.bool true)), (23, (.agg #[(.int .u64 y), (.int .i64 j)])), (24, (.agg #[(.int .u64 x), (.int .i64 i)])), (25, (.int .i64 (cmp y j x i))), (26, (.int .i64 1)), (27, (.int .i64 (-1))), (28, (.bool true)), (29, (.bool true)), (30, (.bool true)), (31, (.agg #[(.int .u64 x), (.int .i64 i)])), (32, (.agg #[(.int .u64 y), (.int .i64 j)])), (33, (.agg #[(.int .u64 (leastA x i y j)), (.int .i64 (leastI x i y j))])), (34, (.agg #[(.int .u64 y), (.int .i64 j)])), (35, (.bool true)), (36, (.bool true)), (37, (.bool true)), (38, (.agg #[(.int .u64 x), (.int .i64 i)])), (39, (.int .u64 n)), (40, (.bool (dueB x n))), (41, (.pointer (some ⟨b1, 0, none⟩))), (42, (.int .u64 x)), (43, (.int .u64 n)), (44, (.bool false)), (45, (.bool false))] (by exact ⟨rfl, rfl, rfl, rfl, rfl, rfl, rfl, rfl, rfl, rfl, rfl, rfl, rfl, rfl, rfl, rfl, rfl, rfl, rfl, rfl, rfl, rfl, rfl, rfl, rfl, rfl, rfl, rfl, rfl, rfl, rfl, rfl, rfl, rfl, rfl, (congrArg (fun z => some (Value.bool z)) e15), (congrArg (fun z => some (Value.bool z)) e15), trivial⟩) ?_
                refine A.takeJ 29 (some 46) rfl (by kernel_rfl) rfl rfl (by intro x hx; cases hx; rfl) (List.Sublist.refl _) ?_
                refine A.takeJ 30 (some 47) rfl (by kernel_rfl) rfl rfl (by intro x hx; cases hx; rfl) (List.Sublist.refl _) ?_
                refine A.takeJ 31 (some 48) rfl (by kernel_rfl) rfl rfl (by intro x hx; cases hx; rfl) (List.Sublist.refl _) ?_
                refine A.take 32 (some 49) (.bool false) rfl (by kernel_rfl) (by kernel_rfl) (List.Sublist.refl _) (qt_pure (by kernel_rfl) fun _ => by kernel_rfl) ?_
                refine A.take 33 (some 50) (.bool ((dueB x n) == false)) rfl (by kernel_rfl) (by kernel_rfl) (List.Sublist.refl _) (qt_eqlB (b := dueB x n) (c := false) rfl rfl rfl (by kernel_rfl)) ?_
                refine A.take 34 (some 51) (.bool ((dueB x n) == false)) rfl (by kernel_rfl) (by kernel_rfl) (List.Sublist.refl _) (qt_pure (by kernel_rfl) fun _ => by kernel_rfl) ?_
                refine A.take 35 (some 52) (.bool ((dueB x n) == false)) rfl (by kernel_rfl) (by kernel_rfl) (List.Sublist.refl _) (qt_move rfl rfl) ?_
                refine A.bool ((dueB x n) == false) (fun e18 => ?_) (fun e18 => ?_)
                · skip
                  refine A.sub [(2, (.int .u64 n)), (3, (.pointer (some ⟨b1, 0, none⟩))), (4, (.pointer (some ⟨b2, 0, none⟩))), (6, (.bool false)), (7, (.int .i64 1)), (8, (.pointer (some ⟨b3, 0, none⟩))), (12, (.bool (aheadB x i y j))), (15, (.bool (aheadB y j x i))), (17, (.agg #[(.int .u64 x), (.int .i64 i)])), (18, (.agg #[(.int .u64 y), (.int .i64 j)])), (19, (.int .i64 (cmp x i y j))), (20, (.int .i64 1)), (21, (.bool true)), (22, (.bool true)), (23, (.agg #[(.int .u64 y), (.int .i64 j)])), (24, (.agg #[(.int .u64 x), (.int .i64 i)])), (25, (.int .i64 (cmp y j x i))), (26, (.int .i64 1)), (27, (.int .i64 (-1))), (28, (.bool true)), (29, (.bool true)), (30, (.bool true)), (31, (.agg #[(.int .u64 x), (.int .i64 i)])), (32, (.agg #[(.int .u64 y), (.int .i64 j)])), (33, (.agg #[(.int .u64 (leastA x i y j)), (.int .i64 (leastI x i y j))])), (34, (.agg #[(.int .u64 y), (.int .i64 j)])), (35, (.bool true)), (36, (.bool true)), (37, (.bool true)), (38, (.agg #[(.int .u64 x), (.int .i64 i)])), (39, (.int .u64 n)), (40, (.bool (dueB x n))), (41, (.pointer (some ⟨b1, 0, none⟩))), (42, (.int .u64 x)), (43, (.int .u64 n)), (44, (.bool false)), (45, (.bool false)), (46, undef), (47, undef), (48, undef), (49, (.bool false)), (50, (.bool true)), (51, (.bool true)), (52, (.bool true))] (by exact ⟨rfl, rfl, rfl, rfl, rfl, rfl, rfl, rfl, rfl, rfl, rfl, rfl, rfl, rfl, rfl, rfl, rfl, rfl, rfl, rfl, rfl, rfl, rfl, rfl, rfl, rfl, rfl, rfl, rfl, rfl, rfl, rfl, rfl, rfl, rfl, rfl, rfl, rfl, rfl, rfl, rfl, (congrArg (fun z => some (Value.bool z)) e18), (congrArg (fun z => some (Value.bool z)) e18), (congrArg (fun z => some (Value.bool z)) e18), trivial⟩) ?_
                  refine A.take 36 (some 53) (.pointer (some ⟨b1, 1, none⟩)) rfl (by kernel_rfl) (by kernel_rfl) (List.Sublist.refl _) (qt_pure (by kernel_rfl) fun _ => by kernel_rfl) ?_
                  refine A.take 37 (some 54) (.int .i64 i) rfl (by kernel_rfl) (by kernel_rfl) (List.Sublist.refl _) (qt_load1 rfl rfl (by kernel_rfl) (reads_blk (i := 0) rfl rfl)) ?_
                  refine A.take 38 (some 55) (.agg #[(.int .u64 9223372036854775808), (.int .i64 i)]) rfl (by kernel_rfl) (by kernel_rfl) (List.Sublist.refl _) (qt_call [(.int .i64 i)] rfl (by kernel_rfl) rfl (fun w _ => never_spec i w)) ?_
                  refine A.take 39 (some 56) (.int .u64 n) rfl (by kernel_rfl) (by kernel_rfl) (List.Sublist.refl _) (qt_move rfl rfl) ?_
                  refine A.take 40 (some 57) (.bool (dueB 9223372036854775808 n)) rfl (by kernel_rfl) (by kernel_rfl) (List.Sublist.refl _) (qt_call [(.agg #[(.int .u64 9223372036854775808), (.int .i64 i)]), (.int .u64 n)] rfl (by kernel_rfl) rfl (fun w _ => due_spec (9223372036854775808) i n w)) ?_
                  refine A.take 41 (some 58) (.bool (!(dueB 9223372036854775808 n))) rfl (by kernel_rfl) (by kernel_rfl) (List.Sublist.refl _) (qt_pure (by kernel_rfl) fun _ => by kernel_rfl) ?_
                  refine A.take 42 (some 59) (.bool (!(dueB 9223372036854775808 n))) rfl (by kernel_rfl) (by kernel_rfl) (List.Sublist.refl _) (qt_pure (by kernel_rfl) fun _ => by kernel_rfl) ?_
                  refine A.take 43 (some 60) (.bool (!(dueB 9223372036854775808 n))) rfl (by kernel_rfl) (by kernel_rfl) (List.Sublist.refl _) (qt_move rfl rfl) ?_
                  refine A.bool (!(dueB 9223372036854775808 n)) (fun e19 => ?_) (fun e19 => ?_)
                  · skip
                    refine A.sub [(2, (.int .u64 n)), (3, (.pointer (some ⟨b1, 0, none⟩))), (4, (.pointer (some ⟨b2, 0, none⟩))), (6, (.bool false)), (7, (.int .i64 1)), (8, (.pointer (some ⟨b3, 0, none⟩))), (12, (.bool (aheadB x i y j))), (15, (.bool (aheadB y j x i))), (17, (.agg #[(.int .u64 x), (.int .i64 i)])), (18, (.agg #[(.int .u64 y), (.int .i64 j)])), (19, (.int .i64 (cmp x i y j))), (20, (.int .i64 1)), (21, (.bool true)), (22, (.bool true)), (23, (.agg #[(.int .u64 y), (.int .i64 j)])), (24, (.agg #[(.int .u64 x), (.int .i64 i)])), (25, (.int .i64 (cmp y j x i))), (26, (.int .i64 1)), (27, (.int .i64 (-1))), (28, (.bool true)), (29, (.bool true)), (30, (.bool true)), (31, (.agg #[(.int .u64 x), (.int .i64 i)])), (32, (.agg #[(.int .u64 y), (.int .i64 j)])), (33, (.agg #[(.int .u64 (leastA x i y j)), (.int .i64 (leastI x i y j))])), (34, (.agg #[(.int .u64 y), (.int .i64 j)])), (35, (.bool true)), (36, (.bool true)), (37, (.bool true)), (38, (.agg #[(.int .u64 x), (.int .i64 i)])), (39, (.int .u64 n)), (40, (.bool (dueB x n))), (41, (.pointer (some ⟨b1, 0, none⟩))), (42, (.int .u64 x)), (43, (.int .u64 n)), (44, (.bool false)), (45, (.bool false)), (46, undef), (47, undef), (48, undef), (49, (.bool false)), (50, (.bool true)), (51, (.bool true)), (52, (.bool true)), (53, (.pointer (some ⟨b1, 1, none⟩))), (54, (.int .i64 i)), (55, (.agg #[(.int .u64 9223372036854775808), (.int .i64 i)])), (56, (.int .u64 n)), (57, (.bool (dueB 9223372036854775808 n))), (58, (.bool true)), (59, (.bool true)), (60, (.bool true))] (by exact ⟨rfl, rfl, rfl, rfl, rfl, rfl, rfl, rfl, rfl, rfl, rfl, rfl, rfl, rfl, rfl, rfl, rfl, rfl, rfl, rfl, rfl, rfl, rfl, rfl, rfl, rfl, rfl, rfl, rfl, rfl, rfl, rfl, rfl, rfl, rfl, rfl, rfl, rfl, rfl, rfl, rfl, rfl, rfl, rfl, rfl, rfl, rfl, rfl, rfl, (congrArg (fun z => some (Value.bool z)) e19), (congrArg (fun z => some (Value.bool z)) e19), (congrArg (fun z => some (Value.bool z)) e19), trivial⟩) ?_
                    refine A.take 44 (some 61) (.bool true) rfl (by kernel_rfl) (by kernel_rfl) (List.Sublist.refl _) (qt_call [] rfl (by kernel_rfl) rfl (fun w _ => three_spec  w)) ?_
                    refine A.take 45 (some 62) (.bool true) rfl (by kernel_rfl) (by kernel_rfl) (List.Sublist.refl _) (qt_pure (by kernel_rfl) fun _ => by kernel_rfl) ?_
                    refine A.take 46 (some 6) (.bool true) rfl (by kernel_rfl) (by kernel_rfl) (List.Sublist.refl _) (qt_assign rfl rfl) ?_
                    refine A.fin (by kernel_rfl) ?_
                    exact A.meet () trivial (A.here (by exact ⟨rfl, rfl, rfl, rfl, rfl, rfl, trivial⟩) (List.Sublist.refl _))
                  · exact absurd e19 (by grind [cmp, aheadB, dueB, leastA, leastI])
                · exact absurd e18 (by grind [cmp, aheadB, dueB, leastA, leastI])
            · exact absurd e14 (by grind [cmp, aheadB, dueB, leastA, leastI])
          · exact absurd e13 (by grind [cmp, aheadB, dueB, leastA, leastI])
        · exact absurd e12 (by grind [cmp, aheadB, dueB, leastA, leastI])
      · skip
        refine A.tn ?_
        refine A.ret ?_
        refine A.post [(.bool true)] (fun a w r s => ⟨rv_tmp r rfl, trivial⟩) (fun w1 s => ?_)
        exact ⟨rfl, s.fr⟩
    · skip
      refine A.skip ?_
      refine A.tn ?_
      refine A.seq ?_
      refine A.cutR (fun _ : Unit => [(3, (.pointer (some ⟨b1, 0, none⟩))), (4, (.pointer (some ⟨b2, 0, none⟩))), (6, (.bool true)), (8, (.pointer (some ⟨b3, 0, none⟩))), (12, (.bool (aheadB x i y j))), (15, (.bool (aheadB y j x i)))]) (fun _ => [blk b1 [(.int .u64 x), (.int .i64 i)] 24, blk b2 [(.int .u64 y), (.int .i64 j)] 24, blk b3 [(.int .u64 x), (.int .i64 i)] 24]) (fun _ => True) ?_ (fun _ _ => ?_)
      · skip
        refine A.draw [blk b1 [(.int .u64 x), (.int .i64 i)] 24, blk b2 [(.int .u64 y), (.int .i64 j)] 24, blk b3 [(.int .u64 x), (.int .i64 i)] 24] (by kernel_rfl) ?_
        refine A.take 0 (some 17) (.agg #[(.int .u64 x), (.int .i64 i)]) rfl (by kernel_rfl) (by kernel_rfl) (List.Sublist.refl _) (qt_loadN (vs := [(.int .u64 x), (.int .i64 i)]) rfl rfl (by kernel_rfl) (reads_blk (i := 0) rfl rfl)) ?_
        refine A.take 1 (some 18) (.agg #[(.int .u64 y), (.int .i64 j)]) rfl (by kernel_rfl) (by kernel_rfl) (List.Sublist.refl _) (qt_loadN (vs := [(.int .u64 y), (.int .i64 j)]) rfl rfl (by kernel_rfl) (reads_blk (i := 1) rfl rfl)) ?_
        refine A.take 2 (some 19) (.int .i64 (cmp x i y j)) rfl (by kernel_rfl) (by kernel_rfl) (List.Sublist.refl _) (qt_call [(.agg #[(.int .u64 x), (.int .i64 i)]), (.agg #[(.int .u64 y), (.int .i64 j)])] rfl (by kernel_rfl) rfl (fun w _ => compare_spec x i y j w)) ?_
        refine A.take 3 (some 20) (.int .i64 0) rfl (by kernel_rfl) (by kernel_rfl) (List.Sublist.refl _) (qt_move rfl rfl) ?_
        refine A.take 4 (some 21) (.bool ((cmp x i y j) == 0)) rfl (by kernel_rfl) (by kernel_rfl) (List.Sublist.refl _) (qt_pure (by kernel_rfl) fun _ => by kernel_rfl) ?_
        refine A.take 5 (some 22) (.bool ((cmp x i y j) == 0)) rfl (by kernel_rfl) (by kernel_rfl) (List.Sublist.refl _) (qt_move rfl rfl) ?_
        refine A.bool ((cmp x i y j) == 0) (fun e20 => ?_) (fun e20 => ?_)
        · skip
          refine A.sub [(2, (.int .u64 n)), (3, (.pointer (some ⟨b1, 0, none⟩))), (4, (.pointer (some ⟨b2, 0, none⟩))), (6, (.bool false)), (7, (.int .i64 0)), (8, (.pointer (some ⟨b3, 0, none⟩))), (12, (.bool (aheadB x i y j))), (15, (.bool (aheadB y j x i))), (17, (.agg #[(.int .u64 x), (.int .i64 i)])), (18, (.agg #[(.int .u64 y), (.int .i64 j)])), (19, (.int .i64 (cmp x i y j))), (20, (.int .i64 0)), (21, (.bool true)), (22, (.bool true))] (by exact ⟨rfl, rfl, rfl, rfl, rfl, rfl, rfl, rfl, rfl, rfl, rfl, rfl, (congrArg (fun z => some (Value.bool z)) e20), (congrArg (fun z => some (Value.bool z)) e20), trivial⟩) ?_
          refine A.take 6 (some 23) (.agg #[(.int .u64 y), (.int .i64 j)]) rfl (by kernel_rfl) (by kernel_rfl) (List.Sublist.refl _) (qt_loadN (vs := [(.int .u64 y), (.int .i64 j)]) rfl rfl (by kernel_rfl) (reads_blk (i := 1) rfl rfl)) ?_
          refine A.take 7 (some 24) (.agg #[(.int .u64 x), (.int .i64 i)]) rfl (by kernel_rfl) (by kernel_rfl) (List.Sublist.refl _) (qt_loadN (vs := [(.int .u64 x), (.int .i64 i)]) rfl rfl (by kernel_rfl) (reads_blk (i := 0) rfl rfl)) ?_
          refine A.take 8 (some 25) (.int .i64 (cmp y j x i)) rfl (by kernel_rfl) (by kernel_rfl) (List.Sublist.refl _) (qt_call [(.agg #[(.int .u64 y), (.int .i64 j)]), (.agg #[(.int .u64 x), (.int .i64 i)])] rfl (by kernel_rfl) rfl (fun w _ => compare_spec y j x i w)) ?_
          refine A.take 9 (some 26) (.int .i64 0) rfl (by kernel_rfl) (by kernel_rfl) (List.Sublist.refl _) (qt_move rfl rfl) ?_
          refine A.take 10 (some 27) (.int .i64 0) rfl (by kernel_rfl) (by kernel_rfl) (List.Sublist.refl _) (qt_pure (by kernel_rfl) fun _ => by kernel_rfl) ?_
          refine A.take 11 (some 28) (.bool ((cmp y j x i) == 0)) rfl (by kernel_rfl) (by kernel_rfl) (List.Sublist.refl _) (qt_pure (by kernel_rfl) fun _ => by kernel_rfl) ?_
          refine A.take 12 (some 29) (.bool ((cmp y j x i) == 0)) rfl (by kernel_rfl) (by kernel_rfl) (List.Sublist.refl _) (qt_pure (by kernel_rfl) fun _ => by kernel_rfl) ?_
          refine A.take 13 (some 30) (.bool ((cmp y j x i) == 0)) rfl (by kernel_rfl) (by kernel_rfl) (List.Sublist.refl _) (qt_move rfl rfl) ?_
          refine A.bool ((cmp y j x i) == 0) (fun e21 => ?_) (fun e21 => ?_)
          · skip
            refine A.sub [(2, (.int .u64 n)), (3, (.pointer (some ⟨b1, 0, none⟩))), (4, (.pointer (some ⟨b2, 0, none⟩))), (6, (.bool false)), (7, (.int .i64 0)), (8, (.pointer (some ⟨b3, 0, none⟩))), (12, (.bool (aheadB x i y j))), (15, (.bool (aheadB y j x i))), (17, (.agg #[(.int .u64 x), (.int .i64 i)])), (18, (.agg #[(.int .u64 y), (.int .i64 j)])), (19, (.int .i64 (cmp x i y j))), (20, (.int .i64 0)), (21, (.bool true)), (22, (.bool true)), (23, (.agg #[(.int .u64 y), (.int .i64 j)])), (24, (.agg #[(.int .u64 x), (.int .i64 i)])), (25, (.int .i64 (cmp y j x i))), (26, (.int .i64 0)), (27, (.int .i64 0)), (28, (.bool true)), (29, (.bool true)), (30, (.bool true))] (by exact ⟨rfl, rfl, rfl, rfl, rfl, rfl, rfl, rfl, rfl, rfl, rfl, rfl, rfl, rfl, rfl, rfl, rfl, rfl, rfl, (congrArg (fun z => some (Value.bool z)) e21), (congrArg (fun z => some (Value.bool z)) e21), (congrArg (fun z => some (Value.bool z)) e21), trivial⟩) ?_
            refine A.take 14 (some 31) (.agg #[(.int .u64 x), (.int .i64 i)]) rfl (by kernel_rfl) (by kernel_rfl) (List.Sublist.refl _) (qt_loadN (vs := [(.int .u64 x), (.int .i64 i)]) rfl rfl (by kernel_rfl) (reads_blk (i := 0) rfl rfl)) ?_
            refine A.take 15 (some 32) (.agg #[(.int .u64 y), (.int .i64 j)]) rfl (by kernel_rfl) (by kernel_rfl) (List.Sublist.refl _) (qt_loadN (vs := [(.int .u64 y), (.int .i64 j)]) rfl rfl (by kernel_rfl) (reads_blk (i := 1) rfl rfl)) ?_
            refine A.take 16 (some 33) (.agg #[(.int .u64 (leastA x i y j)), (.int .i64 (leastI x i y j))]) rfl (by kernel_rfl) (by kernel_rfl) (List.Sublist.refl _) (qt_call [(.agg #[(.int .u64 x), (.int .i64 i)]), (.agg #[(.int .u64 y), (.int .i64 j)])] rfl (by kernel_rfl) rfl (fun w _ => least_spec x i y j w)) ?_
            refine A.take 17 (some 34) (.agg #[(.int .u64 x), (.int .i64 i)]) rfl (by kernel_rfl) (by kernel_rfl) (List.Sublist.refl _) (qt_loadN (vs := [(.int .u64 x), (.int .i64 i)]) rfl rfl (by kernel_rfl) (reads_blk (i := 2) rfl rfl)) ?_
            refine A.take 18 (some 35) (.bool (((leastA x i y j) == x) && ((leastI x i y j) == i))) rfl (by kernel_rfl) (by kernel_rfl) (List.Sublist.refl _) (qt_eqlA rfl rfl rfl (by kernel_rfl) (by kernel_rfl)) ?_
            refine A.take 19 (some 36) (.bool (((leastA x i y j) == x) && ((leastI x i y j) == i))) rfl (by kernel_rfl) (by kernel_rfl) (List.Sublist.refl _) (qt_pure (by kernel_rfl) fun _ => by kernel_rfl) ?_
            refine A.take 20 (some 37) (.bool (((leastA x i y j) == x) && ((leastI x i y j) == i))) rfl (by kernel_rfl) (by kernel_rfl) (List.Sublist.refl _) (qt_move rfl rfl) ?_
            refine A.bool (((leastA x i y j) == x) && ((leastI x i y j) == i)) (fun e22 => ?_) (fun e22 => ?_)
            · skip
              refine A.sub [(2, (.int .u64 n)), (3, (.pointer (some ⟨b1, 0, none⟩))), (4, (.pointer (some ⟨b2, 0, none⟩))), (6, (.bool false)), (7, (.int .i64 0)), (8, (.pointer (some ⟨b3, 0, none⟩))), (12, (.bool (aheadB x i y j))), (15, (.bool (aheadB y j x i))), (17, (.agg #[(.int .u64 x), (.int .i64 i)])), (18, (.agg #[(.int .u64 y), (.int .i64 j)])), (19, (.int .i64 (cmp x i y j))), (20, (.int .i64 0)), (21, (.bool true)), (22, (.bool true)), (23, (.agg #[(.int .u64 y), (.int .i64 j)])), (24, (.agg #[(.int .u64 x), (.int .i64 i)])), (25, (.int .i64 (cmp y j x i))), (26, (.int .i64 0)), (27, (.int .i64 0)), (28, (.bool true)), (29, (.bool true)), (30, (.bool true)), (31, (.agg #[(.int .u64 x), (.int .i64 i)])), (32, (.agg #[(.int .u64 y), (.int .i64 j)])), (33, (.agg #[(.int .u64 (leastA x i y j)), (.int .i64 (leastI x i y j))])), (34, (.agg #[(.int .u64 x), (.int .i64 i)])), (35, (.bool true)), (36, (.bool true)), (37, (.bool true))] (by exact ⟨rfl, rfl, rfl, rfl, rfl, rfl, rfl, rfl, rfl, rfl, rfl, rfl, rfl, rfl, rfl, rfl, rfl, rfl, rfl, rfl, rfl, rfl, rfl, rfl, rfl, rfl, (congrArg (fun z => some (Value.bool z)) e22), (congrArg (fun z => some (Value.bool z)) e22), (congrArg (fun z => some (Value.bool z)) e22), trivial⟩) ?_
              refine A.take 21 (some 38) (.agg #[(.int .u64 x), (.int .i64 i)]) rfl (by kernel_rfl) (by kernel_rfl) (List.Sublist.refl _) (qt_loadN (vs := [(.int .u64 x), (.int .i64 i)]) rfl rfl (by kernel_rfl) (reads_blk (i := 0) rfl rfl)) ?_
              refine A.take 22 (some 39) (.int .u64 n) rfl (by kernel_rfl) (by kernel_rfl) (List.Sublist.refl _) (qt_move rfl rfl) ?_
              refine A.take 23 (some 40) (.bool (dueB x n)) rfl (by kernel_rfl) (by kernel_rfl) (List.Sublist.refl _) (qt_call [(.agg #[(.int .u64 x), (.int .i64 i)]), (.int .u64 n)] rfl (by kernel_rfl) rfl (fun w _ => due_spec x i n w)) ?_
              refine A.take 24 (some 41) (.pointer (some ⟨b1, 0, none⟩)) rfl (by kernel_rfl) (by kernel_rfl) (List.Sublist.refl _) (qt_pure (by kernel_rfl) fun _ => by kernel_rfl) ?_
              refine A.take 25 (some 42) (.int .u64 x) rfl (by kernel_rfl) (by kernel_rfl) (List.Sublist.refl _) (qt_load1 rfl rfl (by kernel_rfl) (reads_blk (i := 0) rfl rfl)) ?_
              refine A.take 26 (some 43) (.int .u64 n) rfl (by kernel_rfl) (by kernel_rfl) (List.Sublist.refl _) (qt_move rfl rfl) ?_
              refine A.take 27 (some 44) (.bool (decide (x ≤ n))) rfl (by kernel_rfl) (by kernel_rfl) (List.Sublist.refl _) (qt_pure (by kernel_rfl) fun _ => by kernel_rfl) ?_
              refine A.take 28 (some 45) (.bool (decide (x ≤ n))) rfl (by kernel_rfl) (by kernel_rfl) (List.Sublist.refl _) (qt_move rfl rfl) ?_
              refine A.bool (decide (x ≤ n)) (fun e23 => ?_) (fun e23 => ?_)
              · skip
                refine A.sub [(2, (.int .u64 n)), (3, (.pointer (some ⟨b1, 0, none⟩))), (4, (.pointer (some ⟨b2, 0, none⟩))), (6, (.bool false)), (7, (.int .i64 0)), (8, (.pointer (some ⟨b3, 0, none⟩))), (12, (.bool (aheadB x i y j))), (15, (.bool (aheadB y j x i))), (17, (.agg #[(.int .u64 x), (.int .i64 i)])), (18, (.agg #[(.int .u64 y), (.int .i64 j)])), (19, (.int .i64 (cmp x i y j))), (20, (.int .i64 0)), (21, (.bool true)), (22, (.bool true)), (23, (.agg #[(.int .u64 y), (.int .i64 j)])), (24, (.agg #[(.int .u64 x), (.int .i64 i)])), (25, (.int .i64 (cmp y j x i))), (26, (.int .i64 0)), (27, (.int .i64 0)), (28, (.bool true)), (29, (.bool true)), (30, (.bool true)), (31, (.agg #[(.int .u64 x), (.int .i64 i)])), (32, (.agg #[(.int .u64 y), (.int .i64 j)])), (33, (.agg #[(.int .u64 (leastA x i y j)), (.int .i64 (leastI x i y j))])), (34, (.agg #[(.int .u64 x), (.int .i64 i)])), (35, (.bool true)), (36, (.bool true)), (37, (.bool true)), (38, (.agg #[(.int .u64 x), (.int .i64 i)])), (39, (.int .u64 n)), (40, (.bool (dueB x n))), (41, (.pointer (some ⟨b1, 0, none⟩))), (42, (.int .u64 x)), (43, (.int .u64 n)), (44, (.bool true)), (45, (.bool true))] (by exact ⟨rfl, rfl, rfl, rfl, rfl, rfl, rfl, rfl, rfl, rfl, rfl, rfl, rfl, rfl, rfl, rfl, rfl, rfl, rfl, rfl, rfl, rfl, rfl, rfl, rfl, rfl, rfl, rfl, rfl, rfl, rfl, rfl, rfl, rfl, rfl, (congrArg (fun z => some (Value.bool z)) e23), (congrArg (fun z => some (Value.bool z)) e23), trivial⟩) ?_
                refine A.take 29 (some 46) (.pointer (some ⟨b1, 0, none⟩)) rfl (by kernel_rfl) (by kernel_rfl) (List.Sublist.refl _) (qt_pure (by kernel_rfl) fun _ => by kernel_rfl) ?_
                refine A.take 30 (some 47) (.int .u64 x) rfl (by kernel_rfl) (by kernel_rfl) (List.Sublist.refl _) (qt_load1 rfl rfl (by kernel_rfl) (reads_blk (i := 0) rfl rfl)) ?_
                refine A.take 31 (some 48) (.bool (decide (x < 9223372036854775808))) rfl (by kernel_rfl) (by kernel_rfl) (List.Sublist.refl _) (qt_pure (by kernel_rfl) fun _ => by kernel_rfl) ?_
                refine A.take 32 (some 49) (.bool (decide (x < 9223372036854775808))) rfl (by kernel_rfl) (by kernel_rfl) (List.Sublist.refl _) (qt_pure (by kernel_rfl) fun _ => by kernel_rfl) ?_
                refine A.take 33 (some 50) (.bool ((dueB x n) == (decide (x < 9223372036854775808)))) rfl (by kernel_rfl) (by kernel_rfl) (List.Sublist.refl _) (qt_eqlB (b := dueB x n) (c := decide (x < 9223372036854775808)) rfl rfl rfl (by kernel_rfl)) ?_
                refine A.take 34 (some 51) (.bool ((dueB x n) == (decide (x < 9223372036854775808)))) rfl (by kernel_rfl) (by kernel_rfl) (List.Sublist.refl _) (qt_pure (by kernel_rfl) fun _ => by kernel_rfl) ?_
                refine A.take 35 (some 52) (.bool ((dueB x n) == (decide (x < 9223372036854775808)))) rfl (by kernel_rfl) (by kernel_rfl) (List.Sublist.refl _) (qt_move rfl rfl) ?_
                refine A.bool ((dueB x n) == (decide (x < 9223372036854775808))) (fun e24 => ?_) (fun e24 => ?_)
                · skip
                  refine A.sub [(2, (.int .u64 n)), (3, (.pointer (some ⟨b1, 0, none⟩))), (4, (.pointer (some ⟨b2, 0, none⟩))), (6, (.bool false)), (7, (.int .i64 0)), (8, (.pointer (some ⟨b3, 0, none⟩))), (12, (.bool (aheadB x i y j))), (15, (.bool (aheadB y j x i))), (17, (.agg #[(.int .u64 x), (.int .i64 i)])), (18, (.agg #[(.int .u64 y), (.int .i64 j)])), (19, (.int .i64 (cmp x i y j))), (20, (.int .i64 0)), (21, (.bool true)), (22, (.bool true)), (23, (.agg #[(.int .u64 y), (.int .i64 j)])), (24, (.agg #[(.int .u64 x), (.int .i64 i)])), (25, (.int .i64 (cmp y j x i))), (26, (.int .i64 0)), (27, (.int .i64 0)), (28, (.bool true)), (29, (.bool true)), (30, (.bool true)), (31, (.agg #[(.int .u64 x), (.int .i64 i)])), (32, (.agg #[(.int .u64 y), (.int .i64 j)])), (33, (.agg #[(.int .u64 (leastA x i y j)), (.int .i64 (leastI x i y j))])), (34, (.agg #[(.int .u64 x), (.int .i64 i)])), (35, (.bool true)), (36, (.bool true)), (37, (.bool true)), (38, (.agg #[(.int .u64 x), (.int .i64 i)])), (39, (.int .u64 n)), (40, (.bool (dueB x n))), (41, (.pointer (some ⟨b1, 0, none⟩))), (42, (.int .u64 x)), (43, (.int .u64 n)), (44, (.bool true)), (45, (.bool true)), (46, (.pointer (some ⟨b1, 0, none⟩))), (47, (.int .u64 x)), (48, (.bool (decide (x < 9223372036854775808)))), (49, (.bool (decide (x < 9223372036854775808)))), (50, (.bool true)), (51, (.bool true)), (52, (.bool true))] (by exact ⟨rfl, rfl, rfl, rfl, rfl, rfl, rfl, rfl, rfl, rfl, rfl, rfl, rfl, rfl, rfl, rfl, rfl, rfl, rfl, rfl, rfl, rfl, rfl, rfl, rfl, rfl, rfl, rfl, rfl, rfl, rfl, rfl, rfl, rfl, rfl, rfl, rfl, rfl, rfl, rfl, rfl, (congrArg (fun z => some (Value.bool z)) e24), (congrArg (fun z => some (Value.bool z)) e24), (congrArg (fun z => some (Value.bool z)) e24), trivial⟩) ?_
                  refine A.take 36 (some 53) (.pointer (some ⟨b1, 1, none⟩)) rfl (by kernel_rfl) (by kernel_rfl) (List.Sublist.refl _) (qt_pure (by kernel_rfl) fun _ => by kernel_rfl) ?_
                  refine A.take 37 (some 54) (.int .i64 i) rfl (by kernel_rfl) (by kernel_rfl) (List.Sublist.refl _) (qt_load1 rfl rfl (by kernel_rfl) (reads_blk (i := 0) rfl rfl)) ?_
                  refine A.take 38 (some 55) (.agg #[(.int .u64 9223372036854775808), (.int .i64 i)]) rfl (by kernel_rfl) (by kernel_rfl) (List.Sublist.refl _) (qt_call [(.int .i64 i)] rfl (by kernel_rfl) rfl (fun w _ => never_spec i w)) ?_
                  refine A.take 39 (some 56) (.int .u64 n) rfl (by kernel_rfl) (by kernel_rfl) (List.Sublist.refl _) (qt_move rfl rfl) ?_
                  refine A.take 40 (some 57) (.bool (dueB 9223372036854775808 n)) rfl (by kernel_rfl) (by kernel_rfl) (List.Sublist.refl _) (qt_call [(.agg #[(.int .u64 9223372036854775808), (.int .i64 i)]), (.int .u64 n)] rfl (by kernel_rfl) rfl (fun w _ => due_spec (9223372036854775808) i n w)) ?_
                  refine A.take 41 (some 58) (.bool (!(dueB 9223372036854775808 n))) rfl (by kernel_rfl) (by kernel_rfl) (List.Sublist.refl _) (qt_pure (by kernel_rfl) fun _ => by kernel_rfl) ?_
                  refine A.take 42 (some 59) (.bool (!(dueB 9223372036854775808 n))) rfl (by kernel_rfl) (by kernel_rfl) (List.Sublist.refl _) (qt_pure (by kernel_rfl) fun _ => by kernel_rfl) ?_
                  refine A.take 43 (some 60) (.bool (!(dueB 9223372036854775808 n))) rfl (by kernel_rfl) (by kernel_rfl) (List.Sublist.refl _) (qt_move rfl rfl) ?_
                  refine A.bool (!(dueB 9223372036854775808 n)) (fun e25 => ?_) (fun e25 => ?_)
                  · skip
                    refine A.sub [(2, (.int .u64 n)), (3, (.pointer (some ⟨b1, 0, none⟩))), (4, (.pointer (some ⟨b2, 0, none⟩))), (6, (.bool false)), (7, (.int .i64 0)), (8, (.pointer (some ⟨b3, 0, none⟩))), (12, (.bool (aheadB x i y j))), (15, (.bool (aheadB y j x i))), (17, (.agg #[(.int .u64 x), (.int .i64 i)])), (18, (.agg #[(.int .u64 y), (.int .i64 j)])), (19, (.int .i64 (cmp x i y j))), (20, (.int .i64 0)), (21, (.bool true)), (22, (.bool true)), (23, (.agg #[(.int .u64 y), (.int .i64 j)])), (24, (.agg #[(.int .u64 x), (.int .i64 i)])), (25, (.int .i64 (cmp y j x i))), (26, (.int .i64 0)), (27, (.int .i64 0)), (28, (.bool true)), (29, (.bool true)), (30, (.bool true)), (31, (.agg #[(.int .u64 x), (.int .i64 i)])), (32, (.agg #[(.int .u64 y), (.int .i64 j)])), (33, (.agg #[(.int .u64 (leastA x i y j)), (.int .i64 (leastI x i y j))])), (34, (.agg #[(.int .u64 x), (.int .i64 i)])), (35, (.bool true)), (36, (.bool true)), (37, (.bool true)), (38, (.agg #[(.int .u64 x), (.int .i64 i)])), (39, (.int .u64 n)), (40, (.bool (dueB x n))), (41, (.pointer (some ⟨b1, 0, none⟩))), (42, (.int .u64 x)), (43, (.int .u64 n)), (44, (.bool true)), (45, (.bool true)), (46, (.pointer (some ⟨b1, 0, none⟩))), (47, (.int .u64 x)), (48, (.bool (decide (x < 9223372036854775808)))), (49, (.bool (decide (x < 9223372036854775808)))), (50, (.bool true)), (51, (.bool true)), (52, (.bool true)), (53, (.pointer (some ⟨b1, 1, none⟩))), (54, (.int .i64 i)), (55, (.agg #[(.int .u64 9223372036854775808), (.int .i64 i)])), (56, (.int .u64 n)), (57, (.bool (dueB 9223372036854775808 n))), (58, (.bool true)), (59, (.bool true)), (60, (.bool true))] (by exact ⟨rfl, rfl, rfl, rfl, rfl, rfl, rfl, rfl, rfl, rfl, rfl, rfl, rfl, rfl, rfl, rfl, rfl, rfl, rfl, rfl, rfl, rfl, rfl, rfl, rfl, rfl, rfl, rfl, rfl, rfl, rfl, rfl, rfl, rfl, rfl, rfl, rfl, rfl, rfl, rfl, rfl, rfl, rfl, rfl, rfl, rfl, rfl, rfl, rfl, (congrArg (fun z => some (Value.bool z)) e25), (congrArg (fun z => some (Value.bool z)) e25), (congrArg (fun z => some (Value.bool z)) e25), trivial⟩) ?_
                    refine A.take 44 (some 61) (.bool true) rfl (by kernel_rfl) (by kernel_rfl) (List.Sublist.refl _) (qt_call [] rfl (by kernel_rfl) rfl (fun w _ => three_spec  w)) ?_
                    refine A.take 45 (some 62) (.bool true) rfl (by kernel_rfl) (by kernel_rfl) (List.Sublist.refl _) (qt_pure (by kernel_rfl) fun _ => by kernel_rfl) ?_
                    refine A.take 46 (some 6) (.bool true) rfl (by kernel_rfl) (by kernel_rfl) (List.Sublist.refl _) (qt_assign rfl rfl) ?_
                    refine A.fin (by kernel_rfl) ?_
                    exact A.meet () trivial (A.here (by exact ⟨rfl, rfl, rfl, rfl, rfl, rfl, trivial⟩) (List.Sublist.refl _))
                  · exact absurd e25 (by grind [cmp, aheadB, dueB, leastA, leastI])
                · exact absurd e24 (by grind [cmp, aheadB, dueB, leastA, leastI])
              · skip
                refine A.sub [(2, (.int .u64 n)), (3, (.pointer (some ⟨b1, 0, none⟩))), (4, (.pointer (some ⟨b2, 0, none⟩))), (6, (.bool false)), (7, (.int .i64 0)), (8, (.pointer (some ⟨b3, 0, none⟩))), (12, (.bool (aheadB x i y j))), (15, (.bool (aheadB y j x i))), (17, (.agg #[(.int .u64 x), (.int .i64 i)])), (18, (.agg #[(.int .u64 y), (.int .i64 j)])), (19, (.int .i64 (cmp x i y j))), (20, (.int .i64 0)), (21, (.bool true)), (22, (.bool true)), (23, (.agg #[(.int .u64 y), (.int .i64 j)])), (24, (.agg #[(.int .u64 x), (.int .i64 i)])), (25, (.int .i64 (cmp y j x i))), (26, (.int .i64 0)), (27, (.int .i64 0)), (28, (.bool true)), (29, (.bool true)), (30, (.bool true)), (31, (.agg #[(.int .u64 x), (.int .i64 i)])), (32, (.agg #[(.int .u64 y), (.int .i64 j)])), (33, (.agg #[(.int .u64 (leastA x i y j)), (.int .i64 (leastI x i y j))])), (34, (.agg #[(.int .u64 x), (.int .i64 i)])), (35, (.bool true)), (36, (.bool true)), (37, (.bool true)), (38, (.agg #[(.int .u64 x), (.int .i64 i)])), (39, (.int .u64 n)), (40, (.bool (dueB x n))), (41, (.pointer (some ⟨b1, 0, none⟩))), (42, (.int .u64 x)), (43, (.int .u64 n)), (44, (.bool false)), (45, (.bool false))] (by exact ⟨rfl, rfl, rfl, rfl, rfl, rfl, rfl, rfl, rfl, rfl, rfl, rfl, rfl, rfl, rfl, rfl, rfl, rfl, rfl, rfl, rfl, rfl, rfl, rfl, rfl, rfl, rfl, rfl, rfl, rfl, rfl, rfl, rfl, rfl, rfl, (congrArg (fun z => some (Value.bool z)) e23), (congrArg (fun z => some (Value.bool z)) e23), trivial⟩) ?_
                refine A.takeJ 29 (some 46) rfl (by kernel_rfl) rfl rfl (by intro x hx; cases hx; rfl) (List.Sublist.refl _) ?_
                refine A.takeJ 30 (some 47) rfl (by kernel_rfl) rfl rfl (by intro x hx; cases hx; rfl) (List.Sublist.refl _) ?_
                refine A.takeJ 31 (some 48) rfl (by kernel_rfl) rfl rfl (by intro x hx; cases hx; rfl) (List.Sublist.refl _) ?_
                refine A.take 32 (some 49) (.bool false) rfl (by kernel_rfl) (by kernel_rfl) (List.Sublist.refl _) (qt_pure (by kernel_rfl) fun _ => by kernel_rfl) ?_
                refine A.take 33 (some 50) (.bool ((dueB x n) == false)) rfl (by kernel_rfl) (by kernel_rfl) (List.Sublist.refl _) (qt_eqlB (b := dueB x n) (c := false) rfl rfl rfl (by kernel_rfl)) ?_
                refine A.take 34 (some 51) (.bool ((dueB x n) == false)) rfl (by kernel_rfl) (by kernel_rfl) (List.Sublist.refl _) (qt_pure (by kernel_rfl) fun _ => by kernel_rfl) ?_
                refine A.take 35 (some 52) (.bool ((dueB x n) == false)) rfl (by kernel_rfl) (by kernel_rfl) (List.Sublist.refl _) (qt_move rfl rfl) ?_
                refine A.bool ((dueB x n) == false) (fun e26 => ?_) (fun e26 => ?_)
                · skip
                  refine A.sub [(2, (.int .u64 n)), (3, (.pointer (some ⟨b1, 0, none⟩))), (4, (.pointer (some ⟨b2, 0, none⟩))), (6, (.bool false)), (7, (.int .i64 0)), (8, (.pointer (some ⟨b3, 0, none⟩))), (12, (.bool (aheadB x i y j))), (15, (.bool (aheadB y j x i))), (17, (.agg #[(.int .u64 x), (.int .i64 i)])), (18, (.agg #[(.int .u64 y), (.int .i64 j)])), (19, (.int .i64 (cmp x i y j))), (20, (.int .i64 0)), (21, (.bool true)), (22, (.bool true)), (23, (.agg #[(.int .u64 y), (.int .i64 j)])), (24, (.agg #[(.int .u64 x), (.int .i64 i)])), (25, (.int .i64 (cmp y j x i))), (26, (.int .i64 0)), (27, (.int .i64 0)), (28, (.bool true)), (29, (.bool true)), (30, (.bool true)), (31, (.agg #[(.int .u64 x), (.int .i64 i)])), (32, (.agg #[(.int .u64 y), (.int .i64 j)])), (33, (.agg #[(.int .u64 (leastA x i y j)), (.int .i64 (leastI x i y j))])), (34, (.agg #[(.int .u64 x), (.int .i64 i)])), (35, (.bool true)), (36, (.bool true)), (37, (.bool true)), (38, (.agg #[(.int .u64 x), (.int .i64 i)])), (39, (.int .u64 n)), (40, (.bool (dueB x n))), (41, (.pointer (some ⟨b1, 0, none⟩))), (42, (.int .u64 x)), (43, (.int .u64 n)), (44, (.bool false)), (45, (.bool false)), (46, undef), (47, undef), (48, undef), (49, (.bool false)), (50, (.bool true)), (51, (.bool true)), (52, (.bool true))] (by exact ⟨rfl, rfl, rfl, rfl, rfl, rfl, rfl, rfl, rfl, rfl, rfl, rfl, rfl, rfl, rfl, rfl, rfl, rfl, rfl, rfl, rfl, rfl, rfl, rfl, rfl, rfl, rfl, rfl, rfl, rfl, rfl, rfl, rfl, rfl, rfl, rfl, rfl, rfl, rfl, rfl, rfl, (congrArg (fun z => some (Value.bool z)) e26), (congrArg (fun z => some (Value.bool z)) e26), (congrArg (fun z => some (Value.bool z)) e26), trivial⟩) ?_
                  refine A.take 36 (some 53) (.pointer (some ⟨b1, 1, none⟩)) rfl (by kernel_rfl) (by kernel_rfl) (List.Sublist.refl _) (qt_pure (by kernel_rfl) fun _ => by kernel_rfl) ?_
                  refine A.take 37 (some 54) (.int .i64 i) rfl (by kernel_rfl) (by kernel_rfl) (List.Sublist.refl _) (qt_load1 rfl rfl (by kernel_rfl) (reads_blk (i := 0) rfl rfl)) ?_
                  refine A.take 38 (some 55) (.agg #[(.int .u64 9223372036854775808), (.int .i64 i)]) rfl (by kernel_rfl) (by kernel_rfl) (List.Sublist.refl _) (qt_call [(.int .i64 i)] rfl (by kernel_rfl) rfl (fun w _ => never_spec i w)) ?_
                  refine A.take 39 (some 56) (.int .u64 n) rfl (by kernel_rfl) (by kernel_rfl) (List.Sublist.refl _) (qt_move rfl rfl) ?_
                  refine A.take 40 (some 57) (.bool (dueB 9223372036854775808 n)) rfl (by kernel_rfl) (by kernel_rfl) (List.Sublist.refl _) (qt_call [(.agg #[(.int .u64 9223372036854775808), (.int .i64 i)]), (.int .u64 n)] rfl (by kernel_rfl) rfl (fun w _ => due_spec (9223372036854775808) i n w)) ?_
                  refine A.take 41 (some 58) (.bool (!(dueB 9223372036854775808 n))) rfl (by kernel_rfl) (by kernel_rfl) (List.Sublist.refl _) (qt_pure (by kernel_rfl) fun _ => by kernel_rfl) ?_
                  refine A.take 42 (some 59) (.bool (!(dueB 9223372036854775808 n))) rfl (by kernel_rfl) (by kernel_rfl) (List.Sublist.refl _) (qt_pure (by kernel_rfl) fun _ => by kernel_rfl) ?_
                  refine A.take 43 (some 60) (.bool (!(dueB 9223372036854775808 n))) rfl (by kernel_rfl) (by kernel_rfl) (List.Sublist.refl _) (qt_move rfl rfl) ?_
                  refine A.bool (!(dueB 9223372036854775808 n)) (fun e27 => ?_) (fun e27 => ?_)
                  · skip
                    refine A.sub [(2, (.int .u64 n)), (3, (.pointer (some ⟨b1, 0, none⟩))), (4, (.pointer (some ⟨b2, 0, none⟩))), (6, (.bool false)), (7, (.int .i64 0)), (8, (.pointer (some ⟨b3, 0, none⟩))), (12, (.bool (aheadB x i y j))), (15, (.bool (aheadB y j x i))), (17, (.agg #[(.int .u64 x), (.int .i64 i)])), (18, (.agg #[(.int .u64 y), (.int .i64 j)])), (19, (.int .i64 (cmp x i y j))), (20, (.int .i64 0)), (21, (.bool true)), (22, (.bool true)), (23, (.agg #[(.int .u64 y), (.int .i64 j)])), (24, (.agg #[(.int .u64 x), (.int .i64 i)])), (25, (.int .i64 (cmp y j x i))), (26, (.int .i64 0)), (27, (.int .i64 0)), (28, (.bool true)), (29, (.bool true)), (30, (.bool true)), (31, (.agg #[(.int .u64 x), (.int .i64 i)])), (32, (.agg #[(.int .u64 y), (.int .i64 j)])), (33, (.agg #[(.int .u64 (leastA x i y j)), (.int .i64 (leastI x i y j))])), (34, (.agg #[(.int .u64 x), (.int .i64 i)])), (35, (.bool true)), (36, (.bool true)), (37, (.bool true)), (38, (.agg #[(.int .u64 x), (.int .i64 i)])), (39, (.int .u64 n)), (40, (.bool (dueB x n))), (41, (.pointer (some ⟨b1, 0, none⟩))), (42, (.int .u64 x)), (43, (.int .u64 n)), (44, (.bool false)), (45, (.bool false)), (46, undef), (47, undef), (48, undef), (49, (.bool false)), (50, (.bool true)), (51, (.bool true)), (52, (.bool true)), (53, (.pointer (some ⟨b1, 1, none⟩))), (54, (.int .i64 i)), (55, (.agg #[(.int .u64 9223372036854775808), (.int .i64 i)])), (56, (.int .u64 n)), (57, (.bool (dueB 9223372036854775808 n))), (58, (.bool true)), (59, (.bool true)), (60, (.bool true))] (by exact ⟨rfl, rfl, rfl, rfl, rfl, rfl, rfl, rfl, rfl, rfl, rfl, rfl, rfl, rfl, rfl, rfl, rfl, rfl, rfl, rfl, rfl, rfl, rfl, rfl, rfl, rfl, rfl, rfl, rfl, rfl, rfl, rfl, rfl, rfl, rfl, rfl, rfl, rfl, rfl, rfl, rfl, rfl, rfl, rfl, rfl, rfl, rfl, rfl, rfl, (congrArg (fun z => some (Value.bool z)) e27), (congrArg (fun z => some (Value.bool z)) e27), (congrArg (fun z => some (Value.bool z)) e27), trivial⟩) ?_
                    refine A.take 44 (some 61) (.bool true) rfl (by kernel_rfl) (by kernel_rfl) (List.Sublist.refl _) (qt_call [] rfl (by kernel_rfl) rfl (fun w _ => three_spec  w)) ?_
                    refine A.take 45 (some 62) (.bool true) rfl (by kernel_rfl) (by kernel_rfl) (List.Sublist.refl _) (qt_pure (by kernel_rfl) fun _ => by kernel_rfl) ?_
                    refine A.take 46 (some 6) (.bool true) rfl (by kernel_rfl) (by kernel_rfl) (List.Sublist.refl _) (qt_assign rfl rfl) ?_
                    refine A.fin (by kernel_rfl) ?_
                    exact A.meet () trivial (A.here (by exact ⟨rfl, rfl, rfl, rfl, rfl, rfl, trivial⟩) (List.Sublist.refl _))
                  · exact absurd e27 (by grind [cmp, aheadB, dueB, leastA, leastI])
                · exact absurd e26 (by grind [cmp, aheadB, dueB, leastA, leastI])
            · exact absurd e22 (by grind [cmp, aheadB, dueB, leastA, leastI])
          · exact absurd e21 (by grind [cmp, aheadB, dueB, leastA, leastI])
        · exact absurd e20 (by grind [cmp, aheadB, dueB, leastA, leastI])
      · skip
        refine A.tn ?_
        refine A.ret ?_
        refine A.post [(.bool true)] (fun a w r s => ⟨rv_tmp r rfl, trivial⟩) (fun w1 s => ?_)
        exact ⟨rfl, s.fr⟩

set_option maxRecDepth 100000 in
theorem rankRows_walk (x i y j p q : Int) (w : World) :
    Calls Try.prog 4 #[(.agg #[(.int .u64 x), (.int .i64 i)]), (.agg #[(.int .u64 y), (.int .i64 j)]), (.agg #[(.int .u64 p), (.int .i64 q)])] w fun e w' => e = .returned (.bool true) ∧ Fr [] w w' := by
  refine calls_of (args := [(.agg #[(.int .u64 x), (.int .i64 i)]), (.agg #[(.int .u64 y), (.int .i64 j)]), (.agg #[(.int .u64 p), (.int .i64 q)])]) (penv [(.agg #[(.int .u64 x), (.int .i64 i)]), (.agg #[(.int .u64 y), (.int .i64 j)]), (.agg #[(.int .u64 p), (.int .i64 q)])]) [] [] Try.func4 rfl rfl (look_penv _) (HS.nil w) ?_
  refine A.norm [(0, (.agg #[(.int .u64 x), (.int .i64 i)])), (1, (.agg #[(.int .u64 y), (.int .i64 j)])), (2, (.agg #[(.int .u64 p), (.int .i64 q)]))] [] (by exact ⟨rfl, rfl, rfl, trivial⟩) rfl ?_
  refine A.seq ?_
  refine A.region ?_
  refine A.cons (A.box 3 [(.int .u64 x), (.int .i64 i)] (by kernel_rfl) rfl rfl rfl (fun b1 => [blk b1 [(.int .u64 x), (.int .i64 i)] 24]) (fun _ => rfl) ?_)
  intro b1
  refine A.cons (A.box 4 [(.int .u64 y), (.int .i64 j)] (by kernel_rfl) rfl rfl rfl (fun b2 => [blk b1 [(.int .u64 x), (.int .i64 i)] 24, blk b2 [(.int .u64 y), (.int .i64 j)] 24]) (fun _ => rfl) ?_)
  intro b2
  refine A.cons (A.box 5 [(.int .u64 p), (.int .i64 q)] (by kernel_rfl) rfl rfl rfl (fun b3 => [blk b1 [(.int .u64 x), (.int .i64 i)] 24, blk b2 [(.int .u64 y), (.int .i64 j)] 24, blk b3 [(.int .u64 p), (.int .i64 q)] 24]) (fun _ => rfl) ?_)
  intro b3
  refine A.cons (A.q (some 6) (.bool false) (by kernel_rfl) (qt_assign rfl rfl) ?_)
  refine A.done ?_
  refine A.norm [(3, (.pointer (some ⟨b1, 0, none⟩))), (4, (.pointer (some ⟨b2, 0, none⟩))), (5, (.pointer (some ⟨b3, 0, none⟩))), (6, (.bool false))] [blk b1 [(.int .u64 x), (.int .i64 i)] 24, blk b2 [(.int .u64 y), (.int .i64 j)] 24, blk b3 [(.int .u64 p), (.int .i64 q)] 24] (by exact ⟨rfl, rfl, rfl, rfl, trivial⟩) rfl ?_
  refine A.tn ?_
  refine A.seq ?_
  refine A.seq ?_
  refine A.draw [blk b1 [(.int .u64 x), (.int .i64 i)] 24, blk b2 [(.int .u64 y), (.int .i64 j)] 24, blk b3 [(.int .u64 p), (.int .i64 q)] 24] (by kernel_rfl) ?_
  refine A.take 0 (some 7) (.agg #[(.int .u64 x), (.int .i64 i)]) rfl (by kernel_rfl) (by kernel_rfl) (List.Sublist.refl _) (qt_loadN (vs := [(.int .u64 x), (.int .i64 i)]) rfl rfl (by kernel_rfl) (reads_blk (i := 0) rfl rfl)) ?_
  refine A.take 1 (some 8) (.agg #[(.int .u64 y), (.int .i64 j)]) rfl (by kernel_rfl) (by kernel_rfl) (List.Sublist.refl _) (qt_loadN (vs := [(.int .u64 y), (.int .i64 j)]) rfl rfl (by kernel_rfl) (reads_blk (i := 1) rfl rfl)) ?_
  refine A.take 2 (some 9) (.int .i64 (cmp x i y j)) rfl (by kernel_rfl) (by kernel_rfl) (List.Sublist.refl _) (qt_call [(.agg #[(.int .u64 x), (.int .i64 i)]), (.agg #[(.int .u64 y), (.int .i64 j)])] rfl (by kernel_rfl) rfl (fun w _ => compare_spec x i y j w)) ?_
  refine A.take 3 (some 10) (.bool ((cmp x i y j) == 0)) rfl (by kernel_rfl) (by kernel_rfl) (List.Sublist.refl _) (qt_pure (by kernel_rfl) fun _ => by kernel_rfl) ?_
  refine A.take 4 (some 11) (.agg #[(.int .u64 x), (.int .i64 i)]) rfl (by kernel_rfl) (by kernel_rfl) (List.Sublist.refl _) (qt_loadN (vs := [(.int .u64 x), (.int .i64 i)]) rfl rfl (by kernel_rfl) (reads_blk (i := 0) rfl rfl)) ?_
  refine A.take 5 (some 12) (.agg #[(.int .u64 y), (.int .i64 j)]) rfl (by kernel_rfl) (by kernel_rfl) (List.Sublist.refl _) (qt_loadN (vs := [(.int .u64 y), (.int .i64 j)]) rfl rfl (by kernel_rfl) (reads_blk (i := 1) rfl rfl)) ?_
  refine A.take 6 (some 13) (.bool ((x == y) && (i == j))) rfl (by kernel_rfl) (by kernel_rfl) (List.Sublist.refl _) (qt_eqlA rfl rfl rfl (by kernel_rfl) (by kernel_rfl)) ?_
  refine A.take 7 (some 14) (.bool (!(((cmp x i y j) == 0) == ((x == y) && (i == j))))) rfl (by kernel_rfl) (by kernel_rfl) (List.Sublist.refl _) (qt_neqB (b := (cmp x i y j) == 0) (c := (x == y) && (i == j)) rfl rfl rfl (by kernel_rfl)) ?_
  refine A.fin (by kernel_rfl) ?_
  refine A.norm [(3, (.pointer (some ⟨b1, 0, none⟩))), (4, (.pointer (some ⟨b2, 0, none⟩))), (5, (.pointer (some ⟨b3, 0, none⟩))), (6, (.bool false)), (14, (.bool (!(((cmp x i y j) == 0) == ((x == y) && (i == j))))))] [blk b1 [(.int .u64 x), (.int .i64 i)] 24, blk b2 [(.int .u64 y), (.int .i64 j)] 24, blk b3 [(.int .u64 p), (.int .i64 q)] 24] (by exact ⟨rfl, rfl, rfl, rfl, rfl, trivial⟩) rfl ?_
  refine A.tn ?_
  refine A.cond (E := !(((cmp x i y j) == 0) == ((x == y) && (i == j)))) rfl (fun e1 => ?_) (fun e1 => ?_)
  · exact absurd e1 (by grind [cmp, aheadB, dueB, leastA, leastI])
  · skip
    refine A.skip ?_
    refine A.tn ?_
    refine A.seq ?_
    refine A.seq ?_
    refine A.cutR (fun _ : Unit => [(3, (.pointer (some ⟨b1, 0, none⟩))), (4, (.pointer (some ⟨b2, 0, none⟩))), (5, (.pointer (some ⟨b3, 0, none⟩))), (6, (.bool false)), (14, (.bool (!(((cmp x i y j) == 0) == ((x == y) && (i == j)))))), (30, (.bool ((decide ((cmp x i y j) < 0)) && ((decide ((cmp y j p q) < 0)) && (decide ((cmp x i p q) ≥ 0))))))]) (fun _ => [blk b1 [(.int .u64 x), (.int .i64 i)] 24, blk b2 [(.int .u64 y), (.int .i64 j)] 24, blk b3 [(.int .u64 p), (.int .i64 q)] 24]) (fun _ => True) ?_ (fun _ _ => ?_)
    · skip
      refine A.region ?_
      refine A.cons (A.q (some 15) (.agg #[(.int .u64 x), (.int .i64 i)]) (by kernel_rfl) (qt_loadN (vs := [(.int .u64 x), (.int .i64 i)]) rfl rfl (by kernel_rfl) (reads_blk (i := 0) rfl rfl)) ?_)
      refine A.cons (A.q (some 16) (.agg #[(.int .u64 y), (.int .i64 j)]) (by kernel_rfl) (qt_loadN (vs := [(.int .u64 y), (.int .i64 j)]) rfl rfl (by kernel_rfl) (reads_blk (i := 1) rfl rfl)) ?_)
      refine A.cons (A.q (some 17) (.int .i64 (cmp x i y j)) (by kernel_rfl) (qt_call [(.agg #[(.int .u64 x), (.int .i64 i)]), (.agg #[(.int .u64 y), (.int .i64 j)])] rfl (by kernel_rfl) rfl (fun w _ => compare_spec x i y j w)) ?_)
      refine A.cons (A.q (some 18) (.bool (decide ((cmp x i y j) < 0))) (by kernel_rfl) (qt_pure (by kernel_rfl) fun _ => by kernel_rfl) ?_)
      refine A.cons (A.q (some 19) (.bool (decide ((cmp x i y j) < 0))) (by kernel_rfl) (qt_move rfl rfl) ?_)
      refine A.bool (decide ((cmp x i y j) < 0)) (fun e2 => ?_) (fun e2 => ?_)
      · skip
        refine A.sub [(3, (.pointer (some ⟨b1, 0, none⟩))), (4, (.pointer (some ⟨b2, 0, none⟩))), (5, (.pointer (some ⟨b3, 0, none⟩))), (6, (.bool false)), (14, (.bool (!(((cmp x i y j) == 0) == ((x == y) && (i == j)))))), (15, (.agg #[(.int .u64 x), (.int .i64 i)])), (16, (.agg #[(.int .u64 y), (.int .i64 j)])), (17, (.int .i64 (cmp x i y j))), (18, (.bool true)), (19, (.bool true))] (by exact ⟨rfl, rfl, rfl, rfl, rfl, rfl, rfl, rfl, (congrArg (fun z => some (Value.bool z)) e2), (congrArg (fun z => some (Value.bool z)) e2), trivial⟩) ?_
        refine A.cons (A.q (some 20) (.agg #[(.int .u64 y), (.int .i64 j)]) (by kernel_rfl) (qt_loadN (vs := [(.int .u64 y), (.int .i64 j)]) rfl rfl (by kernel_rfl) (reads_blk (i := 1) rfl rfl)) ?_)
        refine A.cons (A.q (some 21) (.agg #[(.int .u64 p), (.int .i64 q)]) (by kernel_rfl) (qt_loadN (vs := [(.int .u64 p), (.int .i64 q)]) rfl rfl (by kernel_rfl) (reads_blk (i := 2) rfl rfl)) ?_)
        refine A.cons (A.q (some 22) (.int .i64 (cmp y j p q)) (by kernel_rfl) (qt_call [(.agg #[(.int .u64 y), (.int .i64 j)]), (.agg #[(.int .u64 p), (.int .i64 q)])] rfl (by kernel_rfl) rfl (fun w _ => compare_spec y j p q w)) ?_)
        refine A.cons (A.q (some 23) (.bool (decide ((cmp y j p q) < 0))) (by kernel_rfl) (qt_pure (by kernel_rfl) fun _ => by kernel_rfl) ?_)
        refine A.cons (A.q (some 24) (.bool (decide ((cmp y j p q) < 0))) (by kernel_rfl) (qt_pure (by kernel_rfl) fun _ => by kernel_rfl) ?_)
        refine A.cons (A.q (some 25) (.bool (decide ((cmp y j p q) < 0))) (by kernel_rfl) (qt_move rfl rfl) ?_)
        refine A.bool (decide ((cmp y j p q) < 0)) (fun e3 => ?_) (fun e3 => ?_)
        · skip
          refine A.sub [(3, (.pointer (some ⟨b1, 0, none⟩))), (4, (.pointer (some ⟨b2, 0, none⟩))), (5, (.pointer (some ⟨b3, 0, none⟩))), (6, (.bool false)), (14, (.bool (!(((cmp x i y j) == 0) == ((x == y) && (i == j)))))), (15, (.agg #[(.int .u64 x), (.int .i64 i)])), (16, (.agg #[(.int .u64 y), (.int .i64 j)])), (17, (.int .i64 (cmp x i y j))), (18, (.bool true)), (19, (.bool true)), (20, (.agg #[(.int .u64 y), (.int .i64 j)])), (21, (.agg #[(.int .u64 p), (.int .i64 q)])), (22, (.int .i64 (cmp y j p q))), (23, (.bool true)), (24, (.bool true)), (25, (.bool true))] (by exact ⟨rfl, rfl, rfl, rfl, rfl, rfl, rfl, rfl, rfl, rfl, rfl, rfl, rfl, (congrArg (fun z => some (Value.bool z)) e3), (congrArg (fun z => some (Value.bool z)) e3), (congrArg (fun z => some (Value.bool z)) e3), trivial⟩) ?_
          refine A.cons (A.q (some 26) (.agg #[(.int .u64 x), (.int .i64 i)]) (by kernel_rfl) (qt_loadN (vs := [(.int .u64 x), (.int .i64 i)]) rfl rfl (by kernel_rfl) (reads_blk (i := 0) rfl rfl)) ?_)
          refine A.cons (A.q (some 27) (.agg #[(.int .u64 p), (.int .i64 q)]) (by kernel_rfl) (qt_loadN (vs := [(.int .u64 p), (.int .i64 q)]) rfl rfl (by kernel_rfl) (reads_blk (i := 2) rfl rfl)) ?_)
          refine A.cons (A.q (some 28) (.int .i64 (cmp x i p q)) (by kernel_rfl) (qt_call [(.agg #[(.int .u64 x), (.int .i64 i)]), (.agg #[(.int .u64 p), (.int .i64 q)])] rfl (by kernel_rfl) rfl (fun w _ => compare_spec x i p q w)) ?_)
          refine A.cons (A.q (some 29) (.bool (decide ((cmp x i p q) ≥ 0))) (by kernel_rfl) (qt_pure (by kernel_rfl) fun _ => by kernel_rfl) ?_)
          refine A.cons (A.q (some 30) (.bool (decide ((cmp x i p q) ≥ 0))) (by kernel_rfl) (qt_pure (by kernel_rfl) fun _ => by kernel_rfl) ?_)
          refine A.done ?_
          exact A.meet () trivial (A.here (by exact ⟨rfl, rfl, rfl, rfl, rfl, (by rw [e2, e3]; rfl), trivial⟩) (List.Sublist.refl _))
        · skip
          refine A.sub [(3, (.pointer (some ⟨b1, 0, none⟩))), (4, (.pointer (some ⟨b2, 0, none⟩))), (5, (.pointer (some ⟨b3, 0, none⟩))), (6, (.bool false)), (14, (.bool (!(((cmp x i y j) == 0) == ((x == y) && (i == j)))))), (15, (.agg #[(.int .u64 x), (.int .i64 i)])), (16, (.agg #[(.int .u64 y), (.int .i64 j)])), (17, (.int .i64 (cmp x i y j))), (18, (.bool true)), (19, (.bool true)), (20, (.agg #[(.int .u64 y), (.int .i64 j)])), (21, (.agg #[(.int .u64 p), (.int .i64 q)])), (22, (.int .i64 (cmp y j p q))), (23, (.bool false)), (24, (.bool false)), (25, (.bool false))] (by exact ⟨rfl, rfl, rfl, rfl, rfl, rfl, rfl, rfl, rfl, rfl, rfl, rfl, rfl, (congrArg (fun z => some (Value.bool z)) e3), (congrArg (fun z => some (Value.bool z)) e3), (congrArg (fun z => some (Value.bool z)) e3), trivial⟩) ?_
          refine A.cons (A.jump (some 26) rfl rfl (by intro x hx; cases hx; rfl) ?_)
          refine A.cons (A.jump (some 27) rfl rfl (by intro x hx; cases hx; rfl) ?_)
          refine A.cons (A.jump (some 28) rfl rfl (by intro x hx; cases hx; rfl) ?_)
          refine A.cons (A.jump (some 29) rfl rfl (by intro x hx; cases hx; rfl) ?_)
          refine A.cons (A.q (some 30) (.bool false) (by kernel_rfl) (qt_pure (by kernel_rfl) fun _ => by kernel_rfl) ?_)
          refine A.done ?_
          exact A.meet () trivial (A.here (by exact ⟨rfl, rfl, rfl, rfl, rfl, (by rw [e2, e3]; rfl), trivial⟩) (List.Sublist.refl _))
      · skip
        refine A.sub [(3, (.pointer (some ⟨b1, 0, none⟩))), (4, (.pointer (some ⟨b2, 0, none⟩))), (5, (.pointer (some ⟨b3, 0, none⟩))), (6, (.bool false)), (14, (.bool (!(((cmp x i y j) == 0) == ((x == y) && (i == j)))))), (15, (.agg #[(.int .u64 x), (.int .i64 i)])), (16, (.agg #[(.int .u64 y), (.int .i64 j)])), (17, (.int .i64 (cmp x i y j))), (18, (.bool false)), (19, (.bool false))] (by exact ⟨rfl, rfl, rfl, rfl, rfl, rfl, rfl, rfl, (congrArg (fun z => some (Value.bool z)) e2), (congrArg (fun z => some (Value.bool z)) e2), trivial⟩) ?_
        refine A.cons (A.jump (some 20) rfl rfl (by intro x hx; cases hx; rfl) ?_)
        refine A.cons (A.jump (some 21) rfl rfl (by intro x hx; cases hx; rfl) ?_)
        refine A.cons (A.jump (some 22) rfl rfl (by intro x hx; cases hx; rfl) ?_)
        refine A.cons (A.jump (some 23) rfl rfl (by intro x hx; cases hx; rfl) ?_)
        refine A.cons (A.q (some 24) (.bool false) (by kernel_rfl) (qt_pure (by kernel_rfl) fun _ => by kernel_rfl) ?_)
        refine A.cons (A.q (some 25) (.bool false) (by kernel_rfl) (qt_move rfl rfl) ?_)
        refine A.cons (A.jump (some 26) rfl rfl (by intro x hx; cases hx; rfl) ?_)
        refine A.cons (A.jump (some 27) rfl rfl (by intro x hx; cases hx; rfl) ?_)
        refine A.cons (A.jump (some 28) rfl rfl (by intro x hx; cases hx; rfl) ?_)
        refine A.cons (A.jump (some 29) rfl rfl (by intro x hx; cases hx; rfl) ?_)
        refine A.cons (A.q (some 30) (.bool false) (by kernel_rfl) (qt_pure (by kernel_rfl) fun _ => by kernel_rfl) ?_)
        refine A.done ?_
        exact A.meet () trivial (A.here (by exact ⟨rfl, rfl, rfl, rfl, rfl, (by rw [e2]; rfl), trivial⟩) (List.Sublist.refl _))
    · skip
      refine A.tn ?_
      refine A.cond (E := (decide ((cmp x i y j) < 0)) && ((decide ((cmp y j p q) < 0)) && (decide ((cmp x i p q) ≥ 0)))) rfl (fun e4 => ?_) (fun e4 => ?_)
      · exact absurd e4 (by grind [cmp, aheadB, dueB, leastA, leastI])
      · skip
        refine A.skip ?_
        refine A.tn ?_
        refine A.seq ?_
        refine A.draw [blk b1 [(.int .u64 x), (.int .i64 i)] 24, blk b2 [(.int .u64 y), (.int .i64 j)] 24, blk b3 [(.int .u64 p), (.int .i64 q)] 24] (by kernel_rfl) ?_
        refine A.take 0 (some 31) (.agg #[(.int .u64 x), (.int .i64 i)]) rfl (by kernel_rfl) (by kernel_rfl) (List.Sublist.refl _) (qt_loadN (vs := [(.int .u64 x), (.int .i64 i)]) rfl rfl (by kernel_rfl) (reads_blk (i := 0) rfl rfl)) ?_
        refine A.take 1 (some 32) (.agg #[(.int .u64 y), (.int .i64 j)]) rfl (by kernel_rfl) (by kernel_rfl) (List.Sublist.refl _) (qt_loadN (vs := [(.int .u64 y), (.int .i64 j)]) rfl rfl (by kernel_rfl) (reads_blk (i := 1) rfl rfl)) ?_
        refine A.take 2 (some 33) (.agg #[(.int .u64 p), (.int .i64 q)]) rfl (by kernel_rfl) (by kernel_rfl) (List.Sublist.refl _) (qt_loadN (vs := [(.int .u64 p), (.int .i64 q)]) rfl rfl (by kernel_rfl) (reads_blk (i := 2) rfl rfl)) ?_
        refine A.take 3 (some 34) (.agg #[(.int .u64 (leastA y j p q)), (.int .i64 (leastI y j p q))]) rfl (by kernel_rfl) (by kernel_rfl) (List.Sublist.refl _) (qt_call [(.agg #[(.int .u64 y), (.int .i64 j)]), (.agg #[(.int .u64 p), (.int .i64 q)])] rfl (by kernel_rfl) rfl (fun w _ => least_spec y j p q w)) ?_
        refine A.take 4 (some 35) (.agg #[(.int .u64 (leastA x i (leastA y j p q) (leastI y j p q))), (.int .i64 (leastI x i (leastA y j p q) (leastI y j p q)))]) rfl (by kernel_rfl) (by kernel_rfl) (List.Sublist.refl _) (qt_call [(.agg #[(.int .u64 x), (.int .i64 i)]), (.agg #[(.int .u64 (leastA y j p q)), (.int .i64 (leastI y j p q))])] rfl (by kernel_rfl) rfl (fun w _ => least_spec x i (leastA y j p q) (leastI y j p q) w)) ?_
        refine A.take 5 (some 36) (.agg #[(.int .u64 p), (.int .i64 q)]) rfl (by kernel_rfl) (by kernel_rfl) (List.Sublist.refl _) (qt_loadN (vs := [(.int .u64 p), (.int .i64 q)]) rfl rfl (by kernel_rfl) (reads_blk (i := 2) rfl rfl)) ?_
        refine A.take 6 (some 37) (.agg #[(.int .u64 x), (.int .i64 i)]) rfl (by kernel_rfl) (by kernel_rfl) (List.Sublist.refl _) (qt_loadN (vs := [(.int .u64 x), (.int .i64 i)]) rfl rfl (by kernel_rfl) (reads_blk (i := 0) rfl rfl)) ?_
        refine A.take 7 (some 38) (.agg #[(.int .u64 (leastA p q x i)), (.int .i64 (leastI p q x i))]) rfl (by kernel_rfl) (by kernel_rfl) (List.Sublist.refl _) (qt_call [(.agg #[(.int .u64 p), (.int .i64 q)]), (.agg #[(.int .u64 x), (.int .i64 i)])] rfl (by kernel_rfl) rfl (fun w _ => least_spec p q x i w)) ?_
        refine A.take 8 (some 39) (.agg #[(.int .u64 y), (.int .i64 j)]) rfl (by kernel_rfl) (by kernel_rfl) (List.Sublist.refl _) (qt_loadN (vs := [(.int .u64 y), (.int .i64 j)]) rfl rfl (by kernel_rfl) (reads_blk (i := 1) rfl rfl)) ?_
        refine A.take 9 (some 40) (.agg #[(.int .u64 (leastA (leastA p q x i) (leastI p q x i) y j)), (.int .i64 (leastI (leastA p q x i) (leastI p q x i) y j))]) rfl (by kernel_rfl) (by kernel_rfl) (List.Sublist.refl _) (qt_call [(.agg #[(.int .u64 (leastA p q x i)), (.int .i64 (leastI p q x i))]), (.agg #[(.int .u64 y), (.int .i64 j)])] rfl (by kernel_rfl) rfl (fun w _ => least_spec (leastA p q x i) (leastI p q x i) y j w)) ?_
        refine A.take 10 (some 41) (.bool (((leastA x i (leastA y j p q) (leastI y j p q)) == (leastA (leastA p q x i) (leastI p q x i) y j)) && ((leastI x i (leastA y j p q) (leastI y j p q)) == (leastI (leastA p q x i) (leastI p q x i) y j)))) rfl (by kernel_rfl) (by kernel_rfl) (List.Sublist.refl _) (qt_eqlA rfl rfl rfl (by kernel_rfl) (by kernel_rfl)) ?_
        refine A.take 11 (some 42) (.bool (((leastA x i (leastA y j p q) (leastI y j p q)) == (leastA (leastA p q x i) (leastI p q x i) y j)) && ((leastI x i (leastA y j p q) (leastI y j p q)) == (leastI (leastA p q x i) (leastI p q x i) y j)))) rfl (by kernel_rfl) (by kernel_rfl) (List.Sublist.refl _) (qt_move rfl rfl) ?_
        refine A.bool (((leastA x i (leastA y j p q) (leastI y j p q)) == (leastA (leastA p q x i) (leastI p q x i) y j)) && ((leastI x i (leastA y j p q) (leastI y j p q)) == (leastI (leastA p q x i) (leastI p q x i) y j))) (fun e5 => ?_) (fun e5 => ?_)
        · skip
          refine A.sub [(3, (.pointer (some ⟨b1, 0, none⟩))), (4, (.pointer (some ⟨b2, 0, none⟩))), (5, (.pointer (some ⟨b3, 0, none⟩))), (6, (.bool false)), (14, (.bool (!(((cmp x i y j) == 0) == ((x == y) && (i == j)))))), (30, (.bool ((decide ((cmp x i y j) < 0)) && ((decide ((cmp y j p q) < 0)) && (decide ((cmp x i p q) ≥ 0)))))), (31, (.agg #[(.int .u64 x), (.int .i64 i)])), (32, (.agg #[(.int .u64 y), (.int .i64 j)])), (33, (.agg #[(.int .u64 p), (.int .i64 q)])), (34, (.agg #[(.int .u64 (leastA y j p q)), (.int .i64 (leastI y j p q))])), (35, (.agg #[(.int .u64 (leastA x i (leastA y j p q) (leastI y j p q))), (.int .i64 (leastI x i (leastA y j p q) (leastI y j p q)))])), (36, (.agg #[(.int .u64 p), (.int .i64 q)])), (37, (.agg #[(.int .u64 x), (.int .i64 i)])), (38, (.agg #[(.int .u64 (leastA p q x i)), (.int .i64 (leastI p q x i))])), (39, (.agg #[(.int .u64 y), (.int .i64 j)])), (40, (.agg #[(.int .u64 (leastA (leastA p q x i) (leastI p q x i) y j)), (.int .i64 (leastI (leastA p q x i) (leastI p q x i) y j))])), (41, (.bool true)), (42, (.bool true))] (by exact ⟨rfl, rfl, rfl, rfl, rfl, rfl, rfl, rfl, rfl, rfl, rfl, rfl, rfl, rfl, rfl, rfl, (congrArg (fun z => some (Value.bool z)) e5), (congrArg (fun z => some (Value.bool z)) e5), trivial⟩) ?_
          refine A.take 12 (some 43) (.bool true) rfl (by kernel_rfl) (by kernel_rfl) (List.Sublist.refl _) (qt_call [] rfl (by kernel_rfl) rfl (fun w _ => three_spec  w)) ?_
          refine A.take 13 (some 44) (.bool true) rfl (by kernel_rfl) (by kernel_rfl) (List.Sublist.refl _) (qt_pure (by kernel_rfl) fun _ => by kernel_rfl) ?_
          refine A.take 14 (some 6) (.bool true) rfl (by kernel_rfl) (by kernel_rfl) (List.Sublist.refl _) (qt_assign rfl rfl) ?_
          refine A.fin (by kernel_rfl) ?_
          refine A.norm [(3, (.pointer (some ⟨b1, 0, none⟩))), (4, (.pointer (some ⟨b2, 0, none⟩))), (5, (.pointer (some ⟨b3, 0, none⟩))), (6, (.bool true)), (14, (.bool (!(((cmp x i y j) == 0) == ((x == y) && (i == j)))))), (30, (.bool ((decide ((cmp x i y j) < 0)) && ((decide ((cmp y j p q) < 0)) && (decide ((cmp x i p q) ≥ 0))))))] [blk b1 [(.int .u64 x), (.int .i64 i)] 24, blk b2 [(.int .u64 y), (.int .i64 j)] 24, blk b3 [(.int .u64 p), (.int .i64 q)] 24] (by exact ⟨rfl, rfl, rfl, rfl, rfl, rfl, trivial⟩) rfl ?_
          refine A.tn ?_
          refine A.ret ?_
          refine A.post [(.bool true)] (fun a w r s => ⟨rv_tmp r rfl, trivial⟩) (fun w1 s => ?_)
          exact ⟨rfl, s.fr⟩
        · exact absurd e5 (by simp [least3 x i y j p q])
end Go.Proofs.Ytkfmboicmdnjpaa
