/- What the functions of this layer do, proved operation by operation, for all arguments, under the conditions that each theorem states. -/
import Derived.Test.YtkfmboicmdnjpaaProg
import Derived.Test.YtkfmboicmdnjpaaPktq3
import Derived.Test.YtkfmboicmdnjpaaVh
namespace Go.Proofs.Ytkfmboicmdnjpaa
open Go V
set_option linter.unusedVariables false
set_option linter.unusedSimpArgs false

set_option maxHeartbeats 8000000 in
set_option maxRecDepth 100000 in
theorem pktqActs_long (n m : Int) (A0 : Option Addr) (c0 : Nat) (l : List Pkt) (w : World) (hb : 100 < l.length) :
    Calls Try.prog 12 #[(.int .i64 n), (.int .i64 m), (.slice A0 l.length c0)] w fun e w' => e = .returned (.bool true) ∧ Fr [] w w' := by
  refine calls_of (args := [(.int .i64 n), (.int .i64 m), (.slice A0 l.length c0)]) (penv [(.int .i64 n), (.int .i64 m), (.slice A0 l.length c0)]) [] [] Try.func12 rfl rfl (look_penv _) (HS.nil w) ?_
  refine A.norm [(0, (.int .i64 n)), (1, (.int .i64 m)), (2, (.slice A0 l.length c0))] [] (by exact ⟨rfl, rfl, rfl, trivial⟩) rfl ?_
  refine A.seq ?_
  refine A.region ?_
  refine A.cons (A.q (some 6) (.bool false) (by kernel_rfl) (qt_assign rfl rfl) ?_)
  refine A.done ?_
  refine A.norm [(0, (.int .i64 n)), (1, (.int .i64 m)), (2, (.slice A0 l.length c0)), (6, (.bool false))] [] (by exact ⟨rfl, rfl, rfl, rfl, trivial⟩) rfl ?_
  refine A.tn ?_
  refine A.seq ?_
  refine A.seq ?_
  refine A.region ?_
  refine A.cons (A.q (some 17) (.slice A0 l.length c0) (by kernel_rfl) (qt_move rfl rfl) ?_)
  refine A.cons (A.q (some 18) (.int .i64 (l.length : Int)) (by kernel_rfl) (qt_pure (by kernel_rfl) fun _ => by kernel_rfl) ?_)
  refine A.cons (A.q (some 19) (.bool (decide ((l.length : Int) > 100))) (by kernel_rfl) (qt_pure (by kernel_rfl) fun _ => by kernel_rfl) ?_)
  refine A.done ?_
  refine A.norm [(0, (.int .i64 n)), (1, (.int .i64 m)), (2, (.slice A0 l.length c0)), (6, (.bool false)), (19, (.bool (decide ((l.length : Int) > 100))))] [] (by exact ⟨rfl, rfl, rfl, rfl, rfl, trivial⟩) rfl ?_
  refine A.tn ?_
  refine A.cond (E := decide ((l.length : Int) > 100)) rfl (fun e1 => ?_) (fun e1 => ?_)
  · skip
    have p1 := e1; try simp only [decide_eq_true_eq, decide_eq_false_iff_not, beq_iff_eq, beq_eq_false_iff_ne, bne_iff_ne, bne_eq_false_iff_eq, ne_eq, Bool.and_eq_true, Bool.or_eq_true, Bool.or_eq_false_iff, Bool.not_eq_true', Bool.not_eq_false', Int.not_lt, Int.not_le, gt_iff_lt, ge_iff_le, Classical.not_not] at p1
    refine A.seq ?_
    refine A.region ?_
    refine A.cons (A.q (some 20) (.bool true) (by kernel_rfl) (qt_call [] rfl (by kernel_rfl) rfl (fun w _ => hundred_spec  w)) ?_)
    refine A.cons (A.q (some 6) (.bool true) (by kernel_rfl) (qt_assign rfl rfl) ?_)
    refine A.done ?_
    refine A.norm [(0, (.int .i64 n)), (1, (.int .i64 m)), (2, (.slice A0 l.length c0)), (6, (.bool true)), (19, (.bool (decide ((l.length : Int) > 100))))] [] (by exact ⟨rfl, rfl, rfl, rfl, rfl, trivial⟩) rfl ?_
    refine A.tn ?_
    refine A.ret ?_
    refine A.tr ?_
    refine A.post [(.bool true)] (fun a w rr s => ⟨rv_tmp rr rfl, trivial⟩) (fun w1 s => ?_)
    exact ⟨rfl, s.fr⟩
  · exact absurd e1 (by first | (simp; done) | (simp; omega) | omega | grind)

set_option maxHeartbeats 8000000 in
set_option maxRecDepth 100000 in
theorem pktqActs_bad1 (n m : Int) (A0 : Option Addr) (c0 : Nat) (l : List Pkt) (w : World) (hl0 : l.length ≤ 100) (hb : n < 1 ∨ 64 < n) :
    Calls Try.prog 12 #[(.int .i64 n), (.int .i64 m), (.slice A0 l.length c0)] w fun e w' => e = .returned (.bool true) ∧ Fr [] w w' := by
  refine calls_of (args := [(.int .i64 n), (.int .i64 m), (.slice A0 l.length c0)]) (penv [(.int .i64 n), (.int .i64 m), (.slice A0 l.length c0)]) [] [] Try.func12 rfl rfl (look_penv _) (HS.nil w) ?_
  refine A.norm [(0, (.int .i64 n)), (1, (.int .i64 m)), (2, (.slice A0 l.length c0))] [] (by exact ⟨rfl, rfl, rfl, trivial⟩) rfl ?_
  refine A.seq ?_
  refine A.region ?_
  refine A.cons (A.q (some 6) (.bool false) (by kernel_rfl) (qt_assign rfl rfl) ?_)
  refine A.done ?_
  refine A.norm [(0, (.int .i64 n)), (1, (.int .i64 m)), (2, (.slice A0 l.length c0)), (6, (.bool false))] [] (by exact ⟨rfl, rfl, rfl, rfl, trivial⟩) rfl ?_
  refine A.tn ?_
  refine A.seq ?_
  refine A.seq ?_
  refine A.region ?_
  refine A.cons (A.q (some 17) (.slice A0 l.length c0) (by kernel_rfl) (qt_move rfl rfl) ?_)
  refine A.cons (A.q (some 18) (.int .i64 (l.length : Int)) (by kernel_rfl) (qt_pure (by kernel_rfl) fun _ => by kernel_rfl) ?_)
  refine A.cons (A.q (some 19) (.bool (decide ((l.length : Int) > 100))) (by kernel_rfl) (qt_pure (by kernel_rfl) fun _ => by kernel_rfl) ?_)
  refine A.done ?_
  refine A.norm [(0, (.int .i64 n)), (1, (.int .i64 m)), (2, (.slice A0 l.length c0)), (6, (.bool false)), (19, (.bool (decide ((l.length : Int) > 100))))] [] (by exact ⟨rfl, rfl, rfl, rfl, rfl, trivial⟩) rfl ?_
  refine A.tn ?_
  refine A.cond (E := decide ((l.length : Int) > 100)) rfl (fun e1 => ?_) (fun e1 => ?_)
  · exact absurd e1 (by first | (simp; done) | (simp; omega) | omega | grind)
  · skip
    have p1 := e1; try simp only [decide_eq_true_eq, decide_eq_false_iff_not, beq_iff_eq, beq_eq_false_iff_ne, bne_iff_ne, bne_eq_false_iff_eq, ne_eq, Bool.and_eq_true, Bool.or_eq_true, Bool.or_eq_false_iff, Bool.not_eq_true', Bool.not_eq_false', Int.not_lt, Int.not_le, gt_iff_lt, ge_iff_le, Classical.not_not] at p1
    refine A.skip ?_
    refine A.tn ?_
    refine A.seq ?_
    refine A.region ?_
    refine A.cons (A.q (some 22) (.int .i64 n) (by kernel_rfl) (qt_move rfl rfl) ?_)
    refine A.cons (A.q (some 23) (.int .i64 m) (by kernel_rfl) (qt_move rfl rfl) ?_)
    refine A.cons (A.inl (some 24) [(.int .i64 n), (.int .i64 m)] [(0, (.int .i64 n)), (1, (.int .i64 m))] (by kernel_rfl) rfl (by kernel_rfl) rfl Try.func42 rfl rfl rfl ?_)
    refine A.seq ?_
    refine A.region ?_
    refine A.cons (A.q (some 4) (.pointer none) (by kernel_rfl) (qt_assign rfl rfl) ?_)
    refine A.cons (A.q (some 5) (.int .i64 0) (by kernel_rfl) (qt_assign rfl rfl) ?_)
    refine A.done ?_
    refine A.norm [(0, (.int .i64 n)), (1, (.int .i64 m)), (4, (.pointer none)), (5, (.int .i64 0))] [] (by exact ⟨rfl, rfl, rfl, rfl, trivial⟩) rfl ?_
    refine A.tn ?_
    refine A.seq ?_
    refine A.region ?_
    refine A.cons (A.q (some 9) (.int .i64 n) (by kernel_rfl) (qt_move rfl rfl) ?_)
    refine A.cons (A.q (some 10) (.tuple #[(.pointer none), (.int .i64 1)]) (by kernel_rfl) (qt_call [(.int .i64 n)] rfl (by kernel_rfl) rfl (fun w _ => ringP_new_bad n w (by assumption))) ?_)
    refine A.cons (A.q (some 8) (.tuple #[(.pointer none), (.int .i64 1)]) (by kernel_rfl) (qt_move rfl rfl) ?_)
    refine A.cons (A.q (some 11) (.pointer none) (by kernel_rfl) (qt_pure (by kernel_rfl) fun _ => by kernel_rfl) ?_)
    refine A.cons (A.q (some 12) (.int .i64 1) (by kernel_rfl) (qt_pure (by kernel_rfl) fun _ => by kernel_rfl) ?_)
    refine A.cons (A.q (some 6) (.pointer none) (by kernel_rfl) (qt_assign rfl rfl) ?_)
    refine A.cons (A.q (some 7) (.int .i64 1) (by kernel_rfl) (qt_assign rfl rfl) ?_)
    refine A.done ?_
    refine A.norm [(0, (.int .i64 n)), (1, (.int .i64 m)), (4, (.pointer none)), (5, (.int .i64 0)), (6, (.pointer none)), (7, (.int .i64 1))] [] (by exact ⟨rfl, rfl, rfl, rfl, rfl, rfl, trivial⟩) rfl ?_
    refine A.tn ?_
    refine A.seq ?_
    refine A.seq ?_
    refine A.region ?_
    refine A.cons (A.q (some 13) (.int .i64 1) (by kernel_rfl) (qt_move rfl rfl) ?_)
    refine A.cons (A.q (some 14) (.bool true) (by kernel_rfl) (qt_pure (by kernel_rfl) fun _ => by kernel_rfl) ?_)
    refine A.cons (A.q (some 15) (.bool true) (by kernel_rfl) (qt_move rfl rfl) ?_)
    refine A.cons (A.jump (some 16) rfl rfl (by intro x hx; cases hx; rfl) ?_)
    refine A.cons (A.jump (some 17) rfl rfl (by intro x hx; cases hx; rfl) ?_)
    refine A.cons (A.q (some 18) (.bool true) (by kernel_rfl) (qt_pure (by kernel_rfl) fun _ => by kernel_rfl) ?_)
    refine A.cons (A.q (some 19) (.bool true) (by kernel_rfl) (qt_move rfl rfl) ?_)
    refine A.cons (A.jump (some 20) rfl rfl (by intro x hx; cases hx; rfl) ?_)
    refine A.cons (A.jump (some 21) rfl rfl (by intro x hx; cases hx; rfl) ?_)
    refine A.cons (A.q (some 22) (.bool true) (by kernel_rfl) (qt_pure (by kernel_rfl) fun _ => by kernel_rfl) ?_)
    refine A.done ?_
    refine A.norm [(0, (.int .i64 n)), (1, (.int .i64 m)), (4, (.pointer none)), (5, (.int .i64 0)), (6, (.pointer none)), (7, (.int .i64 1)), (22, (.bool true))] [] (by exact ⟨rfl, rfl, rfl, rfl, rfl, rfl, rfl, trivial⟩) rfl ?_
    refine A.tn ?_
    refine A.cond_t rfl ?_
    refine A.seq ?_
    refine A.region ?_
    refine A.cons (A.q (some 4) (.pointer none) (by kernel_rfl) (qt_assign rfl rfl) ?_)
    refine A.cons (A.q (some 5) (.int .i64 1) (by kernel_rfl) (qt_assign rfl rfl) ?_)
    refine A.done ?_
    refine A.norm [(0, (.int .i64 n)), (1, (.int .i64 m)), (4, (.pointer none)), (5, (.int .i64 1)), (6, (.pointer none)), (7, (.int .i64 1)), (22, (.bool true))] [] (by exact ⟨rfl, rfl, rfl, rfl, rfl, rfl, rfl, trivial⟩) rfl ?_
    refine A.tn ?_
    refine A.ret ?_
    refine A.tr ?_
    refine A.post [(.pointer none), (.int .i64 1)] (fun a w rr s => ⟨rv_tmp rr rfl, rv_tmp rr rfl, trivial⟩) (A.back (by kernel_rfl) ?_)
    refine A.cons (A.q (some 21) (.tuple #[(.pointer none), (.int .i64 1)]) (by kernel_rfl) (qt_move rfl rfl) ?_)
    refine A.cons (A.q (some 25) (.pointer none) (by kernel_rfl) (qt_pure (by kernel_rfl) fun _ => by kernel_rfl) ?_)
    refine A.cons (A.q (some 26) (.int .i64 1) (by kernel_rfl) (qt_pure (by kernel_rfl) fun _ => by kernel_rfl) ?_)
    refine A.cons (A.q (some 7) (.pointer none) (by kernel_rfl) (qt_assign rfl rfl) ?_)
    refine A.cons (A.q (some 8) (.int .i64 1) (by kernel_rfl) (qt_assign rfl rfl) ?_)
    refine A.done ?_
    refine A.norm [(0, (.int .i64 n)), (1, (.int .i64 m)), (2, (.slice A0 l.length c0)), (6, (.bool false)), (19, (.bool (decide ((l.length : Int) > 100)))), (7, (.pointer none)), (8, (.int .i64 1))] [] (by exact ⟨rfl, rfl, rfl, rfl, rfl, rfl, rfl, trivial⟩) rfl ?_
    refine A.tn ?_
    refine A.seq ?_
    refine A.seq ?_
    refine A.cutR (fun _ : Unit => [(0, (.int .i64 n)), (1, (.int .i64 m)), (2, (.slice A0 l.length c0)), (6, (.bool false)), (19, (.bool (decide ((l.length : Int) > 100)))), (7, (.pointer none)), (8, (.int .i64 1)), (40, (.bool ((decide (n < 1)) || ((decide (n > 64)) || ((decide (m < 1)) || (decide (m > 1048576)))))))]) (fun _ => []) (fun _ => True) ?_ (fun _ _ => ?_)
    · skip
      refine A.region ?_
      refine A.cons (A.q (some 27) (.int .i64 n) (by kernel_rfl) (qt_move rfl rfl) ?_)
      refine A.cons (A.q (some 28) (.bool (decide (n < 1))) (by kernel_rfl) (qt_pure (by kernel_rfl) fun _ => by kernel_rfl) ?_)
      refine A.cons (A.q (some 29) (.bool (decide (n < 1))) (by kernel_rfl) (qt_move rfl rfl) ?_)
      refine A.bool (decide (n < 1)) (fun e2 => ?_) (fun e2 => ?_)
      · skip
        refine A.sub [(0, (.int .i64 n)), (1, (.int .i64 m)), (2, (.slice A0 l.length c0)), (6, (.bool false)), (19, (.bool (decide ((l.length : Int) > 100)))), (7, (.pointer none)), (8, (.int .i64 1)), (27, (.int .i64 n)), (28, (.bool true)), (29, (.bool true))] (by exact ⟨rfl, rfl, rfl, rfl, rfl, rfl, rfl, rfl, (congrArg (fun z => some (Value.bool z)) e2), (congrArg (fun z => some (Value.bool z)) e2), trivial⟩) ?_
        refine A.cons (A.jump (some 30) rfl rfl (by intro x hx; cases hx; rfl) ?_)
        refine A.cons (A.jump (some 31) rfl rfl (by intro x hx; cases hx; rfl) ?_)
        refine A.cons (A.q (some 32) (.bool true) (by kernel_rfl) (qt_pure (by kernel_rfl) fun _ => by kernel_rfl) ?_)
        refine A.cons (A.q (some 33) (.bool true) (by kernel_rfl) (qt_move rfl rfl) ?_)
        refine A.cons (A.jump (some 34) rfl rfl (by intro x hx; cases hx; rfl) ?_)
        refine A.cons (A.jump (some 35) rfl rfl (by intro x hx; cases hx; rfl) ?_)
        refine A.cons (A.q (some 36) (.bool true) (by kernel_rfl) (qt_pure (by kernel_rfl) fun _ => by kernel_rfl) ?_)
        refine A.cons (A.q (some 37) (.bool true) (by kernel_rfl) (qt_move rfl rfl) ?_)
        refine A.cons (A.jump (some 38) rfl rfl (by intro x hx; cases hx; rfl) ?_)
        refine A.cons (A.jump (some 39) rfl rfl (by intro x hx; cases hx; rfl) ?_)
        refine A.cons (A.q (some 40) (.bool true) (by kernel_rfl) (qt_pure (by kernel_rfl) fun _ => by kernel_rfl) ?_)
        refine A.done ?_
        exact A.meet () trivial (A.here (by exact ⟨rfl, rfl, rfl, rfl, rfl, rfl, rfl, (by rw [e2]; rfl), trivial⟩) (List.Sublist.refl _))
      · skip
        refine A.sub [(0, (.int .i64 n)), (1, (.int .i64 m)), (2, (.slice A0 l.length c0)), (6, (.bool false)), (19, (.bool (decide ((l.length : Int) > 100)))), (7, (.pointer none)), (8, (.int .i64 1)), (27, (.int .i64 n)), (28, (.bool false)), (29, (.bool false))] (by exact ⟨rfl, rfl, rfl, rfl, rfl, rfl, rfl, rfl, (congrArg (fun z => some (Value.bool z)) e2), (congrArg (fun z => some (Value.bool z)) e2), trivial⟩) ?_
        refine A.cons (A.q (some 30) (.int .i64 n) (by kernel_rfl) (qt_move rfl rfl) ?_)
        refine A.cons (A.q (some 31) (.bool (decide (n > 64))) (by kernel_rfl) (qt_pure (by kernel_rfl) fun _ => by kernel_rfl) ?_)
        refine A.cons (A.q (some 32) (.bool (decide (n > 64))) (by kernel_rfl) (qt_pure (by kernel_rfl) fun _ => by kernel_rfl) ?_)
        refine A.cons (A.q (some 33) (.bool (decide (n > 64))) (by kernel_rfl) (qt_move rfl rfl) ?_)
        refine A.bool (decide (n > 64)) (fun e3 => ?_) (fun e3 => ?_)
        · skip
          refine A.sub [(0, (.int .i64 n)), (1, (.int .i64 m)), (2, (.slice A0 l.length c0)), (6, (.bool false)), (19, (.bool (decide ((l.length : Int) > 100)))), (7, (.pointer none)), (8, (.int .i64 1)), (27, (.int .i64 n)), (28, (.bool false)), (29, (.bool false)), (30, (.int .i64 n)), (31, (.bool true)), (32, (.bool true)), (33, (.bool true))] (by exact ⟨rfl, rfl, rfl, rfl, rfl, rfl, rfl, rfl, rfl, rfl, rfl, (congrArg (fun z => some (Value.bool z)) e3), (congrArg (fun z => some (Value.bool z)) e3), (congrArg (fun z => some (Value.bool z)) e3), trivial⟩) ?_
          refine A.cons (A.jump (some 34) rfl rfl (by intro x hx; cases hx; rfl) ?_)
          refine A.cons (A.jump (some 35) rfl rfl (by intro x hx; cases hx; rfl) ?_)
          refine A.cons (A.q (some 36) (.bool true) (by kernel_rfl) (qt_pure (by kernel_rfl) fun _ => by kernel_rfl) ?_)
          refine A.cons (A.q (some 37) (.bool true) (by kernel_rfl) (qt_move rfl rfl) ?_)
          refine A.cons (A.jump (some 38) rfl rfl (by intro x hx; cases hx; rfl) ?_)
          refine A.cons (A.jump (some 39) rfl rfl (by intro x hx; cases hx; rfl) ?_)
          refine A.cons (A.q (some 40) (.bool true) (by kernel_rfl) (qt_pure (by kernel_rfl) fun _ => by kernel_rfl) ?_)
          refine A.done ?_
          exact A.meet () trivial (A.here (by exact ⟨rfl, rfl, rfl, rfl, rfl, rfl, rfl, (by rw [e2, e3]; rfl), trivial⟩) (List.Sublist.refl _))
        · skip
          refine A.sub [(0, (.int .i64 n)), (1, (.int .i64 m)), (2, (.slice A0 l.length c0)), (6, (.bool false)), (19, (.bool (decide ((l.length : Int) > 100)))), (7, (.pointer none)), (8, (.int .i64 1)), (27, (.int .i64 n)), (28, (.bool false)), (29, (.bool false)), (30, (.int .i64 n)), (31, (.bool false)), (32, (.bool false)), (33, (.bool false))] (by exact ⟨rfl, rfl, rfl, rfl, rfl, rfl, rfl, rfl, rfl, rfl, rfl, (congrArg (fun z => some (Value.bool z)) e3), (congrArg (fun z => some (Value.bool z)) e3), (congrArg (fun z => some (Value.bool z)) e3), trivial⟩) ?_
          refine A.cons (A.q (some 34) (.int .i64 m) (by kernel_rfl) (qt_move rfl rfl) ?_)
          refine A.cons (A.q (some 35) (.bool (decide (m < 1))) (by kernel_rfl) (qt_pure (by kernel_rfl) fun _ => by kernel_rfl) ?_)
          refine A.cons (A.q (some 36) (.bool (decide (m < 1))) (by kernel_rfl) (qt_pure (by kernel_rfl) fun _ => by kernel_rfl) ?_)
          refine A.cons (A.q (some 37) (.bool (decide (m < 1))) (by kernel_rfl) (qt_move rfl rfl) ?_)
          refine A.bool (decide (m < 1)) (fun e4 => ?_) (fun e4 => ?_)
          · skip
            refine A.sub [(0, (.int .i64 n)), (1, (.int .i64 m)), (2, (.slice A0 l.length c0)), (6, (.bool false)), (19, (.bool (decide ((l.length : Int) > 100)))), (7, (.pointer none)), (8, (.int .i64 1)), (27, (.int .i64 n)), (28, (.bool false)), (29, (.bool false)), (30, (.int .i64 n)), (31, (.bool false)), (32, (.bool false)), (33, (.bool false)), (34, (.int .i64 m)), (35, (.bool true)), (36, (.bool true)), (37, (.bool true))] (by exact ⟨rfl, rfl, rfl, rfl, rfl, rfl, rfl, rfl, rfl, rfl, rfl, rfl, rfl, rfl, rfl, (congrArg (fun z => some (Value.bool z)) e4), (congrArg (fun z => some (Value.bool z)) e4), (congrArg (fun z => some (Value.bool z)) e4), trivial⟩) ?_
            refine A.cons (A.jump (some 38) rfl rfl (by intro x hx; cases hx; rfl) ?_)
            refine A.cons (A.jump (some 39) rfl rfl (by intro x hx; cases hx; rfl) ?_)
            refine A.cons (A.q (some 40) (.bool true) (by kernel_rfl) (qt_pure (by kernel_rfl) fun _ => by kernel_rfl) ?_)
            refine A.done ?_
            exact A.meet () trivial (A.here (by exact ⟨rfl, rfl, rfl, rfl, rfl, rfl, rfl, (by rw [e2, e3, e4]; rfl), trivial⟩) (List.Sublist.refl _))
          · skip
            refine A.sub [(0, (.int .i64 n)), (1, (.int .i64 m)), (2, (.slice A0 l.length c0)), (6, (.bool false)), (19, (.bool (decide ((l.length : Int) > 100)))), (7, (.pointer none)), (8, (.int .i64 1)), (27, (.int .i64 n)), (28, (.bool false)), (29, (.bool false)), (30, (.int .i64 n)), (31, (.bool false)), (32, (.bool false)), (33, (.bool false)), (34, (.int .i64 m)), (35, (.bool false)), (36, (.bool false)), (37, (.bool false))] (by exact ⟨rfl, rfl, rfl, rfl, rfl, rfl, rfl, rfl, rfl, rfl, rfl, rfl, rfl, rfl, rfl, (congrArg (fun z => some (Value.bool z)) e4), (congrArg (fun z => some (Value.bool z)) e4), (congrArg (fun z => some (Value.bool z)) e4), trivial⟩) ?_
            refine A.cons (A.q (some 38) (.int .i64 m) (by kernel_rfl) (qt_move rfl rfl) ?_)
            refine A.cons (A.q (some 39) (.bool (decide (m > 1048576))) (by kernel_rfl) (qt_pure (by kernel_rfl) fun _ => by kernel_rfl) ?_)
            refine A.cons (A.q (some 40) (.bool (decide (m > 1048576))) (by kernel_rfl) (qt_pure (by kernel_rfl) fun _ => by kernel_rfl) ?_)
            refine A.done ?_
            exact A.meet () trivial (A.here (by exact ⟨rfl, rfl, rfl, rfl, rfl, rfl, rfl, (by rw [e2, e3, e4]; rfl), trivial⟩) (List.Sublist.refl _))
    · skip
      refine A.tn ?_
      refine A.cond (E := (decide (n < 1)) || ((decide (n > 64)) || ((decide (m < 1)) || (decide (m > 1048576))))) rfl (fun e5 => ?_) (fun e5 => ?_)
      · skip
        have p5 := e5; try simp only [decide_eq_true_eq, decide_eq_false_iff_not, beq_iff_eq, beq_eq_false_iff_ne, bne_iff_ne, bne_eq_false_iff_eq, ne_eq, Bool.and_eq_true, Bool.or_eq_true, Bool.or_eq_false_iff, Bool.not_eq_true', Bool.not_eq_false', Int.not_lt, Int.not_le, gt_iff_lt, ge_iff_le, Classical.not_not] at p5
        refine A.seq ?_
        refine A.region ?_
        refine A.cons (A.q (some 41) (.int .i64 1) (by kernel_rfl) (qt_move rfl rfl) ?_)
        refine A.cons (A.q (some 42) (.bool true) (by kernel_rfl) (qt_pure (by kernel_rfl) fun _ => by kernel_rfl) ?_)
        refine A.cons (A.q (some 43) (.bool true) (by kernel_rfl) (qt_move rfl rfl) ?_)
        refine A.cons (A.q (some 44) (.pointer none) (by kernel_rfl) (qt_move rfl rfl) ?_)
        refine A.cons (A.q (some 45) (.bool true) (by kernel_rfl) (qt_pure (by kernel_rfl) fun _ => by kernel_rfl) ?_)
        refine A.cons (A.q (some 46) (.bool true) (by kernel_rfl) (qt_pure (by kernel_rfl) fun _ => by kernel_rfl) ?_)
        refine A.cons (A.q (some 47) (.bool true) (by kernel_rfl) (qt_move rfl rfl) ?_)
        refine A.cons (A.q (some 48) (.bool true) (by kernel_rfl) (qt_call [] rfl (by kernel_rfl) rfl (fun w _ => hundred_spec  w)) ?_)
        refine A.cons (A.q (some 49) (.bool true) (by kernel_rfl) (qt_pure (by kernel_rfl) fun _ => by kernel_rfl) ?_)
        refine A.cons (A.q (some 6) (.bool true) (by kernel_rfl) (qt_assign rfl rfl) ?_)
        refine A.done ?_
        refine A.norm [(0, (.int .i64 n)), (1, (.int .i64 m)), (2, (.slice A0 l.length c0)), (6, (.bool true)), (19, (.bool (decide ((l.length : Int) > 100)))), (7, (.pointer none)), (8, (.int .i64 1)), (40, (.bool ((decide (n < 1)) || ((decide (n > 64)) || ((decide (m < 1)) || (decide (m > 1048576)))))))] [] (by exact ⟨rfl, rfl, rfl, rfl, rfl, rfl, rfl, rfl, trivial⟩) rfl ?_
        refine A.tn ?_
        refine A.ret ?_
        refine A.tr ?_
        refine A.post [(.bool true)] (fun a w rr s => ⟨rv_tmp rr rfl, trivial⟩) (fun w1 s => ?_)
        exact ⟨rfl, s.fr⟩
      · exact absurd e5 (by first | (simp; done) | (simp; omega) | omega | grind)

set_option maxHeartbeats 8000000 in
set_option maxRecDepth 100000 in
theorem pktqActs_bad2 (r : Nat) (m : Int) (A0 : Option Addr) (c0 : Nat) (l : List Pkt) (w : World) (hl0 : l.length ≤ 100) (h1 : 1 ≤ r) (h2 : r ≤ 64) (hb : m < 1 ∨ 1048576 < m) :
    Calls Try.prog 12 #[(.int .i64 (r : Int)), (.int .i64 m), (.slice A0 l.length c0)] w fun e w' => e = .returned (.bool true) ∧ Fr [] w w' := by
  refine calls_of (args := [(.int .i64 (r : Int)), (.int .i64 m), (.slice A0 l.length c0)]) (penv [(.int .i64 (r : Int)), (.int .i64 m), (.slice A0 l.length c0)]) [] [] Try.func12 rfl rfl (look_penv _) (HS.nil w) ?_
  refine A.norm [(0, (.int .i64 (r : Int))), (1, (.int .i64 m)), (2, (.slice A0 l.length c0))] [] (by exact ⟨rfl, rfl, rfl, trivial⟩) rfl ?_
  refine A.seq ?_
  refine A.region ?_
  refine A.cons (A.q (some 6) (.bool false) (by kernel_rfl) (qt_assign rfl rfl) ?_)
  refine A.done ?_
  refine A.norm [(0, (.int .i64 (r : Int))), (1, (.int .i64 m)), (2, (.slice A0 l.length c0)), (6, (.bool false))] [] (by exact ⟨rfl, rfl, rfl, rfl, trivial⟩) rfl ?_
  refine A.tn ?_
  refine A.seq ?_
  refine A.seq ?_
  refine A.region ?_
  refine A.cons (A.q (some 17) (.slice A0 l.length c0) (by kernel_rfl) (qt_move rfl rfl) ?_)
  refine A.cons (A.q (some 18) (.int .i64 (l.length : Int)) (by kernel_rfl) (qt_pure (by kernel_rfl) fun _ => by kernel_rfl) ?_)
  refine A.cons (A.q (some 19) (.bool (decide ((l.length : Int) > 100))) (by kernel_rfl) (qt_pure (by kernel_rfl) fun _ => by kernel_rfl) ?_)
  refine A.done ?_
  refine A.norm [(0, (.int .i64 (r : Int))), (1, (.int .i64 m)), (2, (.slice A0 l.length c0)), (6, (.bool false)), (19, (.bool (decide ((l.length : Int) > 100))))] [] (by exact ⟨rfl, rfl, rfl, rfl, rfl, trivial⟩) rfl ?_
  refine A.tn ?_
  refine A.cond (E := decide ((l.length : Int) > 100)) rfl (fun e1 => ?_) (fun e1 => ?_)
  · exact absurd e1 (by first | (simp; done) | (simp; omega) | omega | grind)
  · skip
    have p1 := e1; try simp only [decide_eq_true_eq, decide_eq_false_iff_not, beq_iff_eq, beq_eq_false_iff_ne, bne_iff_ne, bne_eq_false_iff_eq, ne_eq, Bool.and_eq_true, Bool.or_eq_true, Bool.or_eq_false_iff, Bool.not_eq_true', Bool.not_eq_false', Int.not_lt, Int.not_le, gt_iff_lt, ge_iff_le, Classical.not_not] at p1
    refine A.skip ?_
    refine A.tn ?_
    refine A.seq ?_
    refine A.region ?_
    refine A.cons (A.q (some 22) (.int .i64 (r : Int)) (by kernel_rfl) (qt_move rfl rfl) ?_)
    refine A.cons (A.q (some 23) (.int .i64 m) (by kernel_rfl) (qt_move rfl rfl) ?_)
    refine A.cons (A.inl (some 24) [(.int .i64 (r : Int)), (.int .i64 m)] [(0, (.int .i64 (r : Int))), (1, (.int .i64 m))] (by kernel_rfl) rfl (by kernel_rfl) rfl Try.func42 rfl rfl rfl ?_)
    refine A.seq ?_
    refine A.region ?_
    refine A.cons (A.q (some 4) (.pointer none) (by kernel_rfl) (qt_assign rfl rfl) ?_)
    refine A.cons (A.q (some 5) (.int .i64 0) (by kernel_rfl) (qt_assign rfl rfl) ?_)
    refine A.done ?_
    refine A.norm [(0, (.int .i64 (r : Int))), (1, (.int .i64 m)), (4, (.pointer none)), (5, (.int .i64 0))] [] (by exact ⟨rfl, rfl, rfl, rfl, trivial⟩) rfl ?_
    refine A.tn ?_
    refine A.seq ?_
    refine A.region ?_
    refine A.cons (A.q (some 9) (.int .i64 (r : Int)) (by kernel_rfl) (qt_move rfl rfl) ?_)
    refine A.cons (A.call (some 10) [(.int .i64 (r : Int))] (fun x : Nat × Nat => (.tuple #[(.pointer (some ⟨x.1, 0, none⟩)), (.int .i64 0)])) (fun _ => True) (fun x => [ringI encPkt 118 74 x.1 x.2 r ([] : List Pkt)]) (by kernel_rfl) rfl (by kernel_rfl) rfl (fun w s => (ringP_new_ok r w (by omega) (by omega)).mono fun e w1 ⟨b, s1, he, hr, hf, n1, n2⟩ => ⟨(b, s1), he, trivial, s.add hf hr (by have := hr.bounds.2.2.2; simpa [ringI] using this) (by intro x hx; simp [ringI] at hx; rcases hx with rfl | rfl <;> assumption)⟩) ?_)
    rintro ⟨rb1, rs1⟩ -
    refine A.cons (A.q (some 8) (.tuple #[(.pointer (some ⟨rb1, 0, none⟩)), (.int .i64 0)]) (by kernel_rfl) (qt_move rfl rfl) ?_)
    refine A.cons (A.q (some 11) (.pointer (some ⟨rb1, 0, none⟩)) (by kernel_rfl) (qt_pure (by kernel_rfl) fun _ => by kernel_rfl) ?_)
    refine A.cons (A.q (some 12) (.int .i64 0) (by kernel_rfl) (qt_pure (by kernel_rfl) fun _ => by kernel_rfl) ?_)
    refine A.cons (A.q (some 6) (.pointer (some ⟨rb1, 0, none⟩)) (by kernel_rfl) (qt_assign rfl rfl) ?_)
    refine A.cons (A.q (some 7) (.int .i64 0) (by kernel_rfl) (qt_assign rfl rfl) ?_)
    refine A.done ?_
    refine A.norm [(0, (.int .i64 (r : Int))), (1, (.int .i64 m)), (4, (.pointer none)), (5, (.int .i64 0)), (6, (.pointer (some ⟨rb1, 0, none⟩))), (7, (.int .i64 0))] [ringI encPkt 118 74 rb1 rs1 r ([] : List Pkt)] (by exact ⟨rfl, rfl, rfl, rfl, rfl, rfl, trivial⟩) rfl ?_
    refine A.tn ?_
    refine A.seq ?_
    refine A.seq ?_
    refine A.cutR (fun _ : Unit => [(0, (.int .i64 (r : Int))), (1, (.int .i64 m)), (4, (.pointer none)), (5, (.int .i64 0)), (6, (.pointer (some ⟨rb1, 0, none⟩))), (7, (.int .i64 0)), (22, (.bool ((decide (m < 1)) || (decide (m > 1048576)))))]) (fun _ => [ringI encPkt 118 74 rb1 rs1 r ([] : List Pkt)]) (fun _ => True) ?_ (fun _ _ => ?_)
    · skip
      refine A.region ?_
      refine A.cons (A.q (some 13) (.int .i64 0) (by kernel_rfl) (qt_move rfl rfl) ?_)
      refine A.cons (A.q (some 14) (.bool false) (by kernel_rfl) (qt_pure (by kernel_rfl) fun _ => by kernel_rfl) ?_)
      refine A.cons (A.q (some 15) (.bool false) (by kernel_rfl) (qt_move rfl rfl) ?_)
      refine A.cons (A.q (some 16) (.int .i64 m) (by kernel_rfl) (qt_move rfl rfl) ?_)
      refine A.cons (A.q (some 17) (.bool (decide (m < 1))) (by kernel_rfl) (qt_pure (by kernel_rfl) fun _ => by kernel_rfl) ?_)
      refine A.cons (A.q (some 18) (.bool (decide (m < 1))) (by kernel_rfl) (qt_pure (by kernel_rfl) fun _ => by kernel_rfl) ?_)
      refine A.cons (A.q (some 19) (.bool (decide (m < 1))) (by kernel_rfl) (qt_move rfl rfl) ?_)
      refine A.bool (decide (m < 1)) (fun e2 => ?_) (fun e2 => ?_)
      · skip
        refine A.sub [(0, (.int .i64 (r : Int))), (1, (.int .i64 m)), (4, (.pointer none)), (5, (.int .i64 0)), (6, (.pointer (some ⟨rb1, 0, none⟩))), (7, (.int .i64 0)), (13, (.int .i64 0)), (14, (.bool false)), (15, (.bool false)), (16, (.int .i64 m)), (17, (.bool true)), (18, (.bool true)), (19, (.bool true))] (by exact ⟨rfl, rfl, rfl, rfl, rfl, rfl, rfl, rfl, rfl, rfl, (congrArg (fun z => some (Value.bool z)) e2), (congrArg (fun z => some (Value.bool z)) e2), (congrArg (fun z => some (Value.bool z)) e2), trivial⟩) ?_
        refine A.cons (A.jump (some 20) rfl rfl (by intro x hx; cases hx; rfl) ?_)
        refine A.cons (A.jump (some 21) rfl rfl (by intro x hx; cases hx; rfl) ?_)
        refine A.cons (A.q (some 22) (.bool true) (by kernel_rfl) (qt_pure (by kernel_rfl) fun _ => by kernel_rfl) ?_)
        refine A.done ?_
        exact A.meet () trivial (A.here (by exact ⟨rfl, rfl, rfl, rfl, rfl, rfl, (by rw [e2]; rfl), trivial⟩) (List.Sublist.refl _))
      · skip
        refine A.sub [(0, (.int .i64 (r : Int))), (1, (.int .i64 m)), (4, (.pointer none)), (5, (.int .i64 0)), (6, (.pointer (some ⟨rb1, 0, none⟩))), (7, (.int .i64 0)), (13, (.int .i64 0)), (14, (.bool false)), (15, (.bool false)), (16, (.int .i64 m)), (17, (.bool false)), (18, (.bool false)), (19, (.bool false))] (by exact ⟨rfl, rfl, rfl, rfl, rfl, rfl, rfl, rfl, rfl, rfl, (congrArg (fun z => some (Value.bool z)) e2), (congrArg (fun z => some (Value.bool z)) e2), (congrArg (fun z => some (Value.bool z)) e2), trivial⟩) ?_
        refine A.cons (A.q (some 20) (.int .i64 m) (by kernel_rfl) (qt_move rfl rfl) ?_)
        refine A.cons (A.q (some 21) (.bool (decide (m > 1048576))) (by kernel_rfl) (qt_pure (by kernel_rfl) fun _ => by kernel_rfl) ?_)
        refine A.cons (A.q (some 22) (.bool (decide (m > 1048576))) (by kernel_rfl) (qt_pure (by kernel_rfl) fun _ => by kernel_rfl) ?_)
        refine A.done ?_
        exact A.meet () trivial (A.here (by exact ⟨rfl, rfl, rfl, rfl, rfl, rfl, (by rw [e2]; rfl), trivial⟩) (List.Sublist.refl _))
    · skip
      refine A.tn ?_
      refine A.cond (E := (decide (m < 1)) || (decide (m > 1048576))) rfl (fun e3 => ?_) (fun e3 => ?_)
      · skip
        have p3 := e3; try simp only [decide_eq_true_eq, decide_eq_false_iff_not, beq_iff_eq, beq_eq_false_iff_ne, bne_iff_ne, bne_eq_false_iff_eq, ne_eq, Bool.and_eq_true, Bool.or_eq_true, Bool.or_eq_false_iff, Bool.not_eq_true', Bool.not_eq_false', Int.not_lt, Int.not_le, gt_iff_lt, ge_iff_le, Classical.not_not] at p3
        refine A.seq ?_
        refine A.region ?_
        refine A.cons (A.q (some 4) (.pointer none) (by kernel_rfl) (qt_assign rfl rfl) ?_)
        refine A.cons (A.q (some 5) (.int .i64 1) (by kernel_rfl) (qt_assign rfl rfl) ?_)
        refine A.done ?_
        refine A.norm [(0, (.int .i64 (r : Int))), (1, (.int .i64 m)), (4, (.pointer none)), (5, (.int .i64 1)), (6, (.pointer (some ⟨rb1, 0, none⟩))), (7, (.int .i64 0)), (22, (.bool ((decide (m < 1)) || (decide (m > 1048576)))))] [ringI encPkt 118 74 rb1 rs1 r ([] : List Pkt)] (by exact ⟨rfl, rfl, rfl, rfl, rfl, rfl, rfl, trivial⟩) rfl ?_
        refine A.tn ?_
        refine A.ret ?_
        refine A.tr ?_
        refine A.post [(.pointer none), (.int .i64 1)] (fun a w rr s => ⟨rv_tmp rr rfl, rv_tmp rr rfl, trivial⟩) (A.back (by kernel_rfl) ?_)
        refine A.items [] (List.Sublist.cons _ (List.Sublist.slnil)) ?_
        refine A.cons (A.q (some 21) (.tuple #[(.pointer none), (.int .i64 1)]) (by kernel_rfl) (qt_move rfl rfl) ?_)
        refine A.cons (A.q (some 25) (.pointer none) (by kernel_rfl) (qt_pure (by kernel_rfl) fun _ => by kernel_rfl) ?_)
        refine A.cons (A.q (some 26) (.int .i64 1) (by kernel_rfl) (qt_pure (by kernel_rfl) fun _ => by kernel_rfl) ?_)
        refine A.cons (A.q (some 7) (.pointer none) (by kernel_rfl) (qt_assign rfl rfl) ?_)
        refine A.cons (A.q (some 8) (.int .i64 1) (by kernel_rfl) (qt_assign rfl rfl) ?_)
        refine A.done ?_
        refine A.norm [(0, (.int .i64 (r : Int))), (1, (.int .i64 m)), (2, (.slice A0 l.length c0)), (6, (.bool false)), (19, (.bool (decide ((l.length : Int) > 100)))), (7, (.pointer none)), (8, (.int .i64 1))] [] (by exact ⟨rfl, rfl, rfl, rfl, rfl, rfl, rfl, trivial⟩) rfl ?_
        refine A.tn ?_
        refine A.seq ?_
        refine A.seq ?_
        refine A.cutR (fun _ : Unit => [(0, (.int .i64 (r : Int))), (1, (.int .i64 m)), (2, (.slice A0 l.length c0)), (6, (.bool false)), (19, (.bool (decide ((l.length : Int) > 100)))), (7, (.pointer none)), (8, (.int .i64 1)), (40, (.bool ((decide ((r : Int) < 1)) || ((decide ((r : Int) > 64)) || ((decide (m < 1)) || (decide (m > 1048576)))))))]) (fun _ => []) (fun _ => True) ?_ (fun _ _ => ?_)
        · skip
          refine A.region ?_
          refine A.cons (A.q (some 27) (.int .i64 (r : Int)) (by kernel_rfl) (qt_move rfl rfl) ?_)
          refine A.cons (A.q (some 28) (.bool (decide ((r : Int) < 1))) (by kernel_rfl) (qt_pure (by kernel_rfl) fun _ => by kernel_rfl) ?_)
          refine A.cons (A.q (some 29) (.bool (decide ((r : Int) < 1))) (by kernel_rfl) (qt_move rfl rfl) ?_)
          refine A.bool (decide ((r : Int) < 1)) (fun e4 => ?_) (fun e4 => ?_)
          · skip
            refine A.sub [(0, (.int .i64 (r : Int))), (1, (.int .i64 m)), (2, (.slice A0 l.length c0)), (6, (.bool false)), (19, (.bool (decide ((l.length : Int) > 100)))), (7, (.pointer none)), (8, (.int .i64 1)), (27, (.int .i64 (r : Int))), (28, (.bool true)), (29, (.bool true))] (by exact ⟨rfl, rfl, rfl, rfl, rfl, rfl, rfl, rfl, (congrArg (fun z => some (Value.bool z)) e4), (congrArg (fun z => some (Value.bool z)) e4), trivial⟩) ?_
            refine A.cons (A.jump (some 30) rfl rfl (by intro x hx; cases hx; rfl) ?_)
            refine A.cons (A.jump (some 31) rfl rfl (by intro x hx; cases hx; rfl) ?_)
            refine A.cons (A.q (some 32) (.bool true) (by kernel_rfl) (qt_pure (by kernel_rfl) fun _ => by kernel_rfl) ?_)
            refine A.cons (A.q (some 33) (.bool true) (by kernel_rfl) (qt_move rfl rfl) ?_)
            refine A.cons (A.jump (some 34) rfl rfl (by intro x hx; cases hx; rfl) ?_)
            refine A.cons (A.jump (some 35) rfl rfl (by intro x hx; cases hx; rfl) ?_)
            refine A.cons (A.q (some 36) (.bool true) (by kernel_rfl) (qt_pure (by kernel_rfl) fun _ => by kernel_rfl) ?_)
            refine A.cons (A.q (some 37) (.bool true) (by kernel_rfl) (qt_move rfl rfl) ?_)
            refine A.cons (A.jump (some 38) rfl rfl (by intro x hx; cases hx; rfl) ?_)
            refine A.cons (A.jump (some 39) rfl rfl (by intro x hx; cases hx; rfl) ?_)
            refine A.cons (A.q (some 40) (.bool true) (by kernel_rfl) (qt_pure (by kernel_rfl) fun _ => by kernel_rfl) ?_)
            refine A.done ?_
            exact A.meet () trivial (A.here (by exact ⟨rfl, rfl, rfl, rfl, rfl, rfl, rfl, (by rw [e4]; rfl), trivial⟩) (List.Sublist.refl _))
          · skip
            refine A.sub [(0, (.int .i64 (r : Int))), (1, (.int .i64 m)), (2, (.slice A0 l.length c0)), (6, (.bool false)), (19, (.bool (decide ((l.length : Int) > 100)))), (7, (.pointer none)), (8, (.int .i64 1)), (27, (.int .i64 (r : Int))), (28, (.bool false)), (29, (.bool false))] (by exact ⟨rfl, rfl, rfl, rfl, rfl, rfl, rfl, rfl, (congrArg (fun z => some (Value.bool z)) e4), (congrArg (fun z => some (Value.bool z)) e4), trivial⟩) ?_
            refine A.cons (A.q (some 30) (.int .i64 (r : Int)) (by kernel_rfl) (qt_move rfl rfl) ?_)
            refine A.cons (A.q (some 31) (.bool (decide ((r : Int) > 64))) (by kernel_rfl) (qt_pure (by kernel_rfl) fun _ => by kernel_rfl) ?_)
            refine A.cons (A.q (some 32) (.bool (decide ((r : Int) > 64))) (by kernel_rfl) (qt_pure (by kernel_rfl) fun _ => by kernel_rfl) ?_)
            refine A.cons (A.q (some 33) (.bool (decide ((r : Int) > 64))) (by kernel_rfl) (qt_move rfl rfl) ?_)
            refine A.bool (decide ((r : Int) > 64)) (fun e5 => ?_) (fun e5 => ?_)
            · skip
              refine A.sub [(0, (.int .i64 (r : Int))), (1, (.int .i64 m)), (2, (.slice A0 l.length c0)), (6, (.bool false)), (19, (.bool (decide ((l.length : Int) > 100)))), (7, (.pointer none)), (8, (.int .i64 1)), (27, (.int .i64 (r : Int))), (28, (.bool false)), (29, (.bool false)), (30, (.int .i64 (r : Int))), (31, (.bool true)), (32, (.bool true)), (33, (.bool true))] (by exact ⟨rfl, rfl, rfl, rfl, rfl, rfl, rfl, rfl, rfl, rfl, rfl, (congrArg (fun z => some (Value.bool z)) e5), (congrArg (fun z => some (Value.bool z)) e5), (congrArg (fun z => some (Value.bool z)) e5), trivial⟩) ?_
              refine A.cons (A.jump (some 34) rfl rfl (by intro x hx; cases hx; rfl) ?_)
              refine A.cons (A.jump (some 35) rfl rfl (by intro x hx; cases hx; rfl) ?_)
              refine A.cons (A.q (some 36) (.bool true) (by kernel_rfl) (qt_pure (by kernel_rfl) fun _ => by kernel_rfl) ?_)
              refine A.cons (A.q (some 37) (.bool true) (by kernel_rfl) (qt_move rfl rfl) ?_)
              refine A.cons (A.jump (some 38) rfl rfl (by intro x hx; cases hx; rfl) ?_)
              refine A.cons (A.jump (some 39) rfl rfl (by intro x hx; cases hx; rfl) ?_)
              refine A.cons (A.q (some 40) (.bool true) (by kernel_rfl) (qt_pure (by kernel_rfl) fun _ => by kernel_rfl) ?_)
              refine A.done ?_
              exact A.meet () trivial (A.here (by exact ⟨rfl, rfl, rfl, rfl, rfl, rfl, rfl, (by rw [e4, e5]; rfl), trivial⟩) (List.Sublist.refl _))
            · skip
              refine A.sub [(0, (.int .i64 (r : Int))), (1, (.int .i64 m)), (2, (.slice A0 l.length c0)), (6, (.bool false)), (19, (.bool (decide ((l.length : Int) > 100)))), (7, (.pointer none)), (8, (.int .i64 1)), (27, (.int .i64 (r : Int))), (28, (.bool false)), (29, (.bool false)), (30, (.int .i64 (r : Int))), (31, (.bool false)), (32, (.bool false)), (33, (.bool false))] (by exact ⟨rfl, rfl, rfl, rfl, rfl, rfl, rfl, rfl, rfl, rfl, rfl, (congrArg (fun z => some (Value.bool z)) e5), (congrArg (fun z => some (Value.bool z)) e5), (congrArg (fun z => some (Value.bool z)) e5), trivial⟩) ?_
              refine A.cons (A.q (some 34) (.int .i64 m) (by kernel_rfl) (qt_move rfl rfl) ?_)
              refine A.cons (A.q (some 35) (.bool (decide (m < 1))) (by kernel_rfl) (qt_pure (by kernel_rfl) fun _ => by kernel_rfl) ?_)
              refine A.cons (A.q (some 36) (.bool (decide (m < 1))) (by kernel_rfl) (qt_pure (by kernel_rfl) fun _ => by kernel_rfl) ?_)
              refine A.cons (A.q (some 37) (.bool (decide (m < 1))) (by kernel_rfl) (qt_move rfl rfl) ?_)
              refine A.bool (decide (m < 1)) (fun e6 => ?_) (fun e6 => ?_)
              · skip
                refine A.sub [(0, (.int .i64 (r : Int))), (1, (.int .i64 m)), (2, (.slice A0 l.length c0)), (6, (.bool false)), (19, (.bool (decide ((l.length : Int) > 100)))), (7, (.pointer none)), (8, (.int .i64 1)), (27, (.int .i64 (r : Int))), (28, (.bool false)), (29, (.bool false)), (30, (.int .i64 (r : Int))), (31, (.bool false)), (32, (.bool false)), (33, (.bool false)), (34, (.int .i64 m)), (35, (.bool true)), (36, (.bool true)), (37, (.bool true))] (by exact ⟨rfl, rfl, rfl, rfl, rfl, rfl, rfl, rfl, rfl, rfl, rfl, rfl, rfl, rfl, rfl, (congrArg (fun z => some (Value.bool z)) e6), (congrArg (fun z => some (Value.bool z)) e6), (congrArg (fun z => some (Value.bool z)) e6), trivial⟩) ?_
                refine A.cons (A.jump (some 38) rfl rfl (by intro x hx; cases hx; rfl) ?_)
                refine A.cons (A.jump (some 39) rfl rfl (by intro x hx; cases hx; rfl) ?_)
                refine A.cons (A.q (some 40) (.bool true) (by kernel_rfl) (qt_pure (by kernel_rfl) fun _ => by kernel_rfl) ?_)
                refine A.done ?_
                exact A.meet () trivial (A.here (by exact ⟨rfl, rfl, rfl, rfl, rfl, rfl, rfl, (by rw [e4, e5, e6]; rfl), trivial⟩) (List.Sublist.refl _))
              · skip
                refine A.sub [(0, (.int .i64 (r : Int))), (1, (.int .i64 m)), (2, (.slice A0 l.length c0)), (6, (.bool false)), (19, (.bool (decide ((l.length : Int) > 100)))), (7, (.pointer none)), (8, (.int .i64 1)), (27, (.int .i64 (r : Int))), (28, (.bool false)), (29, (.bool false)), (30, (.int .i64 (r : Int))), (31, (.bool false)), (32, (.bool false)), (33, (.bool false)), (34, (.int .i64 m)), (35, (.bool false)), (36, (.bool false)), (37, (.bool false))] (by exact ⟨rfl, rfl, rfl, rfl, rfl, rfl, rfl, rfl, rfl, rfl, rfl, rfl, rfl, rfl, rfl, (congrArg (fun z => some (Value.bool z)) e6), (congrArg (fun z => some (Value.bool z)) e6), (congrArg (fun z => some (Value.bool z)) e6), trivial⟩) ?_
                refine A.cons (A.q (some 38) (.int .i64 m) (by kernel_rfl) (qt_move rfl rfl) ?_)
                refine A.cons (A.q (some 39) (.bool (decide (m > 1048576))) (by kernel_rfl) (qt_pure (by kernel_rfl) fun _ => by kernel_rfl) ?_)
                refine A.cons (A.q (some 40) (.bool (decide (m > 1048576))) (by kernel_rfl) (qt_pure (by kernel_rfl) fun _ => by kernel_rfl) ?_)
                refine A.done ?_
                exact A.meet () trivial (A.here (by exact ⟨rfl, rfl, rfl, rfl, rfl, rfl, rfl, (by rw [e4, e5, e6]; rfl), trivial⟩) (List.Sublist.refl _))
        · skip
          refine A.tn ?_
          refine A.cond (E := (decide ((r : Int) < 1)) || ((decide ((r : Int) > 64)) || ((decide (m < 1)) || (decide (m > 1048576))))) rfl (fun e7 => ?_) (fun e7 => ?_)
          · skip
            have p7 := e7; try simp only [decide_eq_true_eq, decide_eq_false_iff_not, beq_iff_eq, beq_eq_false_iff_ne, bne_iff_ne, bne_eq_false_iff_eq, ne_eq, Bool.and_eq_true, Bool.or_eq_true, Bool.or_eq_false_iff, Bool.not_eq_true', Bool.not_eq_false', Int.not_lt, Int.not_le, gt_iff_lt, ge_iff_le, Classical.not_not] at p7
            refine A.seq ?_
            refine A.region ?_
            refine A.cons (A.q (some 41) (.int .i64 1) (by kernel_rfl) (qt_move rfl rfl) ?_)
            refine A.cons (A.q (some 42) (.bool true) (by kernel_rfl) (qt_pure (by kernel_rfl) fun _ => by kernel_rfl) ?_)
            refine A.cons (A.q (some 43) (.bool true) (by kernel_rfl) (qt_move rfl rfl) ?_)
            refine A.cons (A.q (some 44) (.pointer none) (by kernel_rfl) (qt_move rfl rfl) ?_)
            refine A.cons (A.q (some 45) (.bool true) (by kernel_rfl) (qt_pure (by kernel_rfl) fun _ => by kernel_rfl) ?_)
            refine A.cons (A.q (some 46) (.bool true) (by kernel_rfl) (qt_pure (by kernel_rfl) fun _ => by kernel_rfl) ?_)
            refine A.cons (A.q (some 47) (.bool true) (by kernel_rfl) (qt_move rfl rfl) ?_)
            refine A.cons (A.q (some 48) (.bool true) (by kernel_rfl) (qt_call [] rfl (by kernel_rfl) rfl (fun w _ => hundred_spec  w)) ?_)
            refine A.cons (A.q (some 49) (.bool true) (by kernel_rfl) (qt_pure (by kernel_rfl) fun _ => by kernel_rfl) ?_)
            refine A.cons (A.q (some 6) (.bool true) (by kernel_rfl) (qt_assign rfl rfl) ?_)
            refine A.done ?_
            refine A.norm [(0, (.int .i64 (r : Int))), (1, (.int .i64 m)), (2, (.slice A0 l.length c0)), (6, (.bool true)), (19, (.bool (decide ((l.length : Int) > 100)))), (7, (.pointer none)), (8, (.int .i64 1)), (40, (.bool ((decide ((r : Int) < 1)) || ((decide ((r : Int) > 64)) || ((decide (m < 1)) || (decide (m > 1048576)))))))] [] (by exact ⟨rfl, rfl, rfl, rfl, rfl, rfl, rfl, rfl, trivial⟩) rfl ?_
            refine A.tn ?_
            refine A.ret ?_
            refine A.tr ?_
            refine A.post [(.bool true)] (fun a w rr s => ⟨rv_tmp rr rfl, trivial⟩) (fun w1 s => ?_)
            exact ⟨rfl, s.fr⟩
          · exact absurd e7 (by first | (simp; done) | (simp; omega) | omega | grind)
      · exact absurd e3 (by first | (simp; done) | (simp; omega) | omega | grind)

end Go.Proofs.Ytkfmboicmdnjpaa
