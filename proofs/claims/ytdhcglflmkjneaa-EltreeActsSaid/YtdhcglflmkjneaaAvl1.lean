/- What the functions of this layer do, proved operation by operation, for all arguments, under the conditions that each theorem states. -/
import Derived.Test.YtdhcglflmkjneaaProg
import Derived.Test.YtdhcglflmkjneaaAvlP
namespace Go.Proofs.Ytdhcglflmkjneaa
open Go V
set_option linter.unusedVariables false
set_option linter.unusedSimpArgs false

set_option maxHeartbeats 4000000 in
set_option maxRecDepth 100000 in
theorem compare_spec (x i y j : Int) (w : World) :
    Calls Try.prog 63 #[(.agg #[(u_ x), (i_ i)]), (.agg #[(u_ y), (i_ j)])] w fun e w' => e = .returned (i_ (cmp x i y j)) ∧ Fr [] w w' := by
  refine calls_of (args := [(.agg #[(u_ x), (i_ i)]), (.agg #[(u_ y), (i_ j)])]) (penv [(.agg #[(u_ x), (i_ i)]), (.agg #[(u_ y), (i_ j)])]) [] [] Try.func63 rfl rfl (look_penv _) (HS.nil w) ?_
  refine A.norm [(0, (.agg #[(u_ x), (i_ i)])), (1, (.agg #[(u_ y), (i_ j)]))] [] (by exact ⟨rfl, rfl, trivial⟩) rfl ?_
  refine A.seq ?_
  refine A.region (A.goA2 [.al, .al, .p] [0, 1, 2, 3, 4] (fun b1 b2 => [(0, (.agg #[(u_ x), (i_ i)])), (1, (.agg #[(u_ y), (i_ j)])), (2, (p_ b1)), (3, (p_ b2)), (4, (i_ 0))]) (fun b1 b2 => [blk b1 [(u_ x), (i_ i)] 66, blk b2 [(u_ y), (i_ j)] 66]) (fun b1 b2 => []) (fun _ _ => T0) (fun _ _ => by kernel_rfl) (fun b1 b2 => trivial) ?_)
  intro b1 b2
  refine A.tn ?_
  refine A.seq ?_
  refine A.block ?_
  refine A.seq ?_
  refine A.region (A.goA [.ld 0, .ld 1, .eq, .p] [(0, (.agg #[(u_ x), (i_ i)])), (1, (.agg #[(u_ y), (i_ j)])), (2, (p_ b1)), (3, (p_ b2)), (4, (i_ 0)), (5, (b_ ((x == y) && (i == j))))] [b1, b2] T0 (by kernel_rfl) trivial ?_)
  refine A.tn ?_
  refine A.cond (E := (x == y) && (i == j)) rfl (fun e1 => ?_) (fun e1 => ?_)
  · skip
    have p1 := e1; try simp only [decide_eq_true_eq, decide_eq_false_iff_not, beq_iff_eq, beq_eq_false_iff_ne, bne_iff_ne, bne_eq_false_iff_eq, ne_eq, Bool.and_eq_true, Bool.or_eq_true, Bool.or_eq_false_iff, Bool.not_eq_true', Bool.not_eq_false', Int.not_lt, Int.not_le, gt_iff_lt, ge_iff_le, Classical.not_not] at p1
    refine A.seq ?_
    refine A.region (A.goA [.p] [(0, (.agg #[(u_ x), (i_ i)])), (1, (.agg #[(u_ y), (i_ j)])), (2, (p_ b1)), (3, (p_ b2)), (4, (i_ 0)), (5, (b_ ((x == y) && (i == j))))] [] T0 (by kernel_rfl) trivial ?_)
    refine A.tn ?_
    refine A.ret ?_
    refine A.br ?_
    refine A.tr ?_
    refine A.postQ [(i_ 0)] (fun aa ww rr ss => ⟨rv_tmp rr rfl, trivial⟩) ?_
    show ((i_ 0) : Value) = (i_ (cmp x i y j))
    simp [cmp] at *; try simp_all; try omega
  · skip
    have p1 := e1; try simp only [decide_eq_true_eq, decide_eq_false_iff_not, beq_iff_eq, beq_eq_false_iff_ne, bne_iff_ne, bne_eq_false_iff_eq, ne_eq, Bool.and_eq_true, Bool.or_eq_true, Bool.or_eq_false_iff, Bool.not_eq_true', Bool.not_eq_false', Int.not_lt, Int.not_le, gt_iff_lt, ge_iff_le, Classical.not_not] at p1
    refine A.seq ?_
    refine A.region (A.goA [.p, .ld 0, .p, .ld 1, .p, .p, .o, .p, .ld 0, .p, .ld 1, .p, .p, .o, .p, .ld 0, .p, .ld 1, .p, .cl, .cl, .p] [(0, (.agg #[(u_ x), (i_ i)])), (1, (.agg #[(u_ y), (i_ j)])), (2, (p_ b1)), (3, (p_ b2)), (4, (i_ 0)), (5, (b_ ((x == y) && (i == j)))), (9, (b_ ((decide (x < y)) || ((x == y) && (decide (i < j))))))] [b1, b2, b1, b2, b1, b2] T0 (by kernel_rfl) trivial ?_)
    refine A.tn ?_
    refine A.cond (E := (decide (x < y)) || ((x == y) && (decide (i < j)))) rfl (fun e2 => ?_) (fun e2 => ?_)
    · skip
      have p2 := e2; try simp only [decide_eq_true_eq, decide_eq_false_iff_not, beq_iff_eq, beq_eq_false_iff_ne, bne_iff_ne, bne_eq_false_iff_eq, ne_eq, Bool.and_eq_true, Bool.or_eq_true, Bool.or_eq_false_iff, Bool.not_eq_true', Bool.not_eq_false', Int.not_lt, Int.not_le, gt_iff_lt, ge_iff_le, Classical.not_not] at p2
      refine A.seq ?_
      refine A.region (A.goA [.p] [(0, (.agg #[(u_ x), (i_ i)])), (1, (.agg #[(u_ y), (i_ j)])), (2, (p_ b1)), (3, (p_ b2)), (4, (i_ (-1))), (5, (b_ ((x == y) && (i == j)))), (9, (b_ ((decide (x < y)) || ((x == y) && (decide (i < j))))))] [] T0 (by kernel_rfl) trivial ?_)
      refine A.tn ?_
      refine A.ret ?_
      refine A.br ?_
      refine A.tr ?_
      refine A.postQ [(i_ (-1))] (fun aa ww rr ss => ⟨rv_tmp rr rfl, trivial⟩) ?_
      show ((i_ (-1)) : Value) = (i_ (cmp x i y j))
      simp [cmp] at *; try simp_all; try omega
    · skip
      have p2 := e2; try simp only [decide_eq_true_eq, decide_eq_false_iff_not, beq_iff_eq, beq_eq_false_iff_ne, bne_iff_ne, bne_eq_false_iff_eq, ne_eq, Bool.and_eq_true, Bool.or_eq_true, Bool.or_eq_false_iff, Bool.not_eq_true', Bool.not_eq_false', Int.not_lt, Int.not_le, gt_iff_lt, ge_iff_le, Classical.not_not] at p2
      refine A.skip ?_
      refine A.bn ?_
      refine A.tn ?_
      refine A.seq ?_
      refine A.region (A.goA [.p] [(0, (.agg #[(u_ x), (i_ i)])), (1, (.agg #[(u_ y), (i_ j)])), (2, (p_ b1)), (3, (p_ b2)), (4, (i_ 1)), (5, (b_ ((x == y) && (i == j)))), (9, (b_ ((decide (x < y)) || ((x == y) && (decide (i < j))))))] [] T0 (by kernel_rfl) trivial ?_)
      refine A.tn ?_
      refine A.ret ?_
      refine A.postQ [(i_ 1)] (fun aa ww rr ss => ⟨rv_tmp rr rfl, trivial⟩) ?_
      show ((i_ 1) : Value) = (i_ (cmp x i y j))
      simp [cmp] at *; try simp_all; try omega

set_option maxHeartbeats 4000000 in
set_option maxRecDepth 100000 in
theorem better_spec (a b : It) (w : World) :
    Calls Try.prog 53 #[(.agg #[(u_ a.ka), (i_ a.ki), (u_ a.va), (i_ a.vi)]), (.agg #[(u_ b.ka), (i_ b.ki), (u_ b.va), (i_ b.vi)])] w fun e w' => e = .returned (.agg #[(u_ ((bet a b).ka)), (i_ ((bet a b).ki)), (u_ ((bet a b).va)), (i_ ((bet a b).vi))]) ∧ Fr [] w w' := by
  refine calls_of (args := [(.agg #[(u_ a.ka), (i_ a.ki), (u_ a.va), (i_ a.vi)]), (.agg #[(u_ b.ka), (i_ b.ki), (u_ b.va), (i_ b.vi)])]) (penv [(.agg #[(u_ a.ka), (i_ a.ki), (u_ a.va), (i_ a.vi)]), (.agg #[(u_ b.ka), (i_ b.ki), (u_ b.va), (i_ b.vi)])]) [] [] Try.func53 rfl rfl (look_penv _) (HS.nil w) ?_
  refine A.norm [(0, (.agg #[(u_ a.ka), (i_ a.ki), (u_ a.va), (i_ a.vi)])), (1, (.agg #[(u_ b.ka), (i_ b.ki), (u_ b.va), (i_ b.vi)]))] [] (by exact ⟨rfl, rfl, trivial⟩) rfl ?_
  refine A.seq ?_
  refine A.region (A.goA3 [.al, .al, .al] [0, 1, 2, 3, 4] (fun b1 b2 b3 => [(0, (.agg #[(u_ a.ka), (i_ a.ki), (u_ a.va), (i_ a.vi)])), (1, (.agg #[(u_ b.ka), (i_ b.ki), (u_ b.va), (i_ b.vi)])), (2, (p_ b1)), (3, (p_ b2)), (4, (p_ b3))]) (fun b1 b2 b3 => [blk b1 [(u_ a.ka), (i_ a.ki), (u_ a.va), (i_ a.vi)] 68, blk b2 [(u_ b.ka), (i_ b.ki), (u_ b.va), (i_ b.vi)] 68, blk b3 [(u_ 0), (i_ 0), (u_ 0), (i_ 0)] 68]) (fun b1 b2 b3 => []) (fun _ _ _ => T0) (fun _ _ _ => by kernel_rfl) (fun b1 b2 b3 => trivial) ?_)
  intro b1 b2 b3
  refine A.tn ?_
  refine A.seq ?_
  refine A.region (A.goA [.p, .ld 1, .p, .ld 0, .cq (i_ (cmp b.va b.vi a.va a.vi)), .p] [(0, (.agg #[(u_ a.ka), (i_ a.ki), (u_ a.va), (i_ a.vi)])), (1, (.agg #[(u_ b.ka), (i_ b.ki), (u_ b.va), (i_ b.vi)])), (2, (p_ b1)), (3, (p_ b2)), (4, (p_ b3)), (5, (i_ (cmp b.va b.vi a.va a.vi)))] [b2, b1] (fun κ => κ.call 63 [(.agg #[(u_ b.va), (i_ b.vi)]), (.agg #[(u_ a.va), (i_ a.vi)])] (i_ (cmp b.va b.vi a.va a.vi)) ∧ True) (by kernel_rfl) ⟨(fun ww ss => compare_spec b.va b.vi a.va a.vi ww), trivial⟩ ?_)
  refine A.tn ?_
  refine A.seq ?_
  refine A.seq ?_
  refine A.region (A.goA [.p, .p, .p, .o, .p, .p, .p, .o, .p, .ld 1, .p, .ld 0, .cq (i_ (cmp b.ka b.ki a.ka a.ki)), .p, .cl, .cl] [(0, (.agg #[(u_ a.ka), (i_ a.ki), (u_ a.va), (i_ a.vi)])), (1, (.agg #[(u_ b.ka), (i_ b.ki), (u_ b.va), (i_ b.vi)])), (2, (p_ b1)), (3, (p_ b2)), (4, (p_ b3)), (5, (i_ (cmp b.va b.vi a.va a.vi))), (24, (b_ ((decide ((cmp b.va b.vi a.va a.vi) < 0)) || (((cmp b.va b.vi a.va a.vi) == 0) && (decide ((cmp b.ka b.ki a.ka a.ki) < 0))))))] [b2, b1] (fun κ => (((true && ((decide ((cmp b.va b.vi a.va a.vi) < 0)) == false)) && (((cmp b.va b.vi a.va a.vi) == 0) == true)) = true → κ.call 63 [(.agg #[(u_ b.ka), (i_ b.ki)]), (.agg #[(u_ a.ka), (i_ a.ki)])] (i_ (cmp b.ka b.ki a.ka a.ki))) ∧ True) (by kernel_rfl) ⟨(fun h_ => (fun ww ss => compare_spec b.ka b.ki a.ka a.ki ww)), trivial⟩ ?_)
  refine A.tn ?_
  refine A.cond (E := (decide ((cmp b.va b.vi a.va a.vi) < 0)) || (((cmp b.va b.vi a.va a.vi) == 0) && (decide ((cmp b.ka b.ki a.ka a.ki) < 0)))) rfl (fun e1 => ?_) (fun e1 => ?_)
  · skip
    have p1 := e1; try simp only [decide_eq_true_eq, decide_eq_false_iff_not, beq_iff_eq, beq_eq_false_iff_ne, bne_iff_ne, bne_eq_false_iff_eq, ne_eq, Bool.and_eq_true, Bool.or_eq_true, Bool.or_eq_false_iff, Bool.not_eq_true', Bool.not_eq_false', Int.not_lt, Int.not_le, gt_iff_lt, ge_iff_le, Classical.not_not] at p1
    refine A.seq ?_
    refine A.region (A.goAS [.ld 1, .st 2] [(0, (.agg #[(u_ a.ka), (i_ a.ki), (u_ a.va), (i_ a.vi)])), (1, (.agg #[(u_ b.ka), (i_ b.ki), (u_ b.va), (i_ b.vi)])), (2, (p_ b1)), (3, (p_ b2)), (4, (p_ b3)), (5, (i_ (cmp b.va b.vi a.va a.vi))), (24, (b_ ((decide ((cmp b.va b.vi a.va a.vi) < 0)) || (((cmp b.va b.vi a.va a.vi) == 0) && (decide ((cmp b.ka b.ki a.ka a.ki) < 0))))))] [blk b1 [(u_ a.ka), (i_ a.ki), (u_ a.va), (i_ a.vi)] 68, blk b2 [(u_ b.ka), (i_ b.ki), (u_ b.va), (i_ b.vi)] 68, blk b3 [(u_ b.ka), (i_ b.ki), (u_ b.va), (i_ b.vi)] 68] [b2, b3] T0 (by kernel_rfl) trivial ?_)
    refine A.tn ?_
    refine A.ret ?_
    refine A.tr ?_
    refine A.postQ [(.agg #[(u_ b.ka), (i_ b.ki), (u_ b.va), (i_ b.vi)])] (fun aa ww rr ss => ⟨rv_cellN (vs := [(u_ b.ka), (i_ b.ki), (u_ b.va), (i_ b.vi)]) rr ss rfl (by kernel_rfl) (reads_blk (i := 2) rfl rfl), trivial⟩) ?_
    show ((.agg #[(u_ b.ka), (i_ b.ki), (u_ b.va), (i_ b.vi)]) : Value) = (.agg #[(u_ ((bet a b).ka)), (i_ ((bet a b).ki)), (u_ ((bet a b).va)), (i_ ((bet a b).vi))])
    first | rw [show bet a b = a from by unfold bet; grind [cmp_neg, cmp_zero]] | rw [show bet a b = b from by unfold bet; grind [cmp_neg, cmp_zero]]
  · skip
    have p1 := e1; try simp only [decide_eq_true_eq, decide_eq_false_iff_not, beq_iff_eq, beq_eq_false_iff_ne, bne_iff_ne, bne_eq_false_iff_eq, ne_eq, Bool.and_eq_true, Bool.or_eq_true, Bool.or_eq_false_iff, Bool.not_eq_true', Bool.not_eq_false', Int.not_lt, Int.not_le, gt_iff_lt, ge_iff_le, Classical.not_not] at p1
    refine A.skip ?_
    refine A.tn ?_
    refine A.seq ?_
    refine A.region (A.goAS [.ld 0, .st 2] [(0, (.agg #[(u_ a.ka), (i_ a.ki), (u_ a.va), (i_ a.vi)])), (1, (.agg #[(u_ b.ka), (i_ b.ki), (u_ b.va), (i_ b.vi)])), (2, (p_ b1)), (3, (p_ b2)), (4, (p_ b3)), (5, (i_ (cmp b.va b.vi a.va a.vi))), (24, (b_ ((decide ((cmp b.va b.vi a.va a.vi) < 0)) || (((cmp b.va b.vi a.va a.vi) == 0) && (decide ((cmp b.ka b.ki a.ka a.ki) < 0))))))] [blk b1 [(u_ a.ka), (i_ a.ki), (u_ a.va), (i_ a.vi)] 68, blk b2 [(u_ b.ka), (i_ b.ki), (u_ b.va), (i_ b.vi)] 68, blk b3 [(u_ a.ka), (i_ a.ki), (u_ a.va), (i_ a.vi)] 68] [b1, b3] T0 (by kernel_rfl) trivial ?_)
    refine A.tn ?_
    refine A.ret ?_
    refine A.postQ [(.agg #[(u_ a.ka), (i_ a.ki), (u_ a.va), (i_ a.vi)])] (fun aa ww rr ss => ⟨rv_cellN (vs := [(u_ a.ka), (i_ a.ki), (u_ a.va), (i_ a.vi)]) rr ss rfl (by kernel_rfl) (reads_blk (i := 2) rfl rfl), trivial⟩) ?_
    show ((.agg #[(u_ a.ka), (i_ a.ki), (u_ a.va), (i_ a.vi)]) : Value) = (.agg #[(u_ ((bet a b).ka)), (i_ ((bet a b).ki)), (u_ ((bet a b).va)), (i_ ((bet a b).vi))])
    first | rw [show bet a b = a from by unfold bet; grind [cmp_neg, cmp_zero]] | rw [show bet a b = b from by unfold bet; grind [cmp_neg, cmp_zero]]

set_option maxHeartbeats 4000000 in
set_option maxRecDepth 100000 in
theorem high_nil (w : World) :
    Calls Try.prog 61 #[n_] w fun e w' => e = .returned (i_ 0) ∧ Fr [] w w' := by
  refine calls_of (args := [n_]) (penv [n_]) [] [] Try.func61 rfl rfl (look_penv _) (HS.nil w) ?_
  refine A.norm [(0, n_)] [] (by exact ⟨rfl, trivial⟩) rfl ?_
  refine A.seq ?_
  refine A.region (A.goA [.p] [(0, n_), (2, (i_ 0))] [] T0 (by kernel_rfl) trivial ?_)
  refine A.tn ?_
  refine A.seq ?_
  refine A.seq ?_
  refine A.region (A.goA [.p, .p] [(0, n_), (2, (i_ 0)), (4, (b_ true))] [] T0 (by kernel_rfl) trivial ?_)
  refine A.tn ?_
  refine A.cond_t rfl ?_
  refine A.seq ?_
  refine A.region (A.goA [.p] [(0, n_), (2, (i_ 0)), (4, (b_ true))] [] T0 (by kernel_rfl) trivial ?_)
  refine A.tn ?_
  refine A.ret ?_
  refine A.tr ?_
  refine A.postQ [(i_ 0)] (fun aa ww rr ss => ⟨rv_tmp rr rfl, trivial⟩) ?_
  rfl

set_option maxHeartbeats 4000000 in
set_option maxRecDepth 100000 in
theorem high_blk (b : Nat) (x m : It) (h n : Int) (l r : T) (w : World) (r0 : (blk b [(u_ x.ka), (i_ x.ki), (u_ x.va), (i_ x.vi), (.pointer (T.ptr l)), (.pointer (T.ptr r)), (u_ m.ka), (i_ m.ki), (u_ m.va), (i_ m.vi), (i_ h), (i_ n)] 92).holds w) :
    Calls Try.prog 61 #[(p_ b)] w fun e w' => e = .returned (i_ h) ∧ Fr [] w w' := by
  refine calls_of (args := [(p_ b)]) (penv [(p_ b)]) [] [] Try.func61 rfl rfl (look_penv _) (HS.nil w) ?_
  refine A.norm [(0, (p_ b))] [] (by exact ⟨rfl, trivial⟩) rfl ?_
  refine A.seq ?_
  refine A.region (A.goA [.p] [(0, (p_ b)), (2, (i_ 0))] [] T0 (by kernel_rfl) trivial ?_)
  refine A.tn ?_
  refine A.seq ?_
  refine A.seq ?_
  refine A.region (A.goA [.p, .p] [(0, (p_ b)), (2, (i_ 0)), (4, (b_ false))] [] T0 (by kernel_rfl) trivial ?_)
  refine A.tn ?_
  refine A.cond_f rfl ?_
  refine A.skip ?_
  refine A.tn ?_
  refine A.seq ?_
  refine A.region (A.goA [.p, .p, .p, .rd [(i_ h)], .p] [(0, (p_ b)), (2, (i_ h)), (4, (b_ false))] [] (fun κ => κ.rd ⟨b, 10, none⟩ [(i_ h)] ∧ True) (by kernel_rfl) ⟨(reads_oldblk r0 rfl), trivial⟩ ?_)
  refine A.tn ?_
  refine A.ret ?_
  refine A.postQ [(i_ h)] (fun aa ww rr ss => ⟨rv_tmp rr rfl, trivial⟩) ?_
  rfl

set_option maxHeartbeats 4000000 in
set_option maxRecDepth 100000 in
theorem high_tree (t : T) (w : World) (r0 : (treeI 92 t).holds w) :
    Calls Try.prog 61 #[(.pointer (T.ptr t))] w fun e w' => e = .returned (i_ (T.hgt t)) ∧ Fr [] w w' := by
  refine calls_of (args := [(.pointer (T.ptr t))]) (penv [(.pointer (T.ptr t))]) [] [] Try.func61 rfl rfl (look_penv _) (HS.nil w) ?_
  refine A.norm [(0, (.pointer (T.ptr t)))] [] (by exact ⟨rfl, trivial⟩) rfl ?_
  refine A.seq ?_
  refine A.region (A.goA [.p] [(0, (.pointer (T.ptr t))), (2, (i_ 0))] [] T0 (by kernel_rfl) trivial ?_)
  refine A.tn ?_
  refine A.seq ?_
  refine A.seq ?_
  refine A.region (A.goP [.p] [(0, (.pointer (T.ptr t))), (2, (i_ 0)), (3, (.pointer (T.ptr t)))] [] T0 (by kernel_rfl) trivial ?_)
  rcases t with _ | ⟨b1, x2, m3, h4, n5, l6, r7⟩
  · skip
    refine A.goA [.p] [(0, n_), (2, (i_ 0)), (4, (b_ true))] [] T0 (by kernel_rfl) trivial ?_
    refine A.tn ?_
    refine A.cond_t rfl ?_
    refine A.seq ?_
    refine A.region (A.goA [.p] [(0, n_), (2, (i_ 0)), (4, (b_ true))] [] T0 (by kernel_rfl) trivial ?_)
    refine A.tn ?_
    refine A.ret ?_
    refine A.tr ?_
    refine A.postQ [(i_ 0)] (fun aa ww rr ss => ⟨rv_tmp rr rfl, trivial⟩) ?_
    show ((i_ 0) : Value) = (i_ (T.hgt T.nil))
    first | rfl | simp_all
  · skip
    refine A.goA [.p] [(0, (p_ b1)), (2, (i_ 0)), (4, (b_ false))] [] T0 (by kernel_rfl) trivial ?_
    refine A.tn ?_
    refine A.cond_f rfl ?_
    refine A.skip ?_
    refine A.tn ?_
    refine A.seq ?_
    refine A.region (A.goA [.p, .p, .p, .rd [(i_ h4)], .p] [(0, (p_ b1)), (2, (i_ h4)), (4, (b_ false))] [] (fun κ => κ.rd ⟨b1, 10, none⟩ [(i_ h4)] ∧ True) (by kernel_rfl) ⟨(reads_oldblk r0.1 rfl), trivial⟩ ?_)
    refine A.tn ?_
    refine A.ret ?_
    refine A.postQ [(i_ h4)] (fun aa ww rr ss => ⟨rv_tmp rr rfl, trivial⟩) ?_
    show ((i_ h4) : Value) = (i_ (T.hgt (T.node b1 x2 m3 h4 n5 l6 r7)))
    first | rfl | simp_all

set_option maxHeartbeats 4000000 in
set_option maxRecDepth 100000 in
theorem many_nil (w : World) :
    Calls Try.prog 62 #[n_] w fun e w' => e = .returned (i_ 0) ∧ Fr [] w w' := by
  refine calls_of (args := [n_]) (penv [n_]) [] [] Try.func62 rfl rfl (look_penv _) (HS.nil w) ?_
  refine A.norm [(0, n_)] [] (by exact ⟨rfl, trivial⟩) rfl ?_
  refine A.seq ?_
  refine A.region (A.goA [.p] [(0, n_), (2, (i_ 0))] [] T0 (by kernel_rfl) trivial ?_)
  refine A.tn ?_
  refine A.seq ?_
  refine A.seq ?_
  refine A.region (A.goA [.p, .p] [(0, n_), (2, (i_ 0)), (4, (b_ true))] [] T0 (by kernel_rfl) trivial ?_)
  refine A.tn ?_
  refine A.cond_t rfl ?_
  refine A.seq ?_
  refine A.region (A.goA [.p] [(0, n_), (2, (i_ 0)), (4, (b_ true))] [] T0 (by kernel_rfl) trivial ?_)
  refine A.tn ?_
  refine A.ret ?_
  refine A.tr ?_
  refine A.postQ [(i_ 0)] (fun aa ww rr ss => ⟨rv_tmp rr rfl, trivial⟩) ?_
  rfl

set_option maxHeartbeats 4000000 in
set_option maxRecDepth 100000 in
theorem many_blk (b : Nat) (x m : It) (h n : Int) (l r : T) (w : World) (r0 : (blk b [(u_ x.ka), (i_ x.ki), (u_ x.va), (i_ x.vi), (.pointer (T.ptr l)), (.pointer (T.ptr r)), (u_ m.ka), (i_ m.ki), (u_ m.va), (i_ m.vi), (i_ h), (i_ n)] 92).holds w) :
    Calls Try.prog 62 #[(p_ b)] w fun e w' => e = .returned (i_ n) ∧ Fr [] w w' := by
  refine calls_of (args := [(p_ b)]) (penv [(p_ b)]) [] [] Try.func62 rfl rfl (look_penv _) (HS.nil w) ?_
  refine A.norm [(0, (p_ b))] [] (by exact ⟨rfl, trivial⟩) rfl ?_
  refine A.seq ?_
  refine A.region (A.goA [.p] [(0, (p_ b)), (2, (i_ 0))] [] T0 (by kernel_rfl) trivial ?_)
  refine A.tn ?_
  refine A.seq ?_
  refine A.seq ?_
  refine A.region (A.goA [.p, .p] [(0, (p_ b)), (2, (i_ 0)), (4, (b_ false))] [] T0 (by kernel_rfl) trivial ?_)
  refine A.tn ?_
  refine A.cond_f rfl ?_
  refine A.skip ?_
  refine A.tn ?_
  refine A.seq ?_
  refine A.region (A.goA [.p, .p, .p, .rd [(i_ n)], .p] [(0, (p_ b)), (2, (i_ n)), (4, (b_ false))] [] (fun κ => κ.rd ⟨b, 11, none⟩ [(i_ n)] ∧ True) (by kernel_rfl) ⟨(reads_oldblk r0 rfl), trivial⟩ ?_)
  refine A.tn ?_
  refine A.ret ?_
  refine A.postQ [(i_ n)] (fun aa ww rr ss => ⟨rv_tmp rr rfl, trivial⟩) ?_
  rfl

set_option maxHeartbeats 4000000 in
set_option maxRecDepth 100000 in
theorem many_tree (t : T) (w : World) (r0 : (treeI 92 t).holds w) :
    Calls Try.prog 62 #[(.pointer (T.ptr t))] w fun e w' => e = .returned (i_ (T.cnt t)) ∧ Fr [] w w' := by
  refine calls_of (args := [(.pointer (T.ptr t))]) (penv [(.pointer (T.ptr t))]) [] [] Try.func62 rfl rfl (look_penv _) (HS.nil w) ?_
  refine A.norm [(0, (.pointer (T.ptr t)))] [] (by exact ⟨rfl, trivial⟩) rfl ?_
  refine A.seq ?_
  refine A.region (A.goA [.p] [(0, (.pointer (T.ptr t))), (2, (i_ 0))] [] T0 (by kernel_rfl) trivial ?_)
  refine A.tn ?_
  refine A.seq ?_
  refine A.seq ?_
  refine A.region (A.goP [.p] [(0, (.pointer (T.ptr t))), (2, (i_ 0)), (3, (.pointer (T.ptr t)))] [] T0 (by kernel_rfl) trivial ?_)
  rcases t with _ | ⟨b1, x2, m3, h4, n5, l6, r7⟩
  · skip
    refine A.goA [.p] [(0, n_), (2, (i_ 0)), (4, (b_ true))] [] T0 (by kernel_rfl) trivial ?_
    refine A.tn ?_
    refine A.cond_t rfl ?_
    refine A.seq ?_
    refine A.region (A.goA [.p] [(0, n_), (2, (i_ 0)), (4, (b_ true))] [] T0 (by kernel_rfl) trivial ?_)
    refine A.tn ?_
    refine A.ret ?_
    refine A.tr ?_
    refine A.postQ [(i_ 0)] (fun aa ww rr ss => ⟨rv_tmp rr rfl, trivial⟩) ?_
    show ((i_ 0) : Value) = (i_ (T.cnt T.nil))
    first | rfl | simp_all
  · skip
    refine A.goA [.p] [(0, (p_ b1)), (2, (i_ 0)), (4, (b_ false))] [] T0 (by kernel_rfl) trivial ?_
    refine A.tn ?_
    refine A.cond_f rfl ?_
    refine A.skip ?_
    refine A.tn ?_
    refine A.seq ?_
    refine A.region (A.goA [.p, .p, .p, .rd [(i_ n5)], .p] [(0, (p_ b1)), (2, (i_ n5)), (4, (b_ false))] [] (fun κ => κ.rd ⟨b1, 11, none⟩ [(i_ n5)] ∧ True) (by kernel_rfl) ⟨(reads_oldblk r0.1 rfl), trivial⟩ ?_)
    refine A.tn ?_
    refine A.ret ?_
    refine A.postQ [(i_ n5)] (fun aa ww rr ss => ⟨rv_tmp rr rfl, trivial⟩) ?_
    show ((i_ n5) : Value) = (i_ (T.cnt (T.node b1 x2 m3 h4 n5 l6 r7)))
    first | rfl | simp_all

set_option maxHeartbeats 4000000 in
set_option maxRecDepth 100000 in
theorem learn_spec (b : Nat) (x m : It) (h n : Int) (l r : T) (hl : l.Bd) (hr : r.Bd) (w : World) (hs : HS w (feet [blk b [(u_ x.ka), (i_ x.ki), (u_ x.va), (i_ x.vi), (.pointer (T.ptr l)), (.pointer (T.ptr r)), (u_ m.ka), (i_ m.ki), (u_ m.va), (i_ m.vi), (i_ h), (i_ n)] 92, treeI 92 l, treeI 92 r]) [blk b [(u_ x.ka), (i_ x.ki), (u_ x.va), (i_ x.vi), (.pointer (T.ptr l)), (.pointer (T.ptr r)), (u_ m.ka), (i_ m.ki), (u_ m.va), (i_ m.vi), (i_ h), (i_ n)] 92, treeI 92 l, treeI 92 r] w) :
    Calls Try.prog 51 #[(p_ b)] w fun e w' => ∃ zz, e = .returned ((fun (zz : Unit) => (.tuple #[])) zz) ∧ (fun (zz : Unit) => True) zz ∧ Turn [blk b [(u_ x.ka), (i_ x.ki), (u_ x.va), (i_ x.vi), (.pointer (T.ptr l)), (.pointer (T.ptr r)), (u_ m.ka), (i_ m.ki), (u_ m.va), (i_ m.vi), (i_ h), (i_ n)] 92, treeI 92 l, treeI 92 r] ((fun (zz : Unit) => [blk b [(u_ x.ka), (i_ x.ki), (u_ x.va), (i_ x.vi), (.pointer (T.ptr l)), (.pointer (T.ptr r)), (u_ ((mkM x l r).ka)), (i_ ((mkM x l r).ki)), (u_ ((mkM x l r).va)), (i_ ((mkM x l r).vi)), (i_ (mkH l r)), (i_ (mkN l r))] 92, treeI 92 l, treeI 92 r]) zz) w w' := by
  have hl1 := hl.1; have hl2 := hl.2.1; have hl3 := hl.2.2.1; have hl4 := hl.2.2.2; have hr1 := hr.1; have hr2 := hr.2.1; have hr3 := hr.2.2.1; have hr4 := hr.2.2.2
  refine calls_of (args := [(p_ b)]) (penv [(p_ b)]) (feet [blk b [(u_ x.ka), (i_ x.ki), (u_ x.va), (i_ x.vi), (.pointer (T.ptr l)), (.pointer (T.ptr r)), (u_ m.ka), (i_ m.ki), (u_ m.va), (i_ m.vi), (i_ h), (i_ n)] 92, treeI 92 l, treeI 92 r]) [blk b [(u_ x.ka), (i_ x.ki), (u_ x.va), (i_ x.vi), (.pointer (T.ptr l)), (.pointer (T.ptr r)), (u_ m.ka), (i_ m.ki), (u_ m.va), (i_ m.vi), (i_ h), (i_ n)] 92, treeI 92 l, treeI 92 r] Try.func51 rfl rfl (look_penv _) hs ?_
  refine A.norm [(0, (p_ b))] [blk b [(u_ x.ka), (i_ x.ki), (u_ x.va), (i_ x.vi), (.pointer (T.ptr l)), (.pointer (T.ptr r)), (u_ m.ka), (i_ m.ki), (u_ m.va), (i_ m.vi), (i_ h), (i_ n)] 92, treeI 92 l, treeI 92 r] (by exact ⟨rfl, trivial⟩) rfl ?_
  refine A.seq ?_
  refine A.draw2 [17] 18 (by kernel_rfl) ?_
  refine A.drawP 1 [.p, .p, .p, .p, .p, .ld 0, .cq (i_ (T.hgt l)), .p, .p, .p, .p, .ld 0, .cq (i_ (T.hgt r)), .p, .w (1 + (imax (T.hgt l) (T.hgt r))), .p, .p] [0, 1, 2, 3, 4, 5, 6, 7, 8, 9, 10, 11, 12, 13, 14, 15, 16] [(0, (p_ b)), (18, (i_ (1 + (imax (T.hgt l) (T.hgt r))))), (20, (q_ b 10))] [b, b] (fun κ => κ.call 61 [(.pointer (T.ptr l))] (i_ (T.hgt l)) ∧ κ.call 61 [(.pointer (T.ptr r))] (i_ (T.hgt r)) ∧ (IntKind.i64.wrap (1 + (imax (T.hgt l) (T.hgt r))) = (1 + (imax (T.hgt l) (T.hgt r)))) ∧ True) (by kernel_rfl) ⟨(fun ww ss => high_tree l ww (ss.mem (i := 1) rfl)), (fun ww ss => high_tree r ww (ss.mem (i := 2) rfl)), (wrap_i64 (e := 1 + (imax (T.hgt l) (T.hgt r))) (by first | (constructor <;> omega) | (simp only [imax_eq]; constructor <;> omega))), trivial⟩ ?_
  refine A.only2 17 rfl (by kernel_rfl) (A.store 0 (vs := [(i_ (1 + (imax (T.hgt l) (T.hgt r))))]) [blk b [(u_ x.ka), (i_ x.ki), (u_ x.va), (i_ x.vi), (.pointer (T.ptr l)), (.pointer (T.ptr r)), (u_ m.ka), (i_ m.ki), (u_ m.va), (i_ m.vi), (i_ (1 + (imax (T.hgt l) (T.hgt r)))), (i_ n)] 92, treeI 92 l, treeI 92 r] (by kernel_rfl) rfl rfl rfl rfl (by kernel_rfl) rfl rfl (by kernel_rfl) rfl ?_)
  refine A.stage ?_
  refine A.fin2 (by kernel_rfl) ?_
  refine A.sub [(0, (p_ b))] (by exact ⟨rfl, trivial⟩) ?_
  refine A.tn ?_
  refine A.seq ?_
  refine A.draw2 [17] 18 (by kernel_rfl) ?_
  refine A.drawP 1 [.p, .p, .p, .p, .p, .ld 0, .cq (i_ (T.cnt l)), .w (1 + (T.cnt l)), .p, .p, .p, .p, .ld 0, .cq (i_ (T.cnt r)), .w ((1 + (T.cnt l)) + (T.cnt r)), .p, .p] [0, 1, 2, 3, 4, 5, 6, 7, 8, 9, 10, 11, 12, 13, 14, 15, 16] [(0, (p_ b)), (35, (i_ ((1 + (T.cnt l)) + (T.cnt r)))), (37, (q_ b 11))] [b, b] (fun κ => κ.call 62 [(.pointer (T.ptr l))] (i_ (T.cnt l)) ∧ (IntKind.i64.wrap (1 + (T.cnt l)) = (1 + (T.cnt l))) ∧ κ.call 62 [(.pointer (T.ptr r))] (i_ (T.cnt r)) ∧ (IntKind.i64.wrap ((1 + (T.cnt l)) + (T.cnt r)) = ((1 + (T.cnt l)) + (T.cnt r))) ∧ True) (by kernel_rfl) ⟨(fun ww ss => many_tree l ww (ss.mem (i := 1) rfl)), (wrap_i64 (e := 1 + (T.cnt l)) (by first | (constructor <;> omega) | (simp only [imax_eq]; constructor <;> omega))), (fun ww ss => many_tree r ww (ss.mem (i := 2) rfl)), (wrap_i64 (e := (1 + (T.cnt l)) + (T.cnt r)) (by first | (constructor <;> omega) | (simp only [imax_eq]; constructor <;> omega))), trivial⟩ ?_
  refine A.only2 17 rfl (by kernel_rfl) (A.store 0 (vs := [(i_ ((1 + (T.cnt l)) + (T.cnt r)))]) [blk b [(u_ x.ka), (i_ x.ki), (u_ x.va), (i_ x.vi), (.pointer (T.ptr l)), (.pointer (T.ptr r)), (u_ m.ka), (i_ m.ki), (u_ m.va), (i_ m.vi), (i_ (1 + (imax (T.hgt l) (T.hgt r)))), (i_ ((1 + (T.cnt l)) + (T.cnt r)))] 92, treeI 92 l, treeI 92 r] (by kernel_rfl) rfl rfl rfl rfl (by kernel_rfl) rfl rfl (by kernel_rfl) rfl ?_)
  refine A.stage ?_
  refine A.fin2 (by kernel_rfl) ?_
  refine A.sub [(0, (p_ b))] (by exact ⟨rfl, trivial⟩) ?_
  refine A.tn ?_
  refine A.seq ?_
  refine A.region (A.goAS [.p, .p, .p, .p, .ld 0, .p, .p, .st 0] [(0, (p_ b))] [blk b [(u_ x.ka), (i_ x.ki), (u_ x.va), (i_ x.vi), (.pointer (T.ptr l)), (.pointer (T.ptr r)), (u_ x.ka), (i_ x.ki), (u_ x.va), (i_ x.vi), (i_ (1 + (imax (T.hgt l) (T.hgt r)))), (i_ ((1 + (T.cnt l)) + (T.cnt r)))] 92, treeI 92 l, treeI 92 r] [b, b] T0 (by kernel_rfl) trivial ?_)
  refine A.tn ?_
  refine A.seq ?_
  refine A.region (A.goA [.p, .p, .p, .ld 0, .p] [(0, (p_ b)), (48, (.agg #[(.pointer (T.ptr l)), (.pointer (T.ptr r))])), (49, (i_ 0))] [b] T0 (by kernel_rfl) trivial ?_)
  refine A.tn ?_
  refine A.block ?_
  refine A.unroll 400 ?_
  refine A.turnk (m := 399) ?_
  refine A.seq ?_
  refine A.region (A.goA [.p] [(0, (p_ b)), (48, (.agg #[(.pointer (T.ptr l)), (.pointer (T.ptr r))])), (49, (i_ 0)), (50, (b_ true))] [] T0 (by kernel_rfl) trivial ?_)
  refine A.tn ?_
  refine A.seq ?_
  refine A.cond_t rfl ?_
  refine A.skip ?_
  refine A.tn ?_
  refine A.seq ?_
  refine A.block ?_
  refine A.seq ?_
  refine A.region (A.goA [.p, .p] [(0, (p_ b)), (48, (.agg #[(.pointer (T.ptr l)), (.pointer (T.ptr r))])), (49, (i_ 0)), (50, (b_ true)), (3, (.pointer (T.ptr l)))] [] T0 (by kernel_rfl) trivial ?_)
  refine A.tn ?_
  refine A.seq ?_
  refine A.region (A.goP [.p] [(0, (p_ b)), (48, (.agg #[(.pointer (T.ptr l)), (.pointer (T.ptr r))])), (49, (i_ 0)), (50, (b_ true)), (3, (.pointer (T.ptr l))), (52, (.pointer (T.ptr l)))] [] T0 (by kernel_rfl) trivial ?_)
  rcases l with _ | ⟨b1, x2, m3, h4, n5, l6, r7⟩
  · skip
    refine A.goA [.p] [(0, (p_ b)), (48, (.agg #[n_, (.pointer (T.ptr r))])), (49, (i_ 0)), (50, (b_ true)), (3, n_), (53, (b_ false))] [] T0 (by kernel_rfl) trivial ?_
    refine A.tn ?_
    refine A.cond_f rfl ?_
    refine A.skip ?_
    refine A.bn ?_
    refine A.tn ?_
    refine A.region (A.goA [.p, .p] [(0, (p_ b)), (48, (.agg #[n_, (.pointer (T.ptr r))])), (49, (i_ 1)), (50, (b_ true)), (3, n_), (53, (b_ false))] [] T0 (by kernel_rfl) trivial ?_)
    refine A.tn ?_
    refine A.turnk (m := 398) ?_
    refine A.seq ?_
    refine A.region (A.goA [.p] [(0, (p_ b)), (48, (.agg #[n_, (.pointer (T.ptr r))])), (49, (i_ 1)), (50, (b_ true)), (3, n_), (53, (b_ false))] [] T0 (by kernel_rfl) trivial ?_)
    refine A.tn ?_
    refine A.seq ?_
    refine A.cond_t rfl ?_
    refine A.skip ?_
    refine A.tn ?_
    refine A.seq ?_
    refine A.block ?_
    refine A.seq ?_
    refine A.region (A.goA [.p, .p] [(0, (p_ b)), (48, (.agg #[n_, (.pointer (T.ptr r))])), (49, (i_ 1)), (50, (b_ true)), (3, (.pointer (T.ptr r))), (53, (b_ false))] [] T0 (by kernel_rfl) trivial ?_)
    refine A.tn ?_
    refine A.seq ?_
    refine A.region (A.goP [.p] [(0, (p_ b)), (48, (.agg #[n_, (.pointer (T.ptr r))])), (49, (i_ 1)), (50, (b_ true)), (3, (.pointer (T.ptr r))), (53, (b_ false)), (52, (.pointer (T.ptr r)))] [] T0 (by kernel_rfl) trivial ?_)
    rcases r with _ | ⟨b8, x9, m10, h11, n12, l13, r14⟩
    · skip
      refine A.goA [.p] [(0, (p_ b)), (48, (.agg #[n_, n_])), (49, (i_ 1)), (50, (b_ true)), (3, n_), (53, (b_ false))] [] T0 (by kernel_rfl) trivial ?_
      refine A.tn ?_
      refine A.cond_f rfl ?_
      refine A.skip ?_
      refine A.bn ?_
      refine A.tn ?_
      refine A.region (A.goA [.p, .p] [(0, (p_ b)), (48, (.agg #[n_, n_])), (49, (i_ 2)), (50, (b_ true)), (3, n_), (53, (b_ false))] [] T0 (by kernel_rfl) trivial ?_)
      refine A.tn ?_
      refine A.turnk (m := 397) ?_
      refine A.seq ?_
      refine A.region (A.goA [.p] [(0, (p_ b)), (48, (.agg #[n_, n_])), (49, (i_ 2)), (50, (b_ false)), (3, n_), (53, (b_ false))] [] T0 (by kernel_rfl) trivial ?_)
      refine A.tn ?_
      refine A.seq ?_
      refine A.cond_f rfl ?_
      refine A.exit ?_
      refine A.te ?_
      refine A.te ?_
      refine A.bh ?_
      refine A.setH [blk b [(u_ x.ka), (i_ x.ki), (u_ x.va), (i_ x.vi), n_, n_, (u_ ((mkM x T.nil T.nil).ka)), (i_ ((mkM x T.nil T.nil).ki)), (u_ ((mkM x T.nil T.nil).va)), (i_ ((mkM x T.nil T.nil).vi)), (i_ (mkH T.nil T.nil)), (i_ (mkN T.nil T.nil))] 92, treeI 92 T.nil, treeI 92 T.nil] (cc (blkC (cc rfl (cc rfl (cc rfl (cc rfl (cc rfl (cc rfl (cc (congrArg u_ (by first | rfl | (simp [imax_eq, mkH, mkN, mkM, T.low]; done) | (unfold mkH; rw [imax_eq]; done) | grind [imax_eq] : x.ka = (mkM x T.nil T.nil).ka)) (cc (congrArg i_ (by first | rfl | (simp [imax_eq, mkH, mkN, mkM, T.low]; done) | (unfold mkH; rw [imax_eq]; done) | grind [imax_eq] : x.ki = (mkM x T.nil T.nil).ki)) (cc (congrArg u_ (by first | rfl | (simp [imax_eq, mkH, mkN, mkM, T.low]; done) | (unfold mkH; rw [imax_eq]; done) | grind [imax_eq] : x.va = (mkM x T.nil T.nil).va)) (cc (congrArg i_ (by first | rfl | (simp [imax_eq, mkH, mkN, mkM, T.low]; done) | (unfold mkH; rw [imax_eq]; done) | grind [imax_eq] : x.vi = (mkM x T.nil T.nil).vi)) (cc (congrArg i_ (by first | rfl | (simp [imax_eq, mkH, mkN, mkM, T.low]; done) | (unfold mkH; rw [imax_eq]; done) | grind [imax_eq] : 1 + (imax (T.hgt T.nil) (T.hgt T.nil)) = mkH T.nil T.nil)) (cc (congrArg i_ (by first | rfl | (simp [imax_eq, mkH, mkN, mkM, T.low]; done) | (unfold mkH; rw [imax_eq]; done) | grind [imax_eq] : (1 + (T.cnt T.nil)) + (T.cnt T.nil) = mkN T.nil T.nil)) rfl))))))))))))) rfl) ?_
      refine A.postKn [0, 0, 0] [] (fun aa ww rr ss => trivial) () ?_ ?_ (by kernel_rfl)
      · rfl
      · trivial
    · skip
      refine A.goA [.p] [(0, (p_ b)), (48, (.agg #[n_, (p_ b8)])), (49, (i_ 1)), (50, (b_ true)), (3, (p_ b8)), (53, (b_ true))] [] T0 (by kernel_rfl) trivial ?_
      refine A.tn ?_
      refine A.cond_t rfl ?_
      refine A.reshape [2] (fun _ : Unit => True) (fun _ => [blk b8 [(u_ x9.ka), (i_ x9.ki), (u_ x9.va), (i_ x9.vi), (.pointer (T.ptr l13)), (.pointer (T.ptr r14)), (u_ m10.ka), (i_ m10.ki), (u_ m10.va), (i_ m10.vi), (i_ h11), (i_ n12)] 92, treeI 92 l13, treeI 92 r14]) (fun _ => [blk b8 [(u_ x9.ka), (i_ x9.ki), (u_ x9.va), (i_ x9.vi), (.pointer (T.ptr l13)), (.pointer (T.ptr r14)), (u_ m10.ka), (i_ m10.ki), (u_ m10.va), (i_ m10.vi), (i_ h11), (i_ n12)] 92, treeI 92 l13, treeI 92 r14, blk b [(u_ x.ka), (i_ x.ki), (u_ x.va), (i_ x.vi), n_, (p_ b8), (u_ x.ka), (i_ x.ki), (u_ x.va), (i_ x.vi), (i_ (1 + (imax (T.hgt T.nil) (T.hgt (T.node b8 x9 m10 h11 n12 l13 r14))))), (i_ ((1 + (T.cnt T.nil)) + (T.cnt (T.node b8 x9 m10 h11 n12 l13 r14))))] 92, treeI 92 T.nil]) rfl (fun w hs => tree_open hs) (fun _ => rfl) (fun _ _ => ?_)
      refine A.draw2 [12] 13 (by kernel_rfl) ?_
      refine A.drawP 1 [.p, .p, .p, .p, .ld 3, .p, .p, .p, .ld 0, .cq (.agg #[(u_ ((bet x m10).ka)), (i_ ((bet x m10).ki)), (u_ ((bet x m10).va)), (i_ ((bet x m10).vi))]), .p, .p] [0, 1, 2, 3, 4, 5, 6, 7, 8, 9, 10, 11] [(0, (p_ b)), (48, (.agg #[n_, (p_ b8)])), (49, (i_ 1)), (50, (b_ true)), (3, (p_ b8)), (53, (b_ true)), (63, (.agg #[(u_ ((bet x m10).ka)), (i_ ((bet x m10).ki)), (u_ ((bet x m10).va)), (i_ ((bet x m10).vi))])), (65, (q_ b 6))] [b, b8] (fun κ => κ.call 53 [(.agg #[(u_ x.ka), (i_ x.ki), (u_ x.va), (i_ x.vi)]), (.agg #[(u_ m10.ka), (i_ m10.ki), (u_ m10.va), (i_ m10.vi)])] (.agg #[(u_ ((bet x m10).ka)), (i_ ((bet x m10).ki)), (u_ ((bet x m10).va)), (i_ ((bet x m10).vi))]) ∧ True) (by kernel_rfl) ⟨(fun ww ss => better_spec x m10 ww), trivial⟩ ?_
      refine A.only2 12 rfl (by kernel_rfl) (A.store 3 (vs := [(u_ ((bet x m10).ka)), (i_ ((bet x m10).ki)), (u_ ((bet x m10).va)), (i_ ((bet x m10).vi))]) [blk b8 [(u_ x9.ka), (i_ x9.ki), (u_ x9.va), (i_ x9.vi), (.pointer (T.ptr l13)), (.pointer (T.ptr r14)), (u_ m10.ka), (i_ m10.ki), (u_ m10.va), (i_ m10.vi), (i_ h11), (i_ n12)] 92, treeI 92 l13, treeI 92 r14, blk b [(u_ x.ka), (i_ x.ki), (u_ x.va), (i_ x.vi), n_, (p_ b8), (u_ ((bet x m10).ka)), (i_ ((bet x m10).ki)), (u_ ((bet x m10).va)), (i_ ((bet x m10).vi)), (i_ (1 + (imax (T.hgt T.nil) (T.hgt (T.node b8 x9 m10 h11 n12 l13 r14))))), (i_ ((1 + (T.cnt T.nil)) + (T.cnt (T.node b8 x9 m10 h11 n12 l13 r14))))] 92, treeI 92 T.nil] (by kernel_rfl) rfl rfl rfl rfl (by kernel_rfl) rfl rfl (by kernel_rfl) rfl ?_)
      refine A.stage ?_
      refine A.fin2 (by kernel_rfl) ?_
      refine A.sub [(0, (p_ b)), (48, (.agg #[n_, (p_ b8)])), (49, (i_ 1)), (50, (b_ true)), (3, (p_ b8)), (53, (b_ true))] (by exact ⟨rfl, rfl, rfl, rfl, rfl, rfl, trivial⟩) ?_
      refine A.bn ?_
      refine A.tn ?_
      refine A.region (A.goA [.p, .p] [(0, (p_ b)), (48, (.agg #[n_, (p_ b8)])), (49, (i_ 2)), (50, (b_ true)), (3, (p_ b8)), (53, (b_ true))] [] T0 (by kernel_rfl) trivial ?_)
      refine A.tn ?_
      refine A.turnk (m := 397) ?_
      refine A.seq ?_
      refine A.region (A.goA [.p] [(0, (p_ b)), (48, (.agg #[n_, (p_ b8)])), (49, (i_ 2)), (50, (b_ false)), (3, (p_ b8)), (53, (b_ true))] [] T0 (by kernel_rfl) trivial ?_)
      refine A.tn ?_
      refine A.seq ?_
      refine A.cond_f rfl ?_
      refine A.exit ?_
      refine A.te ?_
      refine A.te ?_
      refine A.bh ?_
      refine A.reshape [0, 0, 0] (fun _ : Unit => True) (fun _ => [treeI 92 (T.node b8 x9 m10 h11 n12 l13 r14)]) (fun _ => [treeI 92 (T.node b8 x9 m10 h11 n12 l13 r14), blk b [(u_ x.ka), (i_ x.ki), (u_ x.va), (i_ x.vi), n_, (p_ b8), (u_ ((bet x m10).ka)), (i_ ((bet x m10).ki)), (u_ ((bet x m10).va)), (i_ ((bet x m10).vi)), (i_ (1 + (imax (T.hgt T.nil) (T.hgt (T.node b8 x9 m10 h11 n12 l13 r14))))), (i_ ((1 + (T.cnt T.nil)) + (T.cnt (T.node b8 x9 m10 h11 n12 l13 r14))))] 92, treeI 92 T.nil]) rfl (fun w hs => tree_fold hs) (fun _ => rfl) (fun _ _ => ?_)
      refine A.setH [treeI 92 (T.node b8 x9 m10 h11 n12 l13 r14), blk b [(u_ x.ka), (i_ x.ki), (u_ x.va), (i_ x.vi), n_, (p_ b8), (u_ ((mkM x T.nil (T.node b8 x9 m10 h11 n12 l13 r14)).ka)), (i_ ((mkM x T.nil (T.node b8 x9 m10 h11 n12 l13 r14)).ki)), (u_ ((mkM x T.nil (T.node b8 x9 m10 h11 n12 l13 r14)).va)), (i_ ((mkM x T.nil (T.node b8 x9 m10 h11 n12 l13 r14)).vi)), (i_ (mkH T.nil (T.node b8 x9 m10 h11 n12 l13 r14))), (i_ (mkN T.nil (T.node b8 x9 m10 h11 n12 l13 r14)))] 92, treeI 92 T.nil] (cc rfl (cc (blkC (cc rfl (cc rfl (cc rfl (cc rfl (cc rfl (cc rfl (cc (congrArg u_ (by first | rfl | (simp [imax_eq, mkH, mkN, mkM, T.low]; done) | (unfold mkH; rw [imax_eq]; done) | grind [imax_eq] : (bet x m10).ka = (mkM x T.nil (T.node b8 x9 m10 h11 n12 l13 r14)).ka)) (cc (congrArg i_ (by first | rfl | (simp [imax_eq, mkH, mkN, mkM, T.low]; done) | (unfold mkH; rw [imax_eq]; done) | grind [imax_eq] : (bet x m10).ki = (mkM x T.nil (T.node b8 x9 m10 h11 n12 l13 r14)).ki)) (cc (congrArg u_ (by first | rfl | (simp [imax_eq, mkH, mkN, mkM, T.low]; done) | (unfold mkH; rw [imax_eq]; done) | grind [imax_eq] : (bet x m10).va = (mkM x T.nil (T.node b8 x9 m10 h11 n12 l13 r14)).va)) (cc (congrArg i_ (by first | rfl | (simp [imax_eq, mkH, mkN, mkM, T.low]; done) | (unfold mkH; rw [imax_eq]; done) | grind [imax_eq] : (bet x m10).vi = (mkM x T.nil (T.node b8 x9 m10 h11 n12 l13 r14)).vi)) (cc (congrArg i_ (by first | rfl | (simp [imax_eq, mkH, mkN, mkM, T.low]; done) | (unfold mkH; rw [imax_eq]; done) | grind [imax_eq] : 1 + (imax (T.hgt T.nil) (T.hgt (T.node b8 x9 m10 h11 n12 l13 r14))) = mkH T.nil (T.node b8 x9 m10 h11 n12 l13 r14))) (cc (congrArg i_ (by first | rfl | (simp [imax_eq, mkH, mkN, mkM, T.low]; done) | (unfold mkH; rw [imax_eq]; done) | grind [imax_eq] : (1 + (T.cnt T.nil)) + (T.cnt (T.node b8 x9 m10 h11 n12 l13 r14)) = mkN T.nil (T.node b8 x9 m10 h11 n12 l13 r14))) rfl))))))))))))) rfl)) ?_
      refine A.postKn [1, 1, 0] [] (fun aa ww rr ss => trivial) () ?_ ?_ (by kernel_rfl)
      · rfl
      · trivial
  · skip
    refine A.goA [.p] [(0, (p_ b)), (48, (.agg #[(p_ b1), (.pointer (T.ptr r))])), (49, (i_ 0)), (50, (b_ true)), (3, (p_ b1)), (53, (b_ true))] [] T0 (by kernel_rfl) trivial ?_
    refine A.tn ?_
    refine A.cond_t rfl ?_
    refine A.reshape [1] (fun _ : Unit => True) (fun _ => [blk b1 [(u_ x2.ka), (i_ x2.ki), (u_ x2.va), (i_ x2.vi), (.pointer (T.ptr l6)), (.pointer (T.ptr r7)), (u_ m3.ka), (i_ m3.ki), (u_ m3.va), (i_ m3.vi), (i_ h4), (i_ n5)] 92, treeI 92 l6, treeI 92 r7]) (fun _ => [blk b1 [(u_ x2.ka), (i_ x2.ki), (u_ x2.va), (i_ x2.vi), (.pointer (T.ptr l6)), (.pointer (T.ptr r7)), (u_ m3.ka), (i_ m3.ki), (u_ m3.va), (i_ m3.vi), (i_ h4), (i_ n5)] 92, treeI 92 l6, treeI 92 r7, blk b [(u_ x.ka), (i_ x.ki), (u_ x.va), (i_ x.vi), (p_ b1), (.pointer (T.ptr r)), (u_ x.ka), (i_ x.ki), (u_ x.va), (i_ x.vi), (i_ (1 + (imax (T.hgt (T.node b1 x2 m3 h4 n5 l6 r7)) (T.hgt r)))), (i_ ((1 + (T.cnt (T.node b1 x2 m3 h4 n5 l6 r7))) + (T.cnt r)))] 92, treeI 92 r]) rfl (fun w hs => tree_open hs) (fun _ => rfl) (fun _ _ => ?_)
    refine A.draw2 [12] 13 (by kernel_rfl) ?_
    refine A.drawP 1 [.p, .p, .p, .p, .ld 3, .p, .p, .p, .ld 0, .cq (.agg #[(u_ ((bet x m3).ka)), (i_ ((bet x m3).ki)), (u_ ((bet x m3).va)), (i_ ((bet x m3).vi))]), .p, .p] [0, 1, 2, 3, 4, 5, 6, 7, 8, 9, 10, 11] [(0, (p_ b)), (48, (.agg #[(p_ b1), (.pointer (T.ptr r))])), (49, (i_ 0)), (50, (b_ true)), (3, (p_ b1)), (53, (b_ true)), (63, (.agg #[(u_ ((bet x m3).ka)), (i_ ((bet x m3).ki)), (u_ ((bet x m3).va)), (i_ ((bet x m3).vi))])), (65, (q_ b 6))] [b, b1] (fun κ => κ.call 53 [(.agg #[(u_ x.ka), (i_ x.ki), (u_ x.va), (i_ x.vi)]), (.agg #[(u_ m3.ka), (i_ m3.ki), (u_ m3.va), (i_ m3.vi)])] (.agg #[(u_ ((bet x m3).ka)), (i_ ((bet x m3).ki)), (u_ ((bet x m3).va)), (i_ ((bet x m3).vi))]) ∧ True) (by kernel_rfl) ⟨(fun ww ss => better_spec x m3 ww), trivial⟩ ?_
    refine A.only2 12 rfl (by kernel_rfl) (A.store 3 (vs := [(u_ ((bet x m3).ka)), (i_ ((bet x m3).ki)), (u_ ((bet x m3).va)), (i_ ((bet x m3).vi))]) [blk b1 [(u_ x2.ka), (i_ x2.ki), (u_ x2.va), (i_ x2.vi), (.pointer (T.ptr l6)), (.pointer (T.ptr r7)), (u_ m3.ka), (i_ m3.ki), (u_ m3.va), (i_ m3.vi), (i_ h4), (i_ n5)] 92, treeI 92 l6, treeI 92 r7, blk b [(u_ x.ka), (i_ x.ki), (u_ x.va), (i_ x.vi), (p_ b1), (.pointer (T.ptr r)), (u_ ((bet x m3).ka)), (i_ ((bet x m3).ki)), (u_ ((bet x m3).va)), (i_ ((bet x m3).vi)), (i_ (1 + (imax (T.hgt (T.node b1 x2 m3 h4 n5 l6 r7)) (T.hgt r)))), (i_ ((1 + (T.cnt (T.node b1 x2 m3 h4 n5 l6 r7))) + (T.cnt r)))] 92, treeI 92 r] (by kernel_rfl) rfl rfl rfl rfl (by kernel_rfl) rfl rfl (by kernel_rfl) rfl ?_)
    refine A.stage ?_
    refine A.fin2 (by kernel_rfl) ?_
    refine A.sub [(0, (p_ b)), (48, (.agg #[(p_ b1), (.pointer (T.ptr r))])), (49, (i_ 0)), (50, (b_ true)), (3, (p_ b1)), (53, (b_ true))] (by exact ⟨rfl, rfl, rfl, rfl, rfl, rfl, trivial⟩) ?_
    refine A.bn ?_
    refine A.tn ?_
    refine A.region (A.goA [.p, .p] [(0, (p_ b)), (48, (.agg #[(p_ b1), (.pointer (T.ptr r))])), (49, (i_ 1)), (50, (b_ true)), (3, (p_ b1)), (53, (b_ true))] [] T0 (by kernel_rfl) trivial ?_)
    refine A.tn ?_
    refine A.turnk (m := 398) ?_
    refine A.seq ?_
    refine A.region (A.goA [.p] [(0, (p_ b)), (48, (.agg #[(p_ b1), (.pointer (T.ptr r))])), (49, (i_ 1)), (50, (b_ true)), (3, (p_ b1)), (53, (b_ true))] [] T0 (by kernel_rfl) trivial ?_)
    refine A.tn ?_
    refine A.seq ?_
    refine A.cond_t rfl ?_
    refine A.skip ?_
    refine A.tn ?_
    refine A.seq ?_
    refine A.block ?_
    refine A.seq ?_
    refine A.region (A.goA [.p, .p] [(0, (p_ b)), (48, (.agg #[(p_ b1), (.pointer (T.ptr r))])), (49, (i_ 1)), (50, (b_ true)), (3, (.pointer (T.ptr r))), (53, (b_ true))] [] T0 (by kernel_rfl) trivial ?_)
    refine A.tn ?_
    refine A.seq ?_
    refine A.region (A.goP [.p] [(0, (p_ b)), (48, (.agg #[(p_ b1), (.pointer (T.ptr r))])), (49, (i_ 1)), (50, (b_ true)), (3, (.pointer (T.ptr r))), (53, (b_ true)), (52, (.pointer (T.ptr r)))] [] T0 (by kernel_rfl) trivial ?_)
    rcases r with _ | ⟨b15, x16, m17, h18, n19, l20, r21⟩
    · skip
      refine A.goA [.p] [(0, (p_ b)), (48, (.agg #[(p_ b1), n_])), (49, (i_ 1)), (50, (b_ true)), (3, n_), (53, (b_ false))] [] T0 (by kernel_rfl) trivial ?_
      refine A.tn ?_
      refine A.cond_f rfl ?_
      refine A.skip ?_
      refine A.bn ?_
      refine A.tn ?_
      refine A.region (A.goA [.p, .p] [(0, (p_ b)), (48, (.agg #[(p_ b1), n_])), (49, (i_ 2)), (50, (b_ true)), (3, n_), (53, (b_ false))] [] T0 (by kernel_rfl) trivial ?_)
      refine A.tn ?_
      refine A.turnk (m := 397) ?_
      refine A.seq ?_
      refine A.region (A.goA [.p] [(0, (p_ b)), (48, (.agg #[(p_ b1), n_])), (49, (i_ 2)), (50, (b_ false)), (3, n_), (53, (b_ false))] [] T0 (by kernel_rfl) trivial ?_)
      refine A.tn ?_
      refine A.seq ?_
      refine A.cond_f rfl ?_
      refine A.exit ?_
      refine A.te ?_
      refine A.te ?_
      refine A.bh ?_
      refine A.reshape [0, 0, 0] (fun _ : Unit => True) (fun _ => [treeI 92 (T.node b1 x2 m3 h4 n5 l6 r7)]) (fun _ => [treeI 92 (T.node b1 x2 m3 h4 n5 l6 r7), blk b [(u_ x.ka), (i_ x.ki), (u_ x.va), (i_ x.vi), (p_ b1), n_, (u_ ((bet x m3).ka)), (i_ ((bet x m3).ki)), (u_ ((bet x m3).va)), (i_ ((bet x m3).vi)), (i_ (1 + (imax (T.hgt (T.node b1 x2 m3 h4 n5 l6 r7)) (T.hgt T.nil)))), (i_ ((1 + (T.cnt (T.node b1 x2 m3 h4 n5 l6 r7))) + (T.cnt T.nil)))] 92, treeI 92 T.nil]) rfl (fun w hs => tree_fold hs) (fun _ => rfl) (fun _ _ => ?_)
      refine A.setH [treeI 92 (T.node b1 x2 m3 h4 n5 l6 r7), blk b [(u_ x.ka), (i_ x.ki), (u_ x.va), (i_ x.vi), (p_ b1), n_, (u_ ((mkM x (T.node b1 x2 m3 h4 n5 l6 r7) T.nil).ka)), (i_ ((mkM x (T.node b1 x2 m3 h4 n5 l6 r7) T.nil).ki)), (u_ ((mkM x (T.node b1 x2 m3 h4 n5 l6 r7) T.nil).va)), (i_ ((mkM x (T.node b1 x2 m3 h4 n5 l6 r7) T.nil).vi)), (i_ (mkH (T.node b1 x2 m3 h4 n5 l6 r7) T.nil)), (i_ (mkN (T.node b1 x2 m3 h4 n5 l6 r7) T.nil))] 92, treeI 92 T.nil] (cc rfl (cc (blkC (cc rfl (cc rfl (cc rfl (cc rfl (cc rfl (cc rfl (cc (congrArg u_ (by first | rfl | (simp [imax_eq, mkH, mkN, mkM, T.low]; done) | (unfold mkH; rw [imax_eq]; done) | grind [imax_eq] : (bet x m3).ka = (mkM x (T.node b1 x2 m3 h4 n5 l6 r7) T.nil).ka)) (cc (congrArg i_ (by first | rfl | (simp [imax_eq, mkH, mkN, mkM, T.low]; done) | (unfold mkH; rw [imax_eq]; done) | grind [imax_eq] : (bet x m3).ki = (mkM x (T.node b1 x2 m3 h4 n5 l6 r7) T.nil).ki)) (cc (congrArg u_ (by first | rfl | (simp [imax_eq, mkH, mkN, mkM, T.low]; done) | (unfold mkH; rw [imax_eq]; done) | grind [imax_eq] : (bet x m3).va = (mkM x (T.node b1 x2 m3 h4 n5 l6 r7) T.nil).va)) (cc (congrArg i_ (by first | rfl | (simp [imax_eq, mkH, mkN, mkM, T.low]; done) | (unfold mkH; rw [imax_eq]; done) | grind [imax_eq] : (bet x m3).vi = (mkM x (T.node b1 x2 m3 h4 n5 l6 r7) T.nil).vi)) (cc (congrArg i_ (by first | rfl | (simp [imax_eq, mkH, mkN, mkM, T.low]; done) | (unfold mkH; rw [imax_eq]; done) | grind [imax_eq] : 1 + (imax (T.hgt (T.node b1 x2 m3 h4 n5 l6 r7)) (T.hgt T.nil)) = mkH (T.node b1 x2 m3 h4 n5 l6 r7) T.nil)) (cc (congrArg i_ (by first | rfl | (simp [imax_eq, mkH, mkN, mkM, T.low]; done) | (unfold mkH; rw [imax_eq]; done) | grind [imax_eq] : (1 + (T.cnt (T.node b1 x2 m3 h4 n5 l6 r7))) + (T.cnt T.nil) = mkN (T.node b1 x2 m3 h4 n5 l6 r7) T.nil)) rfl))))))))))))) rfl)) ?_
      refine A.postKn [1, 0, 0] [] (fun aa ww rr ss => trivial) () ?_ ?_ (by kernel_rfl)
      · rfl
      · trivial
    · skip
      refine A.goA [.p] [(0, (p_ b)), (48, (.agg #[(p_ b1), (p_ b15)])), (49, (i_ 1)), (50, (b_ true)), (3, (p_ b15)), (53, (b_ true))] [] T0 (by kernel_rfl) trivial ?_
      refine A.tn ?_
      refine A.cond_t rfl ?_
      refine A.reshape [4] (fun _ : Unit => True) (fun _ => [blk b15 [(u_ x16.ka), (i_ x16.ki), (u_ x16.va), (i_ x16.vi), (.pointer (T.ptr l20)), (.pointer (T.ptr r21)), (u_ m17.ka), (i_ m17.ki), (u_ m17.va), (i_ m17.vi), (i_ h18), (i_ n19)] 92, treeI 92 l20, treeI 92 r21]) (fun _ => [blk b15 [(u_ x16.ka), (i_ x16.ki), (u_ x16.va), (i_ x16.vi), (.pointer (T.ptr l20)), (.pointer (T.ptr r21)), (u_ m17.ka), (i_ m17.ki), (u_ m17.va), (i_ m17.vi), (i_ h18), (i_ n19)] 92, treeI 92 l20, treeI 92 r21, blk b1 [(u_ x2.ka), (i_ x2.ki), (u_ x2.va), (i_ x2.vi), (.pointer (T.ptr l6)), (.pointer (T.ptr r7)), (u_ m3.ka), (i_ m3.ki), (u_ m3.va), (i_ m3.vi), (i_ h4), (i_ n5)] 92, treeI 92 l6, treeI 92 r7, blk b [(u_ x.ka), (i_ x.ki), (u_ x.va), (i_ x.vi), (p_ b1), (p_ b15), (u_ ((bet x m3).ka)), (i_ ((bet x m3).ki)), (u_ ((bet x m3).va)), (i_ ((bet x m3).vi)), (i_ (1 + (imax (T.hgt (T.node b1 x2 m3 h4 n5 l6 r7)) (T.hgt (T.node b15 x16 m17 h18 n19 l20 r21))))), (i_ ((1 + (T.cnt (T.node b1 x2 m3 h4 n5 l6 r7))) + (T.cnt (T.node b15 x16 m17 h18 n19 l20 r21))))] 92]) rfl (fun w hs => tree_open hs) (fun _ => rfl) (fun _ _ => ?_)
      refine A.draw2 [12] 13 (by kernel_rfl) ?_
      refine A.drawP 1 [.p, .p, .p, .p, .ld 6, .p, .p, .p, .ld 0, .cq (.agg #[(u_ ((bet (bet x m3) m17).ka)), (i_ ((bet (bet x m3) m17).ki)), (u_ ((bet (bet x m3) m17).va)), (i_ ((bet (bet x m3) m17).vi))]), .p, .p] [0, 1, 2, 3, 4, 5, 6, 7, 8, 9, 10, 11] [(0, (p_ b)), (48, (.agg #[(p_ b1), (p_ b15)])), (49, (i_ 1)), (50, (b_ true)), (3, (p_ b15)), (53, (b_ true)), (63, (.agg #[(u_ ((bet (bet x m3) m17).ka)), (i_ ((bet (bet x m3) m17).ki)), (u_ ((bet (bet x m3) m17).va)), (i_ ((bet (bet x m3) m17).vi))])), (65, (q_ b 6))] [b, b15] (fun κ => κ.call 53 [(.agg #[(u_ ((bet x m3).ka)), (i_ ((bet x m3).ki)), (u_ ((bet x m3).va)), (i_ ((bet x m3).vi))]), (.agg #[(u_ m17.ka), (i_ m17.ki), (u_ m17.va), (i_ m17.vi)])] (.agg #[(u_ ((bet (bet x m3) m17).ka)), (i_ ((bet (bet x m3) m17).ki)), (u_ ((bet (bet x m3) m17).va)), (i_ ((bet (bet x m3) m17).vi))]) ∧ True) (by kernel_rfl) ⟨(fun ww ss => better_spec (bet x m3) m17 ww), trivial⟩ ?_
      refine A.only2 12 rfl (by kernel_rfl) (A.store 6 (vs := [(u_ ((bet (bet x m3) m17).ka)), (i_ ((bet (bet x m3) m17).ki)), (u_ ((bet (bet x m3) m17).va)), (i_ ((bet (bet x m3) m17).vi))]) [blk b15 [(u_ x16.ka), (i_ x16.ki), (u_ x16.va), (i_ x16.vi), (.pointer (T.ptr l20)), (.pointer (T.ptr r21)), (u_ m17.ka), (i_ m17.ki), (u_ m17.va), (i_ m17.vi), (i_ h18), (i_ n19)] 92, treeI 92 l20, treeI 92 r21, blk b1 [(u_ x2.ka), (i_ x2.ki), (u_ x2.va), (i_ x2.vi), (.pointer (T.ptr l6)), (.pointer (T.ptr r7)), (u_ m3.ka), (i_ m3.ki), (u_ m3.va), (i_ m3.vi), (i_ h4), (i_ n5)] 92, treeI 92 l6, treeI 92 r7, blk b [(u_ x.ka), (i_ x.ki), (u_ x.va), (i_ x.vi), (p_ b1), (p_ b15), (u_ ((bet (bet x m3) m17).ka)), (i_ ((bet (bet x m3) m17).ki)), (u_ ((bet (bet x m3) m17).va)), (i_ ((bet (bet x m3) m17).vi)), (i_ (1 + (imax (T.hgt (T.node b1 x2 m3 h4 n5 l6 r7)) (T.hgt (T.node b15 x16 m17 h18 n19 l20 r21))))), (i_ ((1 + (T.cnt (T.node b1 x2 m3 h4 n5 l6 r7))) + (T.cnt (T.node b15 x16 m17 h18 n19 l20 r21))))] 92] (by kernel_rfl) rfl rfl rfl rfl (by kernel_rfl) rfl rfl (by kernel_rfl) rfl ?_)
      refine A.stage ?_
      refine A.fin2 (by kernel_rfl) ?_
      refine A.sub [(0, (p_ b)), (48, (.agg #[(p_ b1), (p_ b15)])), (49, (i_ 1)), (50, (b_ true)), (3, (p_ b15)), (53, (b_ true))] (by exact ⟨rfl, rfl, rfl, rfl, rfl, rfl, trivial⟩) ?_
      refine A.bn ?_
      refine A.tn ?_
      refine A.region (A.goA [.p, .p] [(0, (p_ b)), (48, (.agg #[(p_ b1), (p_ b15)])), (49, (i_ 2)), (50, (b_ true)), (3, (p_ b15)), (53, (b_ true))] [] T0 (by kernel_rfl) trivial ?_)
      refine A.tn ?_
      refine A.turnk (m := 397) ?_
      refine A.seq ?_
      refine A.region (A.goA [.p] [(0, (p_ b)), (48, (.agg #[(p_ b1), (p_ b15)])), (49, (i_ 2)), (50, (b_ false)), (3, (p_ b15)), (53, (b_ true))] [] T0 (by kernel_rfl) trivial ?_)
      refine A.tn ?_
      refine A.seq ?_
      refine A.cond_f rfl ?_
      refine A.exit ?_
      refine A.te ?_
      refine A.te ?_
      refine A.bh ?_
      refine A.reshape [3, 3, 3] (fun _ : Unit => True) (fun _ => [treeI 92 (T.node b1 x2 m3 h4 n5 l6 r7)]) (fun _ => [treeI 92 (T.node b1 x2 m3 h4 n5 l6 r7), blk b15 [(u_ x16.ka), (i_ x16.ki), (u_ x16.va), (i_ x16.vi), (.pointer (T.ptr l20)), (.pointer (T.ptr r21)), (u_ m17.ka), (i_ m17.ki), (u_ m17.va), (i_ m17.vi), (i_ h18), (i_ n19)] 92, treeI 92 l20, treeI 92 r21, blk b [(u_ x.ka), (i_ x.ki), (u_ x.va), (i_ x.vi), (p_ b1), (p_ b15), (u_ ((bet (bet x m3) m17).ka)), (i_ ((bet (bet x m3) m17).ki)), (u_ ((bet (bet x m3) m17).va)), (i_ ((bet (bet x m3) m17).vi)), (i_ (1 + (imax (T.hgt (T.node b1 x2 m3 h4 n5 l6 r7)) (T.hgt (T.node b15 x16 m17 h18 n19 l20 r21))))), (i_ ((1 + (T.cnt (T.node b1 x2 m3 h4 n5 l6 r7))) + (T.cnt (T.node b15 x16 m17 h18 n19 l20 r21))))] 92]) rfl (fun w hs => tree_fold hs) (fun _ => rfl) (fun _ _ => ?_)
      refine A.reshape [1, 1, 1] (fun _ : Unit => True) (fun _ => [treeI 92 (T.node b15 x16 m17 h18 n19 l20 r21)]) (fun _ => [treeI 92 (T.node b15 x16 m17 h18 n19 l20 r21), treeI 92 (T.node b1 x2 m3 h4 n5 l6 r7), blk b [(u_ x.ka), (i_ x.ki), (u_ x.va), (i_ x.vi), (p_ b1), (p_ b15), (u_ ((bet (bet x m3) m17).ka)), (i_ ((bet (bet x m3) m17).ki)), (u_ ((bet (bet x m3) m17).va)), (i_ ((bet (bet x m3) m17).vi)), (i_ (1 + (imax (T.hgt (T.node b1 x2 m3 h4 n5 l6 r7)) (T.hgt (T.node b15 x16 m17 h18 n19 l20 r21))))), (i_ ((1 + (T.cnt (T.node b1 x2 m3 h4 n5 l6 r7))) + (T.cnt (T.node b15 x16 m17 h18 n19 l20 r21))))] 92]) rfl (fun w hs => tree_fold hs) (fun _ => rfl) (fun _ _ => ?_)
      refine A.setH [treeI 92 (T.node b15 x16 m17 h18 n19 l20 r21), treeI 92 (T.node b1 x2 m3 h4 n5 l6 r7), blk b [(u_ x.ka), (i_ x.ki), (u_ x.va), (i_ x.vi), (p_ b1), (p_ b15), (u_ ((mkM x (T.node b1 x2 m3 h4 n5 l6 r7) (T.node b15 x16 m17 h18 n19 l20 r21)).ka)), (i_ ((mkM x (T.node b1 x2 m3 h4 n5 l6 r7) (T.node b15 x16 m17 h18 n19 l20 r21)).ki)), (u_ ((mkM x (T.node b1 x2 m3 h4 n5 l6 r7) (T.node b15 x16 m17 h18 n19 l20 r21)).va)), (i_ ((mkM x (T.node b1 x2 m3 h4 n5 l6 r7) (T.node b15 x16 m17 h18 n19 l20 r21)).vi)), (i_ (mkH (T.node b1 x2 m3 h4 n5 l6 r7) (T.node b15 x16 m17 h18 n19 l20 r21))), (i_ (mkN (T.node b1 x2 m3 h4 n5 l6 r7) (T.node b15 x16 m17 h18 n19 l20 r21)))] 92] (cc rfl (cc rfl (cc (blkC (cc rfl (cc rfl (cc rfl (cc rfl (cc rfl (cc rfl (cc (congrArg u_ (by first | rfl | (simp [imax_eq, mkH, mkN, mkM, T.low]; done) | (unfold mkH; rw [imax_eq]; done) | grind [imax_eq] : (bet (bet x m3) m17).ka = (mkM x (T.node b1 x2 m3 h4 n5 l6 r7) (T.node b15 x16 m17 h18 n19 l20 r21)).ka)) (cc (congrArg i_ (by first | rfl | (simp [imax_eq, mkH, mkN, mkM, T.low]; done) | (unfold mkH; rw [imax_eq]; done) | grind [imax_eq] : (bet (bet x m3) m17).ki = (mkM x (T.node b1 x2 m3 h4 n5 l6 r7) (T.node b15 x16 m17 h18 n19 l20 r21)).ki)) (cc (congrArg u_ (by first | rfl | (simp [imax_eq, mkH, mkN, mkM, T.low]; done) | (unfold mkH; rw [imax_eq]; done) | grind [imax_eq] : (bet (bet x m3) m17).va = (mkM x (T.node b1 x2 m3 h4 n5 l6 r7) (T.node b15 x16 m17 h18 n19 l20 r21)).va)) (cc (congrArg i_ (by first | rfl | (simp [imax_eq, mkH, mkN, mkM, T.low]; done) | (unfold mkH; rw [imax_eq]; done) | grind [imax_eq] : (bet (bet x m3) m17).vi = (mkM x (T.node b1 x2 m3 h4 n5 l6 r7) (T.node b15 x16 m17 h18 n19 l20 r21)).vi)) (cc (congrArg i_ (by first | rfl | (simp [imax_eq, mkH, mkN, mkM, T.low]; done) | (unfold mkH; rw [imax_eq]; done) | grind [imax_eq] : 1 + (imax (T.hgt (T.node b1 x2 m3 h4 n5 l6 r7)) (T.hgt (T.node b15 x16 m17 h18 n19 l20 r21))) = mkH (T.node b1 x2 m3 h4 n5 l6 r7) (T.node b15 x16 m17 h18 n19 l20 r21))) (cc (congrArg i_ (by first | rfl | (simp [imax_eq, mkH, mkN, mkM, T.low]; done) | (unfold mkH; rw [imax_eq]; done) | grind [imax_eq] : (1 + (T.cnt (T.node b1 x2 m3 h4 n5 l6 r7))) + (T.cnt (T.node b15 x16 m17 h18 n19 l20 r21)) = mkN (T.node b1 x2 m3 h4 n5 l6 r7) (T.node b15 x16 m17 h18 n19 l20 r21))) rfl))))))))))))) rfl))) ?_
      refine A.postKn [2, 1, 0] [] (fun aa ww rr ss => trivial) () ?_ ?_ (by kernel_rfl)
      · rfl
      · trivial
end Go.Proofs.Ytdhcglflmkjneaa
