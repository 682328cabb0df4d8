/- What the functions of this layer do, proved operation by operation, for all arguments, under the conditions that each theorem states. -/
import Derived.Test.YtdhcglflmkjneaaProg
import Derived.Test.YtdhcglflmkjneaaAvl6
namespace Go.Proofs.Ytdhcglflmkjneaa
open Go V
set_option linter.unusedVariables false
set_option linter.unusedSimpArgs false

set_option maxHeartbeats 4000000 in
set_option maxRecDepth 100000 in
theorem first_nil (n : Int) (w : World) :
    Calls Try.prog 46 #[n_, (u_ n)] w fun e w' => e = .returned (.tuple #[(.agg #[(u_ 0), (i_ 0), (u_ 0), (i_ 0)]), (b_ false)]) ∧ Fr [] w w' := by
  refine calls_of (args := [n_, (u_ n)]) (penv [n_, (u_ n)]) [] [] Try.func46 rfl rfl (look_penv _) (HS.nil w) ?_
  refine A.norm [(0, n_), (1, (u_ n))] [] (by exact ⟨rfl, rfl, trivial⟩) rfl ?_
  refine A.seq ?_
  refine A.region (A.goA1 [.al, .p] [0, 1, 4, 5] (fun b1 => [(0, n_), (1, (u_ n)), (4, (p_ b1)), (5, (b_ false))]) (fun b1 => [blk b1 [(u_ 0), (i_ 0), (u_ 0), (i_ 0)] 68]) (fun b1 => []) (fun _ => T0) (fun _ => by kernel_rfl) (fun b1 => trivial) ?_)
  intro b1
  refine A.tn ?_
  refine A.seq ?_
  refine A.seq ?_
  refine A.region (A.goA [.p, .p, .p, .sk, .sk, .sk, .sk, .sk, .sk, .sk, .p] [(0, n_), (1, (u_ n)), (4, (p_ b1)), (5, (b_ false)), (17, (b_ true))] [] T0 (by kernel_rfl) trivial ?_)
  refine A.tn ?_
  refine A.cond_t rfl ?_
  refine A.seq ?_
  refine A.region (A.goAS [.p, .st 0, .p] [(0, n_), (1, (u_ n)), (4, (p_ b1)), (5, (b_ false)), (17, (b_ true))] [blk b1 [(u_ 0), (i_ 0), (u_ 0), (i_ 0)] 68] [b1] T0 (by kernel_rfl) trivial ?_)
  refine A.tn ?_
  refine A.ret ?_
  refine A.tr ?_
  refine A.postQ [(.agg #[(u_ 0), (i_ 0), (u_ 0), (i_ 0)]), (b_ false)] (fun aa ww rr ss => ⟨rv_cellN (vs := [(u_ 0), (i_ 0), (u_ 0), (i_ 0)]) rr ss rfl (by kernel_rfl) (reads_blk (i := 0) rfl rfl), rv_tmp rr rfl, trivial⟩) ?_
  rfl

set_option maxHeartbeats 4000000 in
set_option maxRecDepth 100000 in
theorem first_spec (bt : Nat) (t : T) (n : Int) (hW : WF t) (w : World) (r0 : (blk bt [(.pointer (T.ptr t))] 86).holds w) (r1 : (treeI 92 t).holds w) :
    Calls Try.prog 46 #[(p_ bt), (u_ n)] w fun e w' => e = .returned (.tuple #[(.agg #[(u_ (((firstL n t.toL).getD default).ka)), (i_ (((firstL n t.toL).getD default).ki)), (u_ (((firstL n t.toL).getD default).va)), (i_ (((firstL n t.toL).getD default).vi))]), (b_ ((firstL n t.toL).isSome))]) ∧ Fr [] w w' := by
  have hR := hW.right; have hB := hW.bal; have hS := hW.srt; have hCn := hW.cnt
  refine calls_of (args := [(p_ bt), (u_ n)]) (penv [(p_ bt), (u_ n)]) [] [] Try.func46 rfl rfl (look_penv _) (HS.nil w) ?_
  refine A.norm [(0, (p_ bt)), (1, (u_ n))] [] (by exact ⟨rfl, rfl, trivial⟩) rfl ?_
  refine A.seq ?_
  refine A.region (A.goA1 [.al, .p] [0, 1, 4, 5] (fun b1 => [(0, (p_ bt)), (1, (u_ n)), (4, (p_ b1)), (5, (b_ false))]) (fun b1 => [blk b1 [(u_ 0), (i_ 0), (u_ 0), (i_ 0)] 68]) (fun b1 => []) (fun _ => T0) (fun _ => by kernel_rfl) (fun b1 => trivial) ?_)
  intro b1
  refine A.tn ?_
  refine A.seq ?_
  refine A.seq ?_
  refine A.region (A.goA [.p, .p, .p, .p, .p, .p, .rd [(.pointer (T.ptr t))], .p, .cq (b_ (T.hasB n t)), .p, .p] [(0, (p_ bt)), (1, (u_ n)), (4, (p_ b1)), (5, (b_ false)), (17, (b_ (!(T.hasB n t))))] [] (fun κ => κ.rd ⟨bt, 0, none⟩ [(.pointer (T.ptr t))] ∧ κ.call 58 [(.pointer (T.ptr t)), (u_ n)] (b_ (T.hasB n t)) ∧ True) (by kernel_rfl) ⟨(reads_oldblk r0 rfl), (fun ww ss => has_spec t n ww (old_item ss r1)), trivial⟩ ?_)
  refine A.tn ?_
  refine A.cond (E := !(T.hasB n t)) rfl (fun e1 => ?_) (fun e1 => ?_)
  · skip
    have p1 := e1; try simp only [decide_eq_true_eq, decide_eq_false_iff_not, beq_iff_eq, beq_eq_false_iff_ne, bne_iff_ne, bne_eq_false_iff_eq, ne_eq, Bool.and_eq_true, Bool.or_eq_true, Bool.or_eq_false_iff, Bool.not_eq_true', Bool.not_eq_false', Int.not_lt, Int.not_le, gt_iff_lt, ge_iff_le, Classical.not_not] at p1
    refine A.seq ?_
    refine A.region (A.goAS [.p, .st 0, .p] [(0, (p_ bt)), (1, (u_ n)), (4, (p_ b1)), (5, (b_ false)), (17, (b_ (!(T.hasB n t))))] [blk b1 [(u_ 0), (i_ 0), (u_ 0), (i_ 0)] 68] [b1] T0 (by kernel_rfl) trivial ?_)
    refine A.tn ?_
    refine A.ret ?_
    refine A.tr ?_
    refine A.postQ [(.agg #[(u_ 0), (i_ 0), (u_ 0), (i_ 0)]), (b_ false)] (fun aa ww rr ss => ⟨rv_cellN (vs := [(u_ 0), (i_ 0), (u_ 0), (i_ 0)]) rr ss rfl (by kernel_rfl) (reads_blk (i := 0) rfl rfl), rv_tmp rr rfl, trivial⟩) ?_
    show ((.tuple #[(.agg #[(u_ 0), (i_ 0), (u_ 0), (i_ 0)]), (b_ false)]) : Value) = (.tuple #[(.agg #[(u_ (((firstL n t.toL).getD default).ka)), (i_ (((firstL n t.toL).getD default).ki)), (u_ (((firstL n t.toL).getD default).va)), (i_ (((firstL n t.toL).getD default).vi))]), (b_ ((firstL n t.toL).isSome))])
    first | (rw [first_none hR (by simp_all)]; rfl) | (rw [← hf, first_at hRu_l (by assumption) (by simp_all)]; rfl)
  · skip
    have p1 := e1; try simp only [decide_eq_true_eq, decide_eq_false_iff_not, beq_iff_eq, beq_eq_false_iff_ne, bne_iff_ne, bne_eq_false_iff_eq, ne_eq, Bool.and_eq_true, Bool.or_eq_true, Bool.or_eq_false_iff, Bool.not_eq_true', Bool.not_eq_false', Int.not_lt, Int.not_le, gt_iff_lt, ge_iff_le, Classical.not_not] at p1
    refine A.skip ?_
    refine A.tn ?_
    refine A.seq ?_
    refine A.region (A.goA [.p, .p, .p, .rd [(.pointer (T.ptr t))], .p] [(0, (p_ bt)), (1, (u_ n)), (4, (p_ b1)), (5, (b_ false)), (17, (b_ (!(T.hasB n t)))), (6, (.pointer (T.ptr t)))] [] (fun κ => κ.rd ⟨bt, 0, none⟩ [(.pointer (T.ptr t))] ∧ True) (by kernel_rfl) ⟨(reads_oldblk r0 rfl), trivial⟩ ?_)
    refine A.tn ?_
    refine A.block ?_
    have hE_ := e1
    refine A.loop (fun (zz : T) => match zz with | u => [(1, (u_ n)), (4, (p_ b1)), (6, (.pointer (T.ptr u)))]) (fun (zz : T) => match zz with | u => [blk b1 [(u_ 0), (i_ 0), (u_ 0), (i_ 0)] 68]) (fun (zz : T) => match zz with | u => ((treeI 92 u).holds w) ∧ u.Right ∧ (firstL n u.toL = firstL n t.toL) ∧ (u.hasB n = true)) (fun (zz : T) => match zz with | u => SizeOf.sizeOf u) (t : T) ⟨(by exact r1), (by exact hR), (by rfl), (by simpa using hE_)⟩ ?_ ?_
    · exact A.hereK [0] (by exact ⟨rfl, rfl, rfl, trivial⟩) (by kernel_rfl)
    · rintro u ⟨hu, hRu, hf, hb⟩
      refine A.norm [(1, (u_ n)), (4, (p_ b1)), (6, (.pointer (T.ptr u)))] [blk b1 [(u_ 0), (i_ 0), (u_ 0), (i_ 0)] 68] (by exact ⟨rfl, rfl, rfl, trivial⟩) rfl ?_
      refine A.block ?_
      refine A.block ?_
      refine A.seq ?_
      refine A.region (A.goP [.p] [(1, (u_ n)), (4, (p_ b1)), (6, (.pointer (T.ptr u))), (29, (.pointer (T.ptr u)))] [] T0 (by kernel_rfl) trivial ?_)
      rcases u with _ | ⟨b2, x3, m4, h5, n6, l7, r8⟩
      · skip
        simp [T.hasB] at hb
      · skip
        obtain ⟨_, _, _, hRu_l, hRu_r⟩ := id hRu
        refine A.goA [.p, .p, .p, .rd [(.pointer (T.ptr l7))], .p, .cq (b_ (T.hasB n l7)), .p] [(1, (u_ n)), (4, (p_ b1)), (6, (p_ b2)), (28, (b_ (T.hasB n l7)))] [] (fun κ => κ.rd ⟨b2, 4, none⟩ [(.pointer (T.ptr l7))] ∧ κ.call 58 [(.pointer (T.ptr l7)), (u_ n)] (b_ (T.hasB n l7)) ∧ True) (by kernel_rfl) ⟨(reads_oldblk hu.1 rfl), (fun ww ss => has_spec l7 n ww (old_item ss hu.2.1)), trivial⟩ ?_
        refine A.tn ?_
        refine A.cond (E := T.hasB n l7) rfl (fun e2 => ?_) (fun e2 => ?_)
        · skip
          have p2 := e2; try simp only [decide_eq_true_eq, decide_eq_false_iff_not, beq_iff_eq, beq_eq_false_iff_ne, bne_iff_ne, bne_eq_false_iff_eq, ne_eq, Bool.and_eq_true, Bool.or_eq_true, Bool.or_eq_false_iff, Bool.not_eq_true', Bool.not_eq_false', Int.not_lt, Int.not_le, gt_iff_lt, ge_iff_le, Classical.not_not] at p2
          refine A.region (A.goA [.p, .p, .p, .p, .rd [(.pointer (T.ptr l7))], .p] [(1, (u_ n)), (4, (p_ b1)), (6, (.pointer (T.ptr l7))), (28, (b_ (T.hasB n l7)))] [] (fun κ => κ.rd ⟨b2, 4, none⟩ [(.pointer (T.ptr l7))] ∧ True) (by kernel_rfl) ⟨(reads_oldblk hu.1 rfl), trivial⟩ ?_)
          refine A.bn ?_
          refine A.bn ?_
          refine A.tn ?_
          refine A.next (l7) ⟨(by first | exact hu.2.1 | exact hu.2.2), (by first | exact hRu_l | exact hRu_r), (by rw [← hf]; first | exact (first_L hRu_l (by assumption)).symm | exact (first_R hRu_l (by assumption) (by simp_all)).symm), (by first | assumption | exact has_R hRu hb (by assumption) (by simp_all))⟩ (by first | (simp; done) | (simp; omega)) ?_
          exact A.hereK [0] (by exact ⟨rfl, rfl, rfl, trivial⟩) (by kernel_rfl)
        · skip
          have p2 := e2; try simp only [decide_eq_true_eq, decide_eq_false_iff_not, beq_iff_eq, beq_eq_false_iff_ne, bne_iff_ne, bne_eq_false_iff_eq, ne_eq, Bool.and_eq_true, Bool.or_eq_true, Bool.or_eq_false_iff, Bool.not_eq_true', Bool.not_eq_false', Int.not_lt, Int.not_le, gt_iff_lt, ge_iff_le, Classical.not_not] at p2
          refine A.seq ?_
          refine A.region (A.goA [.p, .p, .p, .p, .p, .rd [(u_ x3.va)], .p, .p, .p] [(1, (u_ n)), (4, (p_ b1)), (6, (p_ b2)), (28, (b_ (T.hasB n l7))), (41, (b_ (decide (x3.va ≤ n))))] [] (fun κ => κ.rd ⟨b2, 2, none⟩ [(u_ x3.va)] ∧ True) (by kernel_rfl) ⟨(reads_oldblk hu.1 rfl), trivial⟩ ?_)
          refine A.tn ?_
          refine A.cond (E := decide (x3.va ≤ n)) rfl (fun e3 => ?_) (fun e3 => ?_)
          · skip
            have p3 := of_decide_eq_true e3
            refine A.seq ?_
            refine A.region (A.goAS [.p, .p, .p, .rd [(u_ x3.ka), (i_ x3.ki), (u_ x3.va), (i_ x3.vi)], .st 0, .p] [(1, (u_ n)), (4, (p_ b1)), (6, (p_ b2)), (28, (b_ (T.hasB n l7))), (41, (b_ (decide (x3.va ≤ n)))), (5, (b_ true))] [blk b1 [(u_ x3.ka), (i_ x3.ki), (u_ x3.va), (i_ x3.vi)] 68] [b1] (fun κ => κ.rd ⟨b2, 0, none⟩ [(u_ x3.ka), (i_ x3.ki), (u_ x3.va), (i_ x3.vi)] ∧ True) (by kernel_rfl) ⟨(reads_oldblk hu.1 rfl), trivial⟩ ?_)
            refine A.tn ?_
            refine A.ret ?_
            refine A.br ?_
            refine A.br ?_
            refine A.tr ?_
            refine A.br ?_
            refine A.postQ [(.agg #[(u_ x3.ka), (i_ x3.ki), (u_ x3.va), (i_ x3.vi)]), (b_ true)] (fun aa ww rr ss => ⟨rv_cellN (vs := [(u_ x3.ka), (i_ x3.ki), (u_ x3.va), (i_ x3.vi)]) rr ss rfl (by kernel_rfl) (reads_blk (i := 0) rfl rfl), rv_tmp rr rfl, trivial⟩) ?_
            show ((.tuple #[(.agg #[(u_ x3.ka), (i_ x3.ki), (u_ x3.va), (i_ x3.vi)]), (b_ true)]) : Value) = (.tuple #[(.agg #[(u_ (((firstL n t.toL).getD default).ka)), (i_ (((firstL n t.toL).getD default).ki)), (u_ (((firstL n t.toL).getD default).va)), (i_ (((firstL n t.toL).getD default).vi))]), (b_ ((firstL n t.toL).isSome))])
            first | (rw [first_none hR (by simp_all)]; rfl) | (rw [← hf, first_at hRu_l (by assumption) (by simp_all)]; rfl)
          · skip
            have p3 := of_decide_eq_false e3
            refine A.region (A.goA [.p, .p, .p, .p, .rd [(.pointer (T.ptr r8))], .p] [(1, (u_ n)), (4, (p_ b1)), (6, (.pointer (T.ptr r8))), (28, (b_ (T.hasB n l7))), (41, (b_ (decide (x3.va ≤ n))))] [] (fun κ => κ.rd ⟨b2, 5, none⟩ [(.pointer (T.ptr r8))] ∧ True) (by kernel_rfl) ⟨(reads_oldblk hu.1 rfl), trivial⟩ ?_)
            refine A.bn ?_
            refine A.bn ?_
            refine A.tn ?_
            refine A.next (r8) ⟨(by first | exact hu.2.1 | exact hu.2.2), (by first | exact hRu_l | exact hRu_r), (by rw [← hf]; first | exact (first_L hRu_l (by assumption)).symm | exact (first_R hRu_l (by assumption) (by simp_all)).symm), (by first | assumption | exact has_R hRu hb (by assumption) (by simp_all))⟩ (by first | (simp; done) | (simp; omega)) ?_
            exact A.hereK [0] (by exact ⟨rfl, rfl, rfl, trivial⟩) (by kernel_rfl)

set_option maxHeartbeats 4000000 in
set_option maxRecDepth 100000 in
theorem below_nil (n : Int) (w : World) :
    Calls Try.prog 40 #[n_, (u_ n)] w fun e w' => e = .returned (.tuple #[(.agg #[(u_ 0), (i_ 0), (u_ 0), (i_ 0)]), (b_ false)]) ∧ Fr [] w w' := by
  refine calls_of (args := [n_, (u_ n)]) (penv [n_, (u_ n)]) [] [] Try.func40 rfl rfl (look_penv _) (HS.nil w) ?_
  refine A.norm [(0, n_), (1, (u_ n))] [] (by exact ⟨rfl, rfl, trivial⟩) rfl ?_
  refine A.seq ?_
  refine A.region (A.goA1 [.al, .p] [0, 1, 4, 5] (fun b1 => [(0, n_), (1, (u_ n)), (4, (p_ b1)), (5, (b_ false))]) (fun b1 => [blk b1 [(u_ 0), (i_ 0), (u_ 0), (i_ 0)] 68]) (fun b1 => []) (fun _ => T0) (fun _ => by kernel_rfl) (fun b1 => trivial) ?_)
  intro b1
  refine A.tn ?_
  refine A.seq ?_
  refine A.region (A.goA1 [.al] [0, 1, 4, 5, 6] (fun b2 => [(0, n_), (1, (u_ n)), (4, (p_ b1)), (5, (b_ false)), (6, (p_ b2))]) (fun b2 => [blk b1 [(u_ 0), (i_ 0), (u_ 0), (i_ 0)] 68, blk b2 [(u_ 0), (i_ 0), (u_ 0), (i_ 0)] 68]) (fun b2 => []) (fun _ => T0) (fun _ => by kernel_rfl) (fun b2 => trivial) ?_)
  intro b2
  refine A.tn ?_
  refine A.seq ?_
  refine A.region (A.goA1 [.al, .st 2] [0, 1, 4, 5, 6, 7] (fun b3 => [(0, n_), (1, (u_ n)), (4, (p_ b1)), (5, (b_ false)), (6, (p_ b2)), (7, (p_ b3))]) (fun b3 => [blk b1 [(u_ 0), (i_ 0), (u_ 0), (i_ 0)] 68, blk b2 [(u_ 0), (i_ 0), (u_ 0), (i_ 0)] 68, blk b3 [(b_ false)] 4]) (fun b3 => [b3]) (fun _ => T0) (fun _ => by kernel_rfl) (fun b3 => trivial) ?_)
  intro b3
  refine A.tn ?_
  refine A.seq ?_
  refine A.region (A.goA [.p, .p] [(0, n_), (1, (u_ n)), (4, (p_ b1)), (5, (b_ false)), (6, (p_ b2)), (7, (p_ b3)), (8, (.func (.func 52) #[] #[(p_ b3), (p_ b2)]))] [] T0 (by kernel_rfl) trivial ?_)
  refine A.tn ?_
  refine A.seq ?_
  refine A.seq ?_
  refine A.region (A.goA [.p, .p] [(0, n_), (1, (u_ n)), (4, (p_ b1)), (5, (b_ false)), (6, (p_ b2)), (7, (p_ b3)), (8, (.func (.func 52) #[] #[(p_ b3), (p_ b2)])), (13, (b_ true))] [] T0 (by kernel_rfl) trivial ?_)
  refine A.tn ?_
  refine A.cond_t rfl ?_
  refine A.seq ?_
  refine A.region (A.goAS [.p, .st 0, .p] [(0, n_), (1, (u_ n)), (4, (p_ b1)), (5, (b_ false)), (6, (p_ b2)), (7, (p_ b3)), (8, (.func (.func 52) #[] #[(p_ b3), (p_ b2)])), (13, (b_ true))] [blk b1 [(u_ 0), (i_ 0), (u_ 0), (i_ 0)] 68, blk b2 [(u_ 0), (i_ 0), (u_ 0), (i_ 0)] 68, blk b3 [(b_ false)] 4] [b1] T0 (by kernel_rfl) trivial ?_)
  refine A.tn ?_
  refine A.ret ?_
  refine A.tr ?_
  refine A.postQ [(.agg #[(u_ 0), (i_ 0), (u_ 0), (i_ 0)]), (b_ false)] (fun aa ww rr ss => ⟨rv_cellN (vs := [(u_ 0), (i_ 0), (u_ 0), (i_ 0)]) rr ss rfl (by kernel_rfl) (reads_blk (i := 0) rfl rfl), rv_tmp rr rfl, trivial⟩) ?_
  rfl

set_option maxHeartbeats 4000000 in
set_option maxRecDepth 100000 in
theorem below_spec (bt : Nat) (t : T) (n : Int) (hW : WF t) (w : World) (r0 : (blk bt [(.pointer (T.ptr t))] 86).holds w) (r1 : (treeI 92 t).holds w) :
    Calls Try.prog 40 #[(p_ bt), (u_ n)] w fun e w' => e = .returned (.tuple #[(.agg #[(u_ (((belowL n t.toL).getD default).ka)), (i_ (((belowL n t.toL).getD default).ki)), (u_ (((belowL n t.toL).getD default).va)), (i_ (((belowL n t.toL).getD default).vi))]), (b_ ((belowL n t.toL).isSome))]) ∧ Fr [] w w' := by
  have hR := hW.right; have hB := hW.bal; have hS := hW.srt; have hCn := hW.cnt
  refine calls_of (args := [(p_ bt), (u_ n)]) (penv [(p_ bt), (u_ n)]) [] [] Try.func40 rfl rfl (look_penv _) (HS.nil w) ?_
  refine A.norm [(0, (p_ bt)), (1, (u_ n))] [] (by exact ⟨rfl, rfl, trivial⟩) rfl ?_
  refine A.seq ?_
  refine A.region (A.goA1 [.al, .p] [0, 1, 4, 5] (fun b1 => [(0, (p_ bt)), (1, (u_ n)), (4, (p_ b1)), (5, (b_ false))]) (fun b1 => [blk b1 [(u_ 0), (i_ 0), (u_ 0), (i_ 0)] 68]) (fun b1 => []) (fun _ => T0) (fun _ => by kernel_rfl) (fun b1 => trivial) ?_)
  intro b1
  refine A.tn ?_
  refine A.seq ?_
  refine A.region (A.goA1 [.al] [0, 1, 4, 5, 6] (fun b2 => [(0, (p_ bt)), (1, (u_ n)), (4, (p_ b1)), (5, (b_ false)), (6, (p_ b2))]) (fun b2 => [blk b1 [(u_ 0), (i_ 0), (u_ 0), (i_ 0)] 68, blk b2 [(u_ 0), (i_ 0), (u_ 0), (i_ 0)] 68]) (fun b2 => []) (fun _ => T0) (fun _ => by kernel_rfl) (fun b2 => trivial) ?_)
  intro b2
  refine A.tn ?_
  refine A.seq ?_
  refine A.region (A.goA1 [.al, .st 2] [0, 1, 4, 5, 6, 7] (fun b3 => [(0, (p_ bt)), (1, (u_ n)), (4, (p_ b1)), (5, (b_ false)), (6, (p_ b2)), (7, (p_ b3))]) (fun b3 => [blk b1 [(u_ 0), (i_ 0), (u_ 0), (i_ 0)] 68, blk b2 [(u_ 0), (i_ 0), (u_ 0), (i_ 0)] 68, blk b3 [(b_ false)] 4]) (fun b3 => [b3]) (fun _ => T0) (fun _ => by kernel_rfl) (fun b3 => trivial) ?_)
  intro b3
  refine A.tn ?_
  refine A.seq ?_
  refine A.region (A.goA [.p, .p] [(0, (p_ bt)), (1, (u_ n)), (4, (p_ b1)), (5, (b_ false)), (6, (p_ b2)), (7, (p_ b3)), (8, (.func (.func 52) #[] #[(p_ b3), (p_ b2)]))] [] T0 (by kernel_rfl) trivial ?_)
  refine A.tn ?_
  refine A.seq ?_
  refine A.seq ?_
  refine A.region (A.goA [.p, .p] [(0, (p_ bt)), (1, (u_ n)), (4, (p_ b1)), (5, (b_ false)), (6, (p_ b2)), (7, (p_ b3)), (8, (.func (.func 52) #[] #[(p_ b3), (p_ b2)])), (13, (b_ false))] [] T0 (by kernel_rfl) trivial ?_)
  refine A.tn ?_
  refine A.cond_f rfl ?_
  refine A.skip ?_
  refine A.tn ?_
  refine A.seq ?_
  refine A.seq ?_
  refine A.region (A.goA [.p, .p, .p, .rd [(.pointer (T.ptr t))], .p] [(0, (p_ bt)), (1, (u_ n)), (4, (p_ b1)), (5, (b_ false)), (6, (p_ b2)), (7, (p_ b3)), (8, (.func (.func 52) #[] #[(p_ b3), (p_ b2)])), (13, (b_ false)), (9, (.pointer (T.ptr t)))] [] (fun κ => κ.rd ⟨bt, 0, none⟩ [(.pointer (T.ptr t))] ∧ True) (by kernel_rfl) ⟨(reads_oldblk r0 rfl), trivial⟩ ?_)
  refine A.tn ?_
  refine A.block ?_
  refine A.setH [blk b1 [(u_ 0), (i_ 0), (u_ 0), (i_ 0)] 68, blk b2 [(u_ ((default : It).ka)), (i_ ((default : It).ki)), (u_ ((default : It).va)), (i_ ((default : It).vi))] 68, blk b3 [(b_ false)] 4] (cc rfl (cc (blkC (cc (congrArg u_ (by first | rfl | omega | (simp; done) | grind : 0 = (default : It).ka)) (cc (congrArg i_ (by first | rfl | omega | (simp; done) | grind : 0 = (default : It).ki)) (cc (congrArg u_ (by first | rfl | omega | (simp; done) | grind : 0 = (default : It).va)) (cc (congrArg i_ (by first | rfl | omega | (simp; done) | grind : 0 = (default : It).vi)) rfl))))) rfl)) ?_
  refine A.loop (fun (zz : T × Bool × It) => match zz with | (u, mt, ov) => [(1, (u_ n)), (4, (p_ b1)), (5, (b_ false)), (6, (p_ b2)), (7, (p_ b3)), (8, (.func (.func 52) #[] #[(p_ b3), (p_ b2)])), (9, (.pointer (T.ptr u)))]) (fun (zz : T × Bool × It) => match zz with | (u, mt, ov) => [blk b3 [(b_ mt)] 4, blk b2 [(u_ ov.ka), (i_ ov.ki), (u_ ov.va), (i_ ov.vi)] 68, blk b1 [(u_ 0), (i_ 0), (u_ 0), (i_ 0)] 68]) (fun (zz : T × Bool × It) => match zz with | (u, mt, ov) => ((treeI 92 u).holds w) ∧ u.Right ∧ (Srt u.toL) ∧ (foldB (ob mt ov) (bl n u.toL) = belowL n t.toL) ∧ (mt = false → ov = default)) (fun (zz : T × Bool × It) => match zz with | (u, mt, ov) => SizeOf.sizeOf u) (t, false, (default : It)) ⟨(by exact r1), (by exact hR), (by exact hS), (by rfl), (by exact fun _ => rfl)⟩ ?_ ?_
  · exact A.hereK [2, 1, 0] (by exact ⟨rfl, rfl, rfl, rfl, rfl, rfl, rfl, trivial⟩) (by kernel_rfl)
  · rintro ⟨u, mt, ov⟩ ⟨hu, hRu, hSu, hf, hm⟩
    refine A.norm [(1, (u_ n)), (4, (p_ b1)), (5, (b_ false)), (6, (p_ b2)), (7, (p_ b3)), (8, (.func (.func 52) #[] #[(p_ b3), (p_ b2)])), (9, (.pointer (T.ptr u)))] [blk b3 [(b_ mt)] 4, blk b2 [(u_ ov.ka), (i_ ov.ki), (u_ ov.va), (i_ ov.vi)] 68, blk b1 [(u_ 0), (i_ 0), (u_ 0), (i_ 0)] 68] (by exact ⟨rfl, rfl, rfl, rfl, rfl, rfl, rfl, trivial⟩) rfl ?_
    refine A.seq ?_
    refine A.seq ?_
    refine A.region (A.goP [.p] [(1, (u_ n)), (4, (p_ b1)), (5, (b_ false)), (6, (p_ b2)), (7, (p_ b3)), (8, (.func (.func 52) #[] #[(p_ b3), (p_ b2)])), (9, (.pointer (T.ptr u))), (19, (.pointer (T.ptr u)))] [] T0 (by kernel_rfl) trivial ?_)
    rcases u with _ | ⟨b4, x5, m6, h7, n8, l9, r10⟩
    · skip
      refine A.goA [.p] [(1, (u_ n)), (4, (p_ b1)), (5, (b_ false)), (6, (p_ b2)), (7, (p_ b3)), (8, (.func (.func 52) #[] #[(p_ b3), (p_ b2)])), (9, n_), (20, (b_ false))] [] T0 (by kernel_rfl) trivial ?_
      refine A.tn ?_
      refine A.cond_f rfl ?_
      refine A.exit ?_
      refine A.te ?_
      refine A.te ?_
      refine A.bh ?_
      refine A.tn ?_
      refine A.seq ?_
      refine A.cutR (fun _ : Unit => [(1, (u_ n)), (4, (p_ b1)), (5, (b_ mt)), (6, (p_ b2)), (7, (p_ b3)), (8, (.func (.func 52) #[] #[(p_ b3), (p_ b2)])), (9, n_), (20, (b_ false))]) (fun _ => [blk b3 [(b_ mt)] 4, blk b2 [(u_ ov.ka), (i_ ov.ki), (u_ ov.va), (i_ ov.vi)] 68, blk b1 [(u_ ov.ka), (i_ ov.ki), (u_ ov.va), (i_ ov.vi)] 68]) (fun _ => True) ?_ (fun _ _ => ?_)
      · skip
        refine A.draw2 [2] 4 (by kernel_rfl) ?_
        refine A.drawP 3 [.ld 1] [0] [(1, (u_ n)), (4, (p_ b1)), (5, (b_ false)), (6, (p_ b2)), (7, (p_ b3)), (8, (.func (.func 52) #[] #[(p_ b3), (p_ b2)])), (9, n_), (20, (b_ false)), (58, (.agg #[(u_ ov.ka), (i_ ov.ki), (u_ ov.va), (i_ ov.vi)]))] [b2] T0 (by kernel_rfl) trivial ?_
        refine A.fork2 1 2 rfl rfl (by kernel_rfl) ?_ ?_
        · skip
          refine A.q (some 59) (b_ mt) (by kernel_rfl) (qt_load1 rfl rfl (by kernel_rfl) (reads_blk (i := 0) rfl rfl)) ?_
          refine A.and (List.Sublist.refl _) ?_
          refine A.only2 2 rfl (by kernel_rfl) (A.store 2 (vs := [(u_ ov.ka), (i_ ov.ki), (u_ ov.va), (i_ ov.vi)]) [blk b3 [(b_ mt)] 4, blk b2 [(u_ ov.ka), (i_ ov.ki), (u_ ov.va), (i_ ov.vi)] 68, blk b1 [(u_ ov.ka), (i_ ov.ki), (u_ ov.va), (i_ ov.vi)] 68] (by kernel_rfl) rfl rfl rfl rfl (by kernel_rfl) rfl rfl (by kernel_rfl) rfl ?_)
          refine A.stage ?_
          refine A.drawP 0 [.p] [3] [(1, (u_ n)), (4, (p_ b1)), (5, (b_ mt)), (6, (p_ b2)), (7, (p_ b3)), (8, (.func (.func 52) #[] #[(p_ b3), (p_ b2)])), (9, n_), (20, (b_ false))] [] T0 (by kernel_rfl) trivial ?_
          refine A.fin2 (by kernel_rfl) ?_
          exact A.meet () trivial (A.here (by exact ⟨rfl, rfl, rfl, rfl, rfl, rfl, rfl, rfl, trivial⟩) (List.Sublist.refl _))
        · skip
          refine A.store 2 (vs := [(u_ ov.ka), (i_ ov.ki), (u_ ov.va), (i_ ov.vi)]) [blk b3 [(b_ mt)] 4, blk b2 [(u_ ov.ka), (i_ ov.ki), (u_ ov.va), (i_ ov.vi)] 68, blk b1 [(u_ ov.ka), (i_ ov.ki), (u_ ov.va), (i_ ov.vi)] 68] (by kernel_rfl) rfl rfl rfl rfl (by kernel_rfl) rfl rfl (by kernel_rfl) rfl ?_
          refine A.stage ?_
          refine A.drawP 0 [.ld 0, .p] [1, 3] [(1, (u_ n)), (4, (p_ b1)), (5, (b_ mt)), (6, (p_ b2)), (7, (p_ b3)), (8, (.func (.func 52) #[] #[(p_ b3), (p_ b2)])), (9, n_), (20, (b_ false))] [b3] T0 (by kernel_rfl) trivial ?_
          refine A.fin2 (by kernel_rfl) ?_
          exact A.meet () trivial (A.here (by exact ⟨rfl, rfl, rfl, rfl, rfl, rfl, rfl, rfl, trivial⟩) (List.Sublist.refl _))
      · skip
        refine A.tn ?_
        refine A.ret ?_
        refine A.postQ [(.agg #[(u_ ov.ka), (i_ ov.ki), (u_ ov.va), (i_ ov.vi)]), (b_ mt)] (fun aa ww rr ss => ⟨rv_cellN (vs := [(u_ ov.ka), (i_ ov.ki), (u_ ov.va), (i_ ov.vi)]) rr ss rfl (by kernel_rfl) (reads_blk (i := 2) rfl rfl), rv_tmp rr rfl, trivial⟩) ?_
        show ((.tuple #[(.agg #[(u_ ov.ka), (i_ ov.ki), (u_ ov.va), (i_ ov.vi)]), (b_ mt)]) : Value) = (.tuple #[(.agg #[(u_ (((belowL n t.toL).getD default).ka)), (i_ (((belowL n t.toL).getD default).ki)), (u_ (((belowL n t.toL).getD default).va)), (i_ (((belowL n t.toL).getD default).vi))]), (b_ ((belowL n t.toL).isSome))])
        have hf' : ob mt ov = belowL n t.toL := hf; rw [← hf']; cases mt with | true => rfl | false => rw [hm rfl]; rfl
    · skip
      obtain ⟨_, _, _, hRu_l, hRu_r⟩ := id hRu
      refine A.goA [.p] [(1, (u_ n)), (4, (p_ b1)), (5, (b_ false)), (6, (p_ b2)), (7, (p_ b3)), (8, (.func (.func 52) #[] #[(p_ b3), (p_ b2)])), (9, (p_ b4)), (20, (b_ true))] [] T0 (by kernel_rfl) trivial ?_
      refine A.tn ?_
      refine A.cond_t rfl ?_
      refine A.skip ?_
      refine A.tn ?_
      refine A.block ?_
      refine A.seq ?_
      refine A.seq ?_
      refine A.region (A.goA [.p, .p, .p, .p, .p, .rd [(u_ x5.ka)], .p, .p] [(1, (u_ n)), (4, (p_ b1)), (5, (b_ false)), (6, (p_ b2)), (7, (p_ b3)), (8, (.func (.func 52) #[] #[(p_ b3), (p_ b2)])), (9, (p_ b4)), (20, (b_ true)), (28, (b_ (decide (x5.ka > n))))] [] (fun κ => κ.rd ⟨b4, 0, none⟩ [(u_ x5.ka)] ∧ True) (by kernel_rfl) ⟨(reads_oldblk hu.1 rfl), trivial⟩ ?_)
      refine A.tn ?_
      refine A.cond (E := decide (x5.ka > n)) rfl (fun e1 => ?_) (fun e1 => ?_)
      · skip
        have p1 := of_decide_eq_true e1
        refine A.seq ?_
        refine A.region (A.goA [.p, .p, .p, .p, .rd [(.pointer (T.ptr l9))], .p] [(1, (u_ n)), (4, (p_ b1)), (5, (b_ false)), (6, (p_ b2)), (7, (p_ b3)), (8, (.func (.func 52) #[] #[(p_ b3), (p_ b2)])), (9, (.pointer (T.ptr l9))), (20, (b_ true)), (28, (b_ (decide (x5.ka > n))))] [] (fun κ => κ.rd ⟨b4, 4, none⟩ [(.pointer (T.ptr l9))] ∧ True) (by kernel_rfl) ⟨(reads_oldblk hu.1 rfl), trivial⟩ ?_)
        refine A.tn ?_
        refine A.exit ?_
        refine A.te ?_
        refine A.bh ?_
        refine A.tn ?_
        refine A.next (l9, mt, ov) ⟨(by first | exact hu.2.1 | exact hu.2.2), (by first | exact hRu_l | exact hRu_r), (by first | exact (srt_mid hSu).1 | exact (srt_mid hSu).2.1), (by rw [← hf]; first | (rw [bw_L _ hSu (by assumption)]; done) | (rw [bw_R0 _ _ hSu (by assumption)]; done) | (rw [bw_R0 _ _ hSu (by assumption)]; simp_all [ob]; done) | (rw [bw_R1 _ _ hRu_l rfl hSu (by assumption)]; done) | (rw [bw_R1 _ _ hRu_l rfl hSu (by assumption)]; simp_all [ob]; done)), (by first | exact hm | (intro h_; cases h_))⟩ (by first | (simp; done) | (simp; omega)) ?_
        exact A.hereK [0, 0, 0] (by exact ⟨rfl, rfl, rfl, rfl, rfl, rfl, rfl, trivial⟩) (by kernel_rfl)
      · skip
        have p1 := of_decide_eq_false e1
        refine A.skip ?_
        refine A.tn ?_
        refine A.seq ?_
        refine A.region (A.goP [.p, .p, .p, .p, .rd [(u_ x5.ka), (i_ x5.ki), (u_ x5.va), (i_ x5.vi)]] [(1, (u_ n)), (4, (p_ b1)), (5, (b_ false)), (6, (p_ b2)), (7, (p_ b3)), (8, (.func (.func 52) #[] #[(p_ b3), (p_ b2)])), (9, (p_ b4)), (20, (b_ true)), (28, (b_ (decide (x5.ka > n)))), (34, (.func (.func 52) #[] #[(p_ b3), (p_ b2)])), (38, (.agg #[(u_ x5.ka), (i_ x5.ki), (u_ x5.va), (i_ x5.vi)]))] [] (fun κ => κ.rd ⟨b4, 0, none⟩ [(u_ x5.ka), (i_ x5.ki), (u_ x5.va), (i_ x5.vi)] ∧ True) (by kernel_rfl) ⟨(reads_oldblk hu.1 rfl), trivial⟩ ?_)
        refine A.cons (A.inlX (some 39) [(.agg #[(u_ x5.ka), (i_ x5.ki), (u_ x5.va), (i_ x5.vi)]), (p_ b3), (p_ b2)] [(0, (.agg #[(u_ x5.ka), (i_ x5.ki), (u_ x5.va), (i_ x5.vi)])), (1, (p_ b3)), (2, (p_ b2))] (by kernel_rfl) rfl Try.func52 rfl rfl ?_)
        refine A.seq ?_
        refine A.region (A.goA1 [.al] [0, 1, 2, 3] (fun b11 => [(0, (.agg #[(u_ x5.ka), (i_ x5.ki), (u_ x5.va), (i_ x5.vi)])), (1, (p_ b3)), (2, (p_ b2)), (3, (p_ b11))]) (fun b11 => [blk b3 [(b_ mt)] 4, blk b2 [(u_ ov.ka), (i_ ov.ki), (u_ ov.va), (i_ ov.vi)] 68, blk b1 [(u_ 0), (i_ 0), (u_ 0), (i_ 0)] 68, blk b11 [(u_ x5.ka), (i_ x5.ki), (u_ x5.va), (i_ x5.vi)] 68]) (fun b11 => []) (fun _ => T0) (fun _ => by kernel_rfl) (fun b11 => trivial) ?_)
        intro b11
        refine A.tn ?_
        refine A.seq ?_
        refine A.seq ?_
        refine A.region (A.goA [.ld 0, .p] [(0, (.agg #[(u_ x5.ka), (i_ x5.ki), (u_ x5.va), (i_ x5.vi)])), (1, (p_ b3)), (2, (p_ b2)), (3, (p_ b11)), (5, (b_ (!mt)))] [b3] T0 (by kernel_rfl) trivial ?_)
        refine A.tn ?_
        refine A.cond (E := !mt) rfl (fun e2 => ?_) (fun e2 => ?_)
        · skip
          have p2 := e2; try simp only [decide_eq_true_eq, decide_eq_false_iff_not, beq_iff_eq, beq_eq_false_iff_ne, bne_iff_ne, bne_eq_false_iff_eq, ne_eq, Bool.and_eq_true, Bool.or_eq_true, Bool.or_eq_false_iff, Bool.not_eq_true', Bool.not_eq_false', Int.not_lt, Int.not_le, gt_iff_lt, ge_iff_le, Classical.not_not] at p2
          refine A.region (A.goAS [.ld 3, .st 1] [(0, (.agg #[(u_ x5.ka), (i_ x5.ki), (u_ x5.va), (i_ x5.vi)])), (1, (p_ b3)), (2, (p_ b2)), (3, (p_ b11)), (5, (b_ (!mt)))] [blk b3 [(b_ mt)] 4, blk b2 [(u_ x5.ka), (i_ x5.ki), (u_ x5.va), (i_ x5.vi)] 68, blk b1 [(u_ 0), (i_ 0), (u_ 0), (i_ 0)] 68, blk b11 [(u_ x5.ka), (i_ x5.ki), (u_ x5.va), (i_ x5.vi)] 68] [b11, b2] T0 (by kernel_rfl) trivial ?_)
          refine A.tn ?_
          refine A.seq ?_
          refine A.region (A.goAS [.st 0] [(0, (.agg #[(u_ x5.ka), (i_ x5.ki), (u_ x5.va), (i_ x5.vi)])), (1, (p_ b3)), (2, (p_ b2)), (3, (p_ b11)), (5, (b_ (!mt)))] [blk b3 [(b_ true)] 4, blk b2 [(u_ x5.ka), (i_ x5.ki), (u_ x5.va), (i_ x5.vi)] 68, blk b1 [(u_ 0), (i_ 0), (u_ 0), (i_ 0)] 68, blk b11 [(u_ x5.ka), (i_ x5.ki), (u_ x5.va), (i_ x5.vi)] 68] [b3] T0 (by kernel_rfl) trivial ?_)
          refine A.tn ?_
          refine A.region (A.goAS [.ld 1, .ld 3, .cq (.agg #[(u_ ((bet x5 x5).ka)), (i_ ((bet x5 x5).ki)), (u_ ((bet x5 x5).va)), (i_ ((bet x5 x5).vi))]), .st 1] [(0, (.agg #[(u_ x5.ka), (i_ x5.ki), (u_ x5.va), (i_ x5.vi)])), (1, (p_ b3)), (2, (p_ b2)), (3, (p_ b11)), (5, (b_ (!mt)))] [blk b3 [(b_ true)] 4, blk b2 [(u_ ((bet x5 x5).ka)), (i_ ((bet x5 x5).ki)), (u_ ((bet x5 x5).va)), (i_ ((bet x5 x5).vi))] 68, blk b1 [(u_ 0), (i_ 0), (u_ 0), (i_ 0)] 68, blk b11 [(u_ x5.ka), (i_ x5.ki), (u_ x5.va), (i_ x5.vi)] 68] [b2, b11, b2] (fun κ => κ.call 53 [(.agg #[(u_ x5.ka), (i_ x5.ki), (u_ x5.va), (i_ x5.vi)]), (.agg #[(u_ x5.ka), (i_ x5.ki), (u_ x5.va), (i_ x5.vi)])] (.agg #[(u_ ((bet x5 x5).ka)), (i_ ((bet x5 x5).ki)), (u_ ((bet x5 x5).va)), (i_ ((bet x5 x5).vi))]) ∧ True) (by kernel_rfl) ⟨(fun ww ss => better_spec x5 x5 ww), trivial⟩ ?_)
          refine A.postn [] (fun aa ww rr ss => trivial) (A.back (by kernel_rfl) ?_)
          refine A.items [blk b3 [(b_ true)] 4, blk b2 [(u_ ((bet x5 x5).ka)), (i_ ((bet x5 x5).ki)), (u_ ((bet x5 x5).va)), (i_ ((bet x5 x5).vi))] 68, blk b1 [(u_ 0), (i_ 0), (u_ 0), (i_ 0)] 68] (.cons_cons _ (.cons_cons _ (.cons_cons _ (.cons _ (List.Sublist.slnil))))) ?_
          refine A.done ?_
          refine A.sub [(1, (u_ n)), (4, (p_ b1)), (5, (b_ false)), (6, (p_ b2)), (7, (p_ b3)), (8, (.func (.func 52) #[] #[(p_ b3), (p_ b2)])), (9, (p_ b4)), (20, (b_ true)), (28, (b_ (decide (x5.ka > n))))] (by exact ⟨rfl, rfl, rfl, rfl, rfl, rfl, rfl, rfl, rfl, trivial⟩) ?_
          refine A.tn ?_
          refine A.seq ?_
          refine A.seq ?_
          refine A.region (A.goA [.p, .p, .p, .p, .rd [(.pointer (T.ptr l9))], .p] [(1, (u_ n)), (4, (p_ b1)), (5, (b_ false)), (6, (p_ b2)), (7, (p_ b3)), (8, (.func (.func 52) #[] #[(p_ b3), (p_ b2)])), (9, (p_ b4)), (20, (b_ true)), (28, (b_ (decide (x5.ka > n)))), (10, (.pointer (T.ptr l9)))] [] (fun κ => κ.rd ⟨b4, 4, none⟩ [(.pointer (T.ptr l9))] ∧ True) (by kernel_rfl) ⟨(reads_oldblk hu.1 rfl), trivial⟩ ?_)
          refine A.tn ?_
          refine A.seq ?_
          refine A.region (A.goP [.p] [(1, (u_ n)), (4, (p_ b1)), (5, (b_ false)), (6, (p_ b2)), (7, (p_ b3)), (8, (.func (.func 52) #[] #[(p_ b3), (p_ b2)])), (9, (p_ b4)), (20, (b_ true)), (28, (b_ (decide (x5.ka > n)))), (10, (.pointer (T.ptr l9))), (45, (.pointer (T.ptr l9)))] [] T0 (by kernel_rfl) trivial ?_)
          rcases l9 with _ | ⟨b12, x13, m14, h15, n16, l17, r18⟩
          · skip
            refine A.goA [.p] [(1, (u_ n)), (4, (p_ b1)), (5, (b_ false)), (6, (p_ b2)), (7, (p_ b3)), (8, (.func (.func 52) #[] #[(p_ b3), (p_ b2)])), (9, (p_ b4)), (20, (b_ true)), (28, (b_ (decide (x5.ka > n)))), (10, n_), (46, (b_ false))] [] T0 (by kernel_rfl) trivial ?_
            refine A.tn ?_
            refine A.cond_f rfl ?_
            refine A.skip ?_
            refine A.tn ?_
            refine A.region (A.goA [.p, .p, .p, .p, .rd [(.pointer (T.ptr r10))], .p] [(1, (u_ n)), (4, (p_ b1)), (5, (b_ false)), (6, (p_ b2)), (7, (p_ b3)), (8, (.func (.func 52) #[] #[(p_ b3), (p_ b2)])), (9, (.pointer (T.ptr r10))), (20, (b_ true)), (28, (b_ (decide (x5.ka > n)))), (10, n_), (46, (b_ false))] [] (fun κ => κ.rd ⟨b4, 5, none⟩ [(.pointer (T.ptr r10))] ∧ True) (by kernel_rfl) ⟨(reads_oldblk hu.1 rfl), trivial⟩ ?_)
            refine A.bn ?_
            refine A.tn ?_
            refine A.next (r10, true, (bet x5 x5)) ⟨(by first | exact hu.2.1 | exact hu.2.2), (by first | exact hRu_l | exact hRu_r), (by first | exact (srt_mid hSu).1 | exact (srt_mid hSu).2.1), (by rw [← hf]; first | (rw [bw_L _ hSu (by assumption)]; done) | (rw [bw_R0 _ _ hSu (by assumption)]; done) | (rw [bw_R0 _ _ hSu (by assumption)]; simp_all [ob]; done) | (rw [bw_R1 _ _ hRu_l rfl hSu (by assumption)]; done) | (rw [bw_R1 _ _ hRu_l rfl hSu (by assumption)]; simp_all [ob]; done)), (by first | exact hm | (intro h_; cases h_))⟩ (by first | (simp; done) | (simp; omega)) ?_
            exact A.hereK [0, 0, 0] (by exact ⟨rfl, rfl, rfl, rfl, rfl, rfl, rfl, trivial⟩) (by kernel_rfl)
          · skip
            refine A.goA [.p] [(1, (u_ n)), (4, (p_ b1)), (5, (b_ false)), (6, (p_ b2)), (7, (p_ b3)), (8, (.func (.func 52) #[] #[(p_ b3), (p_ b2)])), (9, (p_ b4)), (20, (b_ true)), (28, (b_ (decide (x5.ka > n)))), (10, (p_ b12)), (46, (b_ true))] [] T0 (by kernel_rfl) trivial ?_
            refine A.tn ?_
            refine A.cond_t rfl ?_
            refine A.region (A.goP [.p, .p, .p, .p, .rd [(u_ m14.ka), (i_ m14.ki), (u_ m14.va), (i_ m14.vi)]] [(1, (u_ n)), (4, (p_ b1)), (5, (b_ false)), (6, (p_ b2)), (7, (p_ b3)), (8, (.func (.func 52) #[] #[(p_ b3), (p_ b2)])), (9, (p_ b4)), (20, (b_ true)), (28, (b_ (decide (x5.ka > n)))), (10, (p_ b12)), (46, (b_ true)), (47, (.func (.func 52) #[] #[(p_ b3), (p_ b2)])), (51, (.agg #[(u_ m14.ka), (i_ m14.ki), (u_ m14.va), (i_ m14.vi)]))] [] (fun κ => κ.rd ⟨b12, 6, none⟩ [(u_ m14.ka), (i_ m14.ki), (u_ m14.va), (i_ m14.vi)] ∧ True) (by kernel_rfl) ⟨(reads_oldblk hu.2.1.1 rfl), trivial⟩ ?_)
            refine A.cons (A.inlX (some 52) [(.agg #[(u_ m14.ka), (i_ m14.ki), (u_ m14.va), (i_ m14.vi)]), (p_ b3), (p_ b2)] [(0, (.agg #[(u_ m14.ka), (i_ m14.ki), (u_ m14.va), (i_ m14.vi)])), (1, (p_ b3)), (2, (p_ b2))] (by kernel_rfl) rfl Try.func52 rfl rfl ?_)
            refine A.seq ?_
            refine A.region (A.goA1 [.al] [0, 1, 2, 3] (fun b19 => [(0, (.agg #[(u_ m14.ka), (i_ m14.ki), (u_ m14.va), (i_ m14.vi)])), (1, (p_ b3)), (2, (p_ b2)), (3, (p_ b19))]) (fun b19 => [blk b3 [(b_ true)] 4, blk b2 [(u_ ((bet x5 x5).ka)), (i_ ((bet x5 x5).ki)), (u_ ((bet x5 x5).va)), (i_ ((bet x5 x5).vi))] 68, blk b1 [(u_ 0), (i_ 0), (u_ 0), (i_ 0)] 68, blk b19 [(u_ m14.ka), (i_ m14.ki), (u_ m14.va), (i_ m14.vi)] 68]) (fun b19 => []) (fun _ => T0) (fun _ => by kernel_rfl) (fun b19 => trivial) ?_)
            intro b19
            refine A.tn ?_
            refine A.seq ?_
            refine A.seq ?_
            refine A.region (A.goA [.ld 0, .p] [(0, (.agg #[(u_ m14.ka), (i_ m14.ki), (u_ m14.va), (i_ m14.vi)])), (1, (p_ b3)), (2, (p_ b2)), (3, (p_ b19)), (5, (b_ false))] [b3] T0 (by kernel_rfl) trivial ?_)
            refine A.tn ?_
            refine A.cond_f rfl ?_
            refine A.skip ?_
            refine A.tn ?_
            refine A.seq ?_
            refine A.region (A.goAS [.st 0] [(0, (.agg #[(u_ m14.ka), (i_ m14.ki), (u_ m14.va), (i_ m14.vi)])), (1, (p_ b3)), (2, (p_ b2)), (3, (p_ b19)), (5, (b_ false))] [blk b3 [(b_ true)] 4, blk b2 [(u_ ((bet x5 x5).ka)), (i_ ((bet x5 x5).ki)), (u_ ((bet x5 x5).va)), (i_ ((bet x5 x5).vi))] 68, blk b1 [(u_ 0), (i_ 0), (u_ 0), (i_ 0)] 68, blk b19 [(u_ m14.ka), (i_ m14.ki), (u_ m14.va), (i_ m14.vi)] 68] [b3] T0 (by kernel_rfl) trivial ?_)
            refine A.tn ?_
            refine A.region (A.goAS [.ld 1, .ld 3, .cq (.agg #[(u_ ((bet (bet x5 x5) m14).ka)), (i_ ((bet (bet x5 x5) m14).ki)), (u_ ((bet (bet x5 x5) m14).va)), (i_ ((bet (bet x5 x5) m14).vi))]), .st 1] [(0, (.agg #[(u_ m14.ka), (i_ m14.ki), (u_ m14.va), (i_ m14.vi)])), (1, (p_ b3)), (2, (p_ b2)), (3, (p_ b19)), (5, (b_ false))] [blk b3 [(b_ true)] 4, blk b2 [(u_ ((bet (bet x5 x5) m14).ka)), (i_ ((bet (bet x5 x5) m14).ki)), (u_ ((bet (bet x5 x5) m14).va)), (i_ ((bet (bet x5 x5) m14).vi))] 68, blk b1 [(u_ 0), (i_ 0), (u_ 0), (i_ 0)] 68, blk b19 [(u_ m14.ka), (i_ m14.ki), (u_ m14.va), (i_ m14.vi)] 68] [b2, b19, b2] (fun κ => κ.call 53 [(.agg #[(u_ ((bet x5 x5).ka)), (i_ ((bet x5 x5).ki)), (u_ ((bet x5 x5).va)), (i_ ((bet x5 x5).vi))]), (.agg #[(u_ m14.ka), (i_ m14.ki), (u_ m14.va), (i_ m14.vi)])] (.agg #[(u_ ((bet (bet x5 x5) m14).ka)), (i_ ((bet (bet x5 x5) m14).ki)), (u_ ((bet (bet x5 x5) m14).va)), (i_ ((bet (bet x5 x5) m14).vi))]) ∧ True) (by kernel_rfl) ⟨(fun ww ss => better_spec (bet x5 x5) m14 ww), trivial⟩ ?_)
            refine A.postn [] (fun aa ww rr ss => trivial) (A.back (by kernel_rfl) ?_)
            refine A.items [blk b3 [(b_ true)] 4, blk b2 [(u_ ((bet (bet x5 x5) m14).ka)), (i_ ((bet (bet x5 x5) m14).ki)), (u_ ((bet (bet x5 x5) m14).va)), (i_ ((bet (bet x5 x5) m14).vi))] 68, blk b1 [(u_ 0), (i_ 0), (u_ 0), (i_ 0)] 68] (.cons_cons _ (.cons_cons _ (.cons_cons _ (.cons _ (List.Sublist.slnil))))) ?_
            refine A.done ?_
            refine A.sub [(1, (u_ n)), (4, (p_ b1)), (5, (b_ false)), (6, (p_ b2)), (7, (p_ b3)), (8, (.func (.func 52) #[] #[(p_ b3), (p_ b2)])), (9, (p_ b4)), (20, (b_ true)), (28, (b_ (decide (x5.ka > n)))), (10, (p_ b12)), (46, (b_ true))] (by exact ⟨rfl, rfl, rfl, rfl, rfl, rfl, rfl, rfl, rfl, rfl, rfl, trivial⟩) ?_
            refine A.tn ?_
            refine A.region (A.goA [.p, .p, .p, .p, .rd [(.pointer (T.ptr r10))], .p] [(1, (u_ n)), (4, (p_ b1)), (5, (b_ false)), (6, (p_ b2)), (7, (p_ b3)), (8, (.func (.func 52) #[] #[(p_ b3), (p_ b2)])), (9, (.pointer (T.ptr r10))), (20, (b_ true)), (28, (b_ (decide (x5.ka > n)))), (10, (p_ b12)), (46, (b_ true))] [] (fun κ => κ.rd ⟨b4, 5, none⟩ [(.pointer (T.ptr r10))] ∧ True) (by kernel_rfl) ⟨(reads_oldblk hu.1 rfl), trivial⟩ ?_)
            refine A.bn ?_
            refine A.tn ?_
            refine A.next (r10, true, (bet (bet x5 x5) m14)) ⟨(by first | exact hu.2.1 | exact hu.2.2), (by first | exact hRu_l | exact hRu_r), (by first | exact (srt_mid hSu).1 | exact (srt_mid hSu).2.1), (by rw [← hf]; first | (rw [bw_L _ hSu (by assumption)]; done) | (rw [bw_R0 _ _ hSu (by assumption)]; done) | (rw [bw_R0 _ _ hSu (by assumption)]; simp_all [ob]; done) | (rw [bw_R1 _ _ hRu_l rfl hSu (by assumption)]; done) | (rw [bw_R1 _ _ hRu_l rfl hSu (by assumption)]; simp_all [ob]; done)), (by first | exact hm | (intro h_; cases h_))⟩ (by first | (simp; done) | (simp; omega)) ?_
            exact A.hereK [0, 0, 0] (by exact ⟨rfl, rfl, rfl, rfl, rfl, rfl, rfl, trivial⟩) (by kernel_rfl)
        · skip
          have p2 := e2; try simp only [decide_eq_true_eq, decide_eq_false_iff_not, beq_iff_eq, beq_eq_false_iff_ne, bne_iff_ne, bne_eq_false_iff_eq, ne_eq, Bool.and_eq_true, Bool.or_eq_true, Bool.or_eq_false_iff, Bool.not_eq_true', Bool.not_eq_false', Int.not_lt, Int.not_le, gt_iff_lt, ge_iff_le, Classical.not_not] at p2
          refine A.skip ?_
          refine A.tn ?_
          refine A.seq ?_
          refine A.region (A.goAS [.st 0] [(0, (.agg #[(u_ x5.ka), (i_ x5.ki), (u_ x5.va), (i_ x5.vi)])), (1, (p_ b3)), (2, (p_ b2)), (3, (p_ b11)), (5, (b_ (!mt)))] [blk b3 [(b_ true)] 4, blk b2 [(u_ ov.ka), (i_ ov.ki), (u_ ov.va), (i_ ov.vi)] 68, blk b1 [(u_ 0), (i_ 0), (u_ 0), (i_ 0)] 68, blk b11 [(u_ x5.ka), (i_ x5.ki), (u_ x5.va), (i_ x5.vi)] 68] [b3] T0 (by kernel_rfl) trivial ?_)
          refine A.tn ?_
          refine A.region (A.goAS [.ld 1, .ld 3, .cq (.agg #[(u_ ((bet ov x5).ka)), (i_ ((bet ov x5).ki)), (u_ ((bet ov x5).va)), (i_ ((bet ov x5).vi))]), .st 1] [(0, (.agg #[(u_ x5.ka), (i_ x5.ki), (u_ x5.va), (i_ x5.vi)])), (1, (p_ b3)), (2, (p_ b2)), (3, (p_ b11)), (5, (b_ (!mt)))] [blk b3 [(b_ true)] 4, blk b2 [(u_ ((bet ov x5).ka)), (i_ ((bet ov x5).ki)), (u_ ((bet ov x5).va)), (i_ ((bet ov x5).vi))] 68, blk b1 [(u_ 0), (i_ 0), (u_ 0), (i_ 0)] 68, blk b11 [(u_ x5.ka), (i_ x5.ki), (u_ x5.va), (i_ x5.vi)] 68] [b2, b11, b2] (fun κ => κ.call 53 [(.agg #[(u_ ov.ka), (i_ ov.ki), (u_ ov.va), (i_ ov.vi)]), (.agg #[(u_ x5.ka), (i_ x5.ki), (u_ x5.va), (i_ x5.vi)])] (.agg #[(u_ ((bet ov x5).ka)), (i_ ((bet ov x5).ki)), (u_ ((bet ov x5).va)), (i_ ((bet ov x5).vi))]) ∧ True) (by kernel_rfl) ⟨(fun ww ss => better_spec ov x5 ww), trivial⟩ ?_)
          refine A.postn [] (fun aa ww rr ss => trivial) (A.back (by kernel_rfl) ?_)
          refine A.items [blk b3 [(b_ true)] 4, blk b2 [(u_ ((bet ov x5).ka)), (i_ ((bet ov x5).ki)), (u_ ((bet ov x5).va)), (i_ ((bet ov x5).vi))] 68, blk b1 [(u_ 0), (i_ 0), (u_ 0), (i_ 0)] 68] (.cons_cons _ (.cons_cons _ (.cons_cons _ (.cons _ (List.Sublist.slnil))))) ?_
          refine A.done ?_
          refine A.sub [(1, (u_ n)), (4, (p_ b1)), (5, (b_ false)), (6, (p_ b2)), (7, (p_ b3)), (8, (.func (.func 52) #[] #[(p_ b3), (p_ b2)])), (9, (p_ b4)), (20, (b_ true)), (28, (b_ (decide (x5.ka > n))))] (by exact ⟨rfl, rfl, rfl, rfl, rfl, rfl, rfl, rfl, rfl, trivial⟩) ?_
          refine A.tn ?_
          refine A.seq ?_
          refine A.seq ?_
          refine A.region (A.goA [.p, .p, .p, .p, .rd [(.pointer (T.ptr l9))], .p] [(1, (u_ n)), (4, (p_ b1)), (5, (b_ false)), (6, (p_ b2)), (7, (p_ b3)), (8, (.func (.func 52) #[] #[(p_ b3), (p_ b2)])), (9, (p_ b4)), (20, (b_ true)), (28, (b_ (decide (x5.ka > n)))), (10, (.pointer (T.ptr l9)))] [] (fun κ => κ.rd ⟨b4, 4, none⟩ [(.pointer (T.ptr l9))] ∧ True) (by kernel_rfl) ⟨(reads_oldblk hu.1 rfl), trivial⟩ ?_)
          refine A.tn ?_
          refine A.seq ?_
          refine A.region (A.goP [.p] [(1, (u_ n)), (4, (p_ b1)), (5, (b_ false)), (6, (p_ b2)), (7, (p_ b3)), (8, (.func (.func 52) #[] #[(p_ b3), (p_ b2)])), (9, (p_ b4)), (20, (b_ true)), (28, (b_ (decide (x5.ka > n)))), (10, (.pointer (T.ptr l9))), (45, (.pointer (T.ptr l9)))] [] T0 (by kernel_rfl) trivial ?_)
          rcases l9 with _ | ⟨b20, x21, m22, h23, n24, l25, r26⟩
          · skip
            refine A.goA [.p] [(1, (u_ n)), (4, (p_ b1)), (5, (b_ false)), (6, (p_ b2)), (7, (p_ b3)), (8, (.func (.func 52) #[] #[(p_ b3), (p_ b2)])), (9, (p_ b4)), (20, (b_ true)), (28, (b_ (decide (x5.ka > n)))), (10, n_), (46, (b_ false))] [] T0 (by kernel_rfl) trivial ?_
            refine A.tn ?_
            refine A.cond_f rfl ?_
            refine A.skip ?_
            refine A.tn ?_
            refine A.region (A.goA [.p, .p, .p, .p, .rd [(.pointer (T.ptr r10))], .p] [(1, (u_ n)), (4, (p_ b1)), (5, (b_ false)), (6, (p_ b2)), (7, (p_ b3)), (8, (.func (.func 52) #[] #[(p_ b3), (p_ b2)])), (9, (.pointer (T.ptr r10))), (20, (b_ true)), (28, (b_ (decide (x5.ka > n)))), (10, n_), (46, (b_ false))] [] (fun κ => κ.rd ⟨b4, 5, none⟩ [(.pointer (T.ptr r10))] ∧ True) (by kernel_rfl) ⟨(reads_oldblk hu.1 rfl), trivial⟩ ?_)
            refine A.bn ?_
            refine A.tn ?_
            refine A.next (r10, true, (bet ov x5)) ⟨(by first | exact hu.2.1 | exact hu.2.2), (by first | exact hRu_l | exact hRu_r), (by first | exact (srt_mid hSu).1 | exact (srt_mid hSu).2.1), (by rw [← hf]; first | (rw [bw_L _ hSu (by assumption)]; done) | (rw [bw_R0 _ _ hSu (by assumption)]; done) | (rw [bw_R0 _ _ hSu (by assumption)]; simp_all [ob]; done) | (rw [bw_R1 _ _ hRu_l rfl hSu (by assumption)]; done) | (rw [bw_R1 _ _ hRu_l rfl hSu (by assumption)]; simp_all [ob]; done)), (by first | exact hm | (intro h_; cases h_))⟩ (by first | (simp; done) | (simp; omega)) ?_
            exact A.hereK [0, 0, 0] (by exact ⟨rfl, rfl, rfl, rfl, rfl, rfl, rfl, trivial⟩) (by kernel_rfl)
          · skip
            refine A.goA [.p] [(1, (u_ n)), (4, (p_ b1)), (5, (b_ false)), (6, (p_ b2)), (7, (p_ b3)), (8, (.func (.func 52) #[] #[(p_ b3), (p_ b2)])), (9, (p_ b4)), (20, (b_ true)), (28, (b_ (decide (x5.ka > n)))), (10, (p_ b20)), (46, (b_ true))] [] T0 (by kernel_rfl) trivial ?_
            refine A.tn ?_
            refine A.cond_t rfl ?_
            refine A.region (A.goP [.p, .p, .p, .p, .rd [(u_ m22.ka), (i_ m22.ki), (u_ m22.va), (i_ m22.vi)]] [(1, (u_ n)), (4, (p_ b1)), (5, (b_ false)), (6, (p_ b2)), (7, (p_ b3)), (8, (.func (.func 52) #[] #[(p_ b3), (p_ b2)])), (9, (p_ b4)), (20, (b_ true)), (28, (b_ (decide (x5.ka > n)))), (10, (p_ b20)), (46, (b_ true)), (47, (.func (.func 52) #[] #[(p_ b3), (p_ b2)])), (51, (.agg #[(u_ m22.ka), (i_ m22.ki), (u_ m22.va), (i_ m22.vi)]))] [] (fun κ => κ.rd ⟨b20, 6, none⟩ [(u_ m22.ka), (i_ m22.ki), (u_ m22.va), (i_ m22.vi)] ∧ True) (by kernel_rfl) ⟨(reads_oldblk hu.2.1.1 rfl), trivial⟩ ?_)
            refine A.cons (A.inlX (some 52) [(.agg #[(u_ m22.ka), (i_ m22.ki), (u_ m22.va), (i_ m22.vi)]), (p_ b3), (p_ b2)] [(0, (.agg #[(u_ m22.ka), (i_ m22.ki), (u_ m22.va), (i_ m22.vi)])), (1, (p_ b3)), (2, (p_ b2))] (by kernel_rfl) rfl Try.func52 rfl rfl ?_)
            refine A.seq ?_
            refine A.region (A.goA1 [.al] [0, 1, 2, 3] (fun b27 => [(0, (.agg #[(u_ m22.ka), (i_ m22.ki), (u_ m22.va), (i_ m22.vi)])), (1, (p_ b3)), (2, (p_ b2)), (3, (p_ b27))]) (fun b27 => [blk b3 [(b_ true)] 4, blk b2 [(u_ ((bet ov x5).ka)), (i_ ((bet ov x5).ki)), (u_ ((bet ov x5).va)), (i_ ((bet ov x5).vi))] 68, blk b1 [(u_ 0), (i_ 0), (u_ 0), (i_ 0)] 68, blk b27 [(u_ m22.ka), (i_ m22.ki), (u_ m22.va), (i_ m22.vi)] 68]) (fun b27 => []) (fun _ => T0) (fun _ => by kernel_rfl) (fun b27 => trivial) ?_)
            intro b27
            refine A.tn ?_
            refine A.seq ?_
            refine A.seq ?_
            refine A.region (A.goA [.ld 0, .p] [(0, (.agg #[(u_ m22.ka), (i_ m22.ki), (u_ m22.va), (i_ m22.vi)])), (1, (p_ b3)), (2, (p_ b2)), (3, (p_ b27)), (5, (b_ false))] [b3] T0 (by kernel_rfl) trivial ?_)
            refine A.tn ?_
            refine A.cond_f rfl ?_
            refine A.skip ?_
            refine A.tn ?_
            refine A.seq ?_
            refine A.region (A.goAS [.st 0] [(0, (.agg #[(u_ m22.ka), (i_ m22.ki), (u_ m22.va), (i_ m22.vi)])), (1, (p_ b3)), (2, (p_ b2)), (3, (p_ b27)), (5, (b_ false))] [blk b3 [(b_ true)] 4, blk b2 [(u_ ((bet ov x5).ka)), (i_ ((bet ov x5).ki)), (u_ ((bet ov x5).va)), (i_ ((bet ov x5).vi))] 68, blk b1 [(u_ 0), (i_ 0), (u_ 0), (i_ 0)] 68, blk b27 [(u_ m22.ka), (i_ m22.ki), (u_ m22.va), (i_ m22.vi)] 68] [b3] T0 (by kernel_rfl) trivial ?_)
            refine A.tn ?_
            refine A.region (A.goAS [.ld 1, .ld 3, .cq (.agg #[(u_ ((bet (bet ov x5) m22).ka)), (i_ ((bet (bet ov x5) m22).ki)), (u_ ((bet (bet ov x5) m22).va)), (i_ ((bet (bet ov x5) m22).vi))]), .st 1] [(0, (.agg #[(u_ m22.ka), (i_ m22.ki), (u_ m22.va), (i_ m22.vi)])), (1, (p_ b3)), (2, (p_ b2)), (3, (p_ b27)), (5, (b_ false))] [blk b3 [(b_ true)] 4, blk b2 [(u_ ((bet (bet ov x5) m22).ka)), (i_ ((bet (bet ov x5) m22).ki)), (u_ ((bet (bet ov x5) m22).va)), (i_ ((bet (bet ov x5) m22).vi))] 68, blk b1 [(u_ 0), (i_ 0), (u_ 0), (i_ 0)] 68, blk b27 [(u_ m22.ka), (i_ m22.ki), (u_ m22.va), (i_ m22.vi)] 68] [b2, b27, b2] (fun κ => κ.call 53 [(.agg #[(u_ ((bet ov x5).ka)), (i_ ((bet ov x5).ki)), (u_ ((bet ov x5).va)), (i_ ((bet ov x5).vi))]), (.agg #[(u_ m22.ka), (i_ m22.ki), (u_ m22.va), (i_ m22.vi)])] (.agg #[(u_ ((bet (bet ov x5) m22).ka)), (i_ ((bet (bet ov x5) m22).ki)), (u_ ((bet (bet ov x5) m22).va)), (i_ ((bet (bet ov x5) m22).vi))]) ∧ True) (by kernel_rfl) ⟨(fun ww ss => better_spec (bet ov x5) m22 ww), trivial⟩ ?_)
            refine A.postn [] (fun aa ww rr ss => trivial) (A.back (by kernel_rfl) ?_)
            refine A.items [blk b3 [(b_ true)] 4, blk b2 [(u_ ((bet (bet ov x5) m22).ka)), (i_ ((bet (bet ov x5) m22).ki)), (u_ ((bet (bet ov x5) m22).va)), (i_ ((bet (bet ov x5) m22).vi))] 68, blk b1 [(u_ 0), (i_ 0), (u_ 0), (i_ 0)] 68] (.cons_cons _ (.cons_cons _ (.cons_cons _ (.cons _ (List.Sublist.slnil))))) ?_
            refine A.done ?_
            refine A.sub [(1, (u_ n)), (4, (p_ b1)), (5, (b_ false)), (6, (p_ b2)), (7, (p_ b3)), (8, (.func (.func 52) #[] #[(p_ b3), (p_ b2)])), (9, (p_ b4)), (20, (b_ true)), (28, (b_ (decide (x5.ka > n)))), (10, (p_ b20)), (46, (b_ true))] (by exact ⟨rfl, rfl, rfl, rfl, rfl, rfl, rfl, rfl, rfl, rfl, rfl, trivial⟩) ?_
            refine A.tn ?_
            refine A.region (A.goA [.p, .p, .p, .p, .rd [(.pointer (T.ptr r10))], .p] [(1, (u_ n)), (4, (p_ b1)), (5, (b_ false)), (6, (p_ b2)), (7, (p_ b3)), (8, (.func (.func 52) #[] #[(p_ b3), (p_ b2)])), (9, (.pointer (T.ptr r10))), (20, (b_ true)), (28, (b_ (decide (x5.ka > n)))), (10, (p_ b20)), (46, (b_ true))] [] (fun κ => κ.rd ⟨b4, 5, none⟩ [(.pointer (T.ptr r10))] ∧ True) (by kernel_rfl) ⟨(reads_oldblk hu.1 rfl), trivial⟩ ?_)
            refine A.bn ?_
            refine A.tn ?_
            refine A.next (r10, true, (bet (bet ov x5) m22)) ⟨(by first | exact hu.2.1 | exact hu.2.2), (by first | exact hRu_l | exact hRu_r), (by first | exact (srt_mid hSu).1 | exact (srt_mid hSu).2.1), (by rw [← hf]; first | (rw [bw_L _ hSu (by assumption)]; done) | (rw [bw_R0 _ _ hSu (by assumption)]; done) | (rw [bw_R0 _ _ hSu (by assumption)]; simp_all [ob]; done) | (rw [bw_R1 _ _ hRu_l rfl hSu (by assumption)]; done) | (rw [bw_R1 _ _ hRu_l rfl hSu (by assumption)]; simp_all [ob]; done)), (by first | exact hm | (intro h_; cases h_))⟩ (by first | (simp; done) | (simp; omega)) ?_
            exact A.hereK [0, 0, 0] (by exact ⟨rfl, rfl, rfl, rfl, rfl, rfl, rfl, trivial⟩) (by kernel_rfl)
end Go.Proofs.Ytdhcglflmkjneaa
