/- What the functions of this layer do, proved operation by operation, for all arguments, under the conditions that each theorem states. -/
import Derived.Test.YtdhcglflmkjneaaProg
import Derived.Test.YtdhcglflmkjneaaAvl3
namespace Go.Proofs.Ytdhcglflmkjneaa
open Go V
set_option linter.unusedVariables false
set_option linter.unusedSimpArgs false

set_option maxHeartbeats 4000000 in
set_option maxRecDepth 100000 in
theorem find_spec (bt : Nat) (t : T) (a i : Int) (w : World) (r0 : (blk bt [(.pointer (T.ptr t))] 86).holds w) (r1 : (treeI 92 t).holds w) :
    Calls Try.prog 47 #[(p_ bt), (.agg #[(u_ a), (i_ i)])] w fun e w' => e = .returned (.pointer (T.ptr (T.findT a i t))) ∧ Fr [] w w' := by
  refine calls_of (args := [(p_ bt), (.agg #[(u_ a), (i_ i)])]) (penv [(p_ bt), (.agg #[(u_ a), (i_ i)])]) [] [] Try.func47 rfl rfl (look_penv _) (HS.nil w) ?_
  refine A.norm [(0, (p_ bt)), (1, (.agg #[(u_ a), (i_ i)]))] [] (by exact ⟨rfl, rfl, trivial⟩) rfl ?_
  refine A.seq ?_
  refine A.region (A.goA1 [.al, .p] [0, 1, 3, 4] (fun b1 => [(0, (p_ bt)), (1, (.agg #[(u_ a), (i_ i)])), (3, (p_ b1)), (4, n_)]) (fun b1 => [blk b1 [(u_ a), (i_ i)] 66]) (fun b1 => []) (fun _ => T0) (fun _ => by kernel_rfl) (fun b1 => trivial) ?_)
  intro b1
  refine A.tn ?_
  refine A.seq ?_
  refine A.region (A.goA [.p, .p, .p, .rd [(.pointer (T.ptr t))], .p] [(0, (p_ bt)), (1, (.agg #[(u_ a), (i_ i)])), (3, (p_ b1)), (4, n_), (5, (.pointer (T.ptr t)))] [] (fun κ => κ.rd ⟨bt, 0, none⟩ [(.pointer (T.ptr t))] ∧ True) (by kernel_rfl) ⟨(reads_oldblk r0 rfl), trivial⟩ ?_)
  refine A.tn ?_
  refine A.seq ?_
  refine A.block ?_
  refine A.loop (fun (zz : T) => match zz with | u => [(3, (p_ b1)), (4, n_), (5, (.pointer (T.ptr u)))]) (fun (zz : T) => match zz with | u => [blk b1 [(u_ a), (i_ i)] 66]) (fun (zz : T) => match zz with | u => ((treeI 92 u).holds w) ∧ (T.findT a i u = T.findT a i t)) (fun (zz : T) => match zz with | u => SizeOf.sizeOf u) (t : T) ⟨(by exact r1), (by rfl)⟩ ?_ ?_
  · exact A.hereK [0] (by exact ⟨rfl, rfl, rfl, trivial⟩) (by kernel_rfl)
  · rintro u ⟨hu, hf⟩
    refine A.norm [(3, (p_ b1)), (4, n_), (5, (.pointer (T.ptr u)))] [blk b1 [(u_ a), (i_ i)] 66] (by exact ⟨rfl, rfl, rfl, trivial⟩) rfl ?_
    refine A.seq ?_
    refine A.seq ?_
    rcases u with _ | ⟨b2, x3, m4, h5, n6, l7, r8⟩
    · skip
      refine A.drawA [.p, .p, .p, .sk, .sk, .sk, .sk, .sk, .sk, .sk, .p] [0, 1, 2, 3, 4, 5, 6, 7, 8, 9, 10] [(3, (p_ b1)), (4, n_), (5, n_), (20, (b_ false))] [] T0 (by kernel_rfl) (by kernel_rfl) trivial ?_
      refine A.tn ?_
      refine A.cond_f rfl ?_
      refine A.exit ?_
      refine A.te ?_
      refine A.te ?_
      refine A.bh ?_
      refine A.tn ?_
      refine A.seq ?_
      refine A.region (A.goA [.p, .p] [(3, (p_ b1)), (4, n_), (5, n_), (20, (b_ false))] [] T0 (by kernel_rfl) trivial ?_)
      refine A.tn ?_
      refine A.ret ?_
      refine A.postQ [n_] (fun aa ww rr ss => ⟨rv_tmp rr rfl, trivial⟩) ?_
      show (n_ : Value) = (.pointer (T.ptr (T.findT a i t)))
      refine congrArg Value.pointer ?_; rw [← hf]; first | rfl | (unfold T.findT; rw [if_pos (by simp_all)]; rfl)
    · skip
      refine A.drawA [.p, .p, .p, .p, .p, .p, .p, .rd [(u_ x3.ka), (i_ x3.ki)], .ld 0, .eq, .p] [0, 1, 2, 3, 4, 5, 6, 7, 8, 9, 10] [(3, (p_ b1)), (4, n_), (5, (p_ b2)), (20, (b_ (!((x3.ka == a) && (x3.ki == i)))))] [b1] (fun κ => κ.rd ⟨b2, 0, none⟩ [(u_ x3.ka), (i_ x3.ki)] ∧ True) (by kernel_rfl) (by kernel_rfl) ⟨(reads_oldblk hu.1 rfl), trivial⟩ ?_
      refine A.tn ?_
      refine A.cond (E := !((x3.ka == a) && (x3.ki == i))) rfl (fun e1 => ?_) (fun e1 => ?_)
      · skip
        have p1 := e1; try simp only [decide_eq_true_eq, decide_eq_false_iff_not, beq_iff_eq, beq_eq_false_iff_ne, bne_iff_ne, bne_eq_false_iff_eq, ne_eq, Bool.and_eq_true, Bool.or_eq_true, Bool.or_eq_false_iff, Bool.not_eq_true', Bool.not_eq_false', Int.not_lt, Int.not_le, gt_iff_lt, ge_iff_le, Classical.not_not] at p1
        refine A.skip ?_
        refine A.tn ?_
        refine A.block ?_
        by_cases hc : lessK x3.ka x3.ki a i
        · skip
          refine A.drawA [.p, .p, .ld 0, .cq (i_ 1), .p, .p, .p, .rd [(.pointer (T.ptr r8))], .p] [0, 1, 2, 3, 4, 5, 6, 7, 8] [(3, (p_ b1)), (4, n_), (5, (.pointer (T.ptr r8))), (20, (b_ (!((x3.ka == a) && (x3.ki == i)))))] [b1] (fun κ => κ.call 59 [(p_ b2), (.agg #[(u_ a), (i_ i)])] (i_ 1) ∧ κ.rd ⟨b2, 5, none⟩ [(.pointer (T.ptr r8))] ∧ True) (by kernel_rfl) (by kernel_rfl) ⟨(fun ww ss => side1_spec b2 x3 m4 h5 n6 l7 r8 a i (by assumption) ww (old_item ss hu.1)), (reads_oldblk hu.1 rfl), trivial⟩ ?_
          refine A.bn ?_
          refine A.tn ?_
          refine A.next (r8) ⟨(by first | exact hu.2.1 | exact hu.2.2), (by rw [← hf]; (conv => rhs; unfold T.findT); first | (rw [if_neg (by intro he_; simp_all), if_pos hc]) | (rw [if_neg (by intro he_; simp_all), if_neg hc]))⟩ (by first | (simp; done) | (simp; omega)) ?_
          exact A.hereK [0] (by exact ⟨rfl, rfl, rfl, trivial⟩) (by kernel_rfl)
        · skip
          refine A.drawA [.p, .p, .ld 0, .cq (i_ 0), .p, .p, .p, .rd [(.pointer (T.ptr l7))], .p] [0, 1, 2, 3, 4, 5, 6, 7, 8] [(3, (p_ b1)), (4, n_), (5, (.pointer (T.ptr l7))), (20, (b_ (!((x3.ka == a) && (x3.ki == i)))))] [b1] (fun κ => κ.call 59 [(p_ b2), (.agg #[(u_ a), (i_ i)])] (i_ 0) ∧ κ.rd ⟨b2, 4, none⟩ [(.pointer (T.ptr l7))] ∧ True) (by kernel_rfl) (by kernel_rfl) ⟨(fun ww ss => side0_spec b2 x3 m4 h5 n6 l7 r8 a i (by assumption) ww (old_item ss hu.1)), (reads_oldblk hu.1 rfl), trivial⟩ ?_
          refine A.bn ?_
          refine A.tn ?_
          refine A.next (l7) ⟨(by first | exact hu.2.1 | exact hu.2.2), (by rw [← hf]; (conv => rhs; unfold T.findT); first | (rw [if_neg (by intro he_; simp_all), if_pos hc]) | (rw [if_neg (by intro he_; simp_all), if_neg hc]))⟩ (by first | (simp; done) | (simp; omega)) ?_
          exact A.hereK [0] (by exact ⟨rfl, rfl, rfl, trivial⟩) (by kernel_rfl)
      · skip
        have p1 := e1; try simp only [decide_eq_true_eq, decide_eq_false_iff_not, beq_iff_eq, beq_eq_false_iff_ne, bne_iff_ne, bne_eq_false_iff_eq, ne_eq, Bool.and_eq_true, Bool.or_eq_true, Bool.or_eq_false_iff, Bool.not_eq_true', Bool.not_eq_false', Int.not_lt, Int.not_le, gt_iff_lt, ge_iff_le, Classical.not_not] at p1
        refine A.exit ?_
        refine A.te ?_
        refine A.te ?_
        refine A.bh ?_
        refine A.tn ?_
        refine A.seq ?_
        refine A.region (A.goA [.p, .p] [(3, (p_ b1)), (4, (p_ b2)), (5, (p_ b2)), (20, (b_ (!((x3.ka == a) && (x3.ki == i)))))] [] T0 (by kernel_rfl) trivial ?_)
        refine A.tn ?_
        refine A.ret ?_
        refine A.postQ [(p_ b2)] (fun aa ww rr ss => ⟨rv_tmp rr rfl, trivial⟩) ?_
        show ((p_ b2) : Value) = (.pointer (T.ptr (T.findT a i t)))
        refine congrArg Value.pointer ?_; rw [← hf]; first | rfl | (unfold T.findT; rw [if_pos (by simp_all)]; rfl)

set_option maxHeartbeats 4000000 in
set_option maxRecDepth 100000 in
theorem has_spec (t : T) (n : Int) (w : World) (r0 : (treeI 92 t).holds w) :
    Calls Try.prog 58 #[(.pointer (T.ptr t)), (u_ n)] w fun e w' => e = .returned (b_ (T.hasB n t)) ∧ Fr [] w w' := by
  refine calls_of (args := [(.pointer (T.ptr t)), (u_ n)]) (penv [(.pointer (T.ptr t)), (u_ n)]) [] [] Try.func58 rfl rfl (look_penv _) (HS.nil w) ?_
  refine A.norm [(0, (.pointer (T.ptr t))), (1, (u_ n))] [] (by exact ⟨rfl, rfl, trivial⟩) rfl ?_
  refine A.seq ?_
  refine A.region (A.goA [.p] [(0, (.pointer (T.ptr t))), (1, (u_ n)), (4, (b_ false))] [] T0 (by kernel_rfl) trivial ?_)
  refine A.tn ?_
  refine A.seq ?_
  refine A.region (A.goP [.p] [(0, (.pointer (T.ptr t))), (1, (u_ n)), (4, (b_ false)), (5, (.pointer (T.ptr t)))] [] T0 (by kernel_rfl) trivial ?_)
  rcases t with _ | ⟨b1, x2, m3, h4, n5, l6, r7⟩
  · skip
    refine A.goA [.p, .p, .sk, .sk, .sk, .sk, .sk, .sk, .sk, .sk, .p, .p] [(0, n_), (1, (u_ n)), (4, (b_ false))] [] T0 (by kernel_rfl) trivial ?_
    refine A.tn ?_
    refine A.ret ?_
    refine A.postQ [(b_ false)] (fun aa ww rr ss => ⟨rv_tmp rr rfl, trivial⟩) ?_
    show ((b_ false) : Value) = (b_ (T.hasB n T.nil))
    first | rfl | simp_all
  · skip
    refine A.goA [.p, .p, .p, .p, .p, .p, .p, .rd [(u_ m3.va)], .p, .p, .p, .p] [(0, (p_ b1)), (1, (u_ n)), (4, (b_ (decide (m3.va ≤ n))))] [] (fun κ => κ.rd ⟨b1, 8, none⟩ [(u_ m3.va)] ∧ True) (by kernel_rfl) ⟨(reads_oldblk r0.1 rfl), trivial⟩ ?_
    refine A.tn ?_
    refine A.ret ?_
    refine A.postQ [(b_ (decide (m3.va ≤ n)))] (fun aa ww rr ss => ⟨rv_tmp rr rfl, trivial⟩) ?_
    show ((b_ (decide (m3.va ≤ n))) : Value) = (b_ (T.hasB n (T.node b1 x2 m3 h4 n5 l6 r7)))
    first | rfl | simp_all

set_option maxHeartbeats 4000000 in
set_option maxRecDepth 100000 in
theorem len_nil (w : World) :
    Calls Try.prog 57 #[n_] w fun e w' => e = .returned (i_ 0) ∧ Fr [] w w' := by
  refine calls_of (args := [n_]) (penv [n_]) [] [] Try.func57 rfl rfl (look_penv _) (HS.nil w) ?_
  refine A.norm [(0, n_)] [] (by exact ⟨rfl, trivial⟩) rfl ?_
  refine A.seq ?_
  refine A.region (A.goA [.p] [(0, n_), (2, (i_ 0))] [] T0 (by kernel_rfl) trivial ?_)
  refine A.tn ?_
  refine A.seq ?_
  refine A.seq ?_
  refine A.region (A.goA [.p, .p] [(0, n_), (2, (i_ 0)), (4, (b_ true))] [] T0 (by kernel_rfl) trivial ?_)
  refine A.tn ?_
  refine A.cond_t rfl ?_
  refine A.seq ?_
  refine A.region (A.goA [.p] [(0, n_), (2, (i_ 0)), (4, (b_ true))] [] T0 (by kernel_rfl) trivial ?_)
  refine A.tn ?_
  refine A.ret ?_
  refine A.tr ?_
  refine A.postQ [(i_ 0)] (fun aa ww rr ss => ⟨rv_tmp rr rfl, trivial⟩) ?_
  rfl

set_option maxHeartbeats 4000000 in
set_option maxRecDepth 100000 in
theorem len_spec (bt : Nat) (t : T) (w : World) (r0 : (blk bt [(.pointer (T.ptr t))] 86).holds w) (r1 : (treeI 92 t).holds w) :
    Calls Try.prog 57 #[(p_ bt)] w fun e w' => e = .returned (i_ (T.cnt t)) ∧ Fr [] w w' := by
  refine calls_of (args := [(p_ bt)]) (penv [(p_ bt)]) [] [] Try.func57 rfl rfl (look_penv _) (HS.nil w) ?_
  refine A.norm [(0, (p_ bt))] [] (by exact ⟨rfl, trivial⟩) rfl ?_
  refine A.seq ?_
  refine A.region (A.goA [.p] [(0, (p_ bt)), (2, (i_ 0))] [] T0 (by kernel_rfl) trivial ?_)
  refine A.tn ?_
  refine A.seq ?_
  refine A.seq ?_
  refine A.region (A.goA [.p, .p] [(0, (p_ bt)), (2, (i_ 0)), (4, (b_ false))] [] T0 (by kernel_rfl) trivial ?_)
  refine A.tn ?_
  refine A.cond_f rfl ?_
  refine A.skip ?_
  refine A.tn ?_
  refine A.seq ?_
  refine A.region (A.goA [.p, .p, .p, .rd [(.pointer (T.ptr t))], .cq (i_ (T.cnt t)), .p] [(0, (p_ bt)), (2, (i_ (T.cnt t))), (4, (b_ false))] [] (fun κ => κ.rd ⟨bt, 0, none⟩ [(.pointer (T.ptr t))] ∧ κ.call 62 [(.pointer (T.ptr t))] (i_ (T.cnt t)) ∧ True) (by kernel_rfl) ⟨(reads_oldblk r0 rfl), (fun ww ss => many_tree t ww (old_item ss r1)), trivial⟩ ?_)
  refine A.tn ?_
  refine A.ret ?_
  refine A.postQ [(i_ (T.cnt t))] (fun aa ww rr ss => ⟨rv_tmp rr rfl, trivial⟩) ?_
  rfl
end Go.Proofs.Ytdhcglflmkjneaa
