/- What the functions of this layer do, proved operation by operation, for all arguments, under the conditions that each theorem states. -/
import Derived.Test.YtdhcglflmkjneaaProg
import Derived.Test.YtdhcglflmkjneaaAvl5
namespace Go.Proofs.Ytdhcglflmkjneaa
open Go V
set_option linter.unusedVariables false
set_option linter.unusedSimpArgs false
def encIt (x : It) : List Value := [(u_ x.ka), (i_ x.ki), (u_ x.va), (i_ x.vi)]
theorem encIt_len (x : It) : (encIt x).length = 4 := rfl
theorem encIt_one (x : It) : (encIt x).all Value.oneCell' = true := rfl

set_option maxHeartbeats 4000000 in
set_option maxRecDepth 100000 in
theorem insert_nil (ka ki va vi : Int) (w : World) :
    Calls Try.prog 35 #[n_, (.agg #[(u_ ka), (i_ ki)]), (.agg #[(u_ va), (i_ vi)])] w fun e w' => e = .returned (i_ 7) ∧ Fr [] w w' := by
  refine calls_of (args := [n_, (.agg #[(u_ ka), (i_ ki)]), (.agg #[(u_ va), (i_ vi)])]) (penv [n_, (.agg #[(u_ ka), (i_ ki)]), (.agg #[(u_ va), (i_ vi)])]) [] [] Try.func35 rfl rfl (look_penv _) (HS.nil w) ?_
  refine A.norm [(0, n_), (1, (.agg #[(u_ ka), (i_ ki)])), (2, (.agg #[(u_ va), (i_ vi)]))] [] (by exact ⟨rfl, rfl, rfl, trivial⟩) rfl ?_
  refine A.seq ?_
  refine A.region (A.goA2 [.al, .al, .p] [0, 1, 2, 4, 5, 6] (fun b1 b2 => [(0, n_), (1, (.agg #[(u_ ka), (i_ ki)])), (2, (.agg #[(u_ va), (i_ vi)])), (4, (p_ b1)), (5, (p_ b2)), (6, (i_ 0))]) (fun b1 b2 => [blk b1 [(u_ ka), (i_ ki)] 66, blk b2 [(u_ va), (i_ vi)] 66]) (fun b1 b2 => []) (fun _ _ => T0) (fun _ _ => by kernel_rfl) (fun b1 b2 => trivial) ?_)
  intro b1 b2
  refine A.tn ?_
  refine A.seq ?_
  refine A.block ?_
  refine A.seq ?_
  refine A.region (A.goA [.p, .p, .p] [(0, n_), (1, (.agg #[(u_ ka), (i_ ki)])), (2, (.agg #[(u_ va), (i_ vi)])), (4, (p_ b1)), (5, (p_ b2)), (6, (i_ 0)), (7, (b_ true))] [] T0 (by kernel_rfl) trivial ?_)
  refine A.tn ?_
  refine A.cond_t rfl ?_
  refine A.seq ?_
  refine A.region (A.goA [.p] [(0, n_), (1, (.agg #[(u_ ka), (i_ ki)])), (2, (.agg #[(u_ va), (i_ vi)])), (4, (p_ b1)), (5, (p_ b2)), (6, (i_ 7)), (7, (b_ true))] [] T0 (by kernel_rfl) trivial ?_)
  refine A.tn ?_
  refine A.ret ?_
  refine A.br ?_
  refine A.tr ?_
  refine A.postQ [(i_ 7)] (fun aa ww rr ss => ⟨rv_tmp rr rfl, trivial⟩) ?_
  rfl

set_option maxHeartbeats 4000000 in
set_option maxRecDepth 100000 in
theorem insert_same (bt : Nat) (t : T) (ka ki va vi : Int) (hf : T.findT ka ki t ≠ T.nil) (w : World) (r0 : (blk bt [(.pointer (T.ptr t))] 86).holds w) (r1 : (treeI 92 t).holds w) :
    Calls Try.prog 35 #[(p_ bt), (.agg #[(u_ ka), (i_ ki)]), (.agg #[(u_ va), (i_ vi)])] w fun e w' => e = .returned (i_ 8) ∧ Fr [] w w' := by
  refine calls_of (args := [(p_ bt), (.agg #[(u_ ka), (i_ ki)]), (.agg #[(u_ va), (i_ vi)])]) (penv [(p_ bt), (.agg #[(u_ ka), (i_ ki)]), (.agg #[(u_ va), (i_ vi)])]) [] [] Try.func35 rfl rfl (look_penv _) (HS.nil w) ?_
  refine A.norm [(0, (p_ bt)), (1, (.agg #[(u_ ka), (i_ ki)])), (2, (.agg #[(u_ va), (i_ vi)]))] [] (by exact ⟨rfl, rfl, rfl, trivial⟩) rfl ?_
  refine A.seq ?_
  refine A.region (A.goA2 [.al, .al, .p] [0, 1, 2, 4, 5, 6] (fun b1 b2 => [(0, (p_ bt)), (1, (.agg #[(u_ ka), (i_ ki)])), (2, (.agg #[(u_ va), (i_ vi)])), (4, (p_ b1)), (5, (p_ b2)), (6, (i_ 0))]) (fun b1 b2 => [blk b1 [(u_ ka), (i_ ki)] 66, blk b2 [(u_ va), (i_ vi)] 66]) (fun b1 b2 => []) (fun _ _ => T0) (fun _ _ => by kernel_rfl) (fun b1 b2 => trivial) ?_)
  intro b1 b2
  refine A.tn ?_
  refine A.seq ?_
  refine A.block ?_
  refine A.seq ?_
  refine A.region (A.goA [.p, .p, .p] [(0, (p_ bt)), (1, (.agg #[(u_ ka), (i_ ki)])), (2, (.agg #[(u_ va), (i_ vi)])), (4, (p_ b1)), (5, (p_ b2)), (6, (i_ 0)), (7, (b_ false))] [] T0 (by kernel_rfl) trivial ?_)
  refine A.tn ?_
  refine A.cond_f rfl ?_
  refine A.seq ?_
  refine A.region (A.goP [.p, .ld 0, .cq (.pointer (T.ptr (T.findT ka ki t)))] [(0, (p_ bt)), (1, (.agg #[(u_ ka), (i_ ki)])), (2, (.agg #[(u_ va), (i_ vi)])), (4, (p_ b1)), (5, (p_ b2)), (6, (i_ 0)), (7, (b_ false)), (13, (.pointer (T.ptr (T.findT ka ki t))))] [b1] (fun κ => κ.call 47 [(p_ bt), (.agg #[(u_ ka), (i_ ki)])] (.pointer (T.ptr (T.findT ka ki t))) ∧ True) (by kernel_rfl) ⟨(fun ww ss => find_spec bt t ka ki ww (old_item ss r0) (old_item ss r1)), trivial⟩ ?_)
  rcases hq10 : T.findT ka ki t with _ | ⟨b3, x4, m5, h6, n7, l8, r9⟩
  · skip
    exact absurd hq10 hf
  · skip
    refine A.goA [.p, .p] [(0, (p_ bt)), (1, (.agg #[(u_ ka), (i_ ki)])), (2, (.agg #[(u_ va), (i_ vi)])), (4, (p_ b1)), (5, (p_ b2)), (6, (i_ 0)), (7, (b_ false)), (10, (b_ true))] [] T0 (by kernel_rfl) trivial ?_
    refine A.tn ?_
    refine A.cond_t rfl ?_
    refine A.seq ?_
    refine A.region (A.goA [.p] [(0, (p_ bt)), (1, (.agg #[(u_ ka), (i_ ki)])), (2, (.agg #[(u_ va), (i_ vi)])), (4, (p_ b1)), (5, (p_ b2)), (6, (i_ 8)), (7, (b_ false)), (10, (b_ true))] [] T0 (by kernel_rfl) trivial ?_)
    refine A.tn ?_
    refine A.ret ?_
    refine A.br ?_
    refine A.tr ?_
    refine A.postQ [(i_ 8)] (fun aa ww rr ss => ⟨rv_tmp rr rfl, trivial⟩) ?_
    rfl

set_option maxHeartbeats 4000000 in
set_option maxRecDepth 100000 in
theorem insert_new (bt : Nat) (t : T) (ka ki va vi : Int) (hW : WF t) (hN : ∀ y ∈ t.toL, ¬ (y.ka = ka ∧ y.ki = ki)) (hC : t.toL.length ≤ 800) (w : World) (hs : HS w (feet [blk bt [(.pointer (T.ptr t))] 86, treeI 92 t]) [blk bt [(.pointer (T.ptr t))] 86, treeI 92 t] w) :
    Calls Try.prog 35 #[(p_ bt), (.agg #[(u_ ka), (i_ ki)]), (.agg #[(u_ va), (i_ vi)])] w fun e w' => ∃ zz, e = .returned ((fun (zt : T) => (i_ 0)) zz) ∧ (fun (zt : T) => WF zt ∧ T.toL zt = insL (⟨ka, ki, va, vi⟩ : It) t.toL) zz ∧ Turn [blk bt [(.pointer (T.ptr t))] 86, treeI 92 t] ((fun (zt : T) => [blk bt [(.pointer (T.ptr zt))] 86, treeI 92 zt]) zz) w w' := by
  have hR := hW.right; have hB := hW.bal; have hS := hW.srt; have hCn := hW.cnt
  refine calls_of (args := [(p_ bt), (.agg #[(u_ ka), (i_ ki)]), (.agg #[(u_ va), (i_ vi)])]) (penv [(p_ bt), (.agg #[(u_ ka), (i_ ki)]), (.agg #[(u_ va), (i_ vi)])]) (feet [blk bt [(.pointer (T.ptr t))] 86, treeI 92 t]) [blk bt [(.pointer (T.ptr t))] 86, treeI 92 t] Try.func35 rfl rfl (look_penv _) hs ?_
  refine A.norm [(0, (p_ bt)), (1, (.agg #[(u_ ka), (i_ ki)])), (2, (.agg #[(u_ va), (i_ vi)]))] [blk bt [(.pointer (T.ptr t))] 86, treeI 92 t] (by exact ⟨rfl, rfl, rfl, trivial⟩) rfl ?_
  refine A.seq ?_
  refine A.region (A.goA2 [.al, .al, .p] [0, 1, 2, 4, 5, 6] (fun b1 b2 => [(0, (p_ bt)), (1, (.agg #[(u_ ka), (i_ ki)])), (2, (.agg #[(u_ va), (i_ vi)])), (4, (p_ b1)), (5, (p_ b2)), (6, (i_ 0))]) (fun b1 b2 => [blk bt [(.pointer (T.ptr t))] 86, treeI 92 t, blk b1 [(u_ ka), (i_ ki)] 66, blk b2 [(u_ va), (i_ vi)] 66]) (fun b1 b2 => []) (fun _ _ => T0) (fun _ _ => by kernel_rfl) (fun b1 b2 => trivial) ?_)
  intro b1 b2
  refine A.tn ?_
  refine A.seq ?_
  refine A.block ?_
  refine A.seq ?_
  refine A.region (A.goA [.p, .p, .p] [(0, (p_ bt)), (1, (.agg #[(u_ ka), (i_ ki)])), (2, (.agg #[(u_ va), (i_ vi)])), (4, (p_ b1)), (5, (p_ b2)), (6, (i_ 0)), (7, (b_ false))] [] T0 (by kernel_rfl) trivial ?_)
  refine A.tn ?_
  refine A.cond_f rfl ?_
  refine A.seq ?_
  refine A.region (A.goP [.p, .ld 2, .cq (.pointer (T.ptr (T.findT ka ki t)))] [(0, (p_ bt)), (1, (.agg #[(u_ ka), (i_ ki)])), (2, (.agg #[(u_ va), (i_ vi)])), (4, (p_ b1)), (5, (p_ b2)), (6, (i_ 0)), (7, (b_ false)), (13, (.pointer (T.ptr (T.findT ka ki t))))] [b1] (fun κ => κ.call 47 [(p_ bt), (.agg #[(u_ ka), (i_ ki)])] (.pointer (T.ptr (T.findT ka ki t))) ∧ True) (by kernel_rfl) ⟨(fun ww ss => find_spec bt t ka ki ww (ss.mem (i := 0) rfl) (ss.mem (i := 1) rfl)), trivial⟩ ?_)
  rcases hq10 : T.findT ka ki t with _ | ⟨b3, x4, m5, h6, n7, l8, r9⟩
  · skip
    refine A.goA [.p, .p] [(0, (p_ bt)), (1, (.agg #[(u_ ka), (i_ ki)])), (2, (.agg #[(u_ va), (i_ vi)])), (4, (p_ b1)), (5, (p_ b2)), (6, (i_ 0)), (7, (b_ false)), (10, (b_ false))] [] T0 (by kernel_rfl) trivial ?_
    refine A.tn ?_
    refine A.cond_f rfl ?_
    refine A.skip ?_
    refine A.bn ?_
    refine A.tn ?_
    refine A.seq ?_
    refine A.draw2 [7, 10] 11 (by kernel_rfl) ?_
    refine A.drawP 4 [.p, .p, .p, .p, .ld 0, .ld 2, .p] [0, 1, 2, 3, 4, 5, 6] [(0, (p_ bt)), (1, (.agg #[(u_ ka), (i_ ki)])), (2, (.agg #[(u_ va), (i_ vi)])), (4, (p_ b1)), (5, (p_ b2)), (6, (i_ 0)), (7, (b_ false)), (10, (b_ false)), (15, (p_ bt)), (19, (.pointer (T.ptr t))), (20, (.agg #[(u_ ka), (i_ ki)])), (21, (.func (.func 50) #[] #[(p_ b1), (p_ b2)]))] [bt, b1] T0 (by kernel_rfl) trivial ?_
    refine A.only2 7 rfl (by kernel_rfl) (A.callT (some 22) [(.pointer (T.ptr t)), (.agg #[(u_ ka), (i_ ki)]), (.func (.func 50) #[] #[(p_ b1), (p_ b2)])] [1, 1, 1] ((fun zt11 => (.pointer (T.ptr zt11)))) ((fun zt11 => Chg t zt11 (insL (⟨ka, ki, va, vi⟩ : It) t.toL) 0 1)) ((fun zt11 => [blk b1 [(u_ ka), (i_ ki)] 66, blk b2 [(u_ va), (i_ vi)] 66, treeI 92 zt11])) (fun zt11 => [blk b1 [(u_ ka), (i_ ki)] 66, blk b2 [(u_ va), (i_ vi)] 66, treeI 92 zt11, blk bt [(.pointer (T.ptr t))] 86]) (by kernel_rfl) rfl rfl (fun ww ss hh => change_ins t b1 b2 ka ki va vi (by first | assumption | omega) (by first | assumption | omega) (by first | assumption | omega) (by first | assumption | omega) (by first | assumption | omega) ww hh) (fun _ => rfl) ?_)
    rintro zt11 hz1
    obtain ⟨hz11, hz12, hz13, hz14, hz15⟩ := id hz1; have hz16 := T.Right.pos hz11
    rw [hz13, insL_len] at hz16
    refine A.stage ?_
    refine A.drawP 1 [.p, .p] [8, 9] [(0, (p_ bt)), (1, (.agg #[(u_ ka), (i_ ki)])), (2, (.agg #[(u_ va), (i_ vi)])), (4, (p_ b1)), (5, (p_ b2)), (6, (i_ 0)), (7, (b_ false)), (10, (b_ false)), (22, (.pointer (T.ptr zt11))), (24, (p_ bt))] [] T0 (by kernel_rfl) trivial ?_
    refine A.only2 10 rfl (by kernel_rfl) (A.store 3 (vs := [(.pointer (T.ptr zt11))]) [blk b1 [(u_ ka), (i_ ki)] 66, blk b2 [(u_ va), (i_ vi)] 66, treeI 92 zt11, blk bt [(.pointer (T.ptr zt11))] 86] (by kernel_rfl) rfl rfl rfl rfl (by kernel_rfl) rfl rfl (by kernel_rfl) rfl ?_)
    refine A.stage ?_
    refine A.fin2 (by kernel_rfl) ?_
    refine A.sub [(0, (p_ bt)), (1, (.agg #[(u_ ka), (i_ ki)])), (2, (.agg #[(u_ va), (i_ vi)])), (4, (p_ b1)), (5, (p_ b2)), (6, (i_ 0)), (7, (b_ false)), (10, (b_ false))] (by exact ⟨rfl, rfl, rfl, rfl, rfl, rfl, rfl, rfl, trivial⟩) ?_
    refine A.tn ?_
    refine A.seq ?_
    refine A.region (A.goA [.p] [(0, (p_ bt)), (1, (.agg #[(u_ ka), (i_ ki)])), (2, (.agg #[(u_ va), (i_ vi)])), (4, (p_ b1)), (5, (p_ b2)), (6, (i_ 0)), (7, (b_ false)), (10, (b_ false))] [] T0 (by kernel_rfl) trivial ?_)
    refine A.tn ?_
    refine A.ret ?_
    refine A.postK [3, 2] [(i_ 0)] (fun aa ww rr ss => ⟨rv_tmp rr rfl, trivial⟩) (zt11) ?_ ?_ (by kernel_rfl)
    · rfl
    · show WF zt11 ∧ T.toL zt11 = insL (⟨ka, ki, va, vi⟩ : It) t.toL
      exact wf_ins hW hN (by assumption)
  · skip
    exact absurd (findT_some hq10).1 (hN _ (findT_some hq10).2)

set_option maxHeartbeats 4000000 in
set_option maxRecDepth 100000 in
theorem delete_nil (ka ki : Int) (w : World) :
    Calls Try.prog 34 #[n_, (.agg #[(u_ ka), (i_ ki)])] w fun e w' => e = .returned (i_ 7) ∧ Fr [] w w' := by
  refine calls_of (args := [n_, (.agg #[(u_ ka), (i_ ki)])]) (penv [n_, (.agg #[(u_ ka), (i_ ki)])]) [] [] Try.func34 rfl rfl (look_penv _) (HS.nil w) ?_
  refine A.norm [(0, n_), (1, (.agg #[(u_ ka), (i_ ki)]))] [] (by exact ⟨rfl, rfl, trivial⟩) rfl ?_
  refine A.seq ?_
  refine A.region (A.goA1 [.al, .p] [0, 1, 3, 4] (fun b1 => [(0, n_), (1, (.agg #[(u_ ka), (i_ ki)])), (3, (p_ b1)), (4, (i_ 0))]) (fun b1 => [blk b1 [(u_ ka), (i_ ki)] 66]) (fun b1 => []) (fun _ => T0) (fun _ => by kernel_rfl) (fun b1 => trivial) ?_)
  intro b1
  refine A.tn ?_
  refine A.seq ?_
  refine A.block ?_
  refine A.seq ?_
  refine A.region (A.goA [.p, .p, .p] [(0, n_), (1, (.agg #[(u_ ka), (i_ ki)])), (3, (p_ b1)), (4, (i_ 0)), (5, (b_ true))] [] T0 (by kernel_rfl) trivial ?_)
  refine A.tn ?_
  refine A.cond_t rfl ?_
  refine A.seq ?_
  refine A.region (A.goA [.p] [(0, n_), (1, (.agg #[(u_ ka), (i_ ki)])), (3, (p_ b1)), (4, (i_ 7)), (5, (b_ true))] [] T0 (by kernel_rfl) trivial ?_)
  refine A.tn ?_
  refine A.ret ?_
  refine A.br ?_
  refine A.tr ?_
  refine A.postQ [(i_ 7)] (fun aa ww rr ss => ⟨rv_tmp rr rfl, trivial⟩) ?_
  rfl

set_option maxHeartbeats 4000000 in
set_option maxRecDepth 100000 in
theorem delete_none (bt : Nat) (t : T) (ka ki : Int) (hf : T.findT ka ki t = T.nil) (w : World) (r0 : (blk bt [(.pointer (T.ptr t))] 86).holds w) (r1 : (treeI 92 t).holds w) :
    Calls Try.prog 34 #[(p_ bt), (.agg #[(u_ ka), (i_ ki)])] w fun e w' => e = .returned (i_ 6) ∧ Fr [] w w' := by
  refine calls_of (args := [(p_ bt), (.agg #[(u_ ka), (i_ ki)])]) (penv [(p_ bt), (.agg #[(u_ ka), (i_ ki)])]) [] [] Try.func34 rfl rfl (look_penv _) (HS.nil w) ?_
  refine A.norm [(0, (p_ bt)), (1, (.agg #[(u_ ka), (i_ ki)]))] [] (by exact ⟨rfl, rfl, trivial⟩) rfl ?_
  refine A.seq ?_
  refine A.region (A.goA1 [.al, .p] [0, 1, 3, 4] (fun b1 => [(0, (p_ bt)), (1, (.agg #[(u_ ka), (i_ ki)])), (3, (p_ b1)), (4, (i_ 0))]) (fun b1 => [blk b1 [(u_ ka), (i_ ki)] 66]) (fun b1 => []) (fun _ => T0) (fun _ => by kernel_rfl) (fun b1 => trivial) ?_)
  intro b1
  refine A.tn ?_
  refine A.seq ?_
  refine A.block ?_
  refine A.seq ?_
  refine A.region (A.goA [.p, .p, .p] [(0, (p_ bt)), (1, (.agg #[(u_ ka), (i_ ki)])), (3, (p_ b1)), (4, (i_ 0)), (5, (b_ false))] [] T0 (by kernel_rfl) trivial ?_)
  refine A.tn ?_
  refine A.cond_f rfl ?_
  refine A.seq ?_
  refine A.region (A.goP [.p, .ld 0, .cq (.pointer (T.ptr (T.findT ka ki t)))] [(0, (p_ bt)), (1, (.agg #[(u_ ka), (i_ ki)])), (3, (p_ b1)), (4, (i_ 0)), (5, (b_ false)), (11, (.pointer (T.ptr (T.findT ka ki t))))] [b1] (fun κ => κ.call 47 [(p_ bt), (.agg #[(u_ ka), (i_ ki)])] (.pointer (T.ptr (T.findT ka ki t))) ∧ True) (by kernel_rfl) ⟨(fun ww ss => find_spec bt t ka ki ww (old_item ss r0) (old_item ss r1)), trivial⟩ ?_)
  rcases hq9 : T.findT ka ki t with _ | ⟨b2, x3, m4, h5, n6, l7, r8⟩
  · skip
    refine A.goA [.p, .p] [(0, (p_ bt)), (1, (.agg #[(u_ ka), (i_ ki)])), (3, (p_ b1)), (4, (i_ 0)), (5, (b_ false)), (8, (b_ true))] [] T0 (by kernel_rfl) trivial ?_
    refine A.tn ?_
    refine A.cond_t rfl ?_
    refine A.seq ?_
    refine A.region (A.goA [.p] [(0, (p_ bt)), (1, (.agg #[(u_ ka), (i_ ki)])), (3, (p_ b1)), (4, (i_ 6)), (5, (b_ false)), (8, (b_ true))] [] T0 (by kernel_rfl) trivial ?_)
    refine A.tn ?_
    refine A.ret ?_
    refine A.br ?_
    refine A.tr ?_
    refine A.postQ [(i_ 6)] (fun aa ww rr ss => ⟨rv_tmp rr rfl, trivial⟩) ?_
    rfl
  · skip
    rw [hf] at hq9; cases hq9

set_option maxHeartbeats 4000000 in
set_option maxRecDepth 100000 in
theorem delete_ok (bt : Nat) (t : T) (ka ki : Int) (hW : WF t) (hM : ∃ y ∈ t.toL, y.ka = ka ∧ y.ki = ki) (hC : t.toL.length ≤ 800) (w : World) (hs : HS w (feet [blk bt [(.pointer (T.ptr t))] 86, treeI 92 t]) [blk bt [(.pointer (T.ptr t))] 86, treeI 92 t] w) :
    Calls Try.prog 34 #[(p_ bt), (.agg #[(u_ ka), (i_ ki)])] w fun e w' => ∃ zz, e = .returned ((fun (zt : T) => (i_ 0)) zz) ∧ (fun (zt : T) => WF zt ∧ T.toL zt = delL ka ki t.toL) zz ∧ Turn [blk bt [(.pointer (T.ptr t))] 86, treeI 92 t] ((fun (zt : T) => [blk bt [(.pointer (T.ptr zt))] 86, treeI 92 zt]) zz) w w' := by
  have hR := hW.right; have hB := hW.bal; have hS := hW.srt; have hCn := hW.cnt
  refine calls_of (args := [(p_ bt), (.agg #[(u_ ka), (i_ ki)])]) (penv [(p_ bt), (.agg #[(u_ ka), (i_ ki)])]) (feet [blk bt [(.pointer (T.ptr t))] 86, treeI 92 t]) [blk bt [(.pointer (T.ptr t))] 86, treeI 92 t] Try.func34 rfl rfl (look_penv _) hs ?_
  refine A.norm [(0, (p_ bt)), (1, (.agg #[(u_ ka), (i_ ki)]))] [blk bt [(.pointer (T.ptr t))] 86, treeI 92 t] (by exact ⟨rfl, rfl, trivial⟩) rfl ?_
  refine A.seq ?_
  refine A.region (A.goA1 [.al, .p] [0, 1, 3, 4] (fun b1 => [(0, (p_ bt)), (1, (.agg #[(u_ ka), (i_ ki)])), (3, (p_ b1)), (4, (i_ 0))]) (fun b1 => [blk bt [(.pointer (T.ptr t))] 86, treeI 92 t, blk b1 [(u_ ka), (i_ ki)] 66]) (fun b1 => []) (fun _ => T0) (fun _ => by kernel_rfl) (fun b1 => trivial) ?_)
  intro b1
  refine A.tn ?_
  refine A.seq ?_
  refine A.block ?_
  refine A.seq ?_
  refine A.region (A.goA [.p, .p, .p] [(0, (p_ bt)), (1, (.agg #[(u_ ka), (i_ ki)])), (3, (p_ b1)), (4, (i_ 0)), (5, (b_ false))] [] T0 (by kernel_rfl) trivial ?_)
  refine A.tn ?_
  refine A.cond_f rfl ?_
  refine A.seq ?_
  refine A.region (A.goP [.p, .ld 2, .cq (.pointer (T.ptr (T.findT ka ki t)))] [(0, (p_ bt)), (1, (.agg #[(u_ ka), (i_ ki)])), (3, (p_ b1)), (4, (i_ 0)), (5, (b_ false)), (11, (.pointer (T.ptr (T.findT ka ki t))))] [b1] (fun κ => κ.call 47 [(p_ bt), (.agg #[(u_ ka), (i_ ki)])] (.pointer (T.ptr (T.findT ka ki t))) ∧ True) (by kernel_rfl) ⟨(fun ww ss => find_spec bt t ka ki ww (ss.mem (i := 0) rfl) (ss.mem (i := 1) rfl)), trivial⟩ ?_)
  rcases hq9 : T.findT ka ki t with _ | ⟨b2, x3, m4, h5, n6, l7, r8⟩
  · skip
    obtain ⟨y, hy, he⟩ := hM; exact absurd he (findT_nil hS hq9 y hy)
  · skip
    refine A.goA [.p, .p] [(0, (p_ bt)), (1, (.agg #[(u_ ka), (i_ ki)])), (3, (p_ b1)), (4, (i_ 0)), (5, (b_ false)), (8, (b_ false))] [] T0 (by kernel_rfl) trivial ?_
    refine A.tn ?_
    refine A.cond_f rfl ?_
    refine A.skip ?_
    refine A.bn ?_
    refine A.tn ?_
    refine A.seq ?_
    refine A.draw2 [6, 9] 10 (by kernel_rfl) ?_
    refine A.drawP 4 [.p, .p, .p, .p, .ld 0, .ld 2] [0, 1, 2, 3, 4, 5] [(0, (p_ bt)), (1, (.agg #[(u_ ka), (i_ ki)])), (3, (p_ b1)), (4, (i_ 0)), (5, (b_ false)), (8, (b_ false)), (13, (p_ bt)), (17, (.pointer (T.ptr t))), (18, (.agg #[(u_ ka), (i_ ki)]))] [bt, b1] T0 (by kernel_rfl) trivial ?_
    refine A.only2 6 rfl (by kernel_rfl) (A.callT (some 19) [(.pointer (T.ptr t)), (.agg #[(u_ ka), (i_ ki)]), (.func (.func 49) #[] #[])] [1] ((fun zt10 => (.pointer (T.ptr zt10)))) ((fun zt10 => Chg t zt10 (delL ka ki t.toL) (-1) 0)) ((fun zt10 => [treeI 92 zt10])) (fun zt10 => [treeI 92 zt10, blk bt [(.pointer (T.ptr t))] 86, blk b1 [(u_ ka), (i_ ki)] 66]) (by kernel_rfl) rfl rfl (fun ww ss hh => change_wo t ka ki (by first | assumption | omega) (by first | assumption | omega) (by first | assumption | omega) (by first | assumption | omega) (by first | assumption | omega) ww hh) (fun _ => rfl) ?_)
    rintro zt10 hz1
    obtain ⟨hz11, hz12, hz13, hz14, hz15⟩ := id hz1; have hz16 := T.Right.pos hz11
    rw [hz13] at hz16; have hz17 := delL_len (a := ka) (i := ki) (T.toL t)
    refine A.stage ?_
    refine A.drawP 1 [.p, .p] [7, 8] [(0, (p_ bt)), (1, (.agg #[(u_ ka), (i_ ki)])), (3, (p_ b1)), (4, (i_ 0)), (5, (b_ false)), (8, (b_ false)), (19, (.pointer (T.ptr zt10))), (21, (p_ bt))] [] T0 (by kernel_rfl) trivial ?_
    refine A.only2 9 rfl (by kernel_rfl) (A.store 1 (vs := [(.pointer (T.ptr zt10))]) [treeI 92 zt10, blk bt [(.pointer (T.ptr zt10))] 86, blk b1 [(u_ ka), (i_ ki)] 66] (by kernel_rfl) rfl rfl rfl rfl (by kernel_rfl) rfl rfl (by kernel_rfl) rfl ?_)
    refine A.stage ?_
    refine A.fin2 (by kernel_rfl) ?_
    refine A.sub [(0, (p_ bt)), (1, (.agg #[(u_ ka), (i_ ki)])), (3, (p_ b1)), (4, (i_ 0)), (5, (b_ false)), (8, (b_ false))] (by exact ⟨rfl, rfl, rfl, rfl, rfl, rfl, trivial⟩) ?_
    refine A.tn ?_
    refine A.seq ?_
    refine A.region (A.goA [.p] [(0, (p_ bt)), (1, (.agg #[(u_ ka), (i_ ki)])), (3, (p_ b1)), (4, (i_ 0)), (5, (b_ false)), (8, (b_ false))] [] T0 (by kernel_rfl) trivial ?_)
    refine A.tn ?_
    refine A.ret ?_
    refine A.postK [1, 0] [(i_ 0)] (fun aa ww rr ss => ⟨rv_tmp rr rfl, trivial⟩) (zt10) ?_ ?_ (by kernel_rfl)
    · rfl
    · show WF zt10 ∧ T.toL zt10 = delL ka ki t.toL
      exact wf_del hW (by assumption)

set_option maxHeartbeats 4000000 in
set_option maxRecDepth 100000 in
theorem least_nil (w : World) :
    Calls Try.prog 43 #[n_] w fun e w' => e = .returned (.tuple #[(.agg #[(u_ 0), (i_ 0), (u_ 0), (i_ 0)]), (b_ false)]) ∧ Fr [] w w' := by
  refine calls_of (args := [n_]) (penv [n_]) [] [] Try.func43 rfl rfl (look_penv _) (HS.nil w) ?_
  refine A.norm [(0, n_)] [] (by exact ⟨rfl, trivial⟩) rfl ?_
  refine A.seq ?_
  refine A.region (A.goA1 [.al, .p] [0, 2, 3] (fun b1 => [(0, n_), (2, (p_ b1)), (3, (b_ false))]) (fun b1 => [blk b1 [(u_ 0), (i_ 0), (u_ 0), (i_ 0)] 68]) (fun b1 => []) (fun _ => T0) (fun _ => by kernel_rfl) (fun b1 => trivial) ?_)
  intro b1
  refine A.tn ?_
  refine A.seq ?_
  refine A.seq ?_
  refine A.region (A.goA [.p, .cq (i_ 0), .p] [(0, n_), (2, (p_ b1)), (3, (b_ false)), (7, (b_ true))] [] (fun κ => κ.call 57 [n_] (i_ 0) ∧ True) (by kernel_rfl) ⟨(fun ww ss => len_nil ww), trivial⟩ ?_)
  refine A.tn ?_
  refine A.cond_t rfl ?_
  refine A.seq ?_
  refine A.region (A.goAS [.p, .st 0, .p] [(0, n_), (2, (p_ b1)), (3, (b_ false)), (7, (b_ true))] [blk b1 [(u_ 0), (i_ 0), (u_ 0), (i_ 0)] 68] [b1] T0 (by kernel_rfl) trivial ?_)
  refine A.tn ?_
  refine A.ret ?_
  refine A.tr ?_
  refine A.postQ [(.agg #[(u_ 0), (i_ 0), (u_ 0), (i_ 0)]), (b_ false)] (fun aa ww rr ss => ⟨rv_cellN (vs := [(u_ 0), (i_ 0), (u_ 0), (i_ 0)]) rr ss rfl (by kernel_rfl) (reads_blk (i := 0) rfl rfl), rv_tmp rr rfl, trivial⟩) ?_
  rfl

set_option maxHeartbeats 4000000 in
set_option maxRecDepth 100000 in
theorem least_spec (bt : Nat) (t : T) (hW : WF t) (w : World) (r0 : (blk bt [(.pointer (T.ptr t))] 86).holds w) (r1 : (treeI 92 t).holds w) :
    Calls Try.prog 43 #[(p_ bt)] w fun e w' => e = .returned (.tuple #[(.agg #[(u_ ((t.toL.head?.getD default).ka)), (i_ ((t.toL.head?.getD default).ki)), (u_ ((t.toL.head?.getD default).va)), (i_ ((t.toL.head?.getD default).vi))]), (b_ (t.toL.head?.isSome))]) ∧ Fr [] w w' := by
  have hR := hW.right; have hB := hW.bal; have hS := hW.srt; have hCn := hW.cnt
  refine calls_of (args := [(p_ bt)]) (penv [(p_ bt)]) [] [] Try.func43 rfl rfl (look_penv _) (HS.nil w) ?_
  refine A.norm [(0, (p_ bt))] [] (by exact ⟨rfl, trivial⟩) rfl ?_
  refine A.seq ?_
  refine A.region (A.goA1 [.al, .p] [0, 2, 3] (fun b1 => [(0, (p_ bt)), (2, (p_ b1)), (3, (b_ false))]) (fun b1 => [blk b1 [(u_ 0), (i_ 0), (u_ 0), (i_ 0)] 68]) (fun b1 => []) (fun _ => T0) (fun _ => by kernel_rfl) (fun b1 => trivial) ?_)
  intro b1
  refine A.tn ?_
  refine A.seq ?_
  refine A.seq ?_
  refine A.region (A.goA [.p, .cq (i_ (T.cnt t)), .p] [(0, (p_ bt)), (2, (p_ b1)), (3, (b_ false)), (7, (b_ ((T.cnt t) == 0)))] [] (fun κ => κ.call 57 [(p_ bt)] (i_ (T.cnt t)) ∧ True) (by kernel_rfl) ⟨(fun ww ss => len_spec bt t ww (old_item ss r0) (old_item ss r1)), trivial⟩ ?_)
  refine A.tn ?_
  refine A.cond (E := (T.cnt t) == 0) rfl (fun e1 => ?_) (fun e1 => ?_)
  · skip
    have p1 := e1; try simp only [decide_eq_true_eq, decide_eq_false_iff_not, beq_iff_eq, beq_eq_false_iff_ne, bne_iff_ne, bne_eq_false_iff_eq, ne_eq, Bool.and_eq_true, Bool.or_eq_true, Bool.or_eq_false_iff, Bool.not_eq_true', Bool.not_eq_false', Int.not_lt, Int.not_le, gt_iff_lt, ge_iff_le, Classical.not_not] at p1
    refine A.seq ?_
    refine A.region (A.goAS [.p, .st 0, .p] [(0, (p_ bt)), (2, (p_ b1)), (3, (b_ false)), (7, (b_ ((T.cnt t) == 0)))] [blk b1 [(u_ 0), (i_ 0), (u_ 0), (i_ 0)] 68] [b1] T0 (by kernel_rfl) trivial ?_)
    refine A.tn ?_
    refine A.ret ?_
    refine A.tr ?_
    refine A.postQ [(.agg #[(u_ 0), (i_ 0), (u_ 0), (i_ 0)]), (b_ false)] (fun aa ww rr ss => ⟨rv_cellN (vs := [(u_ 0), (i_ 0), (u_ 0), (i_ 0)]) rr ss rfl (by kernel_rfl) (reads_blk (i := 0) rfl rfl), rv_tmp rr rfl, trivial⟩) ?_
    show ((.tuple #[(.agg #[(u_ 0), (i_ 0), (u_ 0), (i_ 0)]), (b_ false)]) : Value) = (.tuple #[(.agg #[(u_ ((t.toL.head?.getD default).ka)), (i_ ((t.toL.head?.getD default).ki)), (u_ ((t.toL.head?.getD default).va)), (i_ ((t.toL.head?.getD default).vi))]), (b_ (t.toL.head?.isSome))])
    first | (rw [show t.toL = [] from by have := hR.pos; simp at *; exact List.eq_nil_of_length_eq_zero (by omega)]; rfl) | (rw [← hhd]; rfl)
  · skip
    have p1 := e1; try simp only [decide_eq_true_eq, decide_eq_false_iff_not, beq_iff_eq, beq_eq_false_iff_ne, bne_iff_ne, bne_eq_false_iff_eq, ne_eq, Bool.and_eq_true, Bool.or_eq_true, Bool.or_eq_false_iff, Bool.not_eq_true', Bool.not_eq_false', Int.not_lt, Int.not_le, gt_iff_lt, ge_iff_le, Classical.not_not] at p1
    refine A.skip ?_
    refine A.tn ?_
    refine A.seq ?_
    refine A.region (A.goA [.p, .p, .p, .rd [(.pointer (T.ptr t))], .p] [(0, (p_ bt)), (2, (p_ b1)), (3, (b_ false)), (7, (b_ ((T.cnt t) == 0))), (4, (.pointer (T.ptr t)))] [] (fun κ => κ.rd ⟨bt, 0, none⟩ [(.pointer (T.ptr t))] ∧ True) (by kernel_rfl) ⟨(reads_oldblk r0 rfl), trivial⟩ ?_)
    refine A.tn ?_
    refine A.seq ?_
    refine A.block ?_
    have hne : t ≠ .nil := by rintro rfl; simp [T.cnt] at *
    refine A.loop (fun (zz : T) => match zz with | u => [(2, (p_ b1)), (3, (b_ false)), (4, (.pointer (T.ptr u)))]) (fun (zz : T) => match zz with | u => [blk b1 [(u_ 0), (i_ 0), (u_ 0), (i_ 0)] 68]) (fun (zz : T) => match zz with | u => ((treeI 92 u).holds w) ∧ (u.toL.head? = t.toL.head?) ∧ (u ≠ .nil)) (fun (zz : T) => match zz with | u => SizeOf.sizeOf u) (t : T) ⟨(by exact r1), (by rfl), (by exact hne)⟩ ?_ ?_
    · exact A.hereK [0] (by exact ⟨rfl, rfl, rfl, trivial⟩) (by kernel_rfl)
    · rintro u ⟨hu, hhd, hun⟩
      refine A.norm [(2, (p_ b1)), (3, (b_ false)), (4, (.pointer (T.ptr u)))] [blk b1 [(u_ 0), (i_ 0), (u_ 0), (i_ 0)] 68] (by exact ⟨rfl, rfl, rfl, trivial⟩) rfl ?_
      refine A.seq ?_
      refine A.seq ?_
      refine A.region (A.goP [.p] [(2, (p_ b1)), (3, (b_ false)), (4, (.pointer (T.ptr u))), (13, (.pointer (T.ptr u)))] [] T0 (by kernel_rfl) trivial ?_)
      rcases u with _ | ⟨b2, x3, m4, h5, n6, l7, r8⟩
      · skip
        exact absurd rfl hun
      · skip
        refine A.goP [.p, .p, .p, .rd [(.pointer (T.ptr l7))]] [(2, (p_ b1)), (3, (b_ false)), (4, (p_ b2)), (17, (.pointer (T.ptr l7)))] [] (fun κ => κ.rd ⟨b2, 4, none⟩ [(.pointer (T.ptr l7))] ∧ True) (by kernel_rfl) ⟨(reads_oldblk hu.1 rfl), trivial⟩ ?_
        rcases l7 with _ | ⟨b9, x10, m11, h12, n13, l14, r15⟩
        · skip
          refine A.goA [.p] [(2, (p_ b1)), (3, (b_ false)), (4, (p_ b2)), (18, (b_ false))] [] T0 (by kernel_rfl) trivial ?_
          refine A.tn ?_
          refine A.cond_f rfl ?_
          refine A.exit ?_
          refine A.te ?_
          refine A.te ?_
          refine A.bh ?_
          refine A.tn ?_
          refine A.seq ?_
          refine A.region (A.goAS [.p, .p, .p, .rd [(u_ x3.ka), (i_ x3.ki), (u_ x3.va), (i_ x3.vi)], .st 0, .p] [(2, (p_ b1)), (3, (b_ true)), (4, (p_ b2)), (18, (b_ false))] [blk b1 [(u_ x3.ka), (i_ x3.ki), (u_ x3.va), (i_ x3.vi)] 68] [b1] (fun κ => κ.rd ⟨b2, 0, none⟩ [(u_ x3.ka), (i_ x3.ki), (u_ x3.va), (i_ x3.vi)] ∧ True) (by kernel_rfl) ⟨(reads_oldblk hu.1 rfl), trivial⟩ ?_)
          refine A.tn ?_
          refine A.ret ?_
          refine A.postQ [(.agg #[(u_ x3.ka), (i_ x3.ki), (u_ x3.va), (i_ x3.vi)]), (b_ true)] (fun aa ww rr ss => ⟨rv_cellN (vs := [(u_ x3.ka), (i_ x3.ki), (u_ x3.va), (i_ x3.vi)]) rr ss rfl (by kernel_rfl) (reads_blk (i := 0) rfl rfl), rv_tmp rr rfl, trivial⟩) ?_
          show ((.tuple #[(.agg #[(u_ x3.ka), (i_ x3.ki), (u_ x3.va), (i_ x3.vi)]), (b_ true)]) : Value) = (.tuple #[(.agg #[(u_ ((t.toL.head?.getD default).ka)), (i_ ((t.toL.head?.getD default).ki)), (u_ ((t.toL.head?.getD default).va)), (i_ ((t.toL.head?.getD default).vi))]), (b_ (t.toL.head?.isSome))])
          first | (rw [show t.toL = [] from by have := hR.pos; simp at *; exact List.eq_nil_of_length_eq_zero (by omega)]; rfl) | (rw [← hhd]; rfl)
        · skip
          refine A.goA [.p] [(2, (p_ b1)), (3, (b_ false)), (4, (p_ b2)), (18, (b_ true))] [] T0 (by kernel_rfl) trivial ?_
          refine A.tn ?_
          refine A.cond_t rfl ?_
          refine A.skip ?_
          refine A.tn ?_
          refine A.block ?_
          refine A.region (A.goA [.p, .p, .p, .p, .rd [(p_ b9)], .p] [(2, (p_ b1)), (3, (b_ false)), (4, (p_ b9)), (18, (b_ true))] [] (fun κ => κ.rd ⟨b2, 4, none⟩ [(p_ b9)] ∧ True) (by kernel_rfl) ⟨(reads_oldblk hu.1 rfl), trivial⟩ ?_)
          refine A.bn ?_
          refine A.tn ?_
          refine A.next ((T.node b9 x10 m11 h12 n13 l14 r15)) ⟨(by exact hu.2.1), (by rw [← hhd]; simp [T.toL]), (by simp)⟩ (by first | (simp; done) | (simp; omega)) ?_
          exact A.hereK [0] (by exact ⟨rfl, rfl, rfl, trivial⟩) (by kernel_rfl)
end Go.Proofs.Ytdhcglflmkjneaa
