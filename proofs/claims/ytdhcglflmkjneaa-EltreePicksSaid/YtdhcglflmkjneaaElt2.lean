/- What the functions of this layer do, proved operation by operation, for all arguments, under the conditions that each theorem states. -/
import Derived.Test.YtdhcglflmkjneaaProg
import Derived.Test.YtdhcglflmkjneaaElt1
namespace Go.Proofs.Ytdhcglflmkjneaa
open Go V
set_option linter.unusedVariables false
set_option linter.unusedSimpArgs false

set_option maxHeartbeats 4000000 in
set_option maxRecDepth 100000 in
theorem el_len_nil (w : World) :
    Calls Try.prog 21 #[n_] w fun e w' => e = .returned (i_ 0) ∧ Fr [] w w' := by
  refine calls_of (args := [n_]) (penv [n_]) [] [] Try.func21 rfl rfl (look_penv _) (HS.nil w) ?_
  refine A.norm [(0, n_)] [] (by exact ⟨rfl, trivial⟩) rfl ?_
  refine A.seq ?_
  refine A.region (A.goA [.p] [(0, n_), (2, (i_ 0))] [] T0 (by kernel_rfl) trivial ?_)
  refine A.tn ?_
  refine A.seq ?_
  refine A.seq ?_
  refine A.region (A.goA [.p, .p] [(0, n_), (2, (i_ 0)), (4, (b_ true))] [] T0 (by kernel_rfl) trivial ?_)
  refine A.tn ?_
  refine A.cond_t rfl ?_
  refine A.seq ?_
  refine A.region (A.goA [.p] [(0, n_), (2, (i_ 0)), (4, (b_ true))] [] T0 (by kernel_rfl) trivial ?_)
  refine A.tn ?_
  refine A.ret ?_
  refine A.tr ?_
  refine A.postQ [(i_ 0)] (fun aa ww rr ss => ⟨rv_tmp rr rfl, trivial⟩) ?_
  rfl

set_option maxHeartbeats 4000000 in
set_option maxRecDepth 100000 in
theorem el_len (be bt mb : Nat) (t : T) (kv : List (Int × It)) (w : World) (r0 : (blk be [(p_ bt), (.map (some mb))] 64).holds w) (r1 : (blk bt [(.pointer (T.ptr t))] 86).holds w) (r2 : (treeI 92 t).holds w) (r3 : (mapI (fun k : Int => i_ k) (fun y : It => (.agg #[u_ y.ka, i_ y.ki, u_ y.va, i_ y.vi])) mb kv).holds w) :
    Calls Try.prog 21 #[(p_ be)] w fun e w' => e = .returned (i_ (kv.length : Int)) ∧ Fr [] w w' := by
  refine calls_of (args := [(p_ be)]) (penv [(p_ be)]) [] [] Try.func21 rfl rfl (look_penv _) (HS.nil w) ?_
  refine A.norm [(0, (p_ be))] [] (by exact ⟨rfl, trivial⟩) rfl ?_
  refine A.seq ?_
  refine A.region (A.goA [.p] [(0, (p_ be)), (2, (i_ 0))] [] T0 (by kernel_rfl) trivial ?_)
  refine A.tn ?_
  refine A.seq ?_
  refine A.seq ?_
  refine A.region (A.goA [.p, .p] [(0, (p_ be)), (2, (i_ 0)), (4, (b_ false))] [] T0 (by kernel_rfl) trivial ?_)
  refine A.tn ?_
  refine A.cond_f rfl ?_
  refine A.skip ?_
  refine A.tn ?_
  refine A.seq ?_
  refine A.region (A.goP [.p, .p, .p, .rd [(.map (some mb))]] [(0, (p_ be)), (2, (i_ 0)), (4, (b_ false)), (8, (.map (some mb)))] [] (fun κ => κ.rd ⟨be, 1, none⟩ [(.map (some mb))] ∧ True) (by kernel_rfl) ⟨(reads_oldblk r0 rfl), trivial⟩ ?_)
  refine A.cons (A.q (some 9) (i_ (kv.length : Int)) (by kernel_rfl) (qt_lenMap (kt := 3) (et := 68) (enck := (fun k : Int => i_ k)) (encv := (fun y : It => (.agg #[u_ y.ka, i_ y.ki, u_ y.va, i_ y.vi]))) (b := mb) (kv := kv) (fun ww ss => old_item ss r3) rfl rfl (by kernel_rfl)) ?_)
  refine A.goA [.p] [(0, (p_ be)), (2, (i_ (kv.length : Int))), (4, (b_ false))] [] T0 (by kernel_rfl) trivial ?_
  refine A.tn ?_
  refine A.ret ?_
  refine A.postQ [(i_ (kv.length : Int))] (fun aa ww rr ss => ⟨rv_tmp rr rfl, trivial⟩) ?_
  rfl

set_option maxHeartbeats 4000000 in
set_option maxRecDepth 100000 in
theorem el_get_nil (ci : Int) (w : World) :
    Calls Try.prog 16 #[n_, (i_ ci)] w fun e w' => e = .returned (.tuple #[(u_ 0), (u_ 0), (i_ 7)]) ∧ Fr [] w w' := by
  refine calls_of (args := [n_, (i_ ci)]) (penv [n_, (i_ ci)]) [] [] Try.func16 rfl rfl (look_penv _) (HS.nil w) ?_
  refine A.norm [(0, n_), (1, (i_ ci))] [] (by exact ⟨rfl, rfl, trivial⟩) rfl ?_
  refine A.seq ?_
  refine A.region (A.goA [.p, .p, .p] [(0, n_), (1, (i_ ci)), (4, (u_ 0)), (5, (u_ 0)), (6, (i_ 0))] [] T0 (by kernel_rfl) trivial ?_)
  refine A.tn ?_
  refine A.seq ?_
  refine A.seq ?_
  refine A.region (A.goA [.p, .p] [(0, n_), (1, (i_ ci)), (4, (u_ 0)), (5, (u_ 0)), (6, (i_ 0)), (10, (b_ true))] [] T0 (by kernel_rfl) trivial ?_)
  refine A.tn ?_
  refine A.cond_t rfl ?_
  refine A.seq ?_
  refine A.region (A.goA [.p, .p, .p] [(0, n_), (1, (i_ ci)), (4, (u_ 0)), (5, (u_ 0)), (6, (i_ 7)), (10, (b_ true))] [] T0 (by kernel_rfl) trivial ?_)
  refine A.tn ?_
  refine A.ret ?_
  refine A.tr ?_
  refine A.postQ [(u_ 0), (u_ 0), (i_ 7)] (fun aa ww rr ss => ⟨rv_tmp rr rfl, rv_tmp rr rfl, rv_tmp rr rfl, trivial⟩) ?_
  rfl

set_option maxHeartbeats 4000000 in
set_option maxRecDepth 100000 in
theorem el_get (be bt mb : Nat) (t : T) (kv : List (Int × It)) (ci : Int) (w : World) (r0 : (blk be [(p_ bt), (.map (some mb))] 64).holds w) (r1 : (blk bt [(.pointer (T.ptr t))] 86).holds w) (r2 : (treeI 92 t).holds w) (r3 : (mapI (fun k : Int => i_ k) (fun y : It => (.agg #[u_ y.ka, i_ y.ki, u_ y.va, i_ y.vi])) mb kv).holds w) :
    Calls Try.prog 16 #[(p_ be), (i_ ci)] w fun e w' => e = .returned (.tuple #[(u_ (getA kv ci)), (u_ (getB kv ci)), (i_ (getE kv ci))]) ∧ Fr [] w w' := by
  refine calls_of (args := [(p_ be), (i_ ci)]) (penv [(p_ be), (i_ ci)]) [] [] Try.func16 rfl rfl (look_penv _) (HS.nil w) ?_
  refine A.norm [(0, (p_ be)), (1, (i_ ci))] [] (by exact ⟨rfl, rfl, trivial⟩) rfl ?_
  refine A.seq ?_
  refine A.region (A.goA [.p, .p, .p] [(0, (p_ be)), (1, (i_ ci)), (4, (u_ 0)), (5, (u_ 0)), (6, (i_ 0))] [] T0 (by kernel_rfl) trivial ?_)
  refine A.tn ?_
  refine A.seq ?_
  refine A.seq ?_
  refine A.region (A.goA [.p, .p] [(0, (p_ be)), (1, (i_ ci)), (4, (u_ 0)), (5, (u_ 0)), (6, (i_ 0)), (10, (b_ false))] [] T0 (by kernel_rfl) trivial ?_)
  refine A.tn ?_
  refine A.cond_f rfl ?_
  refine A.skip ?_
  refine A.tn ?_
  refine A.seq ?_
  refine A.region (A.goP [.p, .p, .p, .rd [(.map (some mb))], .p] [(0, (p_ be)), (1, (i_ ci)), (4, (u_ 0)), (5, (u_ 0)), (6, (i_ 0)), (10, (b_ false)), (15, (.map (some mb))), (16, (i_ ci))] [] (fun κ => κ.rd ⟨be, 1, none⟩ [(.map (some mb))] ∧ True) (by kernel_rfl) ⟨(reads_oldblk r0 rfl), trivial⟩ ?_)
  refine A.cons (A.q (some 17) (.tuple #[(.agg #[(u_ (((mget kv ci).getD (default : It)).ka)), (i_ (((mget kv ci).getD (default : It)).ki)), (u_ (((mget kv ci).getD (default : It)).va)), (i_ (((mget kv ci).getD (default : It)).vi))]), (b_ ((mget kv ci).isSome))]) (by kernel_rfl) (qt_lookupOk (kt := 3) (et := 68) (enck := (fun k : Int => i_ k)) (encv := (fun y : It => (.agg #[u_ y.ka, i_ y.ki, u_ y.va, i_ y.vi]))) (b := mb) (kv := kv) (k := ci) (d0 := (default : It)) (fun ww ss => old_item ss r3) rfl rfl rfl (by kernel_rfl) keyOk_I (by kernel_rfl) rfl) ?_)
  refine A.goA1 [.p, .p, .p, .al, .st 0, .p] [0, 1, 4, 5, 6, 10, 7, 8] (fun b1 => [(0, (p_ be)), (1, (i_ ci)), (4, (u_ 0)), (5, (u_ 0)), (6, (i_ 0)), (10, (b_ false)), (7, (p_ b1)), (8, (b_ ((mget kv ci).isSome)))]) (fun b1 => [blk b1 [(u_ (((mget kv ci).getD (default : It)).ka)), (i_ (((mget kv ci).getD (default : It)).ki)), (u_ (((mget kv ci).getD (default : It)).va)), (i_ (((mget kv ci).getD (default : It)).vi))] 68]) (fun b1 => [b1]) (fun _ => T0) (fun _ => by kernel_rfl) (fun b1 => trivial) ?_
  intro b1
  refine A.tn ?_
  refine A.seq ?_
  refine A.seq ?_
  refine A.region (A.goA [.p, .p] [(0, (p_ be)), (1, (i_ ci)), (4, (u_ 0)), (5, (u_ 0)), (6, (i_ 0)), (10, (b_ false)), (7, (p_ b1)), (8, (b_ ((mget kv ci).isSome))), (21, (b_ (!((mget kv ci).isSome))))] [] T0 (by kernel_rfl) trivial ?_)
  refine A.tn ?_
  refine A.cond (E := !((mget kv ci).isSome)) rfl (fun e1 => ?_) (fun e1 => ?_)
  · skip
    have p1 := e1; try simp only [decide_eq_true_eq, decide_eq_false_iff_not, beq_iff_eq, beq_eq_false_iff_ne, bne_iff_ne, bne_eq_false_iff_eq, ne_eq, Bool.and_eq_true, Bool.or_eq_true, Bool.or_eq_false_iff, Bool.not_eq_true', Bool.not_eq_false', Int.not_lt, Int.not_le, gt_iff_lt, ge_iff_le, Classical.not_not] at p1
    refine A.seq ?_
    refine A.region (A.goA [.p, .p, .p] [(0, (p_ be)), (1, (i_ ci)), (4, (u_ 0)), (5, (u_ 0)), (6, (i_ 6)), (10, (b_ false)), (7, (p_ b1)), (8, (b_ ((mget kv ci).isSome))), (21, (b_ (!((mget kv ci).isSome))))] [] T0 (by kernel_rfl) trivial ?_)
    refine A.tn ?_
    refine A.ret ?_
    refine A.tr ?_
    refine A.postQ [(u_ 0), (u_ 0), (i_ 6)] (fun aa ww rr ss => ⟨rv_tmp rr rfl, rv_tmp rr rfl, rv_tmp rr rfl, trivial⟩) ?_
    show ((.tuple #[(u_ 0), (u_ 0), (i_ 6)]) : Value) = (.tuple #[(u_ (getA kv ci)), (u_ (getB kv ci)), (i_ (getE kv ci))])
    (by_cases hn_ : mget kv ci = none) <;> first | (exfalso; simp_all; done) | (rw [← (get_none hn_).1, ← (get_none hn_).2.1, ← (get_none hn_).2.2]; done) | (rw [← get_some (by assumption)]; rfl)
  · skip
    have p1 := e1; try simp only [decide_eq_true_eq, decide_eq_false_iff_not, beq_iff_eq, beq_eq_false_iff_ne, bne_iff_ne, bne_eq_false_iff_eq, ne_eq, Bool.and_eq_true, Bool.or_eq_true, Bool.or_eq_false_iff, Bool.not_eq_true', Bool.not_eq_false', Int.not_lt, Int.not_le, gt_iff_lt, ge_iff_le, Classical.not_not] at p1
    refine A.skip ?_
    refine A.tn ?_
    refine A.seq ?_
    refine A.drawA [.p, .p, .ld 0, .p, .p, .ld 0, .p, .p, .p] [0, 1, 2, 3, 4, 5, 6, 7, 8] [(0, (p_ be)), (1, (i_ ci)), (4, (u_ (((mget kv ci).getD (default : It)).ka))), (5, (u_ (((mget kv ci).getD (default : It)).va))), (6, (i_ 0)), (10, (b_ false)), (7, (p_ b1)), (8, (b_ ((mget kv ci).isSome))), (21, (b_ (!((mget kv ci).isSome))))] [b1, b1] T0 (by kernel_rfl) (by kernel_rfl) trivial ?_
    refine A.tn ?_
    refine A.ret ?_
    refine A.postQ [(u_ (((mget kv ci).getD (default : It)).ka)), (u_ (((mget kv ci).getD (default : It)).va)), (i_ 0)] (fun aa ww rr ss => ⟨rv_tmp rr rfl, rv_tmp rr rfl, rv_tmp rr rfl, trivial⟩) ?_
    show ((.tuple #[(u_ (((mget kv ci).getD (default : It)).ka)), (u_ (((mget kv ci).getD (default : It)).va)), (i_ 0)]) : Value) = (.tuple #[(u_ (getA kv ci)), (u_ (getB kv ci)), (i_ (getE kv ci))])
    (by_cases hn_ : mget kv ci = none) <;> first | (exfalso; simp_all; done) | (rw [← (get_none hn_).1, ← (get_none hn_).2.1, ← (get_none hn_).2.2]; done) | (rw [← get_some (by assumption)]; rfl)

set_option maxHeartbeats 4000000 in
set_option maxRecDepth 100000 in
theorem el_set_nil (ci a b : Int) (w : World) :
    Calls Try.prog 14 #[n_, (i_ ci), (u_ a), (u_ b)] w fun e w' => e = .returned (i_ 7) ∧ Fr [] w w' := by
  refine calls_of (args := [n_, (i_ ci), (u_ a), (u_ b)]) (penv [n_, (i_ ci), (u_ a), (u_ b)]) [] [] Try.func14 rfl rfl (look_penv _) (HS.nil w) ?_
  refine A.norm [(0, n_), (1, (i_ ci)), (2, (u_ a)), (3, (u_ b))] [] (by exact ⟨rfl, rfl, rfl, rfl, trivial⟩) rfl ?_
  refine A.seq ?_
  refine A.region (A.goA [.p] [(0, n_), (1, (i_ ci)), (2, (u_ a)), (3, (u_ b)), (8, (i_ 0))] [] T0 (by kernel_rfl) trivial ?_)
  refine A.tn ?_
  refine A.seq ?_
  refine A.seq ?_
  refine A.region (A.goA [.p, .p] [(0, n_), (1, (i_ ci)), (2, (u_ a)), (3, (u_ b)), (8, (i_ 0)), (11, (b_ true))] [] T0 (by kernel_rfl) trivial ?_)
  refine A.tn ?_
  refine A.cond_t rfl ?_
  refine A.seq ?_
  refine A.region (A.goA [.p] [(0, n_), (1, (i_ ci)), (2, (u_ a)), (3, (u_ b)), (8, (i_ 7)), (11, (b_ true))] [] T0 (by kernel_rfl) trivial ?_)
  refine A.tn ?_
  refine A.ret ?_
  refine A.tr ?_
  refine A.postQ [(i_ 7)] (fun aa ww rr ss => ⟨rv_tmp rr rfl, trivial⟩) ?_
  rfl

set_option maxHeartbeats 4000000 in
set_option maxRecDepth 100000 in
theorem el_set (be bt mb : Nat) (t : T) (kv : List (Int × It)) (ci a b : Int) (hE : ERel t kv) (hC : kv.length ≤ 700) (w : World) (hs : HS w (feet [blk be [(p_ bt), (.map (some mb))] 64, blk bt [(.pointer (T.ptr t))] 86, treeI 92 t, mapI (fun k : Int => i_ k) (fun y : It => (.agg #[u_ y.ka, i_ y.ki, u_ y.va, i_ y.vi])) mb kv]) [blk be [(p_ bt), (.map (some mb))] 64, blk bt [(.pointer (T.ptr t))] 86, treeI 92 t, mapI (fun k : Int => i_ k) (fun y : It => (.agg #[u_ y.ka, i_ y.ki, u_ y.va, i_ y.vi])) mb kv] w) :
    Calls Try.prog 14 #[(p_ be), (i_ ci), (u_ a), (u_ b)] w fun e w' => ∃ zz, e = .returned ((fun (zt : T) => (i_ 0)) zz) ∧ (fun (zt : T) => ERel zt (mput (mdel kv ci) ci ⟨a, ci, b, ci⟩)) zz ∧ Turn [blk be [(p_ bt), (.map (some mb))] 64, blk bt [(.pointer (T.ptr t))] 86, treeI 92 t, mapI (fun k : Int => i_ k) (fun y : It => (.agg #[u_ y.ka, i_ y.ki, u_ y.va, i_ y.vi])) mb kv] ((fun (zt : T) => [blk be [(p_ bt), (.map (some mb))] 64, blk bt [(.pointer (T.ptr zt))] 86, treeI 92 zt, mapI (fun k : Int => i_ k) (fun y : It => (.agg #[u_ y.ka, i_ y.ki, u_ y.va, i_ y.vi])) mb (mput (mdel kv ci) ci ⟨a, ci, b, ci⟩)]) zz) w w' := by
  have hW := hE.wf; have hl_ := hE.len
  have hdl := mdel_le kv ci
  refine calls_of (args := [(p_ be), (i_ ci), (u_ a), (u_ b)]) (penv [(p_ be), (i_ ci), (u_ a), (u_ b)]) (feet [blk be [(p_ bt), (.map (some mb))] 64, blk bt [(.pointer (T.ptr t))] 86, treeI 92 t, mapI (fun k : Int => i_ k) (fun y : It => (.agg #[u_ y.ka, i_ y.ki, u_ y.va, i_ y.vi])) mb kv]) [blk be [(p_ bt), (.map (some mb))] 64, blk bt [(.pointer (T.ptr t))] 86, treeI 92 t, mapI (fun k : Int => i_ k) (fun y : It => (.agg #[u_ y.ka, i_ y.ki, u_ y.va, i_ y.vi])) mb kv] Try.func14 rfl rfl (look_penv _) hs ?_
  refine A.norm [(0, (p_ be)), (1, (i_ ci)), (2, (u_ a)), (3, (u_ b))] [blk be [(p_ bt), (.map (some mb))] 64, blk bt [(.pointer (T.ptr t))] 86, treeI 92 t, mapI (fun k : Int => i_ k) (fun y : It => (.agg #[u_ y.ka, i_ y.ki, u_ y.va, i_ y.vi])) mb kv] (by exact ⟨rfl, rfl, rfl, rfl, trivial⟩) rfl ?_
  refine A.seq ?_
  refine A.region (A.goA [.p] [(0, (p_ be)), (1, (i_ ci)), (2, (u_ a)), (3, (u_ b)), (8, (i_ 0))] [] T0 (by kernel_rfl) trivial ?_)
  refine A.tn ?_
  refine A.seq ?_
  refine A.seq ?_
  refine A.region (A.goA [.p, .p] [(0, (p_ be)), (1, (i_ ci)), (2, (u_ a)), (3, (u_ b)), (8, (i_ 0)), (11, (b_ false))] [] T0 (by kernel_rfl) trivial ?_)
  refine A.tn ?_
  refine A.cond_f rfl ?_
  refine A.skip ?_
  refine A.tn ?_
  refine A.seq ?_
  by_cases hd : mget kv ci = none
  · skip
    refine A.region (A.goA [.p, .p, .cq (i_ 6)] [(0, (p_ be)), (1, (i_ ci)), (2, (u_ a)), (3, (u_ b)), (8, (i_ 0)), (11, (b_ false))] [] (fun κ => κ.call 12 [(p_ be), (i_ ci)] (i_ 6) ∧ True) (by kernel_rfl) ⟨(fun ww ss => el_drop_none be bt mb t kv ci (by first | assumption | omega | exact erel_new hE (by assumption) | exact erel_new (by assumption) (mget_del_same hE.nd _) | (have h_ := mdel_len hd; omega)) ww (ss.mem (i := 0) rfl) (ss.mem (i := 1) rfl) (ss.mem (i := 2) rfl) (ss.mem (i := 3) rfl)), trivial⟩ ?_)
    refine A.tn ?_
    refine A.seq ?_
    refine A.region (A.goA1 [.p, .p, .p, .p, .p, .p, .p, .al, .st 4] [0, 1, 2, 3, 8, 11, 9] (fun b1 => [(0, (p_ be)), (1, (i_ ci)), (2, (u_ a)), (3, (u_ b)), (8, (i_ 0)), (11, (b_ false)), (9, (p_ b1))]) (fun b1 => [blk be [(p_ bt), (.map (some mb))] 64, blk bt [(.pointer (T.ptr t))] 86, treeI 92 t, mapI (fun k : Int => i_ k) (fun y : It => (.agg #[u_ y.ka, i_ y.ki, u_ y.va, i_ y.vi])) mb kv, blk b1 [(u_ a), (i_ ci), (u_ b), (i_ ci)] 68]) (fun b1 => [b1]) (fun _ => T0) (fun _ => by kernel_rfl) (fun b1 => trivial) ?_)
    intro b1
    refine A.tn ?_
    refine A.seq ?_
    refine A.draw2 [6] 7 (by kernel_rfl) ?_
    refine A.drawP 1 [.p, .p, .p, .ld 0, .p, .ld 4] [0, 1, 2, 3, 4, 5] [(0, (p_ be)), (1, (i_ ci)), (2, (u_ a)), (3, (u_ b)), (8, (i_ 0)), (11, (b_ false)), (9, (p_ b1)), (25, (.map (some mb))), (26, (i_ ci)), (27, (.agg #[(u_ a), (i_ ci), (u_ b), (i_ ci)]))] [be, b1] T0 (by kernel_rfl) trivial ?_
    refine A.only2 6 rfl (by kernel_rfl) (A.mapPut (kt := 3) (et := 68) (enck := (fun k : Int => i_ k)) (encv := (fun y : It => (.agg #[u_ y.ka, i_ y.ki, u_ y.va, i_ y.vi]))) (kv := kv) (k := ci) 3 (⟨a, ci, b, ci⟩ : It) [blk be [(p_ bt), (.map (some mb))] 64, blk bt [(.pointer (T.ptr t))] 86, treeI 92 t, mapI (fun k : Int => i_ k) (fun y : It => (.agg #[u_ y.ka, i_ y.ki, u_ y.va, i_ y.vi])) mb (mput kv ci (⟨a, ci, b, ci⟩ : It)), blk b1 [(u_ a), (i_ ci), (u_ b), (i_ ci)] 68] (by kernel_rfl) rfl rfl rfl rfl (by kernel_rfl) keyOk_I rfl rfl ?_)
    refine A.stage ?_
    refine A.fin2 (by kernel_rfl) ?_
    refine A.sub [(0, (p_ be)), (1, (i_ ci)), (2, (u_ a)), (3, (u_ b)), (8, (i_ 0)), (11, (b_ false)), (9, (p_ b1))] (by exact ⟨rfl, rfl, rfl, rfl, rfl, rfl, rfl, trivial⟩) ?_
    refine A.tn ?_
    refine A.seq ?_
    refine A.draw2 [8] 10 (by kernel_rfl) ?_
    refine A.drawP 2 [.p, .p, .p, .ld 0, .p, .ld 4, .p, .ld 4] [0, 1, 2, 3, 4, 5, 6, 7] [(0, (p_ be)), (1, (i_ ci)), (2, (u_ a)), (3, (u_ b)), (8, (i_ 0)), (11, (b_ false)), (9, (p_ b1)), (31, (p_ bt)), (33, (.agg #[(u_ a), (i_ ci)])), (35, (.agg #[(u_ b), (i_ ci)]))] [be, b1, b1] T0 (by kernel_rfl) trivial ?_
    refine A.only2 8 rfl (by kernel_rfl) (A.callT (some 36) [(p_ bt), (.agg #[(u_ a), (i_ ci)]), (.agg #[(u_ b), (i_ ci)])] [1, 1] ((fun zt2 => (i_ 0))) ((fun zt2 => WF zt2 ∧ T.toL zt2 = insL (⟨a, ci, b, ci⟩ : It) t.toL)) ((fun zt2 => [blk bt [(.pointer (T.ptr zt2))] 86, treeI 92 zt2])) (fun zt2 => [blk bt [(.pointer (T.ptr zt2))] 86, treeI 92 zt2, blk be [(p_ bt), (.map (some mb))] 64, mapI (fun k : Int => i_ k) (fun y : It => (.agg #[u_ y.ka, i_ y.ki, u_ y.va, i_ y.vi])) mb (mput kv ci (⟨a, ci, b, ci⟩ : It)), blk b1 [(u_ a), (i_ ci), (u_ b), (i_ ci)] 68]) (by kernel_rfl) rfl rfl (fun ww ss hh => insert_new bt t a ci b ci (by first | assumption | omega | exact findT_ne (by assumption) (by assumption) | exact findT_eq (by assumption)) (by first | assumption | omega | exact erel_new hE (by assumption) | exact erel_new (by assumption) (mget_del_same hE.nd _) | (have h_ := mdel_len hd; omega)) (by first | assumption | omega | exact findT_ne (by assumption) (by assumption) | exact findT_eq (by assumption)) ww hh) (fun _ => rfl) ?_)
    rintro zt2 hz1
    obtain ⟨hz1W, hz1L⟩ := id hz1
    refine A.stage ?_
    refine A.drawP 0 [.p] [9] [(0, (p_ be)), (1, (i_ ci)), (2, (u_ a)), (3, (u_ b)), (8, (i_ 0)), (11, (b_ false)), (9, (p_ b1))] [] T0 (by kernel_rfl) trivial ?_
    refine A.fin2 (by kernel_rfl) ?_
    refine A.tn ?_
    refine A.ret ?_
    rw [show mput kv ci (⟨a, ci, b, ci⟩ : It) = (mput (mdel kv ci) ci ⟨a, ci, b, ci⟩) from by first | rfl | (rw [mdel_id hd])]
    refine A.postK [2, 0, 0, 0] [(i_ 0)] (fun aa ww rr ss => ⟨rv_tmp rr rfl, trivial⟩) (zt2) ?_ ?_ (by kernel_rfl)
    · rfl
    · show ERel zt2 (mput (mdel kv ci) ci ⟨a, ci, b, ci⟩)
      first | (rw [mdel_id hd]; exact erel_ins hE hd ⟨by assumption, by assumption⟩) | exact erel_ins (by assumption) (mget_del_same hE.nd _) ⟨by assumption, by assumption⟩
  · skip
    refine A.region (A.goP [.p, .p] [(0, (p_ be)), (1, (i_ ci)), (2, (u_ a)), (3, (u_ b)), (8, (i_ 0)), (11, (b_ false)), (12, (p_ be)), (13, (i_ ci))] [] T0 (by kernel_rfl) trivial ?_)
    refine A.cons (A.callT (some 14) [(p_ be), (i_ ci)] [0, 0, 0, 0] ((fun zt3 => (i_ 0))) ((fun zt3 => ERel zt3 (mdel kv ci))) ((fun zt3 => [blk be [(p_ bt), (.map (some mb))] 64, blk bt [(.pointer (T.ptr zt3))] 86, treeI 92 zt3, mapI (fun k : Int => i_ k) (fun y : It => (.agg #[u_ y.ka, i_ y.ki, u_ y.va, i_ y.vi])) mb (mdel kv ci)])) (fun zt3 => [blk be [(p_ bt), (.map (some mb))] 64, blk bt [(.pointer (T.ptr zt3))] 86, treeI 92 zt3, mapI (fun k : Int => i_ k) (fun y : It => (.agg #[u_ y.ka, i_ y.ki, u_ y.va, i_ y.vi])) mb (mdel kv ci)]) (by kernel_rfl) rfl rfl (fun ww ss hh => el_drop_ok be bt mb t kv ci (by first | assumption | omega | exact erel_new hE (by assumption) | exact erel_new (by assumption) (mget_del_same hE.nd _) | (have h_ := mdel_len hd; omega)) (by first | assumption | omega | exact erel_new hE (by assumption) | exact erel_new (by assumption) (mget_del_same hE.nd _) | (have h_ := mdel_len hd; omega)) (by first | assumption | omega | exact erel_new hE (by assumption) | exact erel_new (by assumption) (mget_del_same hE.nd _) | (have h_ := mdel_len hd; omega)) ww hh) (fun _ => rfl) ?_)
    rintro zt3 hz2
    have hz2W := hz2.wf; have hz2l := hz2.len
    refine A.done ?_
    refine A.sub [(0, (p_ be)), (1, (i_ ci)), (2, (u_ a)), (3, (u_ b)), (8, (i_ 0)), (11, (b_ false))] (by exact ⟨rfl, rfl, rfl, rfl, rfl, rfl, trivial⟩) ?_
    refine A.tn ?_
    refine A.seq ?_
    refine A.region (A.goA1 [.p, .p, .p, .p, .p, .p, .p, .al, .st 4] [0, 1, 2, 3, 8, 11, 9] (fun b4 => [(0, (p_ be)), (1, (i_ ci)), (2, (u_ a)), (3, (u_ b)), (8, (i_ 0)), (11, (b_ false)), (9, (p_ b4))]) (fun b4 => [blk be [(p_ bt), (.map (some mb))] 64, blk bt [(.pointer (T.ptr zt3))] 86, treeI 92 zt3, mapI (fun k : Int => i_ k) (fun y : It => (.agg #[u_ y.ka, i_ y.ki, u_ y.va, i_ y.vi])) mb (mdel kv ci), blk b4 [(u_ a), (i_ ci), (u_ b), (i_ ci)] 68]) (fun b4 => [b4]) (fun _ => T0) (fun _ => by kernel_rfl) (fun b4 => trivial) ?_)
    intro b4
    refine A.tn ?_
    refine A.seq ?_
    refine A.draw2 [6] 7 (by kernel_rfl) ?_
    refine A.drawP 1 [.p, .p, .p, .ld 0, .p, .ld 4] [0, 1, 2, 3, 4, 5] [(0, (p_ be)), (1, (i_ ci)), (2, (u_ a)), (3, (u_ b)), (8, (i_ 0)), (11, (b_ false)), (9, (p_ b4)), (25, (.map (some mb))), (26, (i_ ci)), (27, (.agg #[(u_ a), (i_ ci), (u_ b), (i_ ci)]))] [be, b4] T0 (by kernel_rfl) trivial ?_
    refine A.only2 6 rfl (by kernel_rfl) (A.mapPut (kt := 3) (et := 68) (enck := (fun k : Int => i_ k)) (encv := (fun y : It => (.agg #[u_ y.ka, i_ y.ki, u_ y.va, i_ y.vi]))) (kv := (mdel kv ci)) (k := ci) 3 (⟨a, ci, b, ci⟩ : It) [blk be [(p_ bt), (.map (some mb))] 64, blk bt [(.pointer (T.ptr zt3))] 86, treeI 92 zt3, mapI (fun k : Int => i_ k) (fun y : It => (.agg #[u_ y.ka, i_ y.ki, u_ y.va, i_ y.vi])) mb (mput (mdel kv ci) ci (⟨a, ci, b, ci⟩ : It)), blk b4 [(u_ a), (i_ ci), (u_ b), (i_ ci)] 68] (by kernel_rfl) rfl rfl rfl rfl (by kernel_rfl) keyOk_I rfl rfl ?_)
    refine A.stage ?_
    refine A.fin2 (by kernel_rfl) ?_
    refine A.sub [(0, (p_ be)), (1, (i_ ci)), (2, (u_ a)), (3, (u_ b)), (8, (i_ 0)), (11, (b_ false)), (9, (p_ b4))] (by exact ⟨rfl, rfl, rfl, rfl, rfl, rfl, rfl, trivial⟩) ?_
    refine A.tn ?_
    refine A.seq ?_
    refine A.draw2 [8] 10 (by kernel_rfl) ?_
    refine A.drawP 2 [.p, .p, .p, .ld 0, .p, .ld 4, .p, .ld 4] [0, 1, 2, 3, 4, 5, 6, 7] [(0, (p_ be)), (1, (i_ ci)), (2, (u_ a)), (3, (u_ b)), (8, (i_ 0)), (11, (b_ false)), (9, (p_ b4)), (31, (p_ bt)), (33, (.agg #[(u_ a), (i_ ci)])), (35, (.agg #[(u_ b), (i_ ci)]))] [be, b4, b4] T0 (by kernel_rfl) trivial ?_
    refine A.only2 8 rfl (by kernel_rfl) (A.callT (some 36) [(p_ bt), (.agg #[(u_ a), (i_ ci)]), (.agg #[(u_ b), (i_ ci)])] [1, 1] ((fun zt5 => (i_ 0))) ((fun zt5 => WF zt5 ∧ T.toL zt5 = insL (⟨a, ci, b, ci⟩ : It) zt3.toL)) ((fun zt5 => [blk bt [(.pointer (T.ptr zt5))] 86, treeI 92 zt5])) (fun zt5 => [blk bt [(.pointer (T.ptr zt5))] 86, treeI 92 zt5, blk be [(p_ bt), (.map (some mb))] 64, mapI (fun k : Int => i_ k) (fun y : It => (.agg #[u_ y.ka, i_ y.ki, u_ y.va, i_ y.vi])) mb (mput (mdel kv ci) ci (⟨a, ci, b, ci⟩ : It)), blk b4 [(u_ a), (i_ ci), (u_ b), (i_ ci)] 68]) (by kernel_rfl) rfl rfl (fun ww ss hh => insert_new bt zt3 a ci b ci (by first | assumption | omega | exact findT_ne (by assumption) (by assumption) | exact findT_eq (by assumption)) (by first | assumption | omega | exact erel_new hE (by assumption) | exact erel_new (by assumption) (mget_del_same hE.nd _) | (have h_ := mdel_len hd; omega)) (by first | assumption | omega | exact findT_ne (by assumption) (by assumption) | exact findT_eq (by assumption)) ww hh) (fun _ => rfl) ?_)
    rintro zt5 hz3
    obtain ⟨hz3W, hz3L⟩ := id hz3
    refine A.stage ?_
    refine A.drawP 0 [.p] [9] [(0, (p_ be)), (1, (i_ ci)), (2, (u_ a)), (3, (u_ b)), (8, (i_ 0)), (11, (b_ false)), (9, (p_ b4))] [] T0 (by kernel_rfl) trivial ?_
    refine A.fin2 (by kernel_rfl) ?_
    refine A.tn ?_
    refine A.ret ?_
    rw [show mput (mdel kv ci) ci (⟨a, ci, b, ci⟩ : It) = (mput (mdel kv ci) ci ⟨a, ci, b, ci⟩) from by first | rfl | (rw [mdel_id hd])]
    refine A.postK [2, 0, 0, 0] [(i_ 0)] (fun aa ww rr ss => ⟨rv_tmp rr rfl, trivial⟩) (zt5) ?_ ?_ (by kernel_rfl)
    · rfl
    · show ERel zt5 (mput (mdel kv ci) ci ⟨a, ci, b, ci⟩)
      first | (rw [mdel_id hd]; exact erel_ins hE hd ⟨by assumption, by assumption⟩) | exact erel_ins (by assumption) (mget_del_same hE.nd _) ⟨by assumption, by assumption⟩

set_option maxHeartbeats 4000000 in
set_option maxRecDepth 100000 in
theorem el_pick_nil (n : Int) (w : World) :
    Calls Try.prog 18 #[n_, (u_ n)] w fun e w' => e = .returned (.tuple #[(i_ 0), (b_ false)]) ∧ Fr [] w w' := by
  refine calls_of (args := [n_, (u_ n)]) (penv [n_, (u_ n)]) [] [] Try.func18 rfl rfl (look_penv _) (HS.nil w) ?_
  refine A.norm [(0, n_), (1, (u_ n))] [] (by exact ⟨rfl, rfl, trivial⟩) rfl ?_
  refine A.seq ?_
  refine A.region (A.goA [.p, .p] [(0, n_), (1, (u_ n)), (4, (i_ 0)), (5, (b_ false))] [] T0 (by kernel_rfl) trivial ?_)
  refine A.tn ?_
  refine A.seq ?_
  refine A.seq ?_
  refine A.region (A.goA [.p, .p] [(0, n_), (1, (u_ n)), (4, (i_ 0)), (5, (b_ false)), (9, (b_ true))] [] T0 (by kernel_rfl) trivial ?_)
  refine A.tn ?_
  refine A.cond_t rfl ?_
  refine A.seq ?_
  refine A.region (A.goA [.p, .p] [(0, n_), (1, (u_ n)), (4, (i_ 0)), (5, (b_ false)), (9, (b_ true))] [] T0 (by kernel_rfl) trivial ?_)
  refine A.tn ?_
  refine A.ret ?_
  refine A.tr ?_
  refine A.postQ [(i_ 0), (b_ false)] (fun aa ww rr ss => ⟨rv_tmp rr rfl, rv_tmp rr rfl, trivial⟩) ?_
  rfl

set_option maxHeartbeats 4000000 in
set_option maxRecDepth 100000 in
theorem el_pick (be bt mb : Nat) (t : T) (kv : List (Int × It)) (n : Int) (hE : ERel t kv) (w : World) (r0 : (blk be [(p_ bt), (.map (some mb))] 64).holds w) (r1 : (blk bt [(.pointer (T.ptr t))] 86).holds w) (r2 : (treeI 92 t).holds w) (r3 : (mapI (fun k : Int => i_ k) (fun y : It => (.agg #[u_ y.ka, i_ y.ki, u_ y.va, i_ y.vi])) mb kv).holds w) :
    Calls Try.prog 18 #[(p_ be), (u_ n)] w fun e w' => e = .returned (.tuple #[(i_ (((belowL (imin n 9223372036854775807) t.toL).getD default).ki)), (b_ ((belowL (imin n 9223372036854775807) t.toL).isSome))]) ∧ Fr [] w w' := by
  have hW := hE.wf; have hl_ := hE.len
  refine calls_of (args := [(p_ be), (u_ n)]) (penv [(p_ be), (u_ n)]) [] [] Try.func18 rfl rfl (look_penv _) (HS.nil w) ?_
  refine A.norm [(0, (p_ be)), (1, (u_ n))] [] (by exact ⟨rfl, rfl, trivial⟩) rfl ?_
  refine A.seq ?_
  refine A.region (A.goA [.p, .p] [(0, (p_ be)), (1, (u_ n)), (4, (i_ 0)), (5, (b_ false))] [] T0 (by kernel_rfl) trivial ?_)
  refine A.tn ?_
  refine A.seq ?_
  refine A.seq ?_
  refine A.region (A.goA [.p, .p] [(0, (p_ be)), (1, (u_ n)), (4, (i_ 0)), (5, (b_ false)), (9, (b_ false))] [] T0 (by kernel_rfl) trivial ?_)
  refine A.tn ?_
  refine A.cond_f rfl ?_
  refine A.skip ?_
  refine A.tn ?_
  refine A.seq ?_
  refine A.region (A.goA1 [.p, .p, .p, .rd [(p_ bt)], .p, .p, .cq (.tuple #[(.agg #[(u_ (((belowL (imin n 9223372036854775807) t.toL).getD default).ka)), (i_ (((belowL (imin n 9223372036854775807) t.toL).getD default).ki)), (u_ (((belowL (imin n 9223372036854775807) t.toL).getD default).va)), (i_ (((belowL (imin n 9223372036854775807) t.toL).getD default).vi))]), (b_ ((belowL (imin n 9223372036854775807) t.toL).isSome))]), .p, .p, .p, .al, .st 0, .p] [0, 1, 4, 5, 9, 6, 7] (fun b1 => [(0, (p_ be)), (1, (u_ n)), (4, (i_ 0)), (5, (b_ false)), (9, (b_ false)), (6, (p_ b1)), (7, (b_ ((belowL (imin n 9223372036854775807) t.toL).isSome)))]) (fun b1 => [blk b1 [(u_ (((belowL (imin n 9223372036854775807) t.toL).getD default).ka)), (i_ (((belowL (imin n 9223372036854775807) t.toL).getD default).ki)), (u_ (((belowL (imin n 9223372036854775807) t.toL).getD default).va)), (i_ (((belowL (imin n 9223372036854775807) t.toL).getD default).vi))] 68]) (fun b1 => [b1]) (fun _ => (fun κ => κ.rd ⟨be, 0, none⟩ [(p_ bt)] ∧ κ.call 40 [(p_ bt), (u_ (imin n 9223372036854775807))] (.tuple #[(.agg #[(u_ (((belowL (imin n 9223372036854775807) t.toL).getD default).ka)), (i_ (((belowL (imin n 9223372036854775807) t.toL).getD default).ki)), (u_ (((belowL (imin n 9223372036854775807) t.toL).getD default).va)), (i_ (((belowL (imin n 9223372036854775807) t.toL).getD default).vi))]), (b_ ((belowL (imin n 9223372036854775807) t.toL).isSome))]) ∧ True)) (fun _ => by kernel_rfl) (fun b1 => ⟨(reads_oldblk r0 rfl), (fun ww ss => below_spec bt t (imin n 9223372036854775807) (by first | assumption | omega | exact findT_ne (by assumption) (by assumption) | exact findT_eq (by assumption)) ww (old_item ss r1) (old_item ss r2)), trivial⟩) ?_)
  intro b1
  refine A.tn ?_
  refine A.seq ?_
  refine A.region (A.goA [.p, .p, .ld 0, .p, .p, .p] [(0, (p_ be)), (1, (u_ n)), (4, (i_ (((belowL (imin n 9223372036854775807) t.toL).getD default).ki))), (5, (b_ ((belowL (imin n 9223372036854775807) t.toL).isSome))), (9, (b_ false)), (6, (p_ b1)), (7, (b_ ((belowL (imin n 9223372036854775807) t.toL).isSome)))] [b1] T0 (by kernel_rfl) trivial ?_)
  refine A.tn ?_
  refine A.ret ?_
  refine A.postQ [(i_ (((belowL (imin n 9223372036854775807) t.toL).getD default).ki)), (b_ ((belowL (imin n 9223372036854775807) t.toL).isSome))] (fun aa ww rr ss => ⟨rv_tmp rr rfl, rv_tmp rr rfl, trivial⟩) ?_
  rfl

set_option maxHeartbeats 4000000 in
set_option maxRecDepth 100000 in
theorem el_ids_nil (w : World) :
    Calls Try.prog 19 #[n_] w fun e w' => e = .returned e_ ∧ Fr [] w w' := by
  refine calls_of (args := [n_]) (penv [n_]) [] [] Try.func19 rfl rfl (look_penv _) (HS.nil w) ?_
  refine A.norm [(0, n_)] [] (by exact ⟨rfl, trivial⟩) rfl ?_
  refine A.seq ?_
  refine A.region (A.goA [.p] [(0, n_), (2, e_)] [] T0 (by kernel_rfl) trivial ?_)
  refine A.tn ?_
  refine A.seq ?_
  refine A.seq ?_
  refine A.region (A.goA [.p, .p] [(0, n_), (2, e_), (4, (b_ true))] [] T0 (by kernel_rfl) trivial ?_)
  refine A.tn ?_
  refine A.cond_t rfl ?_
  refine A.seq ?_
  refine A.region (A.goA [.p] [(0, n_), (2, e_), (4, (b_ true))] [] T0 (by kernel_rfl) trivial ?_)
  refine A.tn ?_
  refine A.ret ?_
  refine A.tr ?_
  refine A.postQ [e_] (fun aa ww rr ss => ⟨rv_tmp rr rfl, trivial⟩) ?_
  rfl

set_option maxHeartbeats 4000000 in
set_option maxRecDepth 100000 in
theorem vt_len_nil (w : World) :
    Calls Try.prog 32 #[n_] w fun e w' => e = .returned (i_ 0) ∧ Fr [] w w' := by
  refine calls_of (args := [n_]) (penv [n_]) [] [] Try.func32 rfl rfl (look_penv _) (HS.nil w) ?_
  refine A.norm [(0, n_)] [] (by exact ⟨rfl, trivial⟩) rfl ?_
  refine A.seq ?_
  refine A.region (A.goA [.p] [(0, n_), (2, (i_ 0))] [] T0 (by kernel_rfl) trivial ?_)
  refine A.tn ?_
  refine A.seq ?_
  refine A.seq ?_
  refine A.region (A.goA [.p, .p] [(0, n_), (2, (i_ 0)), (4, (b_ true))] [] T0 (by kernel_rfl) trivial ?_)
  refine A.tn ?_
  refine A.cond_t rfl ?_
  refine A.seq ?_
  refine A.region (A.goA [.p] [(0, n_), (2, (i_ 0)), (4, (b_ true))] [] T0 (by kernel_rfl) trivial ?_)
  refine A.tn ?_
  refine A.ret ?_
  refine A.tr ?_
  refine A.postQ [(i_ 0)] (fun aa ww rr ss => ⟨rv_tmp rr rfl, trivial⟩) ?_
  rfl

set_option maxHeartbeats 4000000 in
set_option maxRecDepth 100000 in
theorem vt_len (be bt mb : Nat) (t : T) (kv : List (Int × It)) (w : World) (r0 : (blk be [(p_ bt), (.map (some mb))] 82).holds w) (r1 : (blk bt [(.pointer (T.ptr t))] 86).holds w) (r2 : (treeI 92 t).holds w) (r3 : (mapI (fun k : Int => i_ k) (fun y : It => (.agg #[u_ y.ka, i_ y.ki, u_ y.va, i_ y.vi])) mb kv).holds w) :
    Calls Try.prog 32 #[(p_ be)] w fun e w' => e = .returned (i_ (kv.length : Int)) ∧ Fr [] w w' := by
  refine calls_of (args := [(p_ be)]) (penv [(p_ be)]) [] [] Try.func32 rfl rfl (look_penv _) (HS.nil w) ?_
  refine A.norm [(0, (p_ be))] [] (by exact ⟨rfl, trivial⟩) rfl ?_
  refine A.seq ?_
  refine A.region (A.goA [.p] [(0, (p_ be)), (2, (i_ 0))] [] T0 (by kernel_rfl) trivial ?_)
  refine A.tn ?_
  refine A.seq ?_
  refine A.seq ?_
  refine A.region (A.goA [.p, .p] [(0, (p_ be)), (2, (i_ 0)), (4, (b_ false))] [] T0 (by kernel_rfl) trivial ?_)
  refine A.tn ?_
  refine A.cond_f rfl ?_
  refine A.skip ?_
  refine A.tn ?_
  refine A.seq ?_
  refine A.region (A.goP [.p, .p, .p, .rd [(.map (some mb))]] [(0, (p_ be)), (2, (i_ 0)), (4, (b_ false)), (8, (.map (some mb)))] [] (fun κ => κ.rd ⟨be, 1, none⟩ [(.map (some mb))] ∧ True) (by kernel_rfl) ⟨(reads_oldblk r0 rfl), trivial⟩ ?_)
  refine A.cons (A.q (some 9) (i_ (kv.length : Int)) (by kernel_rfl) (qt_lenMap (kt := 3) (et := 68) (enck := (fun k : Int => i_ k)) (encv := (fun y : It => (.agg #[u_ y.ka, i_ y.ki, u_ y.va, i_ y.vi]))) (b := mb) (kv := kv) (fun ww ss => old_item ss r3) rfl rfl (by kernel_rfl)) ?_)
  refine A.goA [.p] [(0, (p_ be)), (2, (i_ (kv.length : Int))), (4, (b_ false))] [] T0 (by kernel_rfl) trivial ?_
  refine A.tn ?_
  refine A.ret ?_
  refine A.postQ [(i_ (kv.length : Int))] (fun aa ww rr ss => ⟨rv_tmp rr rfl, trivial⟩) ?_
  rfl

set_option maxHeartbeats 4000000 in
set_option maxRecDepth 100000 in
theorem vt_get_nil (ci : Int) (w : World) :
    Calls Try.prog 28 #[n_, (i_ ci)] w fun e w' => e = .returned (.tuple #[(u_ 0), (u_ 0), (i_ 7)]) ∧ Fr [] w w' := by
  refine calls_of (args := [n_, (i_ ci)]) (penv [n_, (i_ ci)]) [] [] Try.func28 rfl rfl (look_penv _) (HS.nil w) ?_
  refine A.norm [(0, n_), (1, (i_ ci))] [] (by exact ⟨rfl, rfl, trivial⟩) rfl ?_
  refine A.seq ?_
  refine A.region (A.goA [.p, .p, .p] [(0, n_), (1, (i_ ci)), (4, (u_ 0)), (5, (u_ 0)), (6, (i_ 0))] [] T0 (by kernel_rfl) trivial ?_)
  refine A.tn ?_
  refine A.seq ?_
  refine A.seq ?_
  refine A.region (A.goA [.p, .p] [(0, n_), (1, (i_ ci)), (4, (u_ 0)), (5, (u_ 0)), (6, (i_ 0)), (10, (b_ true))] [] T0 (by kernel_rfl) trivial ?_)
  refine A.tn ?_
  refine A.cond_t rfl ?_
  refine A.seq ?_
  refine A.region (A.goA [.p, .p, .p] [(0, n_), (1, (i_ ci)), (4, (u_ 0)), (5, (u_ 0)), (6, (i_ 7)), (10, (b_ true))] [] T0 (by kernel_rfl) trivial ?_)
  refine A.tn ?_
  refine A.ret ?_
  refine A.tr ?_
  refine A.postQ [(u_ 0), (u_ 0), (i_ 7)] (fun aa ww rr ss => ⟨rv_tmp rr rfl, rv_tmp rr rfl, rv_tmp rr rfl, trivial⟩) ?_
  rfl

set_option maxHeartbeats 4000000 in
set_option maxRecDepth 100000 in
theorem vt_get (be bt mb : Nat) (t : T) (kv : List (Int × It)) (ci : Int) (w : World) (r0 : (blk be [(p_ bt), (.map (some mb))] 82).holds w) (r1 : (blk bt [(.pointer (T.ptr t))] 86).holds w) (r2 : (treeI 92 t).holds w) (r3 : (mapI (fun k : Int => i_ k) (fun y : It => (.agg #[u_ y.ka, i_ y.ki, u_ y.va, i_ y.vi])) mb kv).holds w) :
    Calls Try.prog 28 #[(p_ be), (i_ ci)] w fun e w' => e = .returned (.tuple #[(u_ (getA kv ci)), (u_ (getB kv ci)), (i_ (getE kv ci))]) ∧ Fr [] w w' := by
  refine calls_of (args := [(p_ be), (i_ ci)]) (penv [(p_ be), (i_ ci)]) [] [] Try.func28 rfl rfl (look_penv _) (HS.nil w) ?_
  refine A.norm [(0, (p_ be)), (1, (i_ ci))] [] (by exact ⟨rfl, rfl, trivial⟩) rfl ?_
  refine A.seq ?_
  refine A.region (A.goA [.p, .p, .p] [(0, (p_ be)), (1, (i_ ci)), (4, (u_ 0)), (5, (u_ 0)), (6, (i_ 0))] [] T0 (by kernel_rfl) trivial ?_)
  refine A.tn ?_
  refine A.seq ?_
  refine A.seq ?_
  refine A.region (A.goA [.p, .p] [(0, (p_ be)), (1, (i_ ci)), (4, (u_ 0)), (5, (u_ 0)), (6, (i_ 0)), (10, (b_ false))] [] T0 (by kernel_rfl) trivial ?_)
  refine A.tn ?_
  refine A.cond_f rfl ?_
  refine A.skip ?_
  refine A.tn ?_
  refine A.seq ?_
  refine A.region (A.goP [.p, .p, .p, .rd [(.map (some mb))], .p] [(0, (p_ be)), (1, (i_ ci)), (4, (u_ 0)), (5, (u_ 0)), (6, (i_ 0)), (10, (b_ false)), (15, (.map (some mb))), (16, (i_ ci))] [] (fun κ => κ.rd ⟨be, 1, none⟩ [(.map (some mb))] ∧ True) (by kernel_rfl) ⟨(reads_oldblk r0 rfl), trivial⟩ ?_)
  refine A.cons (A.q (some 17) (.tuple #[(.agg #[(u_ (((mget kv ci).getD (default : It)).ka)), (i_ (((mget kv ci).getD (default : It)).ki)), (u_ (((mget kv ci).getD (default : It)).va)), (i_ (((mget kv ci).getD (default : It)).vi))]), (b_ ((mget kv ci).isSome))]) (by kernel_rfl) (qt_lookupOk (kt := 3) (et := 68) (enck := (fun k : Int => i_ k)) (encv := (fun y : It => (.agg #[u_ y.ka, i_ y.ki, u_ y.va, i_ y.vi]))) (b := mb) (kv := kv) (k := ci) (d0 := (default : It)) (fun ww ss => old_item ss r3) rfl rfl rfl (by kernel_rfl) keyOk_I (by kernel_rfl) rfl) ?_)
  refine A.goA1 [.p, .p, .p, .al, .st 0, .p] [0, 1, 4, 5, 6, 10, 7, 8] (fun b1 => [(0, (p_ be)), (1, (i_ ci)), (4, (u_ 0)), (5, (u_ 0)), (6, (i_ 0)), (10, (b_ false)), (7, (p_ b1)), (8, (b_ ((mget kv ci).isSome)))]) (fun b1 => [blk b1 [(u_ (((mget kv ci).getD (default : It)).ka)), (i_ (((mget kv ci).getD (default : It)).ki)), (u_ (((mget kv ci).getD (default : It)).va)), (i_ (((mget kv ci).getD (default : It)).vi))] 68]) (fun b1 => [b1]) (fun _ => T0) (fun _ => by kernel_rfl) (fun b1 => trivial) ?_
  intro b1
  refine A.tn ?_
  refine A.seq ?_
  refine A.seq ?_
  refine A.region (A.goA [.p, .p] [(0, (p_ be)), (1, (i_ ci)), (4, (u_ 0)), (5, (u_ 0)), (6, (i_ 0)), (10, (b_ false)), (7, (p_ b1)), (8, (b_ ((mget kv ci).isSome))), (21, (b_ (!((mget kv ci).isSome))))] [] T0 (by kernel_rfl) trivial ?_)
  refine A.tn ?_
  refine A.cond (E := !((mget kv ci).isSome)) rfl (fun e1 => ?_) (fun e1 => ?_)
  · skip
    have p1 := e1; try simp only [decide_eq_true_eq, decide_eq_false_iff_not, beq_iff_eq, beq_eq_false_iff_ne, bne_iff_ne, bne_eq_false_iff_eq, ne_eq, Bool.and_eq_true, Bool.or_eq_true, Bool.or_eq_false_iff, Bool.not_eq_true', Bool.not_eq_false', Int.not_lt, Int.not_le, gt_iff_lt, ge_iff_le, Classical.not_not] at p1
    refine A.seq ?_
    refine A.region (A.goA [.p, .p, .p] [(0, (p_ be)), (1, (i_ ci)), (4, (u_ 0)), (5, (u_ 0)), (6, (i_ 6)), (10, (b_ false)), (7, (p_ b1)), (8, (b_ ((mget kv ci).isSome))), (21, (b_ (!((mget kv ci).isSome))))] [] T0 (by kernel_rfl) trivial ?_)
    refine A.tn ?_
    refine A.ret ?_
    refine A.tr ?_
    refine A.postQ [(u_ 0), (u_ 0), (i_ 6)] (fun aa ww rr ss => ⟨rv_tmp rr rfl, rv_tmp rr rfl, rv_tmp rr rfl, trivial⟩) ?_
    show ((.tuple #[(u_ 0), (u_ 0), (i_ 6)]) : Value) = (.tuple #[(u_ (getA kv ci)), (u_ (getB kv ci)), (i_ (getE kv ci))])
    (by_cases hn_ : mget kv ci = none) <;> first | (exfalso; simp_all; done) | (rw [← (get_none hn_).1, ← (get_none hn_).2.1, ← (get_none hn_).2.2]; done) | (rw [← get_some (by assumption)]; rfl)
  · skip
    have p1 := e1; try simp only [decide_eq_true_eq, decide_eq_false_iff_not, beq_iff_eq, beq_eq_false_iff_ne, bne_iff_ne, bne_eq_false_iff_eq, ne_eq, Bool.and_eq_true, Bool.or_eq_true, Bool.or_eq_false_iff, Bool.not_eq_true', Bool.not_eq_false', Int.not_lt, Int.not_le, gt_iff_lt, ge_iff_le, Classical.not_not] at p1
    refine A.skip ?_
    refine A.tn ?_
    refine A.seq ?_
    refine A.drawA [.p, .p, .ld 0, .p, .p, .ld 0, .p, .p, .p] [0, 1, 2, 3, 4, 5, 6, 7, 8] [(0, (p_ be)), (1, (i_ ci)), (4, (u_ (((mget kv ci).getD (default : It)).ka))), (5, (u_ (((mget kv ci).getD (default : It)).va))), (6, (i_ 0)), (10, (b_ false)), (7, (p_ b1)), (8, (b_ ((mget kv ci).isSome))), (21, (b_ (!((mget kv ci).isSome))))] [b1, b1] T0 (by kernel_rfl) (by kernel_rfl) trivial ?_
    refine A.tn ?_
    refine A.ret ?_
    refine A.postQ [(u_ (((mget kv ci).getD (default : It)).ka)), (u_ (((mget kv ci).getD (default : It)).va)), (i_ 0)] (fun aa ww rr ss => ⟨rv_tmp rr rfl, rv_tmp rr rfl, rv_tmp rr rfl, trivial⟩) ?_
    show ((.tuple #[(u_ (((mget kv ci).getD (default : It)).ka)), (u_ (((mget kv ci).getD (default : It)).va)), (i_ 0)]) : Value) = (.tuple #[(u_ (getA kv ci)), (u_ (getB kv ci)), (i_ (getE kv ci))])
    (by_cases hn_ : mget kv ci = none) <;> first | (exfalso; simp_all; done) | (rw [← (get_none hn_).1, ← (get_none hn_).2.1, ← (get_none hn_).2.2]; done) | (rw [← get_some (by assumption)]; rfl)

set_option maxHeartbeats 4000000 in
set_option maxRecDepth 100000 in
theorem vt_set_nil (ci a b : Int) (w : World) :
    Calls Try.prog 25 #[n_, (i_ ci), (u_ a), (u_ b)] w fun e w' => e = .returned (i_ 7) ∧ Fr [] w w' := by
  refine calls_of (args := [n_, (i_ ci), (u_ a), (u_ b)]) (penv [n_, (i_ ci), (u_ a), (u_ b)]) [] [] Try.func25 rfl rfl (look_penv _) (HS.nil w) ?_
  refine A.norm [(0, n_), (1, (i_ ci)), (2, (u_ a)), (3, (u_ b))] [] (by exact ⟨rfl, rfl, rfl, rfl, trivial⟩) rfl ?_
  refine A.seq ?_
  refine A.region (A.goA [.p] [(0, n_), (1, (i_ ci)), (2, (u_ a)), (3, (u_ b)), (8, (i_ 0))] [] T0 (by kernel_rfl) trivial ?_)
  refine A.tn ?_
  refine A.seq ?_
  refine A.seq ?_
  refine A.region (A.goA [.p, .p] [(0, n_), (1, (i_ ci)), (2, (u_ a)), (3, (u_ b)), (8, (i_ 0)), (13, (b_ true))] [] T0 (by kernel_rfl) trivial ?_)
  refine A.tn ?_
  refine A.cond_t rfl ?_
  refine A.seq ?_
  refine A.region (A.goA [.p] [(0, n_), (1, (i_ ci)), (2, (u_ a)), (3, (u_ b)), (8, (i_ 7)), (13, (b_ true))] [] T0 (by kernel_rfl) trivial ?_)
  refine A.tn ?_
  refine A.ret ?_
  refine A.tr ?_
  refine A.postQ [(i_ 7)] (fun aa ww rr ss => ⟨rv_tmp rr rfl, trivial⟩) ?_
  rfl

set_option maxHeartbeats 4000000 in
set_option maxRecDepth 100000 in
theorem vt_set (be bt mb : Nat) (t : T) (kv : List (Int × It)) (ci a b : Int) (hE : ERel t kv) (hC : kv.length ≤ 700) (w : World) (hs : HS w (feet [blk be [(p_ bt), (.map (some mb))] 82, blk bt [(.pointer (T.ptr t))] 86, treeI 92 t, mapI (fun k : Int => i_ k) (fun y : It => (.agg #[u_ y.ka, i_ y.ki, u_ y.va, i_ y.vi])) mb kv]) [blk be [(p_ bt), (.map (some mb))] 82, blk bt [(.pointer (T.ptr t))] 86, treeI 92 t, mapI (fun k : Int => i_ k) (fun y : It => (.agg #[u_ y.ka, i_ y.ki, u_ y.va, i_ y.vi])) mb kv] w) :
    Calls Try.prog 25 #[(p_ be), (i_ ci), (u_ a), (u_ b)] w fun e w' => ∃ zz, e = .returned ((fun (zt : T) => (i_ 0)) zz) ∧ (fun (zt : T) => ERel zt (mput kv ci ⟨a, ci, b, ci⟩)) zz ∧ Turn [blk be [(p_ bt), (.map (some mb))] 82, blk bt [(.pointer (T.ptr t))] 86, treeI 92 t, mapI (fun k : Int => i_ k) (fun y : It => (.agg #[u_ y.ka, i_ y.ki, u_ y.va, i_ y.vi])) mb kv] ((fun (zt : T) => [blk be [(p_ bt), (.map (some mb))] 82, blk bt [(.pointer (T.ptr zt))] 86, treeI 92 zt, mapI (fun k : Int => i_ k) (fun y : It => (.agg #[u_ y.ka, i_ y.ki, u_ y.va, i_ y.vi])) mb (mput kv ci ⟨a, ci, b, ci⟩)]) zz) w w' := by
  have hW := hE.wf; have hl_ := hE.len
  have hdl := mdel_le kv ci
  refine calls_of (args := [(p_ be), (i_ ci), (u_ a), (u_ b)]) (penv [(p_ be), (i_ ci), (u_ a), (u_ b)]) (feet [blk be [(p_ bt), (.map (some mb))] 82, blk bt [(.pointer (T.ptr t))] 86, treeI 92 t, mapI (fun k : Int => i_ k) (fun y : It => (.agg #[u_ y.ka, i_ y.ki, u_ y.va, i_ y.vi])) mb kv]) [blk be [(p_ bt), (.map (some mb))] 82, blk bt [(.pointer (T.ptr t))] 86, treeI 92 t, mapI (fun k : Int => i_ k) (fun y : It => (.agg #[u_ y.ka, i_ y.ki, u_ y.va, i_ y.vi])) mb kv] Try.func25 rfl rfl (look_penv _) hs ?_
  refine A.norm [(0, (p_ be)), (1, (i_ ci)), (2, (u_ a)), (3, (u_ b))] [blk be [(p_ bt), (.map (some mb))] 82, blk bt [(.pointer (T.ptr t))] 86, treeI 92 t, mapI (fun k : Int => i_ k) (fun y : It => (.agg #[u_ y.ka, i_ y.ki, u_ y.va, i_ y.vi])) mb kv] (by exact ⟨rfl, rfl, rfl, rfl, trivial⟩) rfl ?_
  refine A.seq ?_
  refine A.region (A.goA [.p] [(0, (p_ be)), (1, (i_ ci)), (2, (u_ a)), (3, (u_ b)), (8, (i_ 0))] [] T0 (by kernel_rfl) trivial ?_)
  refine A.tn ?_
  refine A.seq ?_
  refine A.seq ?_
  refine A.region (A.goA [.p, .p] [(0, (p_ be)), (1, (i_ ci)), (2, (u_ a)), (3, (u_ b)), (8, (i_ 0)), (13, (b_ false))] [] T0 (by kernel_rfl) trivial ?_)
  refine A.tn ?_
  refine A.cond_f rfl ?_
  refine A.skip ?_
  refine A.tn ?_
  refine A.seq ?_
  by_cases hd : mget kv ci = none
  · skip
    refine A.region (A.goA1 [.p, .p, .p, .p, .p, .p, .p, .al, .st 4] [0, 1, 2, 3, 8, 13, 9] (fun b1 => [(0, (p_ be)), (1, (i_ ci)), (2, (u_ a)), (3, (u_ b)), (8, (i_ 0)), (13, (b_ false)), (9, (p_ b1))]) (fun b1 => [blk be [(p_ bt), (.map (some mb))] 82, blk bt [(.pointer (T.ptr t))] 86, treeI 92 t, mapI (fun k : Int => i_ k) (fun y : It => (.agg #[u_ y.ka, i_ y.ki, u_ y.va, i_ y.vi])) mb kv, blk b1 [(u_ a), (i_ ci), (u_ b), (i_ ci)] 68]) (fun b1 => [b1]) (fun _ => T0) (fun _ => by kernel_rfl) (fun b1 => trivial) ?_)
    intro b1
    refine A.tn ?_
    refine A.seq ?_
    refine A.seq ?_
    refine A.region (A.goP [.p, .p, .p, .ld 0, .p] [(0, (p_ be)), (1, (i_ ci)), (2, (u_ a)), (3, (u_ b)), (8, (i_ 0)), (13, (b_ false)), (9, (p_ b1)), (25, (.map (some mb))), (26, (i_ ci))] [be] T0 (by kernel_rfl) trivial ?_)
    refine A.cons (A.q (some 27) (.tuple #[(.agg #[(u_ (((mget kv ci).getD (default : It)).ka)), (i_ (((mget kv ci).getD (default : It)).ki)), (u_ (((mget kv ci).getD (default : It)).va)), (i_ (((mget kv ci).getD (default : It)).vi))]), (b_ ((mget kv ci).isSome))]) (by kernel_rfl) (qt_lookupOk (kt := 3) (et := 68) (enck := (fun k : Int => i_ k)) (encv := (fun y : It => (.agg #[u_ y.ka, i_ y.ki, u_ y.va, i_ y.vi]))) (b := mb) (kv := kv) (k := ci) (d0 := (default : It)) (fun ww ss => ss.mem (i := 3) rfl) rfl rfl rfl (by kernel_rfl) keyOk_I (by kernel_rfl) rfl) ?_)
    refine A.goA1 [.p, .p, .p, .al, .st 5, .p] [0, 1, 2, 3, 8, 13, 9, 10, 11] (fun b2 => [(0, (p_ be)), (1, (i_ ci)), (2, (u_ a)), (3, (u_ b)), (8, (i_ 0)), (13, (b_ false)), (9, (p_ b1)), (10, (p_ b2)), (11, (b_ ((mget kv ci).isSome)))]) (fun b2 => [blk be [(p_ bt), (.map (some mb))] 82, blk bt [(.pointer (T.ptr t))] 86, treeI 92 t, mapI (fun k : Int => i_ k) (fun y : It => (.agg #[u_ y.ka, i_ y.ki, u_ y.va, i_ y.vi])) mb kv, blk b1 [(u_ a), (i_ ci), (u_ b), (i_ ci)] 68, blk b2 [(u_ (((mget kv ci).getD (default : It)).ka)), (i_ (((mget kv ci).getD (default : It)).ki)), (u_ (((mget kv ci).getD (default : It)).va)), (i_ (((mget kv ci).getD (default : It)).vi))] 68]) (fun b2 => [b2]) (fun _ => T0) (fun _ => by kernel_rfl) (fun b2 => trivial) ?_
    intro b2
    refine A.tn ?_
    refine A.seq ?_
    refine A.region (A.goA [.p] [(0, (p_ be)), (1, (i_ ci)), (2, (u_ a)), (3, (u_ b)), (8, (i_ 0)), (13, (b_ false)), (9, (p_ b1)), (10, (p_ b2)), (11, (b_ ((mget kv ci).isSome))), (30, (b_ ((mget kv ci).isSome)))] [] T0 (by kernel_rfl) trivial ?_)
    refine A.tn ?_
    refine A.cond (E := (mget kv ci).isSome) rfl (fun e1 => ?_) (fun e1 => ?_)
    · exact absurd e1 (by simp [hd])
    · skip
      have p1 := e1; try simp only [decide_eq_true_eq, decide_eq_false_iff_not, beq_iff_eq, beq_eq_false_iff_ne, bne_iff_ne, bne_eq_false_iff_eq, ne_eq, Bool.and_eq_true, Bool.or_eq_true, Bool.or_eq_false_iff, Bool.not_eq_true', Bool.not_eq_false', Int.not_lt, Int.not_le, gt_iff_lt, ge_iff_le, Classical.not_not] at p1
      refine A.skip ?_
      refine A.tn ?_
      refine A.seq ?_
      refine A.draw2 [6] 7 (by kernel_rfl) ?_
      refine A.drawP 1 [.p, .p, .p, .ld 0, .p, .ld 4] [0, 1, 2, 3, 4, 5] [(0, (p_ be)), (1, (i_ ci)), (2, (u_ a)), (3, (u_ b)), (8, (i_ 0)), (13, (b_ false)), (9, (p_ b1)), (10, (p_ b2)), (11, (b_ ((mget kv ci).isSome))), (30, (b_ ((mget kv ci).isSome))), (41, (.map (some mb))), (42, (i_ ci)), (43, (.agg #[(u_ a), (i_ ci), (u_ b), (i_ ci)]))] [be, b1] T0 (by kernel_rfl) trivial ?_
      refine A.only2 6 rfl (by kernel_rfl) (A.mapPut (kt := 3) (et := 68) (enck := (fun k : Int => i_ k)) (encv := (fun y : It => (.agg #[u_ y.ka, i_ y.ki, u_ y.va, i_ y.vi]))) (kv := kv) (k := ci) 3 (⟨a, ci, b, ci⟩ : It) [blk be [(p_ bt), (.map (some mb))] 82, blk bt [(.pointer (T.ptr t))] 86, treeI 92 t, mapI (fun k : Int => i_ k) (fun y : It => (.agg #[u_ y.ka, i_ y.ki, u_ y.va, i_ y.vi])) mb (mput kv ci (⟨a, ci, b, ci⟩ : It)), blk b1 [(u_ a), (i_ ci), (u_ b), (i_ ci)] 68, blk b2 [(u_ (((mget kv ci).getD (default : It)).ka)), (i_ (((mget kv ci).getD (default : It)).ki)), (u_ (((mget kv ci).getD (default : It)).va)), (i_ (((mget kv ci).getD (default : It)).vi))] 68] (by kernel_rfl) rfl rfl rfl rfl (by kernel_rfl) keyOk_I rfl rfl ?_)
      refine A.stage ?_
      refine A.fin2 (by kernel_rfl) ?_
      refine A.sub [(0, (p_ be)), (1, (i_ ci)), (2, (u_ a)), (3, (u_ b)), (8, (i_ 0)), (13, (b_ false)), (9, (p_ b1)), (10, (p_ b2)), (11, (b_ ((mget kv ci).isSome))), (30, (b_ ((mget kv ci).isSome)))] (by exact ⟨rfl, rfl, rfl, rfl, rfl, rfl, rfl, rfl, rfl, rfl, trivial⟩) ?_
      refine A.tn ?_
      refine A.seq ?_
      refine A.draw2 [8] 10 (by kernel_rfl) ?_
      refine A.drawP 2 [.p, .p, .p, .ld 0, .p, .ld 4, .p, .ld 4] [0, 1, 2, 3, 4, 5, 6, 7] [(0, (p_ be)), (1, (i_ ci)), (2, (u_ a)), (3, (u_ b)), (8, (i_ 0)), (13, (b_ false)), (9, (p_ b1)), (10, (p_ b2)), (11, (b_ ((mget kv ci).isSome))), (30, (b_ ((mget kv ci).isSome))), (47, (p_ bt)), (49, (.agg #[(u_ a), (i_ ci)])), (51, (.agg #[(u_ b), (i_ ci)]))] [be, b1, b1] T0 (by kernel_rfl) trivial ?_
      refine A.only2 8 rfl (by kernel_rfl) (A.callT (some 52) [(p_ bt), (.agg #[(u_ a), (i_ ci)]), (.agg #[(u_ b), (i_ ci)])] [1, 1] ((fun zt3 => (i_ 0))) ((fun zt3 => WF zt3 ∧ T.toL zt3 = insL (⟨a, ci, b, ci⟩ : It) t.toL)) ((fun zt3 => [blk bt [(.pointer (T.ptr zt3))] 86, treeI 92 zt3])) (fun zt3 => [blk bt [(.pointer (T.ptr zt3))] 86, treeI 92 zt3, blk be [(p_ bt), (.map (some mb))] 82, mapI (fun k : Int => i_ k) (fun y : It => (.agg #[u_ y.ka, i_ y.ki, u_ y.va, i_ y.vi])) mb (mput kv ci (⟨a, ci, b, ci⟩ : It)), blk b1 [(u_ a), (i_ ci), (u_ b), (i_ ci)] 68, blk b2 [(u_ (((mget kv ci).getD (default : It)).ka)), (i_ (((mget kv ci).getD (default : It)).ki)), (u_ (((mget kv ci).getD (default : It)).va)), (i_ (((mget kv ci).getD (default : It)).vi))] 68]) (by kernel_rfl) rfl rfl (fun ww ss hh => insert_new bt t a ci b ci (by first | assumption | omega | exact findT_ne (by assumption) (by assumption) | exact findT_eq (by assumption)) (by first | assumption | omega | exact erel_mem hE (by assumption) | exact erel_new hE (by assumption) | exact erel_new hE2 (mget_del_same hE.nd _)) (by first | assumption | omega | exact findT_ne (by assumption) (by assumption) | exact findT_eq (by assumption)) ww hh) (fun _ => rfl) ?_)
      rintro zt3 hz2
      obtain ⟨hz2W, hz2L⟩ := id hz2
      refine A.stage ?_
      refine A.drawP 0 [.p] [9] [(0, (p_ be)), (1, (i_ ci)), (2, (u_ a)), (3, (u_ b)), (8, (i_ 0)), (13, (b_ false)), (9, (p_ b1)), (10, (p_ b2)), (11, (b_ ((mget kv ci).isSome))), (30, (b_ ((mget kv ci).isSome)))] [] T0 (by kernel_rfl) trivial ?_
      refine A.fin2 (by kernel_rfl) ?_
      refine A.tn ?_
      refine A.ret ?_
      rw [show mput kv ci (⟨a, ci, b, ci⟩ : It) = (mput kv ci ⟨a, ci, b, ci⟩) from by first | rfl | omega | (simp; done) | grind]
      refine A.postK [2, 0, 0, 0] [(i_ 0)] (fun aa ww rr ss => ⟨rv_tmp rr rfl, trivial⟩) (zt3) ?_ ?_ (by kernel_rfl)
      · rfl
      · show ERel zt3 (mput kv ci ⟨a, ci, b, ci⟩)
        first | (exact erel_ins hE (by simp_all) ⟨by assumption, by assumption⟩) | exact erel_put hE.nd hd hE2 ⟨by assumption, by assumption⟩
  · skip
    refine A.region (A.goA1 [.p, .p, .p, .p, .p, .p, .p, .al, .st 4] [0, 1, 2, 3, 8, 13, 9] (fun b4 => [(0, (p_ be)), (1, (i_ ci)), (2, (u_ a)), (3, (u_ b)), (8, (i_ 0)), (13, (b_ false)), (9, (p_ b4))]) (fun b4 => [blk be [(p_ bt), (.map (some mb))] 82, blk bt [(.pointer (T.ptr t))] 86, treeI 92 t, mapI (fun k : Int => i_ k) (fun y : It => (.agg #[u_ y.ka, i_ y.ki, u_ y.va, i_ y.vi])) mb kv, blk b4 [(u_ a), (i_ ci), (u_ b), (i_ ci)] 68]) (fun b4 => [b4]) (fun _ => T0) (fun _ => by kernel_rfl) (fun b4 => trivial) ?_)
    intro b4
    refine A.tn ?_
    refine A.seq ?_
    refine A.seq ?_
    refine A.region (A.goP [.p, .p, .p, .ld 0, .p] [(0, (p_ be)), (1, (i_ ci)), (2, (u_ a)), (3, (u_ b)), (8, (i_ 0)), (13, (b_ false)), (9, (p_ b4)), (25, (.map (some mb))), (26, (i_ ci))] [be] T0 (by kernel_rfl) trivial ?_)
    refine A.cons (A.q (some 27) (.tuple #[(.agg #[(u_ (((mget kv ci).getD (default : It)).ka)), (i_ (((mget kv ci).getD (default : It)).ki)), (u_ (((mget kv ci).getD (default : It)).va)), (i_ (((mget kv ci).getD (default : It)).vi))]), (b_ ((mget kv ci).isSome))]) (by kernel_rfl) (qt_lookupOk (kt := 3) (et := 68) (enck := (fun k : Int => i_ k)) (encv := (fun y : It => (.agg #[u_ y.ka, i_ y.ki, u_ y.va, i_ y.vi]))) (b := mb) (kv := kv) (k := ci) (d0 := (default : It)) (fun ww ss => ss.mem (i := 3) rfl) rfl rfl rfl (by kernel_rfl) keyOk_I (by kernel_rfl) rfl) ?_)
    refine A.goA1 [.p, .p, .p, .al, .st 5, .p] [0, 1, 2, 3, 8, 13, 9, 10, 11] (fun b5 => [(0, (p_ be)), (1, (i_ ci)), (2, (u_ a)), (3, (u_ b)), (8, (i_ 0)), (13, (b_ false)), (9, (p_ b4)), (10, (p_ b5)), (11, (b_ ((mget kv ci).isSome)))]) (fun b5 => [blk be [(p_ bt), (.map (some mb))] 82, blk bt [(.pointer (T.ptr t))] 86, treeI 92 t, mapI (fun k : Int => i_ k) (fun y : It => (.agg #[u_ y.ka, i_ y.ki, u_ y.va, i_ y.vi])) mb kv, blk b4 [(u_ a), (i_ ci), (u_ b), (i_ ci)] 68, blk b5 [(u_ (((mget kv ci).getD (default : It)).ka)), (i_ (((mget kv ci).getD (default : It)).ki)), (u_ (((mget kv ci).getD (default : It)).va)), (i_ (((mget kv ci).getD (default : It)).vi))] 68]) (fun b5 => [b5]) (fun _ => T0) (fun _ => by kernel_rfl) (fun b5 => trivial) ?_
    intro b5
    refine A.tn ?_
    refine A.seq ?_
    refine A.region (A.goA [.p] [(0, (p_ be)), (1, (i_ ci)), (2, (u_ a)), (3, (u_ b)), (8, (i_ 0)), (13, (b_ false)), (9, (p_ b4)), (10, (p_ b5)), (11, (b_ ((mget kv ci).isSome))), (30, (b_ ((mget kv ci).isSome)))] [] T0 (by kernel_rfl) trivial ?_)
    refine A.tn ?_
    refine A.cond (E := (mget kv ci).isSome) rfl (fun e3 => ?_) (fun e3 => ?_)
    · skip
      have p3 := e3; try simp only [decide_eq_true_eq, decide_eq_false_iff_not, beq_iff_eq, beq_eq_false_iff_ne, bne_iff_ne, bne_eq_false_iff_eq, ne_eq, Bool.and_eq_true, Bool.or_eq_true, Bool.or_eq_false_iff, Bool.not_eq_true', Bool.not_eq_false', Int.not_lt, Int.not_le, gt_iff_lt, ge_iff_le, Classical.not_not] at p3
      refine A.draw2 [6] 7 (by kernel_rfl) ?_
      refine A.drawP 1 [.p, .p, .p, .ld 0, .p, .ld 5] [0, 1, 2, 3, 4, 5] [(0, (p_ be)), (1, (i_ ci)), (2, (u_ a)), (3, (u_ b)), (8, (i_ 0)), (13, (b_ false)), (9, (p_ b4)), (10, (p_ b5)), (11, (b_ ((mget kv ci).isSome))), (30, (b_ ((mget kv ci).isSome))), (34, (p_ bt)), (36, (.agg #[(u_ (((mget kv ci).getD (default : It)).ka)), (i_ (((mget kv ci).getD (default : It)).ki))]))] [be, b5] T0 (by kernel_rfl) trivial ?_
      refine A.only2 6 rfl (by kernel_rfl) (A.callT (some 37) [(p_ bt), (.agg #[(u_ (((mget kv ci).getD (default : It)).ka)), (i_ (((mget kv ci).getD (default : It)).ki))])] [1, 1] ((fun zt6 => (i_ 0))) ((fun zt6 => WF zt6 ∧ T.toL zt6 = delL (((mget kv ci).getD (default : It)).ka) (((mget kv ci).getD (default : It)).ki) t.toL)) ((fun zt6 => [blk bt [(.pointer (T.ptr zt6))] 86, treeI 92 zt6])) (fun zt6 => [blk bt [(.pointer (T.ptr zt6))] 86, treeI 92 zt6, blk be [(p_ bt), (.map (some mb))] 82, mapI (fun k : Int => i_ k) (fun y : It => (.agg #[u_ y.ka, i_ y.ki, u_ y.va, i_ y.vi])) mb kv, blk b4 [(u_ a), (i_ ci), (u_ b), (i_ ci)] 68, blk b5 [(u_ (((mget kv ci).getD (default : It)).ka)), (i_ (((mget kv ci).getD (default : It)).ki)), (u_ (((mget kv ci).getD (default : It)).va)), (i_ (((mget kv ci).getD (default : It)).vi))] 68]) (by kernel_rfl) rfl rfl (fun ww ss hh => delete_ok bt t (((mget kv ci).getD (default : It)).ka) (((mget kv ci).getD (default : It)).ki) (by first | assumption | omega | exact findT_ne (by assumption) (by assumption) | exact findT_eq (by assumption)) (by first | assumption | omega | exact erel_mem hE (by assumption) | exact erel_new hE (by assumption) | exact erel_new hE2 (mget_del_same hE.nd _)) (by first | assumption | omega | exact findT_ne (by assumption) (by assumption) | exact findT_eq (by assumption)) ww hh) (fun _ => rfl) ?_)
      rintro zt6 hz4
      obtain ⟨hz4W, hz4L⟩ := id hz4
      refine A.stage ?_
      refine A.fin2 (by kernel_rfl) ?_
      refine A.sub [(0, (p_ be)), (1, (i_ ci)), (2, (u_ a)), (3, (u_ b)), (8, (i_ 0)), (13, (b_ false)), (9, (p_ b4)), (10, (p_ b5)), (11, (b_ ((mget kv ci).isSome))), (30, (b_ ((mget kv ci).isSome)))] (by exact ⟨rfl, rfl, rfl, rfl, rfl, rfl, rfl, rfl, rfl, rfl, trivial⟩) ?_
      refine A.tn ?_
      refine A.seq ?_
      have hE2 := erel_del hE hd (by assumption); have hE2l := hE2.len; have hE2W := hE2.wf
      refine A.draw2 [6] 7 (by kernel_rfl) ?_
      refine A.drawP 1 [.p, .p, .p, .ld 2, .p, .ld 4] [0, 1, 2, 3, 4, 5] [(0, (p_ be)), (1, (i_ ci)), (2, (u_ a)), (3, (u_ b)), (8, (i_ 0)), (13, (b_ false)), (9, (p_ b4)), (10, (p_ b5)), (11, (b_ ((mget kv ci).isSome))), (30, (b_ ((mget kv ci).isSome))), (41, (.map (some mb))), (42, (i_ ci)), (43, (.agg #[(u_ a), (i_ ci), (u_ b), (i_ ci)]))] [be, b4] T0 (by kernel_rfl) trivial ?_
      refine A.only2 6 rfl (by kernel_rfl) (A.mapPut (kt := 3) (et := 68) (enck := (fun k : Int => i_ k)) (encv := (fun y : It => (.agg #[u_ y.ka, i_ y.ki, u_ y.va, i_ y.vi]))) (kv := kv) (k := ci) 3 (⟨a, ci, b, ci⟩ : It) [blk bt [(.pointer (T.ptr zt6))] 86, treeI 92 zt6, blk be [(p_ bt), (.map (some mb))] 82, mapI (fun k : Int => i_ k) (fun y : It => (.agg #[u_ y.ka, i_ y.ki, u_ y.va, i_ y.vi])) mb (mput kv ci (⟨a, ci, b, ci⟩ : It)), blk b4 [(u_ a), (i_ ci), (u_ b), (i_ ci)] 68, blk b5 [(u_ (((mget kv ci).getD (default : It)).ka)), (i_ (((mget kv ci).getD (default : It)).ki)), (u_ (((mget kv ci).getD (default : It)).va)), (i_ (((mget kv ci).getD (default : It)).vi))] 68] (by kernel_rfl) rfl rfl rfl rfl (by kernel_rfl) keyOk_I rfl rfl ?_)
      refine A.stage ?_
      refine A.fin2 (by kernel_rfl) ?_
      refine A.sub [(0, (p_ be)), (1, (i_ ci)), (2, (u_ a)), (3, (u_ b)), (8, (i_ 0)), (13, (b_ false)), (9, (p_ b4)), (10, (p_ b5)), (11, (b_ ((mget kv ci).isSome))), (30, (b_ ((mget kv ci).isSome)))] (by exact ⟨rfl, rfl, rfl, rfl, rfl, rfl, rfl, rfl, rfl, rfl, trivial⟩) ?_
      refine A.tn ?_
      refine A.seq ?_
      refine A.draw2 [8] 10 (by kernel_rfl) ?_
      refine A.drawP 2 [.p, .p, .p, .ld 2, .p, .ld 4, .p, .ld 4] [0, 1, 2, 3, 4, 5, 6, 7] [(0, (p_ be)), (1, (i_ ci)), (2, (u_ a)), (3, (u_ b)), (8, (i_ 0)), (13, (b_ false)), (9, (p_ b4)), (10, (p_ b5)), (11, (b_ ((mget kv ci).isSome))), (30, (b_ ((mget kv ci).isSome))), (47, (p_ bt)), (49, (.agg #[(u_ a), (i_ ci)])), (51, (.agg #[(u_ b), (i_ ci)]))] [be, b4, b4] T0 (by kernel_rfl) trivial ?_
      refine A.only2 8 rfl (by kernel_rfl) (A.callT (some 52) [(p_ bt), (.agg #[(u_ a), (i_ ci)]), (.agg #[(u_ b), (i_ ci)])] [0, 0] ((fun zt7 => (i_ 0))) ((fun zt7 => WF zt7 ∧ T.toL zt7 = insL (⟨a, ci, b, ci⟩ : It) zt6.toL)) ((fun zt7 => [blk bt [(.pointer (T.ptr zt7))] 86, treeI 92 zt7])) (fun zt7 => [blk bt [(.pointer (T.ptr zt7))] 86, treeI 92 zt7, blk be [(p_ bt), (.map (some mb))] 82, mapI (fun k : Int => i_ k) (fun y : It => (.agg #[u_ y.ka, i_ y.ki, u_ y.va, i_ y.vi])) mb (mput kv ci (⟨a, ci, b, ci⟩ : It)), blk b4 [(u_ a), (i_ ci), (u_ b), (i_ ci)] 68, blk b5 [(u_ (((mget kv ci).getD (default : It)).ka)), (i_ (((mget kv ci).getD (default : It)).ki)), (u_ (((mget kv ci).getD (default : It)).va)), (i_ (((mget kv ci).getD (default : It)).vi))] 68]) (by kernel_rfl) rfl rfl (fun ww ss hh => insert_new bt zt6 a ci b ci (by first | assumption | omega | exact findT_ne (by assumption) (by assumption) | exact findT_eq (by assumption)) (by first | assumption | omega | exact erel_mem hE (by assumption) | exact erel_new hE (by assumption) | exact erel_new hE2 (mget_del_same hE.nd _)) (by first | assumption | omega | exact findT_ne (by assumption) (by assumption) | exact findT_eq (by assumption)) ww hh) (fun _ => rfl) ?_)
      rintro zt7 hz5
      obtain ⟨hz5W, hz5L⟩ := id hz5
      refine A.stage ?_
      refine A.drawP 0 [.p] [9] [(0, (p_ be)), (1, (i_ ci)), (2, (u_ a)), (3, (u_ b)), (8, (i_ 0)), (13, (b_ false)), (9, (p_ b4)), (10, (p_ b5)), (11, (b_ ((mget kv ci).isSome))), (30, (b_ ((mget kv ci).isSome)))] [] T0 (by kernel_rfl) trivial ?_
      refine A.fin2 (by kernel_rfl) ?_
      refine A.tn ?_
      refine A.ret ?_
      rw [show mput kv ci (⟨a, ci, b, ci⟩ : It) = (mput kv ci ⟨a, ci, b, ci⟩) from by first | rfl | omega | (simp; done) | grind]
      refine A.postK [2, 0, 0, 0] [(i_ 0)] (fun aa ww rr ss => ⟨rv_tmp rr rfl, trivial⟩) (zt7) ?_ ?_ (by kernel_rfl)
      · rfl
      · show ERel zt7 (mput kv ci ⟨a, ci, b, ci⟩)
        first | (exact erel_ins hE (by simp_all) ⟨by assumption, by assumption⟩) | exact erel_put hE.nd hd hE2 ⟨by assumption, by assumption⟩
    · exact absurd e3 (by (obtain ⟨y, hy⟩ := mget_some hd; simp [hy]))

set_option maxHeartbeats 4000000 in
set_option maxRecDepth 100000 in
theorem vt_pick_nil (n : Int) (w : World) :
    Calls Try.prog 27 #[n_, (u_ n)] w fun e w' => e = .returned (.tuple #[(i_ 0), (b_ false)]) ∧ Fr [] w w' := by
  refine calls_of (args := [n_, (u_ n)]) (penv [n_, (u_ n)]) [] [] Try.func27 rfl rfl (look_penv _) (HS.nil w) ?_
  refine A.norm [(0, n_), (1, (u_ n))] [] (by exact ⟨rfl, rfl, trivial⟩) rfl ?_
  refine A.seq ?_
  refine A.region (A.goA [.p, .p] [(0, n_), (1, (u_ n)), (4, (i_ 0)), (5, (b_ false))] [] T0 (by kernel_rfl) trivial ?_)
  refine A.tn ?_
  refine A.seq ?_
  refine A.seq ?_
  refine A.region (A.goA [.p, .p] [(0, n_), (1, (u_ n)), (4, (i_ 0)), (5, (b_ false)), (9, (b_ true))] [] T0 (by kernel_rfl) trivial ?_)
  refine A.tn ?_
  refine A.cond_t rfl ?_
  refine A.seq ?_
  refine A.region (A.goA [.p, .p] [(0, n_), (1, (u_ n)), (4, (i_ 0)), (5, (b_ false)), (9, (b_ true))] [] T0 (by kernel_rfl) trivial ?_)
  refine A.tn ?_
  refine A.ret ?_
  refine A.tr ?_
  refine A.postQ [(i_ 0), (b_ false)] (fun aa ww rr ss => ⟨rv_tmp rr rfl, rv_tmp rr rfl, trivial⟩) ?_
  rfl

set_option maxHeartbeats 4000000 in
set_option maxRecDepth 100000 in
theorem vt_pick (be bt mb : Nat) (t : T) (kv : List (Int × It)) (n : Int) (hE : ERel t kv) (w : World) (r0 : (blk be [(p_ bt), (.map (some mb))] 82).holds w) (r1 : (blk bt [(.pointer (T.ptr t))] 86).holds w) (r2 : (treeI 92 t).holds w) (r3 : (mapI (fun k : Int => i_ k) (fun y : It => (.agg #[u_ y.ka, i_ y.ki, u_ y.va, i_ y.vi])) mb kv).holds w) :
    Calls Try.prog 27 #[(p_ be), (u_ n)] w fun e w' => e = .returned (.tuple #[(i_ (((firstL (imin n 9223372036854775807) t.toL).getD default).ki)), (b_ ((firstL (imin n 9223372036854775807) t.toL).isSome))]) ∧ Fr [] w w' := by
  have hW := hE.wf; have hl_ := hE.len
  refine calls_of (args := [(p_ be), (u_ n)]) (penv [(p_ be), (u_ n)]) [] [] Try.func27 rfl rfl (look_penv _) (HS.nil w) ?_
  refine A.norm [(0, (p_ be)), (1, (u_ n))] [] (by exact ⟨rfl, rfl, trivial⟩) rfl ?_
  refine A.seq ?_
  refine A.region (A.goA [.p, .p] [(0, (p_ be)), (1, (u_ n)), (4, (i_ 0)), (5, (b_ false))] [] T0 (by kernel_rfl) trivial ?_)
  refine A.tn ?_
  refine A.seq ?_
  refine A.seq ?_
  refine A.region (A.goA [.p, .p] [(0, (p_ be)), (1, (u_ n)), (4, (i_ 0)), (5, (b_ false)), (9, (b_ false))] [] T0 (by kernel_rfl) trivial ?_)
  refine A.tn ?_
  refine A.cond_f rfl ?_
  refine A.skip ?_
  refine A.tn ?_
  refine A.seq ?_
  refine A.region (A.goA1 [.p, .p, .p, .rd [(p_ bt)], .p, .p, .cq (.tuple #[(.agg #[(u_ (((firstL (imin n 9223372036854775807) t.toL).getD default).ka)), (i_ (((firstL (imin n 9223372036854775807) t.toL).getD default).ki)), (u_ (((firstL (imin n 9223372036854775807) t.toL).getD default).va)), (i_ (((firstL (imin n 9223372036854775807) t.toL).getD default).vi))]), (b_ ((firstL (imin n 9223372036854775807) t.toL).isSome))]), .p, .p, .p, .al, .st 0, .p] [0, 1, 4, 5, 9, 6, 7] (fun b1 => [(0, (p_ be)), (1, (u_ n)), (4, (i_ 0)), (5, (b_ false)), (9, (b_ false)), (6, (p_ b1)), (7, (b_ ((firstL (imin n 9223372036854775807) t.toL).isSome)))]) (fun b1 => [blk b1 [(u_ (((firstL (imin n 9223372036854775807) t.toL).getD default).ka)), (i_ (((firstL (imin n 9223372036854775807) t.toL).getD default).ki)), (u_ (((firstL (imin n 9223372036854775807) t.toL).getD default).va)), (i_ (((firstL (imin n 9223372036854775807) t.toL).getD default).vi))] 68]) (fun b1 => [b1]) (fun _ => (fun κ => κ.rd ⟨be, 0, none⟩ [(p_ bt)] ∧ κ.call 46 [(p_ bt), (u_ (imin n 9223372036854775807))] (.tuple #[(.agg #[(u_ (((firstL (imin n 9223372036854775807) t.toL).getD default).ka)), (i_ (((firstL (imin n 9223372036854775807) t.toL).getD default).ki)), (u_ (((firstL (imin n 9223372036854775807) t.toL).getD default).va)), (i_ (((firstL (imin n 9223372036854775807) t.toL).getD default).vi))]), (b_ ((firstL (imin n 9223372036854775807) t.toL).isSome))]) ∧ True)) (fun _ => by kernel_rfl) (fun b1 => ⟨(reads_oldblk r0 rfl), (fun ww ss => first_spec bt t (imin n 9223372036854775807) (by first | assumption | omega | exact findT_ne (by assumption) (by assumption) | exact findT_eq (by assumption)) ww (old_item ss r1) (old_item ss r2)), trivial⟩) ?_)
  intro b1
  refine A.tn ?_
  refine A.seq ?_
  refine A.region (A.goA [.p, .p, .ld 0, .p, .p, .p] [(0, (p_ be)), (1, (u_ n)), (4, (i_ (((firstL (imin n 9223372036854775807) t.toL).getD default).ki))), (5, (b_ ((firstL (imin n 9223372036854775807) t.toL).isSome))), (9, (b_ false)), (6, (p_ b1)), (7, (b_ ((firstL (imin n 9223372036854775807) t.toL).isSome)))] [b1] T0 (by kernel_rfl) trivial ?_)
  refine A.tn ?_
  refine A.ret ?_
  refine A.postQ [(i_ (((firstL (imin n 9223372036854775807) t.toL).getD default).ki)), (b_ ((firstL (imin n 9223372036854775807) t.toL).isSome))] (fun aa ww rr ss => ⟨rv_tmp rr rfl, rv_tmp rr rfl, trivial⟩) ?_
  rfl

set_option maxHeartbeats 4000000 in
set_option maxRecDepth 100000 in
theorem vt_ids_nil (w : World) :
    Calls Try.prog 30 #[n_] w fun e w' => e = .returned e_ ∧ Fr [] w w' := by
  refine calls_of (args := [n_]) (penv [n_]) [] [] Try.func30 rfl rfl (look_penv _) (HS.nil w) ?_
  refine A.norm [(0, n_)] [] (by exact ⟨rfl, trivial⟩) rfl ?_
  refine A.seq ?_
  refine A.region (A.goA [.p] [(0, n_), (2, e_)] [] T0 (by kernel_rfl) trivial ?_)
  refine A.tn ?_
  refine A.seq ?_
  refine A.seq ?_
  refine A.region (A.goA [.p, .p] [(0, n_), (2, e_), (4, (b_ true))] [] T0 (by kernel_rfl) trivial ?_)
  refine A.tn ?_
  refine A.cond_t rfl ?_
  refine A.seq ?_
  refine A.region (A.goA [.p] [(0, n_), (2, e_), (4, (b_ true))] [] T0 (by kernel_rfl) trivial ?_)
  refine A.tn ?_
  refine A.ret ?_
  refine A.tr ?_
  refine A.postQ [e_] (fun aa ww rr ss => ⟨rv_tmp rr rfl, trivial⟩) ?_
  rfl

set_option maxHeartbeats 4000000 in
set_option maxRecDepth 100000 in
theorem el_next_nil (w : World) :
    Calls Try.prog 20 #[n_] w fun e w' => e = .returned (u_ 9223372036854775808) ∧ Fr [] w w' := by
  refine calls_of (args := [n_]) (penv [n_]) [] [] Try.func20 rfl rfl (look_penv _) (HS.nil w) ?_
  refine A.norm [(0, n_)] [] (by exact ⟨rfl, trivial⟩) rfl ?_
  refine A.seq ?_
  refine A.region (A.goA [.p] [(0, n_), (2, (u_ 0))] [] T0 (by kernel_rfl) trivial ?_)
  refine A.tn ?_
  refine A.seq ?_
  refine A.seq ?_
  refine A.region (A.goA [.p, .cq (i_ 0), .p] [(0, n_), (2, (u_ 0)), (7, (b_ true))] [] (fun κ => κ.call 21 [n_] (i_ 0) ∧ True) (by kernel_rfl) ⟨(fun ww ss => el_len_nil ww), trivial⟩ ?_)
  refine A.tn ?_
  refine A.cond_t rfl ?_
  refine A.seq ?_
  refine A.region (A.goA [.p] [(0, n_), (2, (u_ 9223372036854775808)), (7, (b_ true))] [] T0 (by kernel_rfl) trivial ?_)
  refine A.tn ?_
  refine A.ret ?_
  refine A.tr ?_
  refine A.postQ [(u_ 9223372036854775808)] (fun aa ww rr ss => ⟨rv_tmp rr rfl, trivial⟩) ?_
  rfl

set_option maxHeartbeats 4000000 in
set_option maxRecDepth 100000 in
theorem el_next (be bt mb : Nat) (t : T) (kv : List (Int × It)) (hE : ERel t kv) (w : World) (r0 : (blk be [(p_ bt), (.map (some mb))] 64).holds w) (r1 : (blk bt [(.pointer (T.ptr t))] 86).holds w) (r2 : (treeI 92 t).holds w) (r3 : (mapI (fun k : Int => i_ k) (fun y : It => (.agg #[u_ y.ka, i_ y.ki, u_ y.va, i_ y.vi])) mb kv).holds w) :
    Calls Try.prog 20 #[(p_ be)] w fun e w' => e = .returned (u_ (nextV t.toL)) ∧ Fr [] w w' := by
  have hW := hE.wf; have hl_ := hE.len
  have hem := erel_empty hE
  refine calls_of (args := [(p_ be)]) (penv [(p_ be)]) [] [] Try.func20 rfl rfl (look_penv _) (HS.nil w) ?_
  refine A.norm [(0, (p_ be))] [] (by exact ⟨rfl, trivial⟩) rfl ?_
  refine A.seq ?_
  refine A.region (A.goA [.p] [(0, (p_ be)), (2, (u_ 0))] [] T0 (by kernel_rfl) trivial ?_)
  refine A.tn ?_
  refine A.seq ?_
  refine A.seq ?_
  refine A.region (A.goA [.p, .cq (i_ (kv.length : Int)), .p] [(0, (p_ be)), (2, (u_ 0)), (7, (b_ ((kv.length : Int) == 0)))] [] (fun κ => κ.call 21 [(p_ be)] (i_ (kv.length : Int)) ∧ True) (by kernel_rfl) ⟨(fun ww ss => el_len be bt mb t kv ww (old_item ss r0) (old_item ss r1) (old_item ss r2) (old_item ss r3)), trivial⟩ ?_)
  refine A.tn ?_
  refine A.cond (E := (kv.length : Int) == 0) rfl (fun e1 => ?_) (fun e1 => ?_)
  · skip
    have p1 := e1; try simp only [decide_eq_true_eq, decide_eq_false_iff_not, beq_iff_eq, beq_eq_false_iff_ne, bne_iff_ne, bne_eq_false_iff_eq, ne_eq, Bool.and_eq_true, Bool.or_eq_true, Bool.or_eq_false_iff, Bool.not_eq_true', Bool.not_eq_false', Int.not_lt, Int.not_le, gt_iff_lt, ge_iff_le, Classical.not_not] at p1
    refine A.seq ?_
    refine A.region (A.goA [.p] [(0, (p_ be)), (2, (u_ 9223372036854775808)), (7, (b_ ((kv.length : Int) == 0)))] [] T0 (by kernel_rfl) trivial ?_)
    refine A.tn ?_
    refine A.ret ?_
    refine A.tr ?_
    refine A.postQ [(u_ 9223372036854775808)] (fun aa ww rr ss => ⟨rv_tmp rr rfl, trivial⟩) ?_
    show ((u_ 9223372036854775808) : Value) = (u_ (nextV t.toL))
    refine congrArg (Value.int .u64) ?_; (first | unfold nextV | unfold fitV); by_cases he : t.toL = [] <;> first | (rw [if_pos he]; rfl) | (rw [if_neg he]; rfl) | (exfalso; exact he (hem.1 (by assumption))) | (exfalso; have h_ := hem.2 he; omega) | (exfalso; simp_all; done)
  · skip
    have p1 := e1; try simp only [decide_eq_true_eq, decide_eq_false_iff_not, beq_iff_eq, beq_eq_false_iff_ne, bne_iff_ne, bne_eq_false_iff_eq, ne_eq, Bool.and_eq_true, Bool.or_eq_true, Bool.or_eq_false_iff, Bool.not_eq_true', Bool.not_eq_false', Int.not_lt, Int.not_le, gt_iff_lt, ge_iff_le, Classical.not_not] at p1
    refine A.skip ?_
    refine A.tn ?_
    refine A.seq ?_
    refine A.region (A.goA1 [.p, .p, .p, .rd [(p_ bt)], .cq (.tuple #[(.agg #[(u_ ((t.toL.head?.getD default).ka)), (i_ ((t.toL.head?.getD default).ki)), (u_ ((t.toL.head?.getD default).va)), (i_ ((t.toL.head?.getD default).vi))]), (b_ (t.toL.head?.isSome))]), .p, .p, .p, .al, .st 0, .p] [0, 2, 7, 3] (fun b1 => [(0, (p_ be)), (2, (u_ 0)), (7, (b_ ((kv.length : Int) == 0))), (3, (p_ b1))]) (fun b1 => [blk b1 [(u_ ((t.toL.head?.getD default).ka)), (i_ ((t.toL.head?.getD default).ki)), (u_ ((t.toL.head?.getD default).va)), (i_ ((t.toL.head?.getD default).vi))] 68]) (fun b1 => [b1]) (fun _ => (fun κ => κ.rd ⟨be, 0, none⟩ [(p_ bt)] ∧ κ.call 43 [(p_ bt)] (.tuple #[(.agg #[(u_ ((t.toL.head?.getD default).ka)), (i_ ((t.toL.head?.getD default).ki)), (u_ ((t.toL.head?.getD default).va)), (i_ ((t.toL.head?.getD default).vi))]), (b_ (t.toL.head?.isSome))]) ∧ True)) (fun _ => by kernel_rfl) (fun b1 => ⟨(reads_oldblk r0 rfl), (fun ww ss => least_spec bt t (by first | assumption | omega | exact findT_ne (by assumption) (by assumption) | exact findT_eq (by assumption)) ww (old_item ss r1) (old_item ss r2)), trivial⟩) ?_)
    intro b1
    refine A.tn ?_
    refine A.seq ?_
    refine A.region (A.goA [.p, .p, .ld 0, .p, .p] [(0, (p_ be)), (2, (u_ (imin ((t.toL.head?.getD default).ka) 9223372036854775808))), (7, (b_ ((kv.length : Int) == 0))), (3, (p_ b1))] [b1] T0 (by kernel_rfl) trivial ?_)
    refine A.tn ?_
    refine A.ret ?_
    refine A.postQ [(u_ (imin ((t.toL.head?.getD default).ka) 9223372036854775808))] (fun aa ww rr ss => ⟨rv_tmp rr rfl, trivial⟩) ?_
    show ((u_ (imin ((t.toL.head?.getD default).ka) 9223372036854775808)) : Value) = (u_ (nextV t.toL))
    refine congrArg (Value.int .u64) ?_; (first | unfold nextV | unfold fitV); by_cases he : t.toL = [] <;> first | (rw [if_pos he]; rfl) | (rw [if_neg he]; rfl) | (exfalso; exact he (hem.1 (by assumption))) | (exfalso; have h_ := hem.2 he; omega) | (exfalso; simp_all; done)

set_option maxHeartbeats 4000000 in
set_option maxRecDepth 100000 in
theorem vt_fit_nil (w : World) :
    Calls Try.prog 29 #[n_] w fun e w' => e = .returned (u_ 9223372036854775808) ∧ Fr [] w w' := by
  refine calls_of (args := [n_]) (penv [n_]) [] [] Try.func29 rfl rfl (look_penv _) (HS.nil w) ?_
  refine A.norm [(0, n_)] [] (by exact ⟨rfl, trivial⟩) rfl ?_
  refine A.seq ?_
  refine A.region (A.goA [.p] [(0, n_), (2, (u_ 0))] [] T0 (by kernel_rfl) trivial ?_)
  refine A.tn ?_
  refine A.seq ?_
  refine A.seq ?_
  refine A.region (A.goA [.p, .cq (i_ 0), .p] [(0, n_), (2, (u_ 0)), (7, (b_ true))] [] (fun κ => κ.call 32 [n_] (i_ 0) ∧ True) (by kernel_rfl) ⟨(fun ww ss => vt_len_nil ww), trivial⟩ ?_)
  refine A.tn ?_
  refine A.cond_t rfl ?_
  refine A.seq ?_
  refine A.region (A.goA [.p] [(0, n_), (2, (u_ 9223372036854775808)), (7, (b_ true))] [] T0 (by kernel_rfl) trivial ?_)
  refine A.tn ?_
  refine A.ret ?_
  refine A.tr ?_
  refine A.postQ [(u_ 9223372036854775808)] (fun aa ww rr ss => ⟨rv_tmp rr rfl, trivial⟩) ?_
  rfl

set_option maxHeartbeats 4000000 in
set_option maxRecDepth 100000 in
theorem vt_fit (be bt mb : Nat) (t : T) (kv : List (Int × It)) (hE : ERel t kv) (w : World) (r0 : (blk be [(p_ bt), (.map (some mb))] 82).holds w) (r1 : (blk bt [(.pointer (T.ptr t))] 86).holds w) (r2 : (treeI 92 t).holds w) (r3 : (mapI (fun k : Int => i_ k) (fun y : It => (.agg #[u_ y.ka, i_ y.ki, u_ y.va, i_ y.vi])) mb kv).holds w) :
    Calls Try.prog 29 #[(p_ be)] w fun e w' => e = .returned (u_ (fitV t.toL)) ∧ Fr [] w w' := by
  have hW := hE.wf; have hl_ := hE.len
  have hem := erel_empty hE
  refine calls_of (args := [(p_ be)]) (penv [(p_ be)]) [] [] Try.func29 rfl rfl (look_penv _) (HS.nil w) ?_
  refine A.norm [(0, (p_ be))] [] (by exact ⟨rfl, trivial⟩) rfl ?_
  refine A.seq ?_
  refine A.region (A.goA [.p] [(0, (p_ be)), (2, (u_ 0))] [] T0 (by kernel_rfl) trivial ?_)
  refine A.tn ?_
  refine A.seq ?_
  refine A.seq ?_
  refine A.region (A.goA [.p, .cq (i_ (kv.length : Int)), .p] [(0, (p_ be)), (2, (u_ 0)), (7, (b_ ((kv.length : Int) == 0)))] [] (fun κ => κ.call 32 [(p_ be)] (i_ (kv.length : Int)) ∧ True) (by kernel_rfl) ⟨(fun ww ss => vt_len be bt mb t kv ww (old_item ss r0) (old_item ss r1) (old_item ss r2) (old_item ss r3)), trivial⟩ ?_)
  refine A.tn ?_
  refine A.cond (E := (kv.length : Int) == 0) rfl (fun e1 => ?_) (fun e1 => ?_)
  · skip
    have p1 := e1; try simp only [decide_eq_true_eq, decide_eq_false_iff_not, beq_iff_eq, beq_eq_false_iff_ne, bne_iff_ne, bne_eq_false_iff_eq, ne_eq, Bool.and_eq_true, Bool.or_eq_true, Bool.or_eq_false_iff, Bool.not_eq_true', Bool.not_eq_false', Int.not_lt, Int.not_le, gt_iff_lt, ge_iff_le, Classical.not_not] at p1
    refine A.seq ?_
    refine A.region (A.goA [.p] [(0, (p_ be)), (2, (u_ 9223372036854775808)), (7, (b_ ((kv.length : Int) == 0)))] [] T0 (by kernel_rfl) trivial ?_)
    refine A.tn ?_
    refine A.ret ?_
    refine A.tr ?_
    refine A.postQ [(u_ 9223372036854775808)] (fun aa ww rr ss => ⟨rv_tmp rr rfl, trivial⟩) ?_
    show ((u_ 9223372036854775808) : Value) = (u_ (fitV t.toL))
    refine congrArg (Value.int .u64) ?_; (first | unfold nextV | unfold fitV); by_cases he : t.toL = [] <;> first | (rw [if_pos he]; rfl) | (rw [if_neg he]; rfl) | (exfalso; exact he (hem.1 (by assumption))) | (exfalso; have h_ := hem.2 he; omega) | (exfalso; simp_all; done)
  · skip
    have p1 := e1; try simp only [decide_eq_true_eq, decide_eq_false_iff_not, beq_iff_eq, beq_eq_false_iff_ne, bne_iff_ne, bne_eq_false_iff_eq, ne_eq, Bool.and_eq_true, Bool.or_eq_true, Bool.or_eq_false_iff, Bool.not_eq_true', Bool.not_eq_false', Int.not_lt, Int.not_le, gt_iff_lt, ge_iff_le, Classical.not_not] at p1
    refine A.skip ?_
    refine A.tn ?_
    refine A.seq ?_
    refine A.region (A.goA1 [.p, .p, .p, .rd [(p_ bt)], .cq (.tuple #[(.agg #[(u_ (((belowL 18446744073709551615 t.toL).getD default).ka)), (i_ (((belowL 18446744073709551615 t.toL).getD default).ki)), (u_ (((belowL 18446744073709551615 t.toL).getD default).va)), (i_ (((belowL 18446744073709551615 t.toL).getD default).vi))]), (b_ ((belowL 18446744073709551615 t.toL).isSome))]), .p, .p, .p, .al, .st 0, .p] [0, 2, 7, 3] (fun b1 => [(0, (p_ be)), (2, (u_ 0)), (7, (b_ ((kv.length : Int) == 0))), (3, (p_ b1))]) (fun b1 => [blk b1 [(u_ (((belowL 18446744073709551615 t.toL).getD default).ka)), (i_ (((belowL 18446744073709551615 t.toL).getD default).ki)), (u_ (((belowL 18446744073709551615 t.toL).getD default).va)), (i_ (((belowL 18446744073709551615 t.toL).getD default).vi))] 68]) (fun b1 => [b1]) (fun _ => (fun κ => κ.rd ⟨be, 0, none⟩ [(p_ bt)] ∧ κ.call 40 [(p_ bt), (u_ 18446744073709551615)] (.tuple #[(.agg #[(u_ (((belowL 18446744073709551615 t.toL).getD default).ka)), (i_ (((belowL 18446744073709551615 t.toL).getD default).ki)), (u_ (((belowL 18446744073709551615 t.toL).getD default).va)), (i_ (((belowL 18446744073709551615 t.toL).getD default).vi))]), (b_ ((belowL 18446744073709551615 t.toL).isSome))]) ∧ True)) (fun _ => by kernel_rfl) (fun b1 => ⟨(reads_oldblk r0 rfl), (fun ww ss => below_spec bt t 18446744073709551615 (by first | assumption | omega | exact findT_ne (by assumption) (by assumption) | exact findT_eq (by assumption)) ww (old_item ss r1) (old_item ss r2)), trivial⟩) ?_)
    intro b1
    refine A.tn ?_
    refine A.seq ?_
    refine A.region (A.goA [.p, .p, .ld 0, .p, .p] [(0, (p_ be)), (2, (u_ (imin (((belowL 18446744073709551615 t.toL).getD default).va) 9223372036854775808))), (7, (b_ ((kv.length : Int) == 0))), (3, (p_ b1))] [b1] T0 (by kernel_rfl) trivial ?_)
    refine A.tn ?_
    refine A.ret ?_
    refine A.postQ [(u_ (imin (((belowL 18446744073709551615 t.toL).getD default).va) 9223372036854775808))] (fun aa ww rr ss => ⟨rv_tmp rr rfl, trivial⟩) ?_
    show ((u_ (imin (((belowL 18446744073709551615 t.toL).getD default).va) 9223372036854775808)) : Value) = (u_ (fitV t.toL))
    refine congrArg (Value.int .u64) ?_; (first | unfold nextV | unfold fitV); by_cases he : t.toL = [] <;> first | (rw [if_pos he]; rfl) | (rw [if_neg he]; rfl) | (exfalso; exact he (hem.1 (by assumption))) | (exfalso; have h_ := hem.2 he; omega) | (exfalso; simp_all; done)

set_option maxHeartbeats 4000000 in
set_option maxRecDepth 100000 in
theorem vt_low_nil (w : World) :
    Calls Try.prog 31 #[n_] w fun e w' => e = .returned (.tuple #[(u_ 0), (b_ false)]) ∧ Fr [] w w' := by
  refine calls_of (args := [n_]) (penv [n_]) [] [] Try.func31 rfl rfl (look_penv _) (HS.nil w) ?_
  refine A.norm [(0, n_)] [] (by exact ⟨rfl, trivial⟩) rfl ?_
  refine A.seq ?_
  refine A.region (A.goA [.p, .p] [(0, n_), (2, (u_ 0)), (3, (b_ false))] [] T0 (by kernel_rfl) trivial ?_)
  refine A.tn ?_
  refine A.seq ?_
  refine A.seq ?_
  refine A.region (A.goA [.p, .p] [(0, n_), (2, (u_ 0)), (3, (b_ false)), (7, (b_ true))] [] T0 (by kernel_rfl) trivial ?_)
  refine A.tn ?_
  refine A.cond_t rfl ?_
  refine A.seq ?_
  refine A.region (A.goA [.p, .p] [(0, n_), (2, (u_ 0)), (3, (b_ false)), (7, (b_ true))] [] T0 (by kernel_rfl) trivial ?_)
  refine A.tn ?_
  refine A.ret ?_
  refine A.tr ?_
  refine A.postQ [(u_ 0), (b_ false)] (fun aa ww rr ss => ⟨rv_tmp rr rfl, rv_tmp rr rfl, trivial⟩) ?_
  rfl

set_option maxHeartbeats 4000000 in
set_option maxRecDepth 100000 in
theorem vt_low (be bt mb : Nat) (t : T) (kv : List (Int × It)) (hE : ERel t kv) (w : World) (r0 : (blk be [(p_ bt), (.map (some mb))] 82).holds w) (r1 : (blk bt [(.pointer (T.ptr t))] 86).holds w) (r2 : (treeI 92 t).holds w) (r3 : (mapI (fun k : Int => i_ k) (fun y : It => (.agg #[u_ y.ka, i_ y.ki, u_ y.va, i_ y.vi])) mb kv).holds w) :
    Calls Try.prog 31 #[(p_ be)] w fun e w' => e = .returned (.tuple #[(u_ ((t.toL.head?.getD default).ka)), (b_ (t.toL.head?.isSome))]) ∧ Fr [] w w' := by
  have hW := hE.wf; have hl_ := hE.len
  have hem := erel_empty hE
  refine calls_of (args := [(p_ be)]) (penv [(p_ be)]) [] [] Try.func31 rfl rfl (look_penv _) (HS.nil w) ?_
  refine A.norm [(0, (p_ be))] [] (by exact ⟨rfl, trivial⟩) rfl ?_
  refine A.seq ?_
  refine A.region (A.goA [.p, .p] [(0, (p_ be)), (2, (u_ 0)), (3, (b_ false))] [] T0 (by kernel_rfl) trivial ?_)
  refine A.tn ?_
  refine A.seq ?_
  refine A.seq ?_
  refine A.region (A.goA [.p, .p] [(0, (p_ be)), (2, (u_ 0)), (3, (b_ false)), (7, (b_ false))] [] T0 (by kernel_rfl) trivial ?_)
  refine A.tn ?_
  refine A.cond_f rfl ?_
  refine A.skip ?_
  refine A.tn ?_
  refine A.seq ?_
  refine A.region (A.goA1 [.p, .p, .p, .rd [(p_ bt)], .cq (.tuple #[(.agg #[(u_ ((t.toL.head?.getD default).ka)), (i_ ((t.toL.head?.getD default).ki)), (u_ ((t.toL.head?.getD default).va)), (i_ ((t.toL.head?.getD default).vi))]), (b_ (t.toL.head?.isSome))]), .p, .p, .p, .al, .st 0, .p] [0, 2, 3, 7, 4, 5] (fun b1 => [(0, (p_ be)), (2, (u_ 0)), (3, (b_ false)), (7, (b_ false)), (4, (p_ b1)), (5, (b_ (t.toL.head?.isSome)))]) (fun b1 => [blk b1 [(u_ ((t.toL.head?.getD default).ka)), (i_ ((t.toL.head?.getD default).ki)), (u_ ((t.toL.head?.getD default).va)), (i_ ((t.toL.head?.getD default).vi))] 68]) (fun b1 => [b1]) (fun _ => (fun κ => κ.rd ⟨be, 0, none⟩ [(p_ bt)] ∧ κ.call 43 [(p_ bt)] (.tuple #[(.agg #[(u_ ((t.toL.head?.getD default).ka)), (i_ ((t.toL.head?.getD default).ki)), (u_ ((t.toL.head?.getD default).va)), (i_ ((t.toL.head?.getD default).vi))]), (b_ (t.toL.head?.isSome))]) ∧ True)) (fun _ => by kernel_rfl) (fun b1 => ⟨(reads_oldblk r0 rfl), (fun ww ss => least_spec bt t (by first | assumption | omega | exact findT_ne (by assumption) (by assumption) | exact findT_eq (by assumption)) ww (old_item ss r1) (old_item ss r2)), trivial⟩) ?_)
  intro b1
  refine A.tn ?_
  refine A.seq ?_
  refine A.region (A.goA [.p, .p, .ld 0, .p, .p, .p] [(0, (p_ be)), (2, (u_ ((t.toL.head?.getD default).ka))), (3, (b_ (t.toL.head?.isSome))), (7, (b_ false)), (4, (p_ b1)), (5, (b_ (t.toL.head?.isSome)))] [b1] T0 (by kernel_rfl) trivial ?_)
  refine A.tn ?_
  refine A.ret ?_
  refine A.postQ [(u_ ((t.toL.head?.getD default).ka)), (b_ (t.toL.head?.isSome))] (fun aa ww rr ss => ⟨rv_tmp rr rfl, rv_tmp rr rfl, trivial⟩) ?_
  rfl
end Go.Proofs.Ytdhcglflmkjneaa
