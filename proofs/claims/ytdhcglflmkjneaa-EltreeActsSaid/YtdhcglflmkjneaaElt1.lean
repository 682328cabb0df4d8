/- What the functions of this layer do, proved operation by operation, for all arguments, under the conditions that each theorem states. -/
import Derived.Test.YtdhcglflmkjneaaProg
import Derived.Test.YtdhcglflmkjneaaAvlN
import Derived.Test.YtdhcglflmkjneaaEltP
namespace Go.Proofs.Ytdhcglflmkjneaa
open Go V
set_option linter.unusedVariables false
set_option linter.unusedSimpArgs false
def encI (x : Int) : List Value := [(i_ x)]
theorem encI_len (x : Int) : (encI x).length = 1 := rfl
theorem encI_one (x : Int) : (encI x).all Value.oneCell' = true := rfl
theorem keyOk_I : KeyOk Try.prog 3 (fun k : Int => i_ k) := keyOk_int (by kernel_rfl)

set_option maxHeartbeats 4000000 in
set_option maxRecDepth 100000 in
theorem el_new (w : World) (hs : HS w (feet []) [] w) :
    Calls Try.prog 10 #[] w fun e w' => ∃ zz, e = .returned ((fun (zz : Nat × Nat × Nat) => match zz with | (be, bt, mb) => (p_ be)) zz) ∧ (fun (zz : Nat × Nat × Nat) => match zz with | (be, bt, mb) => True) zz ∧ Turn [] ((fun (zz : Nat × Nat × Nat) => match zz with | (be, bt, mb) => [blk be [(p_ bt), (.map (some mb))] 64, blk bt [(.pointer (T.ptr T.nil))] 86, treeI 92 T.nil, mapI (fun k : Int => i_ k) (fun y : It => (.agg #[u_ y.ka, i_ y.ki, u_ y.va, i_ y.vi])) mb ([] : List (Int × It))]) zz) w w' := by
  refine calls_of (args := []) (penv []) (feet []) [] Try.func10 rfl rfl (look_penv _) hs ?_
  refine A.norm [] [] trivial rfl ?_
  refine A.seq ?_
  refine A.region (A.goA [.p] [(0, n_)] [] T0 (by kernel_rfl) trivial ?_)
  refine A.tn ?_
  refine A.seq ?_
  refine A.region ?_
  refine A.cons (A.callT (some 1) [] [] ((fun bt1 => (p_ bt1))) ((fun bt1 => True)) ((fun bt1 => [blk bt1 [(.pointer (T.ptr T.nil))] 86, treeI 92 T.nil])) (fun bt1 => [blk bt1 [(.pointer (T.ptr T.nil))] 86, treeI 92 T.nil]) (by kernel_rfl) rfl rfl (fun ww ss hh => new_spec ww hh) (fun _ => rfl) ?_)
  rintro bt1 -
  refine A.cons (A.makeMap (fun k : Int => i_ k) (fun y : It => (.agg #[u_ y.ka, i_ y.ki, u_ y.va, i_ y.vi])) 2 (by kernel_rfl) rfl (fun m2 => [blk bt1 [(.pointer (T.ptr T.nil))] 86, treeI 92 T.nil, mapI (fun k : Int => i_ k) (fun y : It => (.agg #[u_ y.ka, i_ y.ki, u_ y.va, i_ y.vi])) m2 ([] : List (Int × It))]) (fun _ => rfl) ?_)
  intro m2
  refine A.goA1 [.p, .al, .p] [0] (fun b3 => [(0, (p_ b3))]) (fun b3 => [blk bt1 [(.pointer (T.ptr T.nil))] 86, treeI 92 T.nil, mapI (fun k : Int => i_ k) (fun y : It => (.agg #[u_ y.ka, i_ y.ki, u_ y.va, i_ y.vi])) m2 ([] : List (Int × It)), blk b3 [(p_ bt1), (.map (some m2))] 64]) (fun b3 => []) (fun _ => T0) (fun _ => by kernel_rfl) (fun b3 => trivial) ?_
  intro b3
  refine A.tn ?_
  refine A.ret ?_
  refine A.postK [3, 0, 0, 0] [(p_ b3)] (fun aa ww rr ss => ⟨rv_tmp rr rfl, trivial⟩) (b3, bt1, m2) ?_ ?_ (by kernel_rfl)
  · rfl
  · trivial

set_option maxHeartbeats 4000000 in
set_option maxRecDepth 100000 in
theorem el_drop_nil (ci : Int) (w : World) :
    Calls Try.prog 12 #[n_, (i_ ci)] w fun e w' => e = .returned (i_ 7) ∧ Fr [] w w' := by
  refine calls_of (args := [n_, (i_ ci)]) (penv [n_, (i_ ci)]) [] [] Try.func12 rfl rfl (look_penv _) (HS.nil w) ?_
  refine A.norm [(0, n_), (1, (i_ ci))] [] (by exact ⟨rfl, rfl, trivial⟩) rfl ?_
  refine A.seq ?_
  refine A.region (A.goA [.p] [(0, n_), (1, (i_ ci)), (4, (i_ 0))] [] T0 (by kernel_rfl) trivial ?_)
  refine A.tn ?_
  refine A.seq ?_
  refine A.seq ?_
  refine A.region (A.goA [.p, .p] [(0, n_), (1, (i_ ci)), (4, (i_ 0)), (8, (b_ true))] [] T0 (by kernel_rfl) trivial ?_)
  refine A.tn ?_
  refine A.cond_t rfl ?_
  refine A.seq ?_
  refine A.region (A.goA [.p] [(0, n_), (1, (i_ ci)), (4, (i_ 7)), (8, (b_ true))] [] T0 (by kernel_rfl) trivial ?_)
  refine A.tn ?_
  refine A.ret ?_
  refine A.tr ?_
  refine A.postQ [(i_ 7)] (fun aa ww rr ss => ⟨rv_tmp rr rfl, trivial⟩) ?_
  rfl

set_option maxHeartbeats 4000000 in
set_option maxRecDepth 100000 in
theorem el_drop_none (be bt mb : Nat) (t : T) (kv : List (Int × It)) (ci : Int) (hd : mget kv ci = none) (w : World) (r0 : (blk be [(p_ bt), (.map (some mb))] 64).holds w) (r1 : (blk bt [(.pointer (T.ptr t))] 86).holds w) (r2 : (treeI 92 t).holds w) (r3 : (mapI (fun k : Int => i_ k) (fun y : It => (.agg #[u_ y.ka, i_ y.ki, u_ y.va, i_ y.vi])) mb kv).holds w) :
    Calls Try.prog 12 #[(p_ be), (i_ ci)] w fun e w' => e = .returned (i_ 6) ∧ Fr [] w w' := by
  refine calls_of (args := [(p_ be), (i_ ci)]) (penv [(p_ be), (i_ ci)]) [] [] Try.func12 rfl rfl (look_penv _) (HS.nil w) ?_
  refine A.norm [(0, (p_ be)), (1, (i_ ci))] [] (by exact ⟨rfl, rfl, trivial⟩) rfl ?_
  refine A.seq ?_
  refine A.region (A.goA [.p] [(0, (p_ be)), (1, (i_ ci)), (4, (i_ 0))] [] T0 (by kernel_rfl) trivial ?_)
  refine A.tn ?_
  refine A.seq ?_
  refine A.seq ?_
  refine A.region (A.goA [.p, .p] [(0, (p_ be)), (1, (i_ ci)), (4, (i_ 0)), (8, (b_ false))] [] T0 (by kernel_rfl) trivial ?_)
  refine A.tn ?_
  refine A.cond_f rfl ?_
  refine A.skip ?_
  refine A.tn ?_
  refine A.seq ?_
  refine A.region (A.goP [.p, .p, .p, .rd [(.map (some mb))], .p] [(0, (p_ be)), (1, (i_ ci)), (4, (i_ 0)), (8, (b_ false)), (13, (.map (some mb))), (14, (i_ ci))] [] (fun κ => κ.rd ⟨be, 1, none⟩ [(.map (some mb))] ∧ True) (by kernel_rfl) ⟨(reads_oldblk r0 rfl), trivial⟩ ?_)
  refine A.cons (A.q (some 15) (.tuple #[(.agg #[(u_ (((mget kv ci).getD (default : It)).ka)), (i_ (((mget kv ci).getD (default : It)).ki)), (u_ (((mget kv ci).getD (default : It)).va)), (i_ (((mget kv ci).getD (default : It)).vi))]), (b_ ((mget kv ci).isSome))]) (by kernel_rfl) (qt_lookupOk (kt := 3) (et := 68) (enck := (fun k : Int => i_ k)) (encv := (fun y : It => (.agg #[u_ y.ka, i_ y.ki, u_ y.va, i_ y.vi]))) (b := mb) (kv := kv) (k := ci) (d0 := (default : It)) (fun ww ss => old_item ss r3) rfl rfl rfl (by kernel_rfl) keyOk_I (by kernel_rfl) rfl) ?_)
  refine A.goA1 [.p, .p, .p, .al, .st 0, .p] [0, 1, 4, 8, 5, 6] (fun b1 => [(0, (p_ be)), (1, (i_ ci)), (4, (i_ 0)), (8, (b_ false)), (5, (p_ b1)), (6, (b_ ((mget kv ci).isSome)))]) (fun b1 => [blk b1 [(u_ (((mget kv ci).getD (default : It)).ka)), (i_ (((mget kv ci).getD (default : It)).ki)), (u_ (((mget kv ci).getD (default : It)).va)), (i_ (((mget kv ci).getD (default : It)).vi))] 68]) (fun b1 => [b1]) (fun _ => T0) (fun _ => by kernel_rfl) (fun b1 => trivial) ?_
  intro b1
  refine A.tn ?_
  refine A.seq ?_
  refine A.seq ?_
  refine A.region (A.goA [.p, .p] [(0, (p_ be)), (1, (i_ ci)), (4, (i_ 0)), (8, (b_ false)), (5, (p_ b1)), (6, (b_ ((mget kv ci).isSome))), (19, (b_ (!((mget kv ci).isSome))))] [] T0 (by kernel_rfl) trivial ?_)
  refine A.tn ?_
  refine A.cond (E := !((mget kv ci).isSome)) rfl (fun e1 => ?_) (fun e1 => ?_)
  · skip
    have p1 := e1; try simp only [decide_eq_true_eq, decide_eq_false_iff_not, beq_iff_eq, beq_eq_false_iff_ne, bne_iff_ne, bne_eq_false_iff_eq, ne_eq, Bool.and_eq_true, Bool.or_eq_true, Bool.or_eq_false_iff, Bool.not_eq_true', Bool.not_eq_false', Int.not_lt, Int.not_le, gt_iff_lt, ge_iff_le, Classical.not_not] at p1
    refine A.seq ?_
    refine A.region (A.goA [.p] [(0, (p_ be)), (1, (i_ ci)), (4, (i_ 6)), (8, (b_ false)), (5, (p_ b1)), (6, (b_ ((mget kv ci).isSome))), (19, (b_ (!((mget kv ci).isSome))))] [] T0 (by kernel_rfl) trivial ?_)
    refine A.tn ?_
    refine A.ret ?_
    refine A.tr ?_
    refine A.postQ [(i_ 6)] (fun aa ww rr ss => ⟨rv_tmp rr rfl, trivial⟩) ?_
    rfl
  · exact absurd e1 (by simp [hd])

set_option maxHeartbeats 4000000 in
set_option maxRecDepth 100000 in
theorem el_drop_ok (be bt mb : Nat) (t : T) (kv : List (Int × It)) (ci : Int) (hE : ERel t kv) (hd : mget kv ci ≠ none) (hC : kv.length ≤ 700) (w : World) (hs : HS w (feet [blk be [(p_ bt), (.map (some mb))] 64, blk bt [(.pointer (T.ptr t))] 86, treeI 92 t, mapI (fun k : Int => i_ k) (fun y : It => (.agg #[u_ y.ka, i_ y.ki, u_ y.va, i_ y.vi])) mb kv]) [blk be [(p_ bt), (.map (some mb))] 64, blk bt [(.pointer (T.ptr t))] 86, treeI 92 t, mapI (fun k : Int => i_ k) (fun y : It => (.agg #[u_ y.ka, i_ y.ki, u_ y.va, i_ y.vi])) mb kv] w) :
    Calls Try.prog 12 #[(p_ be), (i_ ci)] w fun e w' => ∃ zz, e = .returned ((fun (zt : T) => (i_ 0)) zz) ∧ (fun (zt : T) => ERel zt (mdel kv ci)) zz ∧ Turn [blk be [(p_ bt), (.map (some mb))] 64, blk bt [(.pointer (T.ptr t))] 86, treeI 92 t, mapI (fun k : Int => i_ k) (fun y : It => (.agg #[u_ y.ka, i_ y.ki, u_ y.va, i_ y.vi])) mb kv] ((fun (zt : T) => [blk be [(p_ bt), (.map (some mb))] 64, blk bt [(.pointer (T.ptr zt))] 86, treeI 92 zt, mapI (fun k : Int => i_ k) (fun y : It => (.agg #[u_ y.ka, i_ y.ki, u_ y.va, i_ y.vi])) mb (mdel kv ci)]) zz) w w' := by
  have hW := hE.wf; have hl_ := hE.len
  refine calls_of (args := [(p_ be), (i_ ci)]) (penv [(p_ be), (i_ ci)]) (feet [blk be [(p_ bt), (.map (some mb))] 64, blk bt [(.pointer (T.ptr t))] 86, treeI 92 t, mapI (fun k : Int => i_ k) (fun y : It => (.agg #[u_ y.ka, i_ y.ki, u_ y.va, i_ y.vi])) mb kv]) [blk be [(p_ bt), (.map (some mb))] 64, blk bt [(.pointer (T.ptr t))] 86, treeI 92 t, mapI (fun k : Int => i_ k) (fun y : It => (.agg #[u_ y.ka, i_ y.ki, u_ y.va, i_ y.vi])) mb kv] Try.func12 rfl rfl (look_penv _) hs ?_
  refine A.norm [(0, (p_ be)), (1, (i_ ci))] [blk be [(p_ bt), (.map (some mb))] 64, blk bt [(.pointer (T.ptr t))] 86, treeI 92 t, mapI (fun k : Int => i_ k) (fun y : It => (.agg #[u_ y.ka, i_ y.ki, u_ y.va, i_ y.vi])) mb kv] (by exact ⟨rfl, rfl, trivial⟩) rfl ?_
  refine A.seq ?_
  refine A.region (A.goA [.p] [(0, (p_ be)), (1, (i_ ci)), (4, (i_ 0))] [] T0 (by kernel_rfl) trivial ?_)
  refine A.tn ?_
  refine A.seq ?_
  refine A.seq ?_
  refine A.region (A.goA [.p, .p] [(0, (p_ be)), (1, (i_ ci)), (4, (i_ 0)), (8, (b_ false))] [] T0 (by kernel_rfl) trivial ?_)
  refine A.tn ?_
  refine A.cond_f rfl ?_
  refine A.skip ?_
  refine A.tn ?_
  refine A.seq ?_
  refine A.region (A.goP [.p, .p, .p, .ld 0, .p] [(0, (p_ be)), (1, (i_ ci)), (4, (i_ 0)), (8, (b_ false)), (13, (.map (some mb))), (14, (i_ ci))] [be] T0 (by kernel_rfl) trivial ?_)
  refine A.cons (A.q (some 15) (.tuple #[(.agg #[(u_ (((mget kv ci).getD (default : It)).ka)), (i_ (((mget kv ci).getD (default : It)).ki)), (u_ (((mget kv ci).getD (default : It)).va)), (i_ (((mget kv ci).getD (default : It)).vi))]), (b_ ((mget kv ci).isSome))]) (by kernel_rfl) (qt_lookupOk (kt := 3) (et := 68) (enck := (fun k : Int => i_ k)) (encv := (fun y : It => (.agg #[u_ y.ka, i_ y.ki, u_ y.va, i_ y.vi]))) (b := mb) (kv := kv) (k := ci) (d0 := (default : It)) (fun ww ss => ss.mem (i := 3) rfl) rfl rfl rfl (by kernel_rfl) keyOk_I (by kernel_rfl) rfl) ?_)
  refine A.goA1 [.p, .p, .p, .al, .st 4, .p] [0, 1, 4, 8, 5, 6] (fun b1 => [(0, (p_ be)), (1, (i_ ci)), (4, (i_ 0)), (8, (b_ false)), (5, (p_ b1)), (6, (b_ ((mget kv ci).isSome)))]) (fun b1 => [blk be [(p_ bt), (.map (some mb))] 64, blk bt [(.pointer (T.ptr t))] 86, treeI 92 t, mapI (fun k : Int => i_ k) (fun y : It => (.agg #[u_ y.ka, i_ y.ki, u_ y.va, i_ y.vi])) mb kv, blk b1 [(u_ (((mget kv ci).getD (default : It)).ka)), (i_ (((mget kv ci).getD (default : It)).ki)), (u_ (((mget kv ci).getD (default : It)).va)), (i_ (((mget kv ci).getD (default : It)).vi))] 68]) (fun b1 => [b1]) (fun _ => T0) (fun _ => by kernel_rfl) (fun b1 => trivial) ?_
  intro b1
  refine A.tn ?_
  refine A.seq ?_
  refine A.seq ?_
  refine A.region (A.goA [.p, .p] [(0, (p_ be)), (1, (i_ ci)), (4, (i_ 0)), (8, (b_ false)), (5, (p_ b1)), (6, (b_ ((mget kv ci).isSome))), (19, (b_ (!((mget kv ci).isSome))))] [] T0 (by kernel_rfl) trivial ?_)
  refine A.tn ?_
  refine A.cond (E := !((mget kv ci).isSome)) rfl (fun e1 => ?_) (fun e1 => ?_)
  · exact absurd e1 (by (obtain ⟨y, hy⟩ := mget_some hd; simp [hy]))
  · skip
    have p1 := e1; try simp only [decide_eq_true_eq, decide_eq_false_iff_not, beq_iff_eq, beq_eq_false_iff_ne, bne_iff_ne, bne_eq_false_iff_eq, ne_eq, Bool.and_eq_true, Bool.or_eq_true, Bool.or_eq_false_iff, Bool.not_eq_true', Bool.not_eq_false', Int.not_lt, Int.not_le, gt_iff_lt, ge_iff_le, Classical.not_not] at p1
    refine A.skip ?_
    refine A.tn ?_
    refine A.seq ?_
    refine A.region (A.goP [.p, .p, .p, .ld 0, .p] [(0, (p_ be)), (1, (i_ ci)), (4, (i_ 0)), (8, (b_ false)), (5, (p_ b1)), (6, (b_ ((mget kv ci).isSome))), (19, (b_ (!((mget kv ci).isSome)))), (23, (.map (some mb))), (24, (i_ ci))] [be] T0 (by kernel_rfl) trivial ?_)
    refine A.cons (A.mapDel (kt := 3) (et := 68) (enck := (fun k : Int => i_ k)) (encv := (fun y : It => (.agg #[u_ y.ka, i_ y.ki, u_ y.va, i_ y.vi]))) (kv := kv) (k := ci) 3 [blk be [(p_ bt), (.map (some mb))] 64, blk bt [(.pointer (T.ptr t))] 86, treeI 92 t, mapI (fun k : Int => i_ k) (fun y : It => (.agg #[u_ y.ka, i_ y.ki, u_ y.va, i_ y.vi])) mb (mdel kv ci), blk b1 [(u_ (((mget kv ci).getD (default : It)).ka)), (i_ (((mget kv ci).getD (default : It)).ki)), (u_ (((mget kv ci).getD (default : It)).va)), (i_ (((mget kv ci).getD (default : It)).vi))] 68] (by kernel_rfl) rfl rfl rfl (by kernel_rfl) keyOk_I rfl rfl ?_)
    refine A.done ?_
    refine A.sub [(0, (p_ be)), (1, (i_ ci)), (4, (i_ 0)), (8, (b_ false)), (5, (p_ b1)), (6, (b_ ((mget kv ci).isSome))), (19, (b_ (!((mget kv ci).isSome))))] (by exact ⟨rfl, rfl, rfl, rfl, rfl, rfl, rfl, trivial⟩) ?_
    refine A.tn ?_
    refine A.seq ?_
    refine A.draw2 [6] 8 (by kernel_rfl) ?_
    refine A.drawP 2 [.p, .p, .p, .ld 0, .p, .ld 4] [0, 1, 2, 3, 4, 5] [(0, (p_ be)), (1, (i_ ci)), (4, (i_ 0)), (8, (b_ false)), (5, (p_ b1)), (6, (b_ ((mget kv ci).isSome))), (19, (b_ (!((mget kv ci).isSome)))), (28, (p_ bt)), (30, (.agg #[(u_ (((mget kv ci).getD (default : It)).ka)), (i_ (((mget kv ci).getD (default : It)).ki))]))] [be, b1] T0 (by kernel_rfl) trivial ?_
    refine A.only2 6 rfl (by kernel_rfl) (A.callT (some 31) [(p_ bt), (.agg #[(u_ (((mget kv ci).getD (default : It)).ka)), (i_ (((mget kv ci).getD (default : It)).ki))])] [1, 1] ((fun zt2 => (i_ 0))) ((fun zt2 => WF zt2 ∧ T.toL zt2 = delL (((mget kv ci).getD (default : It)).ka) (((mget kv ci).getD (default : It)).ki) t.toL)) ((fun zt2 => [blk bt [(.pointer (T.ptr zt2))] 86, treeI 92 zt2])) (fun zt2 => [blk bt [(.pointer (T.ptr zt2))] 86, treeI 92 zt2, blk be [(p_ bt), (.map (some mb))] 64, mapI (fun k : Int => i_ k) (fun y : It => (.agg #[u_ y.ka, i_ y.ki, u_ y.va, i_ y.vi])) mb (mdel kv ci), blk b1 [(u_ (((mget kv ci).getD (default : It)).ka)), (i_ (((mget kv ci).getD (default : It)).ki)), (u_ (((mget kv ci).getD (default : It)).va)), (i_ (((mget kv ci).getD (default : It)).vi))] 68]) (by kernel_rfl) rfl rfl (fun ww ss hh => delete_ok bt t (((mget kv ci).getD (default : It)).ka) (((mget kv ci).getD (default : It)).ki) (by first | assumption | omega | exact findT_ne (by assumption) (by assumption) | exact findT_eq (by assumption)) (by first | assumption | omega | exact erel_mem hE (by assumption) | exact erel_new hE (by assumption) | exact hE.wf | (have hl_ := hE.len; omega)) (by first | assumption | omega | exact findT_ne (by assumption) (by assumption) | exact findT_eq (by assumption)) ww hh) (fun _ => rfl) ?_)
    rintro zt2 hz2
    obtain ⟨hz2W, hz2L⟩ := id hz2
    refine A.stage ?_
    refine A.drawP 0 [.p] [7] [(0, (p_ be)), (1, (i_ ci)), (4, (i_ 0)), (8, (b_ false)), (5, (p_ b1)), (6, (b_ ((mget kv ci).isSome))), (19, (b_ (!((mget kv ci).isSome))))] [] T0 (by kernel_rfl) trivial ?_
    refine A.fin2 (by kernel_rfl) ?_
    refine A.tn ?_
    refine A.ret ?_
    refine A.postK [2, 0, 0, 0] [(i_ 0)] (fun aa ww rr ss => ⟨rv_tmp rr rfl, trivial⟩) (zt2) ?_ ?_ (by kernel_rfl)
    · rfl
    · show ERel zt2 (mdel kv ci)
      exact erel_del hE hd ⟨by assumption, by assumption⟩

set_option maxHeartbeats 4000000 in
set_option maxRecDepth 100000 in
theorem vt_new (w : World) (hs : HS w (feet []) [] w) :
    Calls Try.prog 23 #[] w fun e w' => ∃ zz, e = .returned ((fun (zz : Nat × Nat × Nat) => match zz with | (be, bt, mb) => (p_ be)) zz) ∧ (fun (zz : Nat × Nat × Nat) => match zz with | (be, bt, mb) => True) zz ∧ Turn [] ((fun (zz : Nat × Nat × Nat) => match zz with | (be, bt, mb) => [blk be [(p_ bt), (.map (some mb))] 82, blk bt [(.pointer (T.ptr T.nil))] 86, treeI 92 T.nil, mapI (fun k : Int => i_ k) (fun y : It => (.agg #[u_ y.ka, i_ y.ki, u_ y.va, i_ y.vi])) mb ([] : List (Int × It))]) zz) w w' := by
  refine calls_of (args := []) (penv []) (feet []) [] Try.func23 rfl rfl (look_penv _) hs ?_
  refine A.norm [] [] trivial rfl ?_
  refine A.seq ?_
  refine A.region (A.goA [.p] [(0, n_)] [] T0 (by kernel_rfl) trivial ?_)
  refine A.tn ?_
  refine A.seq ?_
  refine A.region ?_
  refine A.cons (A.callT (some 1) [] [] ((fun bt1 => (p_ bt1))) ((fun bt1 => True)) ((fun bt1 => [blk bt1 [(.pointer (T.ptr T.nil))] 86, treeI 92 T.nil])) (fun bt1 => [blk bt1 [(.pointer (T.ptr T.nil))] 86, treeI 92 T.nil]) (by kernel_rfl) rfl rfl (fun ww ss hh => new_spec ww hh) (fun _ => rfl) ?_)
  rintro bt1 -
  refine A.cons (A.makeMap (fun k : Int => i_ k) (fun y : It => (.agg #[u_ y.ka, i_ y.ki, u_ y.va, i_ y.vi])) 2 (by kernel_rfl) rfl (fun m2 => [blk bt1 [(.pointer (T.ptr T.nil))] 86, treeI 92 T.nil, mapI (fun k : Int => i_ k) (fun y : It => (.agg #[u_ y.ka, i_ y.ki, u_ y.va, i_ y.vi])) m2 ([] : List (Int × It))]) (fun _ => rfl) ?_)
  intro m2
  refine A.goA1 [.p, .al, .p] [0] (fun b3 => [(0, (p_ b3))]) (fun b3 => [blk bt1 [(.pointer (T.ptr T.nil))] 86, treeI 92 T.nil, mapI (fun k : Int => i_ k) (fun y : It => (.agg #[u_ y.ka, i_ y.ki, u_ y.va, i_ y.vi])) m2 ([] : List (Int × It)), blk b3 [(p_ bt1), (.map (some m2))] 82]) (fun b3 => []) (fun _ => T0) (fun _ => by kernel_rfl) (fun b3 => trivial) ?_
  intro b3
  refine A.tn ?_
  refine A.ret ?_
  refine A.postK [3, 0, 0, 0] [(p_ b3)] (fun aa ww rr ss => ⟨rv_tmp rr rfl, trivial⟩) (b3, bt1, m2) ?_ ?_ (by kernel_rfl)
  · rfl
  · trivial

set_option maxHeartbeats 4000000 in
set_option maxRecDepth 100000 in
theorem vt_drop_nil (ci : Int) (w : World) :
    Calls Try.prog 24 #[n_, (i_ ci)] w fun e w' => e = .returned (i_ 7) ∧ Fr [] w w' := by
  refine calls_of (args := [n_, (i_ ci)]) (penv [n_, (i_ ci)]) [] [] Try.func24 rfl rfl (look_penv _) (HS.nil w) ?_
  refine A.norm [(0, n_), (1, (i_ ci))] [] (by exact ⟨rfl, rfl, trivial⟩) rfl ?_
  refine A.seq ?_
  refine A.region (A.goA [.p] [(0, n_), (1, (i_ ci)), (4, (i_ 0))] [] T0 (by kernel_rfl) trivial ?_)
  refine A.tn ?_
  refine A.seq ?_
  refine A.seq ?_
  refine A.region (A.goA [.p, .p] [(0, n_), (1, (i_ ci)), (4, (i_ 0)), (8, (b_ true))] [] T0 (by kernel_rfl) trivial ?_)
  refine A.tn ?_
  refine A.cond_t rfl ?_
  refine A.seq ?_
  refine A.region (A.goA [.p] [(0, n_), (1, (i_ ci)), (4, (i_ 7)), (8, (b_ true))] [] T0 (by kernel_rfl) trivial ?_)
  refine A.tn ?_
  refine A.ret ?_
  refine A.tr ?_
  refine A.postQ [(i_ 7)] (fun aa ww rr ss => ⟨rv_tmp rr rfl, trivial⟩) ?_
  rfl

set_option maxHeartbeats 4000000 in
set_option maxRecDepth 100000 in
theorem vt_drop_none (be bt mb : Nat) (t : T) (kv : List (Int × It)) (ci : Int) (hd : mget kv ci = none) (w : World) (r0 : (blk be [(p_ bt), (.map (some mb))] 82).holds w) (r1 : (blk bt [(.pointer (T.ptr t))] 86).holds w) (r2 : (treeI 92 t).holds w) (r3 : (mapI (fun k : Int => i_ k) (fun y : It => (.agg #[u_ y.ka, i_ y.ki, u_ y.va, i_ y.vi])) mb kv).holds w) :
    Calls Try.prog 24 #[(p_ be), (i_ ci)] w fun e w' => e = .returned (i_ 6) ∧ Fr [] w w' := by
  refine calls_of (args := [(p_ be), (i_ ci)]) (penv [(p_ be), (i_ ci)]) [] [] Try.func24 rfl rfl (look_penv _) (HS.nil w) ?_
  refine A.norm [(0, (p_ be)), (1, (i_ ci))] [] (by exact ⟨rfl, rfl, trivial⟩) rfl ?_
  refine A.seq ?_
  refine A.region (A.goA [.p] [(0, (p_ be)), (1, (i_ ci)), (4, (i_ 0))] [] T0 (by kernel_rfl) trivial ?_)
  refine A.tn ?_
  refine A.seq ?_
  refine A.seq ?_
  refine A.region (A.goA [.p, .p] [(0, (p_ be)), (1, (i_ ci)), (4, (i_ 0)), (8, (b_ false))] [] T0 (by kernel_rfl) trivial ?_)
  refine A.tn ?_
  refine A.cond_f rfl ?_
  refine A.skip ?_
  refine A.tn ?_
  refine A.seq ?_
  refine A.region (A.goP [.p, .p, .p, .rd [(.map (some mb))], .p] [(0, (p_ be)), (1, (i_ ci)), (4, (i_ 0)), (8, (b_ false)), (13, (.map (some mb))), (14, (i_ ci))] [] (fun κ => κ.rd ⟨be, 1, none⟩ [(.map (some mb))] ∧ True) (by kernel_rfl) ⟨(reads_oldblk r0 rfl), trivial⟩ ?_)
  refine A.cons (A.q (some 15) (.tuple #[(.agg #[(u_ (((mget kv ci).getD (default : It)).ka)), (i_ (((mget kv ci).getD (default : It)).ki)), (u_ (((mget kv ci).getD (default : It)).va)), (i_ (((mget kv ci).getD (default : It)).vi))]), (b_ ((mget kv ci).isSome))]) (by kernel_rfl) (qt_lookupOk (kt := 3) (et := 68) (enck := (fun k : Int => i_ k)) (encv := (fun y : It => (.agg #[u_ y.ka, i_ y.ki, u_ y.va, i_ y.vi]))) (b := mb) (kv := kv) (k := ci) (d0 := (default : It)) (fun ww ss => old_item ss r3) rfl rfl rfl (by kernel_rfl) keyOk_I (by kernel_rfl) rfl) ?_)
  refine A.goA1 [.p, .p, .p, .al, .st 0, .p] [0, 1, 4, 8, 5, 6] (fun b1 => [(0, (p_ be)), (1, (i_ ci)), (4, (i_ 0)), (8, (b_ false)), (5, (p_ b1)), (6, (b_ ((mget kv ci).isSome)))]) (fun b1 => [blk b1 [(u_ (((mget kv ci).getD (default : It)).ka)), (i_ (((mget kv ci).getD (default : It)).ki)), (u_ (((mget kv ci).getD (default : It)).va)), (i_ (((mget kv ci).getD (default : It)).vi))] 68]) (fun b1 => [b1]) (fun _ => T0) (fun _ => by kernel_rfl) (fun b1 => trivial) ?_
  intro b1
  refine A.tn ?_
  refine A.seq ?_
  refine A.seq ?_
  refine A.region (A.goA [.p, .p] [(0, (p_ be)), (1, (i_ ci)), (4, (i_ 0)), (8, (b_ false)), (5, (p_ b1)), (6, (b_ ((mget kv ci).isSome))), (19, (b_ (!((mget kv ci).isSome))))] [] T0 (by kernel_rfl) trivial ?_)
  refine A.tn ?_
  refine A.cond (E := !((mget kv ci).isSome)) rfl (fun e1 => ?_) (fun e1 => ?_)
  · skip
    have p1 := e1; try simp only [decide_eq_true_eq, decide_eq_false_iff_not, beq_iff_eq, beq_eq_false_iff_ne, bne_iff_ne, bne_eq_false_iff_eq, ne_eq, Bool.and_eq_true, Bool.or_eq_true, Bool.or_eq_false_iff, Bool.not_eq_true', Bool.not_eq_false', Int.not_lt, Int.not_le, gt_iff_lt, ge_iff_le, Classical.not_not] at p1
    refine A.seq ?_
    refine A.region (A.goA [.p] [(0, (p_ be)), (1, (i_ ci)), (4, (i_ 6)), (8, (b_ false)), (5, (p_ b1)), (6, (b_ ((mget kv ci).isSome))), (19, (b_ (!((mget kv ci).isSome))))] [] T0 (by kernel_rfl) trivial ?_)
    refine A.tn ?_
    refine A.ret ?_
    refine A.tr ?_
    refine A.postQ [(i_ 6)] (fun aa ww rr ss => ⟨rv_tmp rr rfl, trivial⟩) ?_
    rfl
  · exact absurd e1 (by simp [hd])

set_option maxHeartbeats 4000000 in
set_option maxRecDepth 100000 in
theorem vt_drop_ok (be bt mb : Nat) (t : T) (kv : List (Int × It)) (ci : Int) (hE : ERel t kv) (hd : mget kv ci ≠ none) (hC : kv.length ≤ 700) (w : World) (hs : HS w (feet [blk be [(p_ bt), (.map (some mb))] 82, blk bt [(.pointer (T.ptr t))] 86, treeI 92 t, mapI (fun k : Int => i_ k) (fun y : It => (.agg #[u_ y.ka, i_ y.ki, u_ y.va, i_ y.vi])) mb kv]) [blk be [(p_ bt), (.map (some mb))] 82, blk bt [(.pointer (T.ptr t))] 86, treeI 92 t, mapI (fun k : Int => i_ k) (fun y : It => (.agg #[u_ y.ka, i_ y.ki, u_ y.va, i_ y.vi])) mb kv] w) :
    Calls Try.prog 24 #[(p_ be), (i_ ci)] w fun e w' => ∃ zz, e = .returned ((fun (zt : T) => (i_ 0)) zz) ∧ (fun (zt : T) => ERel zt (mdel kv ci)) zz ∧ Turn [blk be [(p_ bt), (.map (some mb))] 82, blk bt [(.pointer (T.ptr t))] 86, treeI 92 t, mapI (fun k : Int => i_ k) (fun y : It => (.agg #[u_ y.ka, i_ y.ki, u_ y.va, i_ y.vi])) mb kv] ((fun (zt : T) => [blk be [(p_ bt), (.map (some mb))] 82, blk bt [(.pointer (T.ptr zt))] 86, treeI 92 zt, mapI (fun k : Int => i_ k) (fun y : It => (.agg #[u_ y.ka, i_ y.ki, u_ y.va, i_ y.vi])) mb (mdel kv ci)]) zz) w w' := by
  have hW := hE.wf; have hl_ := hE.len
  refine calls_of (args := [(p_ be), (i_ ci)]) (penv [(p_ be), (i_ ci)]) (feet [blk be [(p_ bt), (.map (some mb))] 82, blk bt [(.pointer (T.ptr t))] 86, treeI 92 t, mapI (fun k : Int => i_ k) (fun y : It => (.agg #[u_ y.ka, i_ y.ki, u_ y.va, i_ y.vi])) mb kv]) [blk be [(p_ bt), (.map (some mb))] 82, blk bt [(.pointer (T.ptr t))] 86, treeI 92 t, mapI (fun k : Int => i_ k) (fun y : It => (.agg #[u_ y.ka, i_ y.ki, u_ y.va, i_ y.vi])) mb kv] Try.func24 rfl rfl (look_penv _) hs ?_
  refine A.norm [(0, (p_ be)), (1, (i_ ci))] [blk be [(p_ bt), (.map (some mb))] 82, blk bt [(.pointer (T.ptr t))] 86, treeI 92 t, mapI (fun k : Int => i_ k) (fun y : It => (.agg #[u_ y.ka, i_ y.ki, u_ y.va, i_ y.vi])) mb kv] (by exact ⟨rfl, rfl, trivial⟩) rfl ?_
  refine A.seq ?_
  refine A.region (A.goA [.p] [(0, (p_ be)), (1, (i_ ci)), (4, (i_ 0))] [] T0 (by kernel_rfl) trivial ?_)
  refine A.tn ?_
  refine A.seq ?_
  refine A.seq ?_
  refine A.region (A.goA [.p, .p] [(0, (p_ be)), (1, (i_ ci)), (4, (i_ 0)), (8, (b_ false))] [] T0 (by kernel_rfl) trivial ?_)
  refine A.tn ?_
  refine A.cond_f rfl ?_
  refine A.skip ?_
  refine A.tn ?_
  refine A.seq ?_
  refine A.region (A.goP [.p, .p, .p, .ld 0, .p] [(0, (p_ be)), (1, (i_ ci)), (4, (i_ 0)), (8, (b_ false)), (13, (.map (some mb))), (14, (i_ ci))] [be] T0 (by kernel_rfl) trivial ?_)
  refine A.cons (A.q (some 15) (.tuple #[(.agg #[(u_ (((mget kv ci).getD (default : It)).ka)), (i_ (((mget kv ci).getD (default : It)).ki)), (u_ (((mget kv ci).getD (default : It)).va)), (i_ (((mget kv ci).getD (default : It)).vi))]), (b_ ((mget kv ci).isSome))]) (by kernel_rfl) (qt_lookupOk (kt := 3) (et := 68) (enck := (fun k : Int => i_ k)) (encv := (fun y : It => (.agg #[u_ y.ka, i_ y.ki, u_ y.va, i_ y.vi]))) (b := mb) (kv := kv) (k := ci) (d0 := (default : It)) (fun ww ss => ss.mem (i := 3) rfl) rfl rfl rfl (by kernel_rfl) keyOk_I (by kernel_rfl) rfl) ?_)
  refine A.goA1 [.p, .p, .p, .al, .st 4, .p] [0, 1, 4, 8, 5, 6] (fun b1 => [(0, (p_ be)), (1, (i_ ci)), (4, (i_ 0)), (8, (b_ false)), (5, (p_ b1)), (6, (b_ ((mget kv ci).isSome)))]) (fun b1 => [blk be [(p_ bt), (.map (some mb))] 82, blk bt [(.pointer (T.ptr t))] 86, treeI 92 t, mapI (fun k : Int => i_ k) (fun y : It => (.agg #[u_ y.ka, i_ y.ki, u_ y.va, i_ y.vi])) mb kv, blk b1 [(u_ (((mget kv ci).getD (default : It)).ka)), (i_ (((mget kv ci).getD (default : It)).ki)), (u_ (((mget kv ci).getD (default : It)).va)), (i_ (((mget kv ci).getD (default : It)).vi))] 68]) (fun b1 => [b1]) (fun _ => T0) (fun _ => by kernel_rfl) (fun b1 => trivial) ?_
  intro b1
  refine A.tn ?_
  refine A.seq ?_
  refine A.seq ?_
  refine A.region (A.goA [.p, .p] [(0, (p_ be)), (1, (i_ ci)), (4, (i_ 0)), (8, (b_ false)), (5, (p_ b1)), (6, (b_ ((mget kv ci).isSome))), (19, (b_ (!((mget kv ci).isSome))))] [] T0 (by kernel_rfl) trivial ?_)
  refine A.tn ?_
  refine A.cond (E := !((mget kv ci).isSome)) rfl (fun e1 => ?_) (fun e1 => ?_)
  · exact absurd e1 (by (obtain ⟨y, hy⟩ := mget_some hd; simp [hy]))
  · skip
    have p1 := e1; try simp only [decide_eq_true_eq, decide_eq_false_iff_not, beq_iff_eq, beq_eq_false_iff_ne, bne_iff_ne, bne_eq_false_iff_eq, ne_eq, Bool.and_eq_true, Bool.or_eq_true, Bool.or_eq_false_iff, Bool.not_eq_true', Bool.not_eq_false', Int.not_lt, Int.not_le, gt_iff_lt, ge_iff_le, Classical.not_not] at p1
    refine A.skip ?_
    refine A.tn ?_
    refine A.seq ?_
    refine A.region (A.goP [.p, .p, .p, .ld 0, .p] [(0, (p_ be)), (1, (i_ ci)), (4, (i_ 0)), (8, (b_ false)), (5, (p_ b1)), (6, (b_ ((mget kv ci).isSome))), (19, (b_ (!((mget kv ci).isSome)))), (23, (.map (some mb))), (24, (i_ ci))] [be] T0 (by kernel_rfl) trivial ?_)
    refine A.cons (A.mapDel (kt := 3) (et := 68) (enck := (fun k : Int => i_ k)) (encv := (fun y : It => (.agg #[u_ y.ka, i_ y.ki, u_ y.va, i_ y.vi]))) (kv := kv) (k := ci) 3 [blk be [(p_ bt), (.map (some mb))] 82, blk bt [(.pointer (T.ptr t))] 86, treeI 92 t, mapI (fun k : Int => i_ k) (fun y : It => (.agg #[u_ y.ka, i_ y.ki, u_ y.va, i_ y.vi])) mb (mdel kv ci), blk b1 [(u_ (((mget kv ci).getD (default : It)).ka)), (i_ (((mget kv ci).getD (default : It)).ki)), (u_ (((mget kv ci).getD (default : It)).va)), (i_ (((mget kv ci).getD (default : It)).vi))] 68] (by kernel_rfl) rfl rfl rfl (by kernel_rfl) keyOk_I rfl rfl ?_)
    refine A.done ?_
    refine A.sub [(0, (p_ be)), (1, (i_ ci)), (4, (i_ 0)), (8, (b_ false)), (5, (p_ b1)), (6, (b_ ((mget kv ci).isSome))), (19, (b_ (!((mget kv ci).isSome))))] (by exact ⟨rfl, rfl, rfl, rfl, rfl, rfl, rfl, trivial⟩) ?_
    refine A.tn ?_
    refine A.seq ?_
    refine A.draw2 [6] 8 (by kernel_rfl) ?_
    refine A.drawP 2 [.p, .p, .p, .ld 0, .p, .ld 4] [0, 1, 2, 3, 4, 5] [(0, (p_ be)), (1, (i_ ci)), (4, (i_ 0)), (8, (b_ false)), (5, (p_ b1)), (6, (b_ ((mget kv ci).isSome))), (19, (b_ (!((mget kv ci).isSome)))), (28, (p_ bt)), (30, (.agg #[(u_ (((mget kv ci).getD (default : It)).ka)), (i_ (((mget kv ci).getD (default : It)).ki))]))] [be, b1] T0 (by kernel_rfl) trivial ?_
    refine A.only2 6 rfl (by kernel_rfl) (A.callT (some 31) [(p_ bt), (.agg #[(u_ (((mget kv ci).getD (default : It)).ka)), (i_ (((mget kv ci).getD (default : It)).ki))])] [1, 1] ((fun zt2 => (i_ 0))) ((fun zt2 => WF zt2 ∧ T.toL zt2 = delL (((mget kv ci).getD (default : It)).ka) (((mget kv ci).getD (default : It)).ki) t.toL)) ((fun zt2 => [blk bt [(.pointer (T.ptr zt2))] 86, treeI 92 zt2])) (fun zt2 => [blk bt [(.pointer (T.ptr zt2))] 86, treeI 92 zt2, blk be [(p_ bt), (.map (some mb))] 82, mapI (fun k : Int => i_ k) (fun y : It => (.agg #[u_ y.ka, i_ y.ki, u_ y.va, i_ y.vi])) mb (mdel kv ci), blk b1 [(u_ (((mget kv ci).getD (default : It)).ka)), (i_ (((mget kv ci).getD (default : It)).ki)), (u_ (((mget kv ci).getD (default : It)).va)), (i_ (((mget kv ci).getD (default : It)).vi))] 68]) (by kernel_rfl) rfl rfl (fun ww ss hh => delete_ok bt t (((mget kv ci).getD (default : It)).ka) (((mget kv ci).getD (default : It)).ki) (by first | assumption | omega | exact findT_ne (by assumption) (by assumption) | exact findT_eq (by assumption)) (by first | assumption | omega | exact erel_mem hE (by assumption) | exact erel_new hE (by assumption) | exact hE.wf | (have hl_ := hE.len; omega)) (by first | assumption | omega | exact findT_ne (by assumption) (by assumption) | exact findT_eq (by assumption)) ww hh) (fun _ => rfl) ?_)
    rintro zt2 hz2
    obtain ⟨hz2W, hz2L⟩ := id hz2
    refine A.stage ?_
    refine A.drawP 0 [.p] [7] [(0, (p_ be)), (1, (i_ ci)), (4, (i_ 0)), (8, (b_ false)), (5, (p_ b1)), (6, (b_ ((mget kv ci).isSome))), (19, (b_ (!((mget kv ci).isSome))))] [] T0 (by kernel_rfl) trivial ?_
    refine A.fin2 (by kernel_rfl) ?_
    refine A.tn ?_
    refine A.ret ?_
    refine A.postK [2, 0, 0, 0] [(i_ 0)] (fun aa ww rr ss => ⟨rv_tmp rr rfl, trivial⟩) (zt2) ?_ ?_ (by kernel_rfl)
    · rfl
    · show ERel zt2 (mdel kv ci)
      exact erel_del hE hd ⟨by assumption, by assumption⟩
end Go.Proofs.Ytdhcglflmkjneaa
